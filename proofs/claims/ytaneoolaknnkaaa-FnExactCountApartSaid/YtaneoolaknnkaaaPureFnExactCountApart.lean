/- How many lists of ways are apart: both sides take the determinant of the same numbers of ways. No condition. -/
import Derived.Test.YtaneoolaknnkaaaOFnExactCountApartx8
namespace Go.Proofs.Ytaneoolaknnkaaa.Pure
open Go.RowKit Go.Proofs.Ytaneoolaknnkaaa.Stub Go.Proofs.Ytaneoolaknnkaaa.OFnExactCountApart Go.Proofs.YtaneoolaknnkaaaW.PrintWords Go.Proofs.YtaneoolaknnkaaaW.PrintLast
set_option linter.unusedVariables false
set_option linter.unusedSimpArgs false
theorem w64 {n : Int} (h0 : -9223372036854775808 ≤ n) (h1 : n ≤ 9223372036854775807) : wrap64 n = n := by unfold wrap64; omega
theorem wf_bd {n : Int} (h : (Lit.int .i64 n).wf = true) : -9223372036854775808 ≤ n ∧ n ≤ 9223372036854775807 := by
  unfold Lit.wf at h
  rw [Bool.and_eq_true] at h
  exact ⟨of_decide_eq_true h.1, of_decide_eq_true h.2⟩
theorem wN (n : Nat) (h : n ≤ 1000000000000) : wrap64 ((n : Int) + 1) = ((n + 1 : Nat) : Int) := by rw [w64 (by omega) (by omega)]; omega

theorem in_eq (a b c : Int) : impl_in.f a b c = some (decide (b ≤ a ∧ a ≤ c)) := by
  unfold impl_in.f
  by_cases h1 : b ≤ a <;> by_cases h2 : a ≤ c <;> simp [h1, h2]
theorem l1In_eq (a b c : Int) : spec_l1In.f a b c = some (decide (b ≤ a ∧ a ≤ c)) := by
  unfold spec_l1In.f
  by_cases h1 : b ≤ a <;> by_cases h2 : a ≤ c <;> simp [h1, h2]

/- How many ways there are to choose, by Pascal's rule; the product's rule; both programs come to it. -/
def C : Nat → Nat → Nat
  | _, 0 => 1
  | 0, _ + 1 => 0
  | n + 1, k + 1 => C n k + C n (k + 1)
theorem C_0 (n : Nat) : C n 0 = 1 := by cases n <;> rfl
theorem C_far : ∀ (n k : Nat), n < k → C n k = 0
  | 0, 0, h => by omega
  | 0, k + 1, _ => rfl
  | n + 1, 0, h => by omega
  | n + 1, k + 1, h => by simp only [C]; rw [C_far n k (by omega), C_far n (k + 1) (by omega)]
theorem C_mul : ∀ (n k : Nat), C n (k + 1) * (k + 1) = C n k * (n - k)
  | 0, k => by simp [C]
  | n + 1, 0 => by
    have := C_mul n 0
    simp only [C, C_0] at this ⊢
    omega
  | n + 1, k + 1 => by
    have h1 := C_mul n (k + 1)
    have h2 := C_mul n k
    simp only [C]
    by_cases h : k + 1 ≤ n
    · rw [Nat.add_mul, Nat.add_mul, h1, show n + 1 - (k + 1) = n - k by omega, ← h2, ← Nat.mul_add, ← Nat.mul_add]
      congr 1; omega
    · rw [C_far n (k + 1) (by omega), C_far n (k + 1 + 1) (by omega), show n + 1 - (k + 1) = 0 by omega]; simp
theorem C_self : ∀ n : Nat, C n n = 1
  | 0 => rfl
  | n + 1 => by simp only [C]; rw [C_self n, C_far n (n + 1) (by omega)]
theorem C_sym : ∀ (n a b : Nat), a + b = n → C n a = C n b
  | 0, a, b, h => by obtain rfl : a = 0 := by omega
                     obtain rfl : b = 0 := by omega
                     rfl
  | n + 1, 0, b, h => by obtain rfl : b = n + 1 := by omega
                         rw [C_0, C_self]
  | n + 1, a + 1, 0, h => by obtain rfl : a = n := by omega
                             rw [C_0, C_self]
  | n + 1, a + 1, b + 1, h => by
    simp only [C]
    rw [C_sym n a (b + 1) (by omega), C_sym n (a + 1) b (by omega), Nat.add_comm]
theorem C_le : ∀ (n k : Nat), C n k ≤ 2 ^ n
  | 0, 0 => by decide
  | 0, k + 1 => by simp [C]
  | n + 1, 0 => by rw [C_0]; exact Nat.one_le_two_pow
  | n + 1, k + 1 => by
    have h1 := C_le n k; have h2 := C_le n (k + 1)
    simp only [C]; rw [Nat.pow_succ]; omega
theorem C_pos (n k : Nat) (h : k ≤ n) : 0 < C n k := by
  induction n generalizing k with
  | zero => obtain rfl : k = 0 := by omega
            decide
  | succ n ih =>
    cases k with
    | zero => rw [C_0]; omega
    | succ k => simp only [C]; have := ih k (by omega); omega
theorem C_bd {n k : Nat} (h : n ≤ 40) : C n k ≤ 1099511627776 := by
  have h1 := C_le n k
  have h2 : 2 ^ n ≤ 2 ^ 40 := Nat.pow_le_pow_right (by omega) h
  have h3 : (2 : Nat) ^ 40 = 1099511627776 := by decide
  omega
theorem wadd1 (n : Nat) (h : n ≤ 1000000) : wrap64 ((n : Int) + 1) = ((n + 1 : Nat) : Int) := by rw [w64 (by omega) (by omega)]; omega
theorem wsub1 (n : Nat) (h1 : 1 ≤ n) (h : n ≤ 1000000) : wrap64 ((n : Int) - 1) = ((n - 1 : Nat) : Int) := by rw [w64 (by omega) (by omega)]; omega
theorem wsubn (n i : Nat) (h1 : i ≤ n) (h : n ≤ 1000000) : wrap64 ((n : Int) - (i : Int)) = ((n - i : Nat) : Int) := by rw [w64 (by omega) (by omega)]; omega
theorem wmuln (x y : Nat) (h : x * y ≤ 1000000000000000) : wrap64 ((x : Int) * (y : Int)) = ((x * y : Nat) : Int) := by rw [← Int.natCast_mul, w64 (by omega) (by omega)]
theorem waddn (x y : Nat) (h : x + y ≤ 1000000000000000) : wrap64 ((x : Int) + (y : Int)) = ((x + y : Nat) : Int) := by rw [w64 (by omega) (by omega)]; omega
theorem wdiv (x q d : Nat) (hd : 0 < d) (h : q * d = x) (hq : q ≤ 1000000000000000) : wrap64 (Int.tdiv (x : Int) (d : Int)) = (q : Int) := by
  rw [← h, Int.natCast_mul, Int.mul_tdiv_cancel _ (by omega)]
  exact w64 (by omega) (by omega)
theorem impl_choose_l0 {n K : Nat} (hn : n ≤ 40) (hK : K ≤ n) : ∀ (d i k : Nat), i + d = K → d < k → impl_choose.l0 k (n : Int) ((C n i : Nat) : Int) (K : Int) (i : Int) = some ((C n K : Nat) : Int) := by
  intro d
  induction d with
  | zero =>
    intro i k hd hk
    obtain ⟨k, rfl⟩ : ∃ m, k = m + 1 := ⟨k - 1, by omega⟩
    rw [impl_choose.l0.eq_2, if_neg (by omega), show i = K by omega]
  | succ d ih =>
    intro i k hd hk
    obtain ⟨k, rfl⟩ : ∃ m, k = m + 1 := ⟨k - 1, by omega⟩
    have hb := C_bd (n := n) (k := i) hn
    have hm := C_mul n i
    have hb1 : C n i * (n - i) ≤ 1099511627776 * 40 := Nat.mul_le_mul hb (by omega)
    have hb2 := C_bd (n := n) (k := i + 1) hn
    rw [impl_choose.l0.eq_2, if_pos (by omega), wadd1 i (by omega), if_neg (by omega), wsubn n i (by omega) (by omega), wmuln _ _ (by omega), wdiv _ _ _ (by omega) hm (by omega)]
    exact ih (i + 1) k (by omega) (by omega)
theorem impl_choose_run {n K : Nat} (hn : n ≤ 40) (hK : K ≤ n) {k : Nat} (hk : 50 ≤ k) : impl_choose.f k (n : Int) (K : Int) = some ((C n K : Nat) : Int) := by
  unfold impl_choose.f
  rw [in_eq, Option.bind_some, decide_eq_true (by omega), if_pos rfl]
  have := impl_choose_l0 hn hK K 0 k (by omega) (by omega)
  rw [C_0] at this
  exact this
/- the reference's row -/
def Rw (K i j : Nat) : List Int := (List.range (K + 1)).map fun t => if t ≤ j then ((C (i - 1) t : Nat) : Int) else ((C i t : Nat) : Int)
theorem Rw_len (K i j : Nat) : (Rw K i j).length = K + 1 := by simp [Rw]
theorem Rw_get {K i j t : Nat} (h : t ≤ K) : rd (Rw K i j) (t : Int) = if t ≤ j then ((C (i - 1) t : Nat) : Int) else ((C i t : Nat) : Int) := by
  unfold rd Rw
  rw [Int.toNat_natCast, List.getD_eq_getElem?_getD, List.getElem?_map, List.getElem?_range (by omega)]
  rfl
theorem Rw_step {K i j : Nat} (hj : j + 1 ≤ K) (hi : 1 ≤ i) : (Rw K i (j + 1)).set (j + 1) ((C i (j + 1) : Nat) : Int) = Rw K i j := by
  apply List.ext_getElem
  · simp [Rw]
  · intro t h1 h2
    simp only [Rw, List.length_map, List.length_range] at h2
    by_cases e : t = j + 1
    · subst e
      rw [List.getElem_set_self]
      simp only [Rw, List.getElem_map, List.getElem_range]
      rw [if_neg (by omega)]
    · rw [List.getElem_set_ne (by omega)]
      simp only [Rw, List.getElem_map, List.getElem_range]
      by_cases e2 : t ≤ j
      · rw [if_pos (by omega), if_pos e2]
      · rw [if_neg (by omega), if_neg e2]
theorem Rw_next (K i : Nat) : Rw K i 0 = Rw K (i + 1) (K + (i + 1)) := by
  apply List.ext_getElem
  · simp [Rw]
  · intro t h1 h2
    simp only [Rw, List.length_map, List.length_range] at h2
    simp only [Rw, List.getElem_map, List.getElem_range]
    rw [if_pos (show t ≤ K + (i + 1) by omega), show i + 1 - 1 = i from rfl]
    by_cases e : t ≤ 0
    · obtain rfl : t = 0 := by omega
      rw [if_pos e, C_0, C_0]
    · rw [if_neg e]
theorem Rw_cut (K i : Nat) (hi : 1 ≤ i) {j : Nat} (h : K ≤ j ∨ i ≤ j) : Rw K i (K + i) = Rw K i j := by
  apply List.ext_getElem
  · simp [Rw]
  · intro t h1 h2
    simp only [Rw, List.length_map, List.length_range] at h2
    simp only [Rw, List.getElem_map, List.getElem_range]
    rw [if_pos (by omega)]
    by_cases e : t ≤ j
    · rw [if_pos e]
    · rw [if_neg e, C_far i t (by omega), C_far (i - 1) t (by omega)]
theorem spec_l1_run {n K i : Nat} (hn : n ≤ 40) (hi : 1 ≤ i) (hi' : i ≤ n) : ∀ (j k : Nat), j ≤ K → K ≤ 40 → spec_paChoose.l1 (k + j + 1) (n : Int) (K : Int) (Rw K i j) (i : Int) (j : Int) = spec_paChoose.l0 k (n : Int) (K : Int) (Rw K i 0) ((i + 1 : Nat) : Int) := by
  intro j
  induction j with
  | zero =>
    intro k _ _
    rw [show k + 0 + 1 = k + 1 from rfl, spec_paChoose.l1.eq_2, if_neg (by omega), wadd1 i (by omega)]
  | succ j ih =>
    intro k hj hK
    have b1 := C_bd (n := i - 1) (k := j + 1) (by omega)
    have b2 := C_bd (n := i - 1) (k := j) (by omega)
    have hl := Rw_len K i (j + 1)
    have hC : C (i - 1) (j + 1) + C (i - 1) j = C i (j + 1) := by
      obtain ⟨q, rfl⟩ : ∃ q, i = q + 1 := ⟨i - 1, by omega⟩
      rw [Nat.add_comm]; rfl
    rw [show k + (j + 1) + 1 = (k + j + 1) + 1 from rfl, spec_paChoose.l1.eq_2, if_pos (by omega), if_pos (by omega), if_pos (by omega), wsub1 (j + 1) (by omega) (by omega), if_pos (by omega), if_pos (by omega), show j + 1 - 1 = j from rfl,
      Rw_get (by omega), Rw_get (by omega), if_pos (by omega), if_pos (by omega), waddn _ _ (by omega), hC, Int.toNat_natCast, Rw_step (by omega) hi]
    exact ih k (by omega) hK
theorem spec_l0_run {n K : Nat} (hn : n ≤ 40) (hK : K ≤ n) : ∀ (d i k : Nat), 1 ≤ i → i + d = n + 1 → d * (K + 3) < k → spec_paChoose.l0 k (n : Int) (K : Int) (Rw K i (K + i)) (i : Int) = some ((C n K : Nat) : Int) := by
  intro d
  induction d with
  | zero =>
    intro i k hi hd hk
    obtain ⟨k, rfl⟩ : ∃ m, k = m + 1 := ⟨k - 1, by omega⟩
    have hl := Rw_len K i (K + i)
    rw [spec_paChoose.l0.eq_2, if_neg (by omega), if_pos (by omega), if_pos (by omega), Rw_get (by omega), if_pos (by omega), show i - 1 = n by omega]
  | succ d ih =>
    intro i k hi hd hk
    obtain ⟨k, rfl⟩ : ∃ m, k = m + 1 := ⟨k - 1, by omega⟩
    rw [Nat.add_mul] at hk
    have hl1 : spec_l1Least.f (i : Int) (K : Int) = some ((min i K : Nat) : Int) := by
      unfold spec_l1Least.f
      by_cases h : (i : Int) < K
      · rw [if_pos h, Nat.min_eq_left (by omega)]
      · rw [if_neg h, Nat.min_eq_right (by omega)]
    rw [spec_paChoose.l0.eq_2, if_pos (by omega), hl1, Option.bind_some, Rw_cut K i hi (j := min i K) (by omega)]
    have hmin : min i K ≤ K := Nat.min_le_right _ _
    obtain ⟨q, rfl⟩ : ∃ q, k = q + min i K + 1 := ⟨k - (min i K + 1), by omega⟩
    rw [spec_l1_run hn hi (by omega) (min i K) q hmin (by omega), Rw_next]
    exact ih (i + 1) q (by omega) (by omega) (by omega)
theorem spec_choose_run {n K : Nat} (hn : n ≤ 40) (hK : K ≤ n) {k : Nat} (hk : 2000 ≤ k) : spec_paChoose.f k (n : Int) (K : Int) = some ((C n K : Nat) : Int) := by
  obtain ⟨k, rfl⟩ : ∃ m, k = m + 1 := ⟨k - 1, by omega⟩
  have er : (List.replicate (K + 1) (0 : Int)).set 0 1 = Rw K 1 (K + 1) := by
    apply List.ext_getElem
    · simp [Rw]
    · intro t h1 h2
      simp only [Rw, List.length_map, List.length_range] at h2
      simp only [Rw, List.getElem_map, List.getElem_range]
      rw [if_pos (by omega)]
      by_cases ht : t = 0
      · subst ht; simp [C]
      · rw [List.getElem_set_ne (by omega)]
        obtain ⟨q, rfl⟩ : ∃ q, t = q + 1 := ⟨t - 1, by omega⟩
        simp [C]
  have hf : n * (K + 3) ≤ 1720 := by
    have := Nat.mul_le_mul hn (show K + 3 ≤ 43 by omega)
    omega
  have := spec_l0_run hn hK n 1 k (by omega) (by omega) (by omega)
  unfold spec_paChoose.f
  rw [if_neg (by omega), decide_eq_false (by omega), spec_paChoose.j0.eq_2, if_neg (by decide), wadd1 K (by omega), if_pos (by omega), if_pos (by omega), Int.toNat_natCast, Option.bind_some, if_pos (by rw [List.length_replicate]; omega), show ((0 : Int)).toNat = 0 from rfl, er]
  exact this

/-- Whether all numbers are in a range. -/
def allIn (lo hi : Int) (L : List Int) : Bool := L.all fun x => decide (lo ≤ x ∧ x ≤ hi)
theorem allIn_drop (lo hi : Int) (L : List Int) (i : Nat) (h : i < L.length) : allIn lo hi (L.drop i) = (decide (lo ≤ rd L (i : Int) ∧ rd L (i : Int) ≤ hi) && allIn lo hi (L.drop (i + 1))) := by
  unfold allIn
  rw [List.drop_eq_getElem_cons h, List.all_cons]
  have : rd L (i : Int) = L[i] := by
    unfold rd
    rw [Int.toNat_natCast, List.getD_eq_getElem?_getD, List.getElem?_eq_getElem h]; rfl
  rw [this]
theorem all_from (lo hi : Int) (L : List Int) (hL : L.length ≤ 1048576) : ∀ (d i k : Nat), i + d = L.length → d < k → spec_l1All.l0 k lo hi L (L.length : Int) (i : Int) = some (allIn lo hi (L.drop i)) := by
  intro d
  induction d with
  | zero =>
    intro i k hd hk
    obtain ⟨k, rfl⟩ : ∃ m, k = m + 1 := ⟨k - 1, by omega⟩
    rw [spec_l1All.l0.eq_2, if_neg (by omega), List.drop_of_length_le (by omega)]; rfl
  | succ d ih =>
    intro i k hd hk
    obtain ⟨k, rfl⟩ : ∃ m, k = m + 1 := ⟨k - 1, by omega⟩
    rw [spec_l1All.l0.eq_2, if_pos (by omega), if_pos (by omega), if_pos (by omega), l1In_eq, Option.bind_some, allIn_drop lo hi L i (by omega)]
    by_cases h : lo ≤ rd L (i : Int) ∧ rd L (i : Int) ≤ hi
    · rw [if_pos (by simpa using h), decide_eq_true h, Bool.true_and, wN i (by omega)]
      exact ih (i + 1) k (by omega) (by omega)
    · rw [if_neg (by simpa using h), decide_eq_false h, Bool.false_and]
theorem all_run (lo hi : Int) (L : List Int) (hL : L.length ≤ 1048576) {k : Nat} (hk : L.length < k) : spec_l1All.f k L lo hi = some (allIn lo hi L) := by
  unfold spec_l1All.f
  exact all_from lo hi L hL L.length 0 k (by omega) hk
theorem any_out (lo hi : Int) (L : List Int) : (L.any fun x => outB lo hi x) = !allIn lo hi L := by
  unfold allIn
  rw [List.not_all_eq_any_not]
  congr 1; funext x
  unfold outB
  congr 1
  rw [Bool.decide_and]

/-- A row without one column. -/
def cutCol (j : Nat) (r : List Int) : List Int := r.take j ++ r.drop (j + 1)
/-- Rows without the first one and one column. -/
def less (rows : List (List Int)) (j : Nat) : List (List Int) := (rows.drop 1).map (cutCol j)
/-- The sum over the columns from j on. -/
def dloop (f x : Nat → Int) : Nat → Nat → Int → Int → Int
  | 0, _, s, _ => s
  | d + 1, j, s, g => dloop f x d (j + 1) (wrap64 (s + wrap64 (wrap64 (g * x j) * f j))) (wrap64 (-g))
/-- The determinant of a square of numbers. -/
def det : Nat → List (List Int) → Int
  | 0, _ => 1
  | n + 1, rows => dloop (fun j => det n (less rows j)) (fun j => rd (rd_L3 rows 0) (j : Int)) (n + 1) 0 0 1
def Sq (n : Nat) (rows : List (List Int)) : Prop := rows.length = n ∧ ∀ r ∈ rows, r.length = n
theorem Sq_less {n : Nat} {rows : List (List Int)} (h : Sq (n + 1) rows) (j : Nat) (hj : j < n + 1) : Sq n (less rows j) := by
  refine ⟨by unfold less; rw [List.length_map, List.length_drop, h.1]; rfl, fun r hr => ?_⟩
  unfold less at hr
  obtain ⟨q, hq, rfl⟩ := List.mem_map.1 hr
  have := h.2 q (List.mem_of_mem_drop hq)
  unfold cutCol
  rw [List.length_append, List.length_take, List.length_drop]
  omega
theorem wrap_idem' (a : Int) : wrap64 (wrap64 a) = wrap64 a := by unfold wrap64; omega
theorem rdL_get {L : List (List Int)} {i : Nat} (h : i < L.length) : rd_L3 L (i : Int) = L[i] := by
  unfold rd_L3
  rw [Int.toNat_natCast, List.getD_eq_getElem?_getD, List.getElem?_eq_getElem h]; rfl
theorem rdL_mem {L : List (List Int)} {i : Nat} (h : i < L.length) : rd_L3 L (i : Int) ∈ L := by rw [rdL_get h]; exact List.getElem_mem h

/-- Whether rows are a small square. -/
def matB (L : List (List Int)) : Bool := decide (1 ≤ L.length ∧ L.length ≤ 4) && L.all fun r => decide (r.length = L.length) && allIn (-10000) 10000 r
theorem impl_mat (L : List (List Int)) : impl_isMatrix.f L = some (matB L) := by
  unfold impl_isMatrix.f matB
  by_cases h : 1 ≤ L.length ∧ L.length ≤ 4
  · rw [if_pos (by omega), decide_eq_true h, Bool.true_and, List.not_any_eq_all_not]
    congr 2; funext r
    unfold badRow
    by_cases hr : r.length = L.length
    · rw [if_pos hr, decide_eq_true hr, Bool.true_and, any_out, Bool.not_not]
    · rw [if_neg hr, decide_eq_false hr]; rfl
  · rw [if_neg (by omega), decide_eq_false h, Bool.false_and]
theorem small_from (L : List (List Int)) (hL : L.length ≤ 4) : ∀ (d i k : Nat), i + d = L.length → d + 8 < k → spec_ncSmall.l0 k L L (L.length : Int) (i : Int) = some ((L.drop i).all fun r => decide (r.length = L.length) && allIn (-10000) 10000 r) := by
  intro d
  induction d with
  | zero =>
    intro i k hd hk
    obtain ⟨k, rfl⟩ : ∃ m, k = m + 1 := ⟨k - 1, by omega⟩
    rw [spec_ncSmall.l0.eq_2, if_neg (by omega), List.drop_of_length_le (by omega)]; rfl
  | succ d ih =>
    intro i k hd hk
    obtain ⟨k, rfl⟩ : ∃ m, k = m + 1 := ⟨k - 1, by omega⟩
    have hi : i < L.length := by omega
    rw [spec_ncSmall.l0.eq_2, if_pos (by omega), if_pos (by omega), if_pos (by omega), rdL_get hi, List.drop_eq_getElem_cons hi, List.all_cons]
    by_cases hr : L[i].length = L.length
    · rw [if_pos (by omega), decide_eq_true hr, Bool.true_and, all_run _ _ _ (by omega) (by omega), Option.bind_some]
      cases hq : allIn (-10000) 10000 L[i] with
      | true => rw [if_pos rfl, wN i (by omega), ih (i + 1) k (by omega) (by omega), Bool.true_and]
      | false => rfl
    · rw [if_neg (by omega), decide_eq_false hr, Bool.false_and, Bool.false_and]
theorem spec_mat (L : List (List Int)) {k : Nat} (hk : 20 ≤ k) : spec_ncSmall.f k L = some (matB L) := by
  unfold spec_ncSmall.f matB
  rw [l1In_eq, Option.bind_some]
  by_cases h : 1 ≤ L.length ∧ L.length ≤ 4
  · rw [if_pos (decide_eq_true (by omega)), decide_eq_true h, Bool.true_and]
    exact small_from L h.2 L.length 0 k (by omega) (by omega)
  · rw [if_neg (by rw [decide_eq_false (by omega)]; decide), decide_eq_false h, Bool.false_and]
theorem mat_sq {L : List (List Int)} (h : matB L = true) : L.length ≤ 4 ∧ Sq L.length L := by
  unfold matB at h
  rw [Bool.and_eq_true, List.all_eq_true] at h
  refine ⟨(of_decide_eq_true h.1).2, rfl, fun r hr => ?_⟩
  have := h.2 r hr
  rw [Bool.and_eq_true] at this
  exact of_decide_eq_true this.1

/- Cells: read anew, compared, tested. -/
def cv (c : S64) : S58 := ⟨c.f0, c.f1⟩
theorem rd64_get {L : List S64} {i : Nat} (h : i < L.length) : rd_T64 L (i : Int) = L[i] := by
  unfold rd_T64
  rw [Int.toNat_natCast, List.getD_eq_getElem?_getD, List.getElem?_eq_getElem h]; rfl
theorem rd58_get {L : List S58} {i : Nat} (h : i < L.length) : rd_T58 L (i : Int) = L[i] := by
  unfold rd_T58
  rw [Int.toNat_natCast, List.getD_eq_getElem?_getD, List.getElem?_eq_getElem h]; rfl
theorem toC_from (L : List S64) (hL : L.length ≤ 1048576) : ∀ (d i k : Nat) (M : List S58), i + d = L.length → M.length = L.length → M.take i = (L.map cv).take i → d < k → laws_toCellS.l0 k L M (i : Int) = some (L.map cv) := by
  intro d
  induction d with
  | zero =>
    intro i k M hd hM ht hk
    obtain ⟨k, rfl⟩ : ∃ m, k = m + 1 := ⟨k - 1, by omega⟩
    rw [laws_toCellS.l0.eq_2, if_neg (by omega)]
    rw [List.take_of_length_le (by omega), List.take_of_length_le (by rw [List.length_map]; omega)] at ht
    rw [ht]
  | succ d ih =>
    intro i k M hd hM ht hk
    obtain ⟨k, rfl⟩ : ∃ m, k = m + 1 := ⟨k - 1, by omega⟩
    have hi : i < L.length := by omega
    unfold laws_toCellS.l0 laws_toCell.f
    rw [if_pos (by omega), if_pos (by omega), Option.bind_some, if_pos (by omega), wN i (by omega), Int.toNat_natCast, rd64_get hi]
    refine ih (i + 1) k _ (by omega) (by rw [List.length_set]; omega) ?_ (by omega)
    rw [List.take_succ_eq_append_getElem (by rw [List.length_set]; omega), List.take_succ_eq_append_getElem (by rw [List.length_map]; omega), List.take_set_of_le (Nat.le_refl i), ht, List.getElem_set_self, List.getElem_map]
    rfl
theorem toC_run (L : List S64) (hL : L.length ≤ 1048576) {k : Nat} (hk : 1048580 < k) : laws_toCellS.f k L = some (L.map cv) := by
  unfold laws_toCellS.f
  rw [if_pos (by omega), Int.toNat_natCast, if_pos (by omega)]
  exact toC_from L hL L.length 0 k _ (by omega) (by simp) (by simp) (by omega)
theorem eqC_from (L : List S58) (hL : L.length ≤ 1048576) : ∀ (d i k : Nat), i + d = L.length → d < k → laws_eqCellS.l0 k L L (i : Int) = some true := by
  intro d
  induction d with
  | zero =>
    intro i k hd hk
    obtain ⟨k, rfl⟩ : ∃ m, k = m + 1 := ⟨k - 1, by omega⟩
    rw [laws_eqCellS.l0.eq_2, if_neg (by omega)]
  | succ d ih =>
    intro i k hd hk
    obtain ⟨k, rfl⟩ : ∃ m, k = m + 1 := ⟨k - 1, by omega⟩
    unfold laws_eqCellS.l0 laws_eqCell.f
    rw [if_pos (by omega), if_pos (by omega), if_pos (by omega), if_pos rfl, if_pos rfl, Option.bind_some, if_pos rfl, wN i (by omega)]
    exact ih (i + 1) k (by omega) (by omega)
theorem eqC_run (L : List S58) (hL : L.length ≤ 1048576) {k : Nat} (hk : 1048580 < k) : laws_eqCellS.f k L L = some true := by
  unfold laws_eqCellS.f
  rw [if_pos rfl]
  exact eqC_from L hL L.length 0 k (by omega) (by omega)
theorem szC_run (a b : List S64) (ha : a.length ≤ 9223372036854775807) (hb : b.length ≤ 9223372036854775807) : ∃ z, laws_szCellS.f a 1048576 = some z ∧ (z < 0 ∨ a.length ≤ 1048576 ∧ 0 ≤ z ∧ z ≤ 1048576 ∧ ∃ y, laws_szCellS.f b z = some y ∧ (y < 0 ∨ b.length ≤ 1048576)) := by
  unfold laws_szCellS.f
  rw [w64 (n := 1048576 - (a.length : Int)) (by omega) (by omega)]
  by_cases h1 : 1048576 - (a.length : Int) < 0
  · rw [if_pos h1]; exact ⟨_, rfl, .inl (by omega)⟩
  · rw [if_neg h1]
    refine ⟨_, rfl, .inr ⟨by omega, by omega, by omega, ?_⟩⟩
    rw [w64 (n := 1048576 - (a.length : Int) - (b.length : Int)) (by omega) (by omega)]
    by_cases h2 : 1048576 - (a.length : Int) - (b.length : Int) < 0
    · rw [if_pos h2]; exact ⟨_, rfl, .inl (by omega)⟩
    · rw [if_neg h2]; exact ⟨_, rfl, .inr (by omega)⟩
theorem spec_cell (x : S58) : spec_ncCell.f x.f0 x.f1 = some (!badCell x) := by
  unfold spec_ncCell.f badCell outB
  rw [l1In_eq, Option.bind_some]
  by_cases h : 0 ≤ x.f0 ∧ x.f0 ≤ 12
  · rw [if_pos (decide_eq_true h), if_pos h, l1In_eq, Option.bind_some, Bool.not_not, Bool.decide_and]
  · rw [if_neg (by rw [decide_eq_false h]; decide), if_neg h]; rfl
/-- Whether two lists are starts and ends. -/
def goodB (a b : List S58) : Bool := decide (1 ≤ a.length ∧ a.length ≤ 4) && (decide (a.length = b.length) && (!(a.any badCell) && !(b.any badCell)))
theorem impl_good2 (a b : List S58) : impl_areEnds.f a b = some (goodB a b) := by
  unfold impl_areEnds.f goodB
  by_cases h1 : 1 ≤ a.length ∧ a.length ≤ 4
  · rw [if_pos (by omega), decide_eq_true h1, Bool.true_and]
    by_cases h2 : a.length = b.length
    · rw [if_pos (by omega), decide_eq_true h2, Bool.true_and]
      cases a.any badCell <;> simp
    · rw [if_neg (by omega), decide_eq_false h2, Bool.false_and]
  · rw [if_neg (by omega), decide_eq_false h1, Bool.false_and]
theorem good_from (a b : List S58) (ha : a.length ≤ 4) (hab : a.length = b.length) : ∀ (d i k : Nat), i + d = a.length → d < k → spec_ncGood.l0 k b a (a.length : Int) (i : Int) = some (!((a.drop i).any badCell) && !((b.drop i).any badCell)) := by
  intro d
  induction d with
  | zero =>
    intro i k hd hk
    obtain ⟨k, rfl⟩ : ∃ m, k = m + 1 := ⟨k - 1, by omega⟩
    rw [spec_ncGood.l0.eq_2, if_neg (by omega), List.drop_of_length_le (by omega), List.drop_of_length_le (by omega)]; rfl
  | succ d ih =>
    intro i k hd hk
    obtain ⟨k, rfl⟩ : ∃ m, k = m + 1 := ⟨k - 1, by omega⟩
    have hi : i < a.length := by omega
    have hj : i < b.length := by omega
    rw [spec_ncGood.l0.eq_2, if_pos (by omega), if_pos (by omega), if_pos (by omega), rd58_get hi, spec_cell, Option.bind_some, List.drop_eq_getElem_cons hi, List.drop_eq_getElem_cons hj, List.any_cons, List.any_cons]
    cases h1 : badCell a[i] with
    | true => rw [if_neg (by decide)]; simp
    | false =>
      rw [if_pos (by decide), if_pos (by omega), rd58_get hj, spec_cell, Option.bind_some]
      cases h2 : badCell b[i] with
      | true => rw [if_neg (by decide)]; simp
      | false => rw [if_pos (by decide), wN i (by omega), ih (i + 1) k (by omega) (by omega), Bool.false_or, Bool.false_or]
theorem spec_good2 (a b : List S58) {k : Nat} (hk : 20 ≤ k) : spec_ncGood.f k a b = some (goodB a b) := by
  unfold spec_ncGood.f goodB
  obtain ⟨k, rfl⟩ : ∃ m, k = m + 1 := ⟨k - 1, by omega⟩
  rw [l1In_eq, Option.bind_some]
  by_cases h1 : 1 ≤ a.length ∧ a.length ≤ 4
  · rw [if_pos (decide_eq_true (by omega)), decide_eq_true h1, Bool.true_and, spec_ncGood.j0.eq_2]
    by_cases h2 : a.length = b.length
    · rw [if_neg (by rw [bne_iff_ne]; omega), decide_eq_true h2, Bool.true_and]
      exact good_from a b h1.2 h2 a.length 0 k (by omega) (by omega)
    · rw [if_pos (by rw [bne_iff_ne]; omega), decide_eq_false h2, Bool.false_and]
  · rw [if_neg (by rw [decide_eq_false (by omega)]; decide), decide_eq_false h1, Bool.false_and, spec_ncGood.j0.eq_2, if_pos rfl]
/-- How many ways lead from a cell to another one. -/
def cnt (x y : S58) : Int := if y.f0 < x.f0 ∨ y.f1 < x.f1 then 0 else ((C ((y.f0 - x.f0) + (y.f1 - x.f1)).toNat (y.f0 - x.f0).toNat : Nat) : Int)
theorem good_cell {x : S58} (h : badCell x = false) : 0 ≤ x.f0 ∧ x.f0 ≤ 12 ∧ 0 ≤ x.f1 ∧ x.f1 ≤ 12 := by
  unfold badCell at h
  by_cases c : 0 ≤ x.f0 ∧ x.f0 ≤ 12
  · rw [if_pos c] at h
    unfold outB at h
    rw [Bool.not_eq_false', Bool.and_eq_true] at h
    exact ⟨c.1, c.2, of_decide_eq_true h.1, of_decide_eq_true h.2⟩
  · rw [if_neg c] at h; cases h
theorem spec_cnt {x y : S58} (hx : badCell x = false) (hy : badCell y = false) {k : Nat} (hk : 2000 ≤ k) : spec_ncCount.f k x.f0 x.f1 y.f0 y.f1 = some (cnt x y) := by
  have h1 := good_cell hx; have h2 := good_cell hy
  unfold spec_ncCount.f cnt
  rw [w64 (n := y.f0 - x.f0) (by omega) (by omega), w64 (n := y.f1 - x.f1) (by omega) (by omega), w64 (n := y.f0 - x.f0 + (y.f1 - x.f1)) (by omega) (by omega)]
  by_cases c1 : y.f0 - x.f0 < 0
  · rw [if_pos c1, if_pos (by omega)]
  · by_cases c2 : y.f1 - x.f1 < 0
    · rw [if_neg c1, if_pos c2, if_pos (by omega)]
    · obtain ⟨p, hp⟩ : ∃ p : Nat, y.f0 - x.f0 = p := ⟨(y.f0 - x.f0).toNat, by omega⟩
      obtain ⟨q, hq⟩ : ∃ q : Nat, y.f0 - x.f0 + (y.f1 - x.f1) = q := ⟨(y.f0 - x.f0 + (y.f1 - x.f1)).toNat, by omega⟩
      rw [if_neg c1, if_neg c2, if_neg (by omega), hq, hp, spec_choose_run (n := q) (K := p) (by omega) (by omega) hk, Option.bind_some, Int.toNat_natCast, Int.toNat_natCast]
theorem impl_cnt {x y : S58} (hx : badCell x = false) (hy : badCell y = false) {k : Nat} (hk : 2000 ≤ k) : impl_ways.f k x.f0 x.f1 y.f0 y.f1 = some (cnt x y) := by
  have h1 := good_cell hx; have h2 := good_cell hy
  unfold impl_ways.f cnt
  rw [w64 (n := y.f0 - x.f0) (by omega) (by omega), w64 (n := y.f0 - x.f0 + y.f1) (by omega) (by omega), w64 (n := y.f0 - x.f0 + y.f1 - x.f1) (by omega) (by omega), show y.f0 - x.f0 + y.f1 - x.f1 = y.f0 - x.f0 + (y.f1 - x.f1) by omega]
  by_cases c1 : y.f0 < x.f0
  · rw [if_pos c1, if_pos (by omega)]
  · by_cases c2 : y.f1 < x.f1
    · rw [if_neg c1, if_pos c2, if_pos (by omega)]
    · obtain ⟨p, hp⟩ : ∃ p : Nat, y.f0 - x.f0 = p := ⟨(y.f0 - x.f0).toNat, by omega⟩
      obtain ⟨q, hq⟩ : ∃ q : Nat, y.f0 - x.f0 + (y.f1 - x.f1) = q := ⟨(y.f0 - x.f0 + (y.f1 - x.f1)).toNat, by omega⟩
      rw [if_neg c1, if_neg c2, if_neg (by omega), hq, hp, impl_choose_run (n := q) (K := p) (by omega) (by omega) (by omega), Option.bind_some, Int.toNat_natCast, Int.toNat_natCast]
/-- The numbers of ways. -/
def mat (a b : List S58) : List (List Int) := a.map fun x => b.map fun y => cnt x y
theorem no_bad {L : List S58} (h : L.any badCell = false) {i : Nat} (hi : i < L.length) : badCell L[i] = false := by
  rw [List.any_eq_false] at h
  have := h L[i] (List.getElem_mem hi)
  simpa using this
theorem mat_rows (a b : List S58) (ha : a.length ≤ 4) (hb : b.length ≤ 4) (ga : a.any badCell = false) (gb : b.any badCell = false) : ∀ (d i k : Nat), i + d = a.length → 2000 + 10 * d ≤ k →
    spec_ncMatrix.l0 k b ((a.take i).map fun x => b.map fun y => cnt x y) a (a.length : Int) (i : Int) = some (mat a b) ∧ impl_waysMatrix.l0 k b ((a.take i).map fun x => b.map fun y => cnt x y) a (a.length : Int) (i : Int) = some (mat a b) := by
  intro d
  induction d with
  | zero =>
    intro i k hd hk
    obtain ⟨k, rfl⟩ : ∃ m, k = m + 1 := ⟨k - 1, by omega⟩
    rw [spec_ncMatrix.l0.eq_2, impl_waysMatrix.l0.eq_2, if_neg (by omega), if_neg (by omega), List.take_of_length_le (by omega)]
    exact ⟨rfl, rfl⟩
  | succ d ih =>
    intro i k hd hk
    have hi : i < a.length := by omega
    obtain ⟨k, rfl⟩ : ∃ m, k = (m + b.length + 1) + 1 := ⟨k - b.length - 2, by omega⟩
    have hx := no_bad ga hi
    have key : ∀ (e j : Nat), j + e = b.length → ∀ q, 2000 ≤ q →
        spec_ncMatrix.l1 (q + e + 1) b ((a.take i).map fun x => b.map fun y => cnt x y) ((b.take j).map fun y => cnt a[i] y) a (a.length : Int) (i : Int) b (b.length : Int) (j : Int) a[i].f0 a[i].f1 = spec_ncMatrix.l0 q b ((a.take (i + 1)).map fun x => b.map fun y => cnt x y) a (a.length : Int) ((i + 1 : Nat) : Int) ∧
        impl_waysMatrix.l1 (q + e + 1) b ((a.take i).map fun x => b.map fun y => cnt x y) ((b.take j).map fun y => cnt a[i] y) a (a.length : Int) (i : Int) b (b.length : Int) (j : Int) a[i].f0 a[i].f1 = impl_waysMatrix.l0 q b ((a.take (i + 1)).map fun x => b.map fun y => cnt x y) a (a.length : Int) ((i + 1 : Nat) : Int) := by
      intro e
      induction e with
      | zero =>
        intro j hj q hq
        have hrow : ((a.take (i + 1)).map fun x => b.map fun y => cnt x y) = ((a.take i).map fun x => b.map fun y => cnt x y) ++ [b.map fun y => cnt a[i] y] := by
          rw [List.take_succ_eq_append_getElem hi, List.map_append]; rfl
        constructor
        · rw [show q + 0 + 1 = q + 1 from rfl, spec_ncMatrix.l1.eq_2, if_neg (by omega), if_pos (by rw [List.length_map, List.length_take]; omega), wN i (by omega), hrow, List.take_of_length_le (l := b) (by omega)]
        · rw [show q + 0 + 1 = q + 1 from rfl, impl_waysMatrix.l1.eq_2, if_neg (by omega), if_pos (by rw [List.length_map, List.length_take]; omega), wN i (by omega), hrow, List.take_of_length_le (l := b) (by omega)]
      | succ e ihe =>
        intro j hj q hq
        have hjl : j < b.length := by omega
        have hy := no_bad gb hjl
        obtain ⟨r1, r2⟩ := ihe (j + 1) (by omega) q hq
        rw [List.take_succ_eq_append_getElem hjl, List.map_append] at r1 r2
        constructor
        · rw [show q + (e + 1) + 1 = (q + e + 1) + 1 from rfl, spec_ncMatrix.l1.eq_2, if_pos (by omega), if_pos (by omega), if_pos (by omega), rd58_get hjl, spec_cnt hx hy (by omega), Option.bind_some, if_pos (by rw [List.length_map, List.length_take]; omega), wN j (by omega)]
          exact r1
        · rw [show q + (e + 1) + 1 = (q + e + 1) + 1 from rfl, impl_waysMatrix.l1.eq_2, if_pos (by omega), if_pos (by omega), if_pos (by omega), rd58_get hjl, impl_cnt hx hy (by omega), Option.bind_some, if_pos (by rw [List.length_map, List.length_take]; omega), wN j (by omega)]
          exact r2
    obtain ⟨r1, r2⟩ := key b.length 0 (by omega) k (by omega)
    obtain ⟨s1, s2⟩ := ih (i + 1) k (by omega) (by omega)
    constructor
    · rw [spec_ncMatrix.l0.eq_2, if_pos (by omega), if_pos (by omega), if_pos (by omega), rd58_get hi]
      exact r1.trans s1
    · rw [impl_waysMatrix.l0.eq_2, if_pos (by omega), if_pos (by omega), if_pos (by omega), rd58_get hi]
      exact r2.trans s2
theorem mat_run (a b : List S58) (h : goodB a b = true) {k : Nat} (hk : 2100 ≤ k) : spec_ncMatrix.f k a b = some (mat a b) ∧ impl_waysMatrix.f k a b = some (mat a b) := by
  unfold goodB at h
  rw [Bool.and_eq_true, Bool.and_eq_true, Bool.and_eq_true] at h
  have h1 := of_decide_eq_true h.1
  have h2 := of_decide_eq_true h.2.1
  exact mat_rows a b h1.2 (by omega) (by simpa using h.2.2.1) (by simpa using h.2.2.2) a.length 0 k (by omega) (by omega)

theorem own_run (L : List Int) (h : L.length ≤ 1000) : spec_l1Own.f L = some L := by
  unfold spec_l1Own.f
  rw [Option.bind_some, if_pos (by simp; omega)]; rfl
theorem spec_less (n : Nat) (hn : n ≤ 4) (rows : List (List Int)) (x0 : List (List Int)) (s g : Int) (j : Nat) (hj : j < n) (x6 : Int) (r0 : List Int) (a b : Int) (hrows : ∀ r ∈ rows, r.length = n) (hl : rows.length ≤ 4) :
    ∀ (d i k : Nat), i + d = rows.length → ∀ out : List (List Int), out.length = i →
      spec_kiDet.l1 (k + d + 1) x0 s g (j : Int) x6 out r0 a b rows (rows.length : Int) (i : Int) = (spec_kiDet.f k (out ++ (rows.drop i).map (cutCol j))).bind fun t129 => (spec_kiDet.l0 k x0 (wrap64 (s + (wrap64 ((wrap64 (g * x6)) * t129)))) (wrap64 (-g)) r0 a (wrap64 (b + 1))) := by
  intro d
  induction d with
  | zero =>
    intro i k hd out ho
    rw [show k + 0 + 1 = k + 1 from rfl, spec_kiDet.l1.eq_2, if_neg (by omega), List.drop_of_length_le (by omega), List.map_nil, List.append_nil]
  | succ d ih =>
    intro i k hd out ho
    have hi : i < rows.length := by omega
    have hlen : (rd_L3 rows (i : Int)).length = n := hrows _ (rdL_mem hi)
    have hdrop : rows.drop i = rows[i] :: rows.drop (i + 1) := List.drop_eq_getElem_cons hi
    have ew : wrap64 ((j : Int) + 1) = ((j + 1 : Nat) : Int) := wN j (by omega)
    rw [show k + (d + 1) + 1 = (k + d + 1) + 1 from rfl, spec_kiDet.l1.eq_2, if_pos (by omega), if_pos (by omega), if_pos (by omega), if_pos (by omega), if_pos (by omega), Int.toNat_natCast, own_run _ (by rw [List.length_take]; omega), Option.bind_some, ew, if_pos (by omega), if_pos (by omega), Int.toNat_natCast,
      if_pos (by rw [List.length_take, List.length_drop]; omega), if_pos (by omega), wN i (by omega), ih (i + 1) k (by omega) _ (by simp; omega)]
    rw [hdrop, List.map_cons, List.append_assoc, List.singleton_append, rdL_get hi]
    rfl
theorem spec_det : ∀ (n : Nat), n ≤ 4 → ∀ (rows : List (List Int)), Sq n rows → ∀ k, 40 * (n + 1) ≤ k → spec_kiDet.f k rows = some (det n rows)
  | 0, _, rows, h, k, hk => by
    obtain ⟨k, rfl⟩ : ∃ m, k = m + 1 := ⟨k - 1, by omega⟩
    have := h.1
    rw [spec_kiDet.f.eq_2, if_pos (by omega)]; rfl
  | n + 1, hn, rows, h, k, hk => by
    obtain ⟨k, rfl⟩ : ∃ m, k = m + 1 := ⟨k - 1, by omega⟩
    have hl := h.1
    have h0 : (rd_L3 rows 0).length = n + 1 := h.2 _ (rdL_mem (L := rows) (i := 0) (by omega))
    rw [spec_kiDet.f.eq_2, if_neg (by omega), if_pos (by omega), h0]
    show spec_kiDet.l0 k rows 0 1 (rd_L3 rows 0) ((n + 1 : Nat) : Int) ((0 : Nat) : Int) = some (dloop _ _ (n + 1) 0 0 1)
    have key : ∀ (d j : Nat) (s g : Int) (k : Nat), j + d = n + 1 → 40 * (n + 1) + 7 * d + 1 ≤ k → spec_kiDet.l0 k rows s g (rd_L3 rows 0) ((n + 1 : Nat) : Int) (j : Int) = some (dloop (fun j => det n (less rows j)) (fun j => rd (rd_L3 rows 0) (j : Int)) d j s g) := by
      intro d
      induction d with
      | zero =>
        intro j s g k hj hk
        obtain ⟨k, rfl⟩ : ∃ m, k = m + 1 := ⟨k - 1, by omega⟩
        rw [spec_kiDet.l0.eq_2, if_neg (by omega)]; rfl
      | succ d ih =>
        intro j s g k hj hk
        obtain ⟨k, rfl⟩ : ∃ m, k = (m + (rows.drop 1).length + 1) + 1 := ⟨k - (rows.drop 1).length - 2, by rw [List.length_drop]; omega⟩
        have hd1 : (rows.drop 1).length = n := by rw [List.length_drop, hl]; rfl
        rw [spec_kiDet.l0.eq_2, if_pos (by omega), if_pos (by omega), if_pos (by omega), if_pos (by omega), Option.bind_some]
        refine (spec_less (n + 1) hn (rows.drop 1) rows s g j (by omega) _ _ _ _ (fun r hr => h.2 r (List.mem_of_mem_drop hr)) (by omega) (rows.drop 1).length 0 k (by omega) [] rfl).trans ?_
        rw [List.nil_append, List.drop_zero, show (rows.drop 1).map (cutCol j) = less rows j from rfl, spec_det n (by omega) _ (Sq_less h j (by omega)) k (by omega), Option.bind_some, wN j (by omega)]
        exact ih (j + 1) _ _ k (by omega) (by omega)
    exact key (n + 1) 0 0 1 k (by omega) (by omega)

theorem concat2 (a b : List Int) (ha : a.length ≤ 1000) (hb : b.length ≤ 1000) {k : Nat} (hk : 8 ≤ k) : slices_Concat_int_int.f k [a, b] = some (a ++ b) := by
  obtain ⟨k, rfl⟩ : ∃ m, k = m + 1 + 1 + 1 + 1 + 1 + 1 := ⟨k - 6, by omega⟩
  have e1 : wrap64 (0 + 1) = 1 := w64 (by omega) (by omega)
  have e2 : wrap64 (1 + 1) = 2 := w64 (by omega) (by omega)
  have f1 : wrap64 (0 + (a.length : Int)) = (a.length : Int) := by rw [Int.zero_add]; exact w64 (by omega) (by omega)
  have f2 : wrap64 ((a.length : Int) + (b.length : Int)) = (a.length : Int) + (b.length : Int) := w64 (by omega) (by omega)
  have r0 : rd_L3 [a, b] 0 = a := rfl
  have r1 : rd_L3 [a, b] 1 = b := rfl
  have hl : (([a, b] : List (List Int)).length : Int) = 2 := rfl
  unfold slices_Concat_int_int.f
  rw [hl, slices_Concat_int_int.l0.eq_2, if_pos (by omega), if_pos (by omega), hl, if_pos (by omega), r0, f1, if_neg (by omega), e1]
  rw [slices_Concat_int_int.l0.eq_2, if_pos (by omega), if_pos (by omega), hl, if_pos (by omega), r1, f2, if_neg (by omega), e2]
  rw [slices_Concat_int_int.l0.eq_2, if_neg (by omega)]
  have g : slices_Grow_int_int.f [] ((a.length : Int) + (b.length : Int)) = some [] := by
    unfold slices_Grow_int_int.f
    simp only
    rw [if_pos (by omega)]
  rw [g, Option.bind_some, hl, slices_Concat_int_int.l1.eq_2, if_pos (by omega), if_pos (by omega), hl, if_pos (by omega), r0, if_pos (by simp; omega), e1, List.nil_append]
  rw [slices_Concat_int_int.l1.eq_2, if_pos (by omega), if_pos (by omega), hl, if_pos (by omega), r1, if_pos (by omega), e2]
  rw [slices_Concat_int_int.l1.eq_2, if_neg (by omega)]
theorem minor_from (n : Nat) (hn : n ≤ 4) (rows : List (List Int)) (j : Nat) (hj : j < n) (hrows : ∀ r ∈ rows, r.length = n) (hl : rows.length ≤ 4) :
    ∀ (d i k : Nat), i + d = rows.length → d + 8 < k → ∀ out : List (List Int), out.length = i → impl_minor.l0 k (j : Int) out rows (rows.length : Int) (i : Int) = some (out ++ (rows.drop i).map (cutCol j)) := by
  intro d
  induction d with
  | zero =>
    intro i k hd hk out ho
    obtain ⟨k, rfl⟩ : ∃ m, k = m + 1 := ⟨k - 1, by omega⟩
    rw [impl_minor.l0.eq_2, if_neg (by omega), List.drop_of_length_le (by omega), List.map_nil, List.append_nil]
  | succ d ih =>
    intro i k hd hk out ho
    obtain ⟨k, rfl⟩ : ∃ m, k = m + 1 := ⟨k - 1, by omega⟩
    have hi : i < rows.length := by omega
    have hlen : (rd_L3 rows (i : Int)).length = n := hrows _ (rdL_mem hi)
    have hdrop : rows.drop i = rows[i] :: rows.drop (i + 1) := List.drop_eq_getElem_cons hi
    have ew : wrap64 ((j : Int) + 1) = ((j + 1 : Nat) : Int) := wN j (by omega)
    rw [impl_minor.l0.eq_2, if_pos (by omega), if_pos (by omega), if_pos (by omega), if_pos (by omega), if_pos (by omega), ew, if_pos (by omega), if_pos (by omega), Int.toNat_natCast, Int.toNat_natCast,
      concat2 _ _ (by rw [List.length_take]; omega) (by rw [List.length_drop]; omega) (by omega), Option.bind_some, if_pos (by omega), wN i (by omega), ih (i + 1) k (by omega) (by omega) _ (by simp; omega)]
    rw [hdrop, List.map_cons, List.append_assoc, List.singleton_append, rdL_get hi]
    rfl
theorem minor_run (n : Nat) (hn : n ≤ 4) (rows : List (List Int)) (j : Nat) (hj : j < n) (h : Sq n rows) {k : Nat} (hk : 20 ≤ k) : impl_minor.f k rows (j : Int) = some (less rows j) := by
  unfold impl_minor.f
  have hl := h.1
  rw [if_pos (by omega), Option.bind_some]
  refine (minor_from n hn (rows.drop 1) j hj (fun r hr => h.2 r (List.mem_of_mem_drop hr)) (by rw [List.length_drop]; omega) (rows.drop 1).length 0 k (by omega) (by rw [List.length_drop]; omega) [] rfl).trans ?_
  rw [List.nil_append, List.drop_zero]; rfl
theorem impl_det : ∀ (n : Nat), n ≤ 4 → ∀ (rows : List (List Int)), Sq n rows → ∀ k, 40 * (n + 1) ≤ k → impl_determinant.f k rows = some (det n rows)
  | 0, _, rows, h, k, hk => by
    obtain ⟨k, rfl⟩ : ∃ m, k = m + 1 := ⟨k - 1, by omega⟩
    have := h.1
    rw [impl_determinant.f.eq_2, if_pos (by omega)]; rfl
  | n + 1, hn, rows, h, k, hk => by
    obtain ⟨k, rfl⟩ : ∃ m, k = m + 1 := ⟨k - 1, by omega⟩
    have hl := h.1
    have h0 : (rd_L3 rows 0).length = n + 1 := h.2 _ (rdL_mem (L := rows) (i := 0) (by omega))
    rw [impl_determinant.f.eq_2, if_neg (by omega), if_pos (by omega), h0]
    show impl_determinant.l0 k rows 0 1 (rd_L3 rows 0) ((n + 1 : Nat) : Int) ((0 : Nat) : Int) = some (dloop _ _ (n + 1) 0 0 1)
    have key : ∀ (d j : Nat) (s g : Int) (k : Nat), wrap64 s = s → j + d = n + 1 → 40 * (n + 1) + 7 * d + 1 ≤ k → impl_determinant.l0 k rows s g (rd_L3 rows 0) ((n + 1 : Nat) : Int) (j : Int) = some (dloop (fun j => det n (less rows j)) (fun j => rd (rd_L3 rows 0) (j : Int)) d j s g) := by
      intro d
      induction d with
      | zero =>
        intro j s g k hs hj hk
        obtain ⟨k, rfl⟩ : ∃ m, k = m + 1 := ⟨k - 1, by omega⟩
        rw [impl_determinant.l0.eq_2, if_neg (by omega)]; rfl
      | succ d ih =>
        intro j s g k hs hj hk
        obtain ⟨k, rfl⟩ : ∃ m, k = m + 1 := ⟨k - 1, by omega⟩
        rw [impl_determinant.l0.eq_2, if_pos (by omega), if_pos (by omega), if_pos (by omega), wN j (by omega)]
        by_cases hx : rd (rd_L3 rows 0) (j : Int) = 0
        · have e0 : wrap64 0 = 0 := w64 (by omega) (by omega)
          rw [if_pos hx, ih (j + 1) s _ k hs (by omega) (by omega)]
          show _ = some (dloop _ _ d (j + 1) (wrap64 (s + wrap64 (wrap64 (g * rd (rd_L3 rows 0) (j : Int)) * det n (less rows j)))) (wrap64 (-g)))
          rw [hx, Int.mul_zero, e0, Int.zero_mul, e0, Int.add_zero, hs]
        · rw [if_neg hx, minor_run (n + 1) hn rows j (by omega) h (by omega), Option.bind_some, impl_det n (by omega) _ (Sq_less h j (by omega)) k (by omega), Option.bind_some]
          exact ih (j + 1) _ _ k (wrap_idem' _) (by omega) (by omega)
    exact key (n + 1) 0 0 1 k (w64 (by omega) (by omega)) (by omega) (by omega)

theorem tied_same : ∀ k, (∀ x0 x7 x8 x9, spec_ncTied.l0 k x0 x7 x8 x9 = impl_areOrdered.l0 k x0 x7 x8 x9) ∧ (∀ x0 x7 x8 x9 x16 x17 x18 p q, spec_ncTied.l1 k x0 x7 x8 x9 x16 x17 x18 p q = impl_areOrdered.l1 k x0 x7 x8 x9 x16 x17 x18 p q)
  | 0 => ⟨fun _ _ _ _ => by rw [spec_ncTied.l0, impl_areOrdered.l0], fun _ _ _ _ _ _ _ _ _ => by rw [spec_ncTied.l1, impl_areOrdered.l1]⟩
  | k + 1 => by
    obtain ⟨h0, h1⟩ := tied_same k
    refine ⟨fun x0 x7 x8 x9 => ?_, fun x0 x7 x8 x9 x16 x17 x18 p q => ?_⟩
    · rw [spec_ncTied.l0, impl_areOrdered.l0]; simp only [h1]
    · rw [spec_ncTied.l1, impl_areOrdered.l1]; simp only [h0, h1]
theorem tied_some (L : List S58) (hL : L.length ≤ 4) : ∀ (d i k : Nat), i + d = L.length → 1 + 10 * d ≤ k → ∃ r, spec_ncTied.l0 k L L (L.length : Int) (i : Int) = some r := by
  intro d
  induction d with
  | zero =>
    intro i k hd hk
    obtain ⟨k, rfl⟩ : ∃ m, k = m + 1 := ⟨k - 1, by omega⟩
    rw [spec_ncTied.l0.eq_2, if_neg (by omega)]; exact ⟨_, rfl⟩
  | succ d ih =>
    intro i k hd hk
    have hi : i < L.length := by omega
    obtain ⟨k, rfl⟩ : ∃ m, k = (m + i + 1) + 1 := ⟨k - i - 2, by omega⟩
    have hl : (L.take i).length = i := by rw [List.length_take]; omega
    have key : ∀ (e j : Nat) (p q : Int), j + e = i → ∃ r, spec_ncTied.l1 (k + e + 1) L L (L.length : Int) (i : Int) (L.take i) ((L.take i).length : Int) (j : Int) p q = some r := by
      intro e
      induction e with
      | zero =>
        intro j p q hj
        rw [show k + 0 + 1 = k + 1 from rfl, spec_ncTied.l1.eq_2, if_neg (by omega), wN i (by omega)]
        exact ih (i + 1) k (by omega) (by omega)
      | succ e ihe =>
        intro j p q hj
        rw [show k + (e + 1) + 1 = (k + e + 1) + 1 from rfl, spec_ncTied.l1.eq_2, if_pos (by omega), if_pos (by omega), if_pos (by omega), wN j (by omega)]
        split
        · exact ⟨_, rfl⟩
        · split
          · exact ⟨_, rfl⟩
          · split
            · exact ⟨_, rfl⟩
            · exact ihe (j + 1) p q (by omega)
    rw [spec_ncTied.l0.eq_2, if_pos (by omega), if_pos (by omega), if_pos (by omega), if_pos (by omega), Int.toNat_natCast, Option.bind_some]
    exact key i 0 _ _ (by omega)
theorem tied_run (L : List S58) (hL : L.length ≤ 4) : ∃ r, (∀ k, 50 ≤ k → spec_ncTied.f k L = some r) ∧ (∀ k, 50 ≤ k → impl_areOrdered.f k L = some r) := by
  obtain ⟨r, hr⟩ := tied_some L hL L.length 0 50 (by omega) (by omega)
  have hs : ∀ k, 50 ≤ k → spec_ncTied.f k L = some r := fun k hk => at_rounds (fun k => (spec_ncTied.mono_l k).1 _ _ _ _) hk hr
  exact ⟨r, hs, fun k hk => ((tied_same k).1 _ _ _ _).symm.trans (hs k hk)⟩
theorem both_same (a b : List S58) : ∃ p, (∀ k, 3000 ≤ k → spec_CountApart.f k a b = some p) ∧ (∀ k, 3000 ≤ k → impl_CountApart.f k a b = some p) := by
  unfold spec_CountApart.f spec_ncAsked.f impl_CountApart.f impl_countApart.f
  have j0 : ∀ k, 1 ≤ k → impl_countApart.j0 k a b true = some (0, false) := fun k hk => by
    obtain ⟨k, rfl⟩ : ∃ m, k = m + 1 := ⟨k - 1, by omega⟩
    rw [impl_countApart.j0.eq_2, if_pos rfl]
  by_cases hg : goodB a b = true
  · have hg' := hg
    unfold goodB at hg'
    rw [Bool.and_eq_true, Bool.and_eq_true] at hg'
    have l1 := of_decide_eq_true hg'.1
    have l2 := of_decide_eq_true hg'.2.1
    obtain ⟨ra, sa, ia⟩ := tied_run a l1.2
    obtain ⟨rb, sb, ib⟩ := tied_run b (by omega)
    cases ra with
    | false =>
      refine ⟨(0, false), fun k hk => ?_, fun k hk => ?_⟩
      · rw [spec_good2 a b (by omega), Option.bind_some, if_pos hg, sa k (by omega), Option.bind_some]; rfl
      · rw [impl_good2, Option.bind_some, if_pos hg, ia k (by omega), Option.bind_some, if_neg (by decide), j0 k (by omega)]; rfl
    | true =>
      cases rb with
      | false =>
        refine ⟨(0, false), fun k hk => ?_, fun k hk => ?_⟩
        · rw [spec_good2 a b (by omega), Option.bind_some, if_pos hg, sa k (by omega), Option.bind_some, if_pos rfl, sb k (by omega), Option.bind_some]; rfl
        · rw [impl_good2, Option.bind_some, if_pos hg, ia k (by omega), Option.bind_some, if_pos rfl, ib k (by omega), Option.bind_some, show (!false) = true from rfl, j0 k (by omega)]; rfl
      | true =>
        have hi : ∀ k, 3000 ≤ k → impl_countApart.j0 k a b (!true) = (impl_DeterminantOf.f (k - 1) (mat a b)).bind fun bt => some (bt.1, bt.2) := fun k hk => by
          obtain ⟨k, rfl⟩ : ∃ m, k = m + 1 := ⟨k - 1, by omega⟩
          rw [impl_countApart.j0.eq_2, if_neg (by decide), (mat_run a b hg (by omega)).2, Option.bind_some]; rfl
        unfold impl_DeterminantOf.f at hi
        cases hm : matB (mat a b) with
        | true =>
          obtain ⟨h4, hs⟩ := mat_sq hm
          refine ⟨(det (mat a b).length (mat a b), true), fun k hk => ?_, fun k hk => ?_⟩
          · rw [spec_good2 a b (by omega), Option.bind_some, if_pos hg, sa k (by omega), Option.bind_some, if_pos rfl, sb k (by omega), Option.bind_some, if_pos rfl, (mat_run a b hg (by omega)).1, Option.bind_some, spec_mat _ (by omega), hm, Option.bind_some, Option.bind_some, if_pos rfl, Option.bind_some, spec_det _ h4 _ hs k (by omega), Option.bind_some]
          · rw [impl_good2, Option.bind_some, if_pos hg, ia k (by omega), Option.bind_some, if_pos rfl, ib k (by omega), Option.bind_some, hi k hk, impl_mat, hm, Option.bind_some, if_pos rfl, impl_det _ h4 _ hs (k - 1) (by omega)]; rfl
        | false =>
          refine ⟨(0, false), fun k hk => ?_, fun k hk => ?_⟩
          · rw [spec_good2 a b (by omega), Option.bind_some, if_pos hg, sa k (by omega), Option.bind_some, if_pos rfl, sb k (by omega), Option.bind_some, if_pos rfl, (mat_run a b hg (by omega)).1, Option.bind_some, spec_mat _ (by omega), hm, Option.bind_some, Option.bind_some]; rfl
          · rw [impl_good2, Option.bind_some, if_pos hg, ia k (by omega), Option.bind_some, if_pos rfl, ib k (by omega), Option.bind_some, hi k hk, impl_mat, hm, Option.bind_some]; rfl
  · refine ⟨(0, false), fun k hk => ?_, fun k hk => ?_⟩
    · rw [spec_good2 a b (by omega), Option.bind_some, if_neg hg]; rfl
    · rw [impl_good2, Option.bind_some, if_neg hg, j0 k (by omega)]; rfl
theorem FnExactCountApart : ∀ (l0 : List S64) (l1 : List S64), (l0.length ≤ 9223372036854775807 ∧ ∀ c ∈ l0, (Lit.int .i64 c.f0).wf = true ∧ (Lit.int .i64 c.f1).wf = true) → (l1.length ≤ 9223372036854775807 ∧ ∀ c ∈ l1, (Lit.int .i64 c.f0).wf = true ∧ (Lit.int .i64 c.f1).wf = true) → ∃ k, laws_FnExactCountApart.f k l0 l1 = some true := by
  intro a b ⟨ha, _⟩ ⟨hb, _⟩
  obtain ⟨K, hK⟩ : ∃ K : Nat, 1048580 < K := ⟨1048581, by omega⟩
  refine ⟨K + 1, ?_⟩
  unfold laws_FnExactCountApart.f
  obtain ⟨z, hz, hz'⟩ := szC_run a b ha hb
  rw [hz, Option.bind_some]
  by_cases h : z < 0
  · rw [if_pos h]
  obtain ⟨h1, _, _, y, hy, hy'⟩ := hz'.resolve_left h
  rw [if_neg h, hy, Option.bind_some]
  by_cases g : y < 0
  · rw [if_pos g]
  have h2 := hy'.resolve_left g
  obtain ⟨p, s1, s2⟩ := both_same (a.map cv) (b.map cv)
  have ta : ∀ k, K ≤ k → laws_toCellS.f k a = some (a.map cv) := fun k hk => toC_run a h1 (by omega)
  have tb : ∀ k, K ≤ k → laws_toCellS.f k b = some (b.map cv) := fun k hk => toC_run b h2 (by omega)
  have ea : ∀ k, K ≤ k → laws_eqCellS.f k (a.map cv) (a.map cv) = some true := fun k hk => eqC_run _ (by rw [List.length_map]; exact h1) (by omega)
  have eb : ∀ k, K ≤ k → laws_eqCellS.f k (b.map cv) (b.map cv) = some true := fun k hk => eqC_run _ (by rw [List.length_map]; exact h2) (by omega)
  rw [if_neg g, ta _ (by omega), Option.bind_some, tb _ (by omega), Option.bind_some, s1 _ (by omega), Option.bind_some, Option.bind_some, Option.bind_some, s2 _ (by omega), Option.bind_some, if_pos rfl, laws_FnExactCountApart.j0.eq_2, if_neg (by simp), ta _ (by omega), Option.bind_some, ea _ (by omega), Option.bind_some, if_pos rfl, tb _ (by omega), Option.bind_some, eb _ (by omega), Option.bind_some, if_pos rfl]
end Go.Proofs.Ytaneoolaknnkaaa.Pure
