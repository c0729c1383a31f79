/- The numbers of ways from each start to each end: both sides count them alike, row by row. No condition. -/
import Derived.Test.YtaneoolaknnkaaaOFnExactWaysMatrixx5
namespace Go.Proofs.Ytaneoolaknnkaaa.Pure
open Go.RowKit Go.Proofs.Ytaneoolaknnkaaa.Stub Go.Proofs.Ytaneoolaknnkaaa.OFnExactWaysMatrix Go.Proofs.YtaneoolaknnkaaaW.PrintWords Go.Proofs.YtaneoolaknnkaaaW.PrintLast
set_option linter.unusedVariables false
set_option linter.unusedSimpArgs false
theorem w64 {n : Int} (h0 : -9223372036854775808 ≤ n) (h1 : n ≤ 9223372036854775807) : wrap64 n = n := by unfold wrap64; omega
theorem wf_bd {n : Int} (h : (Lit.int .i64 n).wf = true) : -9223372036854775808 ≤ n ∧ n ≤ 9223372036854775807 := by
  unfold Lit.wf at h
  rw [Bool.and_eq_true] at h
  exact ⟨of_decide_eq_true h.1, of_decide_eq_true h.2⟩
theorem wN (n : Nat) (h : n ≤ 1000000000000) : wrap64 ((n : Int) + 1) = ((n + 1 : Nat) : Int) := by rw [w64 (by omega) (by omega)]; omega

theorem in_eq (a b c : Int) : impl_in.f a b c = some (decide (b ≤ a ∧ a ≤ c)) := by
  unfold impl_in.f
  by_cases h1 : b ≤ a <;> by_cases h2 : a ≤ c <;> simp [h1, h2]
theorem l1In_eq (a b c : Int) : spec_l1In.f a b c = some (decide (b ≤ a ∧ a ≤ c)) := by
  unfold spec_l1In.f
  by_cases h1 : b ≤ a <;> by_cases h2 : a ≤ c <;> simp [h1, h2]

/- How many ways there are to choose, by Pascal's rule; the product's rule; both programs come to it. -/
def C : Nat → Nat → Nat
  | _, 0 => 1
  | 0, _ + 1 => 0
  | n + 1, k + 1 => C n k + C n (k + 1)
theorem C_0 (n : Nat) : C n 0 = 1 := by cases n <;> rfl
theorem C_far : ∀ (n k : Nat), n < k → C n k = 0
  | 0, 0, h => by omega
  | 0, k + 1, _ => rfl
  | n + 1, 0, h => by omega
  | n + 1, k + 1, h => by simp only [C]; rw [C_far n k (by omega), C_far n (k + 1) (by omega)]
theorem C_mul : ∀ (n k : Nat), C n (k + 1) * (k + 1) = C n k * (n - k)
  | 0, k => by simp [C]
  | n + 1, 0 => by
    have := C_mul n 0
    simp only [C, C_0] at this ⊢
    omega
  | n + 1, k + 1 => by
    have h1 := C_mul n (k + 1)
    have h2 := C_mul n k
    simp only [C]
    by_cases h : k + 1 ≤ n
    · rw [Nat.add_mul, Nat.add_mul, h1, show n + 1 - (k + 1) = n - k by omega, ← h2, ← Nat.mul_add, ← Nat.mul_add]
      congr 1; omega
    · rw [C_far n (k + 1) (by omega), C_far n (k + 1 + 1) (by omega), show n + 1 - (k + 1) = 0 by omega]; simp
theorem C_self : ∀ n : Nat, C n n = 1
  | 0 => rfl
  | n + 1 => by simp only [C]; rw [C_self n, C_far n (n + 1) (by omega)]
theorem C_sym : ∀ (n a b : Nat), a + b = n → C n a = C n b
  | 0, a, b, h => by obtain rfl : a = 0 := by omega
                     obtain rfl : b = 0 := by omega
                     rfl
  | n + 1, 0, b, h => by obtain rfl : b = n + 1 := by omega
                         rw [C_0, C_self]
  | n + 1, a + 1, 0, h => by obtain rfl : a = n := by omega
                             rw [C_0, C_self]
  | n + 1, a + 1, b + 1, h => by
    simp only [C]
    rw [C_sym n a (b + 1) (by omega), C_sym n (a + 1) b (by omega), Nat.add_comm]
theorem C_le : ∀ (n k : Nat), C n k ≤ 2 ^ n
  | 0, 0 => by decide
  | 0, k + 1 => by simp [C]
  | n + 1, 0 => by rw [C_0]; exact Nat.one_le_two_pow
  | n + 1, k + 1 => by
    have h1 := C_le n k; have h2 := C_le n (k + 1)
    simp only [C]; rw [Nat.pow_succ]; omega
theorem C_pos (n k : Nat) (h : k ≤ n) : 0 < C n k := by
  induction n generalizing k with
  | zero => obtain rfl : k = 0 := by omega
            decide
  | succ n ih =>
    cases k with
    | zero => rw [C_0]; omega
    | succ k => simp only [C]; have := ih k (by omega); omega
theorem C_bd {n k : Nat} (h : n ≤ 40) : C n k ≤ 1099511627776 := by
  have h1 := C_le n k
  have h2 : 2 ^ n ≤ 2 ^ 40 := Nat.pow_le_pow_right (by omega) h
  have h3 : (2 : Nat) ^ 40 = 1099511627776 := by decide
  omega
theorem wadd1 (n : Nat) (h : n ≤ 1000000) : wrap64 ((n : Int) + 1) = ((n + 1 : Nat) : Int) := by rw [w64 (by omega) (by omega)]; omega
theorem wsub1 (n : Nat) (h1 : 1 ≤ n) (h : n ≤ 1000000) : wrap64 ((n : Int) - 1) = ((n - 1 : Nat) : Int) := by rw [w64 (by omega) (by omega)]; omega
theorem wsubn (n i : Nat) (h1 : i ≤ n) (h : n ≤ 1000000) : wrap64 ((n : Int) - (i : Int)) = ((n - i : Nat) : Int) := by rw [w64 (by omega) (by omega)]; omega
theorem wmuln (x y : Nat) (h : x * y ≤ 1000000000000000) : wrap64 ((x : Int) * (y : Int)) = ((x * y : Nat) : Int) := by rw [← Int.natCast_mul, w64 (by omega) (by omega)]
theorem waddn (x y : Nat) (h : x + y ≤ 1000000000000000) : wrap64 ((x : Int) + (y : Int)) = ((x + y : Nat) : Int) := by rw [w64 (by omega) (by omega)]; omega
theorem wdiv (x q d : Nat) (hd : 0 < d) (h : q * d = x) (hq : q ≤ 1000000000000000) : wrap64 (Int.tdiv (x : Int) (d : Int)) = (q : Int) := by
  rw [← h, Int.natCast_mul, Int.mul_tdiv_cancel _ (by omega)]
  exact w64 (by omega) (by omega)
theorem impl_choose_l0 {n K : Nat} (hn : n ≤ 40) (hK : K ≤ n) : ∀ (d i k : Nat), i + d = K → d < k → impl_choose.l0 k (n : Int) ((C n i : Nat) : Int) (K : Int) (i : Int) = some ((C n K : Nat) : Int) := by
  intro d
  induction d with
  | zero =>
    intro i k hd hk
    obtain ⟨k, rfl⟩ : ∃ m, k = m + 1 := ⟨k - 1, by omega⟩
    rw [impl_choose.l0.eq_2, if_neg (by omega), show i = K by omega]
  | succ d ih =>
    intro i k hd hk
    obtain ⟨k, rfl⟩ : ∃ m, k = m + 1 := ⟨k - 1, by omega⟩
    have hb := C_bd (n := n) (k := i) hn
    have hm := C_mul n i
    have hb1 : C n i * (n - i) ≤ 1099511627776 * 40 := Nat.mul_le_mul hb (by omega)
    have hb2 := C_bd (n := n) (k := i + 1) hn
    rw [impl_choose.l0.eq_2, if_pos (by omega), wadd1 i (by omega), if_neg (by omega), wsubn n i (by omega) (by omega), wmuln _ _ (by omega), wdiv _ _ _ (by omega) hm (by omega)]
    exact ih (i + 1) k (by omega) (by omega)
theorem impl_choose_run {n K : Nat} (hn : n ≤ 40) (hK : K ≤ n) {k : Nat} (hk : 50 ≤ k) : impl_choose.f k (n : Int) (K : Int) = some ((C n K : Nat) : Int) := by
  unfold impl_choose.f
  rw [in_eq, Option.bind_some, decide_eq_true (by omega), if_pos rfl]
  have := impl_choose_l0 hn hK K 0 k (by omega) (by omega)
  rw [C_0] at this
  exact this
/- the reference's row -/
def Rw (K i j : Nat) : List Int := (List.range (K + 1)).map fun t => if t ≤ j then ((C (i - 1) t : Nat) : Int) else ((C i t : Nat) : Int)
theorem Rw_len (K i j : Nat) : (Rw K i j).length = K + 1 := by simp [Rw]
theorem Rw_get {K i j t : Nat} (h : t ≤ K) : rd (Rw K i j) (t : Int) = if t ≤ j then ((C (i - 1) t : Nat) : Int) else ((C i t : Nat) : Int) := by
  unfold rd Rw
  rw [Int.toNat_natCast, List.getD_eq_getElem?_getD, List.getElem?_map, List.getElem?_range (by omega)]
  rfl
theorem Rw_step {K i j : Nat} (hj : j + 1 ≤ K) (hi : 1 ≤ i) : (Rw K i (j + 1)).set (j + 1) ((C i (j + 1) : Nat) : Int) = Rw K i j := by
  apply List.ext_getElem
  · simp [Rw]
  · intro t h1 h2
    simp only [Rw, List.length_map, List.length_range] at h2
    by_cases e : t = j + 1
    · subst e
      rw [List.getElem_set_self]
      simp only [Rw, List.getElem_map, List.getElem_range]
      rw [if_neg (by omega)]
    · rw [List.getElem_set_ne (by omega)]
      simp only [Rw, List.getElem_map, List.getElem_range]
      by_cases e2 : t ≤ j
      · rw [if_pos (by omega), if_pos e2]
      · rw [if_neg (by omega), if_neg e2]
theorem Rw_next (K i : Nat) : Rw K i 0 = Rw K (i + 1) (K + (i + 1)) := by
  apply List.ext_getElem
  · simp [Rw]
  · intro t h1 h2
    simp only [Rw, List.length_map, List.length_range] at h2
    simp only [Rw, List.getElem_map, List.getElem_range]
    rw [if_pos (show t ≤ K + (i + 1) by omega), show i + 1 - 1 = i from rfl]
    by_cases e : t ≤ 0
    · obtain rfl : t = 0 := by omega
      rw [if_pos e, C_0, C_0]
    · rw [if_neg e]
theorem Rw_cut (K i : Nat) (hi : 1 ≤ i) {j : Nat} (h : K ≤ j ∨ i ≤ j) : Rw K i (K + i) = Rw K i j := by
  apply List.ext_getElem
  · simp [Rw]
  · intro t h1 h2
    simp only [Rw, List.length_map, List.length_range] at h2
    simp only [Rw, List.getElem_map, List.getElem_range]
    rw [if_pos (by omega)]
    by_cases e : t ≤ j
    · rw [if_pos e]
    · rw [if_neg e, C_far i t (by omega), C_far (i - 1) t (by omega)]
theorem spec_l1_run {n K i : Nat} (hn : n ≤ 40) (hi : 1 ≤ i) (hi' : i ≤ n) : ∀ (j k : Nat), j ≤ K → K ≤ 40 → spec_paChoose.l1 (k + j + 1) (n : Int) (K : Int) (Rw K i j) (i : Int) (j : Int) = spec_paChoose.l0 k (n : Int) (K : Int) (Rw K i 0) ((i + 1 : Nat) : Int) := by
  intro j
  induction j with
  | zero =>
    intro k _ _
    rw [show k + 0 + 1 = k + 1 from rfl, spec_paChoose.l1.eq_2, if_neg (by omega), wadd1 i (by omega)]
  | succ j ih =>
    intro k hj hK
    have b1 := C_bd (n := i - 1) (k := j + 1) (by omega)
    have b2 := C_bd (n := i - 1) (k := j) (by omega)
    have hl := Rw_len K i (j + 1)
    have hC : C (i - 1) (j + 1) + C (i - 1) j = C i (j + 1) := by
      obtain ⟨q, rfl⟩ : ∃ q, i = q + 1 := ⟨i - 1, by omega⟩
      rw [Nat.add_comm]; rfl
    rw [show k + (j + 1) + 1 = (k + j + 1) + 1 from rfl, spec_paChoose.l1.eq_2, if_pos (by omega), if_pos (by omega), if_pos (by omega), wsub1 (j + 1) (by omega) (by omega), if_pos (by omega), if_pos (by omega), show j + 1 - 1 = j from rfl,
      Rw_get (by omega), Rw_get (by omega), if_pos (by omega), if_pos (by omega), waddn _ _ (by omega), hC, Int.toNat_natCast, Rw_step (by omega) hi]
    exact ih k (by omega) hK
theorem spec_l0_run {n K : Nat} (hn : n ≤ 40) (hK : K ≤ n) : ∀ (d i k : Nat), 1 ≤ i → i + d = n + 1 → d * (K + 3) < k → spec_paChoose.l0 k (n : Int) (K : Int) (Rw K i (K + i)) (i : Int) = some ((C n K : Nat) : Int) := by
  intro d
  induction d with
  | zero =>
    intro i k hi hd hk
    obtain ⟨k, rfl⟩ : ∃ m, k = m + 1 := ⟨k - 1, by omega⟩
    have hl := Rw_len K i (K + i)
    rw [spec_paChoose.l0.eq_2, if_neg (by omega), if_pos (by omega), if_pos (by omega), Rw_get (by omega), if_pos (by omega), show i - 1 = n by omega]
  | succ d ih =>
    intro i k hi hd hk
    obtain ⟨k, rfl⟩ : ∃ m, k = m + 1 := ⟨k - 1, by omega⟩
    rw [Nat.add_mul] at hk
    have hl1 : spec_l1Least.f (i : Int) (K : Int) = some ((min i K : Nat) : Int) := by
      unfold spec_l1Least.f
      by_cases h : (i : Int) < K
      · rw [if_pos h, Nat.min_eq_left (by omega)]
      · rw [if_neg h, Nat.min_eq_right (by omega)]
    rw [spec_paChoose.l0.eq_2, if_pos (by omega), hl1, Option.bind_some, Rw_cut K i hi (j := min i K) (by omega)]
    have hmin : min i K ≤ K := Nat.min_le_right _ _
    obtain ⟨q, rfl⟩ : ∃ q, k = q + min i K + 1 := ⟨k - (min i K + 1), by omega⟩
    rw [spec_l1_run hn hi (by omega) (min i K) q hmin (by omega), Rw_next]
    exact ih (i + 1) q (by omega) (by omega) (by omega)
theorem spec_choose_run {n K : Nat} (hn : n ≤ 40) (hK : K ≤ n) {k : Nat} (hk : 2000 ≤ k) : spec_paChoose.f k (n : Int) (K : Int) = some ((C n K : Nat) : Int) := by
  obtain ⟨k, rfl⟩ : ∃ m, k = m + 1 := ⟨k - 1, by omega⟩
  have er : (List.replicate (K + 1) (0 : Int)).set 0 1 = Rw K 1 (K + 1) := by
    apply List.ext_getElem
    · simp [Rw]
    · intro t h1 h2
      simp only [Rw, List.length_map, List.length_range] at h2
      simp only [Rw, List.getElem_map, List.getElem_range]
      rw [if_pos (by omega)]
      by_cases ht : t = 0
      · subst ht; simp [C]
      · rw [List.getElem_set_ne (by omega)]
        obtain ⟨q, rfl⟩ : ∃ q, t = q + 1 := ⟨t - 1, by omega⟩
        simp [C]
  have hf : n * (K + 3) ≤ 1720 := by
    have := Nat.mul_le_mul hn (show K + 3 ≤ 43 by omega)
    omega
  have := spec_l0_run hn hK n 1 k (by omega) (by omega) (by omega)
  unfold spec_paChoose.f
  rw [if_neg (by omega), decide_eq_false (by omega), spec_paChoose.j0.eq_2, if_neg (by decide), wadd1 K (by omega), if_pos (by omega), if_pos (by omega), Int.toNat_natCast, Option.bind_some, if_pos (by rw [List.length_replicate]; omega), show ((0 : Int)).toNat = 0 from rfl, er]
  exact this

/- Cells: read anew, compared, tested. -/
def cv (c : S64) : S58 := ⟨c.f0, c.f1⟩
theorem rd64_get {L : List S64} {i : Nat} (h : i < L.length) : rd_T64 L (i : Int) = L[i] := by
  unfold rd_T64
  rw [Int.toNat_natCast, List.getD_eq_getElem?_getD, List.getElem?_eq_getElem h]; rfl
theorem rd58_get {L : List S58} {i : Nat} (h : i < L.length) : rd_T58 L (i : Int) = L[i] := by
  unfold rd_T58
  rw [Int.toNat_natCast, List.getD_eq_getElem?_getD, List.getElem?_eq_getElem h]; rfl
theorem toC_from (L : List S64) (hL : L.length ≤ 1048576) : ∀ (d i k : Nat) (M : List S58), i + d = L.length → M.length = L.length → M.take i = (L.map cv).take i → d < k → laws_toCellS.l0 k L M (i : Int) = some (L.map cv) := by
  intro d
  induction d with
  | zero =>
    intro i k M hd hM ht hk
    obtain ⟨k, rfl⟩ : ∃ m, k = m + 1 := ⟨k - 1, by omega⟩
    rw [laws_toCellS.l0.eq_2, if_neg (by omega)]
    rw [List.take_of_length_le (by omega), List.take_of_length_le (by rw [List.length_map]; omega)] at ht
    rw [ht]
  | succ d ih =>
    intro i k M hd hM ht hk
    obtain ⟨k, rfl⟩ : ∃ m, k = m + 1 := ⟨k - 1, by omega⟩
    have hi : i < L.length := by omega
    unfold laws_toCellS.l0 laws_toCell.f
    rw [if_pos (by omega), if_pos (by omega), Option.bind_some, if_pos (by omega), wN i (by omega), Int.toNat_natCast, rd64_get hi]
    refine ih (i + 1) k _ (by omega) (by rw [List.length_set]; omega) ?_ (by omega)
    rw [List.take_succ_eq_append_getElem (by rw [List.length_set]; omega), List.take_succ_eq_append_getElem (by rw [List.length_map]; omega), List.take_set_of_le (Nat.le_refl i), ht, List.getElem_set_self, List.getElem_map]
    rfl
theorem toC_run (L : List S64) (hL : L.length ≤ 1048576) {k : Nat} (hk : 1048580 < k) : laws_toCellS.f k L = some (L.map cv) := by
  unfold laws_toCellS.f
  rw [if_pos (by omega), Int.toNat_natCast, if_pos (by omega)]
  exact toC_from L hL L.length 0 k _ (by omega) (by simp) (by simp) (by omega)
theorem eqC_from (L : List S58) (hL : L.length ≤ 1048576) : ∀ (d i k : Nat), i + d = L.length → d < k → laws_eqCellS.l0 k L L (i : Int) = some true := by
  intro d
  induction d with
  | zero =>
    intro i k hd hk
    obtain ⟨k, rfl⟩ : ∃ m, k = m + 1 := ⟨k - 1, by omega⟩
    rw [laws_eqCellS.l0.eq_2, if_neg (by omega)]
  | succ d ih =>
    intro i k hd hk
    obtain ⟨k, rfl⟩ : ∃ m, k = m + 1 := ⟨k - 1, by omega⟩
    unfold laws_eqCellS.l0 laws_eqCell.f
    rw [if_pos (by omega), if_pos (by omega), if_pos (by omega), if_pos rfl, if_pos rfl, Option.bind_some, if_pos rfl, wN i (by omega)]
    exact ih (i + 1) k (by omega) (by omega)
theorem eqC_run (L : List S58) (hL : L.length ≤ 1048576) {k : Nat} (hk : 1048580 < k) : laws_eqCellS.f k L L = some true := by
  unfold laws_eqCellS.f
  rw [if_pos rfl]
  exact eqC_from L hL L.length 0 k (by omega) (by omega)
theorem szC_run (a b : List S64) (ha : a.length ≤ 9223372036854775807) (hb : b.length ≤ 9223372036854775807) : ∃ z, laws_szCellS.f a 1048576 = some z ∧ (z < 0 ∨ a.length ≤ 1048576 ∧ 0 ≤ z ∧ z ≤ 1048576 ∧ ∃ y, laws_szCellS.f b z = some y ∧ (y < 0 ∨ b.length ≤ 1048576)) := by
  unfold laws_szCellS.f
  rw [w64 (n := 1048576 - (a.length : Int)) (by omega) (by omega)]
  by_cases h1 : 1048576 - (a.length : Int) < 0
  · rw [if_pos h1]; exact ⟨_, rfl, .inl (by omega)⟩
  · rw [if_neg h1]
    refine ⟨_, rfl, .inr ⟨by omega, by omega, by omega, ?_⟩⟩
    rw [w64 (n := 1048576 - (a.length : Int) - (b.length : Int)) (by omega) (by omega)]
    by_cases h2 : 1048576 - (a.length : Int) - (b.length : Int) < 0
    · rw [if_pos h2]; exact ⟨_, rfl, .inl (by omega)⟩
    · rw [if_neg h2]; exact ⟨_, rfl, .inr (by omega)⟩
theorem spec_cell (x : S58) : spec_ncCell.f x.f0 x.f1 = some (!badCell x) := by
  unfold spec_ncCell.f badCell outB
  rw [l1In_eq, Option.bind_some]
  by_cases h : 0 ≤ x.f0 ∧ x.f0 ≤ 12
  · rw [if_pos (decide_eq_true h), if_pos h, l1In_eq, Option.bind_some, Bool.not_not, Bool.decide_and]
  · rw [if_neg (by rw [decide_eq_false h]; decide), if_neg h]; rfl
/-- Whether two lists are starts and ends. -/
def goodB (a b : List S58) : Bool := decide (1 ≤ a.length ∧ a.length ≤ 4) && (decide (a.length = b.length) && (!(a.any badCell) && !(b.any badCell)))
theorem impl_good2 (a b : List S58) : impl_areEnds.f a b = some (goodB a b) := by
  unfold impl_areEnds.f goodB
  by_cases h1 : 1 ≤ a.length ∧ a.length ≤ 4
  · rw [if_pos (by omega), decide_eq_true h1, Bool.true_and]
    by_cases h2 : a.length = b.length
    · rw [if_pos (by omega), decide_eq_true h2, Bool.true_and]
      cases a.any badCell <;> simp
    · rw [if_neg (by omega), decide_eq_false h2, Bool.false_and]
  · rw [if_neg (by omega), decide_eq_false h1, Bool.false_and]
theorem good_from (a b : List S58) (ha : a.length ≤ 4) (hab : a.length = b.length) : ∀ (d i k : Nat), i + d = a.length → d < k → spec_ncGood.l0 k b a (a.length : Int) (i : Int) = some (!((a.drop i).any badCell) && !((b.drop i).any badCell)) := by
  intro d
  induction d with
  | zero =>
    intro i k hd hk
    obtain ⟨k, rfl⟩ : ∃ m, k = m + 1 := ⟨k - 1, by omega⟩
    rw [spec_ncGood.l0.eq_2, if_neg (by omega), List.drop_of_length_le (by omega), List.drop_of_length_le (by omega)]; rfl
  | succ d ih =>
    intro i k hd hk
    obtain ⟨k, rfl⟩ : ∃ m, k = m + 1 := ⟨k - 1, by omega⟩
    have hi : i < a.length := by omega
    have hj : i < b.length := by omega
    rw [spec_ncGood.l0.eq_2, if_pos (by omega), if_pos (by omega), if_pos (by omega), rd58_get hi, spec_cell, Option.bind_some, List.drop_eq_getElem_cons hi, List.drop_eq_getElem_cons hj, List.any_cons, List.any_cons]
    cases h1 : badCell a[i] with
    | true => rw [if_neg (by decide)]; simp
    | false =>
      rw [if_pos (by decide), if_pos (by omega), rd58_get hj, spec_cell, Option.bind_some]
      cases h2 : badCell b[i] with
      | true => rw [if_neg (by decide)]; simp
      | false => rw [if_pos (by decide), wN i (by omega), ih (i + 1) k (by omega) (by omega), Bool.false_or, Bool.false_or]
theorem spec_good2 (a b : List S58) {k : Nat} (hk : 20 ≤ k) : spec_ncGood.f k a b = some (goodB a b) := by
  unfold spec_ncGood.f goodB
  obtain ⟨k, rfl⟩ : ∃ m, k = m + 1 := ⟨k - 1, by omega⟩
  rw [l1In_eq, Option.bind_some]
  by_cases h1 : 1 ≤ a.length ∧ a.length ≤ 4
  · rw [if_pos (decide_eq_true (by omega)), decide_eq_true h1, Bool.true_and, spec_ncGood.j0.eq_2]
    by_cases h2 : a.length = b.length
    · rw [if_neg (by rw [bne_iff_ne]; omega), decide_eq_true h2, Bool.true_and]
      exact good_from a b h1.2 h2 a.length 0 k (by omega) (by omega)
    · rw [if_pos (by rw [bne_iff_ne]; omega), decide_eq_false h2, Bool.false_and]
  · rw [if_neg (by rw [decide_eq_false (by omega)]; decide), decide_eq_false h1, Bool.false_and, spec_ncGood.j0.eq_2, if_pos rfl]
/-- How many ways lead from a cell to another one. -/
def cnt (x y : S58) : Int := if y.f0 < x.f0 ∨ y.f1 < x.f1 then 0 else ((C ((y.f0 - x.f0) + (y.f1 - x.f1)).toNat (y.f0 - x.f0).toNat : Nat) : Int)
theorem good_cell {x : S58} (h : badCell x = false) : 0 ≤ x.f0 ∧ x.f0 ≤ 12 ∧ 0 ≤ x.f1 ∧ x.f1 ≤ 12 := by
  unfold badCell at h
  by_cases c : 0 ≤ x.f0 ∧ x.f0 ≤ 12
  · rw [if_pos c] at h
    unfold outB at h
    rw [Bool.not_eq_false', Bool.and_eq_true] at h
    exact ⟨c.1, c.2, of_decide_eq_true h.1, of_decide_eq_true h.2⟩
  · rw [if_neg c] at h; cases h
theorem spec_cnt {x y : S58} (hx : badCell x = false) (hy : badCell y = false) {k : Nat} (hk : 2000 ≤ k) : spec_ncCount.f k x.f0 x.f1 y.f0 y.f1 = some (cnt x y) := by
  have h1 := good_cell hx; have h2 := good_cell hy
  unfold spec_ncCount.f cnt
  rw [w64 (n := y.f0 - x.f0) (by omega) (by omega), w64 (n := y.f1 - x.f1) (by omega) (by omega), w64 (n := y.f0 - x.f0 + (y.f1 - x.f1)) (by omega) (by omega)]
  by_cases c1 : y.f0 - x.f0 < 0
  · rw [if_pos c1, if_pos (by omega)]
  · by_cases c2 : y.f1 - x.f1 < 0
    · rw [if_neg c1, if_pos c2, if_pos (by omega)]
    · obtain ⟨p, hp⟩ : ∃ p : Nat, y.f0 - x.f0 = p := ⟨(y.f0 - x.f0).toNat, by omega⟩
      obtain ⟨q, hq⟩ : ∃ q : Nat, y.f0 - x.f0 + (y.f1 - x.f1) = q := ⟨(y.f0 - x.f0 + (y.f1 - x.f1)).toNat, by omega⟩
      rw [if_neg c1, if_neg c2, if_neg (by omega), hq, hp, spec_choose_run (n := q) (K := p) (by omega) (by omega) hk, Option.bind_some, Int.toNat_natCast, Int.toNat_natCast]
theorem impl_cnt {x y : S58} (hx : badCell x = false) (hy : badCell y = false) {k : Nat} (hk : 2000 ≤ k) : impl_ways.f k x.f0 x.f1 y.f0 y.f1 = some (cnt x y) := by
  have h1 := good_cell hx; have h2 := good_cell hy
  unfold impl_ways.f cnt
  rw [w64 (n := y.f0 - x.f0) (by omega) (by omega), w64 (n := y.f0 - x.f0 + y.f1) (by omega) (by omega), w64 (n := y.f0 - x.f0 + y.f1 - x.f1) (by omega) (by omega), show y.f0 - x.f0 + y.f1 - x.f1 = y.f0 - x.f0 + (y.f1 - x.f1) by omega]
  by_cases c1 : y.f0 < x.f0
  · rw [if_pos c1, if_pos (by omega)]
  · by_cases c2 : y.f1 < x.f1
    · rw [if_neg c1, if_pos c2, if_pos (by omega)]
    · obtain ⟨p, hp⟩ : ∃ p : Nat, y.f0 - x.f0 = p := ⟨(y.f0 - x.f0).toNat, by omega⟩
      obtain ⟨q, hq⟩ : ∃ q : Nat, y.f0 - x.f0 + (y.f1 - x.f1) = q := ⟨(y.f0 - x.f0 + (y.f1 - x.f1)).toNat, by omega⟩
      rw [if_neg c1, if_neg c2, if_neg (by omega), hq, hp, impl_choose_run (n := q) (K := p) (by omega) (by omega) (by omega), Option.bind_some, Int.toNat_natCast, Int.toNat_natCast]
/-- The numbers of ways. -/
def mat (a b : List S58) : List (List Int) := a.map fun x => b.map fun y => cnt x y
theorem no_bad {L : List S58} (h : L.any badCell = false) {i : Nat} (hi : i < L.length) : badCell L[i] = false := by
  rw [List.any_eq_false] at h
  have := h L[i] (List.getElem_mem hi)
  simpa using this
theorem mat_rows (a b : List S58) (ha : a.length ≤ 4) (hb : b.length ≤ 4) (ga : a.any badCell = false) (gb : b.any badCell = false) : ∀ (d i k : Nat), i + d = a.length → 2000 + 10 * d ≤ k →
    spec_ncMatrix.l0 k b ((a.take i).map fun x => b.map fun y => cnt x y) a (a.length : Int) (i : Int) = some (mat a b) ∧ impl_waysMatrix.l0 k b ((a.take i).map fun x => b.map fun y => cnt x y) a (a.length : Int) (i : Int) = some (mat a b) := by
  intro d
  induction d with
  | zero =>
    intro i k hd hk
    obtain ⟨k, rfl⟩ : ∃ m, k = m + 1 := ⟨k - 1, by omega⟩
    rw [spec_ncMatrix.l0.eq_2, impl_waysMatrix.l0.eq_2, if_neg (by omega), if_neg (by omega), List.take_of_length_le (by omega)]
    exact ⟨rfl, rfl⟩
  | succ d ih =>
    intro i k hd hk
    have hi : i < a.length := by omega
    obtain ⟨k, rfl⟩ : ∃ m, k = (m + b.length + 1) + 1 := ⟨k - b.length - 2, by omega⟩
    have hx := no_bad ga hi
    have key : ∀ (e j : Nat), j + e = b.length → ∀ q, 2000 ≤ q →
        spec_ncMatrix.l1 (q + e + 1) b ((a.take i).map fun x => b.map fun y => cnt x y) ((b.take j).map fun y => cnt a[i] y) a (a.length : Int) (i : Int) b (b.length : Int) (j : Int) a[i].f0 a[i].f1 = spec_ncMatrix.l0 q b ((a.take (i + 1)).map fun x => b.map fun y => cnt x y) a (a.length : Int) ((i + 1 : Nat) : Int) ∧
        impl_waysMatrix.l1 (q + e + 1) b ((a.take i).map fun x => b.map fun y => cnt x y) ((b.take j).map fun y => cnt a[i] y) a (a.length : Int) (i : Int) b (b.length : Int) (j : Int) a[i].f0 a[i].f1 = impl_waysMatrix.l0 q b ((a.take (i + 1)).map fun x => b.map fun y => cnt x y) a (a.length : Int) ((i + 1 : Nat) : Int) := by
      intro e
      induction e with
      | zero =>
        intro j hj q hq
        have hrow : ((a.take (i + 1)).map fun x => b.map fun y => cnt x y) = ((a.take i).map fun x => b.map fun y => cnt x y) ++ [b.map fun y => cnt a[i] y] := by
          rw [List.take_succ_eq_append_getElem hi, List.map_append]; rfl
        constructor
        · rw [show q + 0 + 1 = q + 1 from rfl, spec_ncMatrix.l1.eq_2, if_neg (by omega), if_pos (by rw [List.length_map, List.length_take]; omega), wN i (by omega), hrow, List.take_of_length_le (l := b) (by omega)]
        · rw [show q + 0 + 1 = q + 1 from rfl, impl_waysMatrix.l1.eq_2, if_neg (by omega), if_pos (by rw [List.length_map, List.length_take]; omega), wN i (by omega), hrow, List.take_of_length_le (l := b) (by omega)]
      | succ e ihe =>
        intro j hj q hq
        have hjl : j < b.length := by omega
        have hy := no_bad gb hjl
        obtain ⟨r1, r2⟩ := ihe (j + 1) (by omega) q hq
        rw [List.take_succ_eq_append_getElem hjl, List.map_append] at r1 r2
        constructor
        · rw [show q + (e + 1) + 1 = (q + e + 1) + 1 from rfl, spec_ncMatrix.l1.eq_2, if_pos (by omega), if_pos (by omega), if_pos (by omega), rd58_get hjl, spec_cnt hx hy (by omega), Option.bind_some, if_pos (by rw [List.length_map, List.length_take]; omega), wN j (by omega)]
          exact r1
        · rw [show q + (e + 1) + 1 = (q + e + 1) + 1 from rfl, impl_waysMatrix.l1.eq_2, if_pos (by omega), if_pos (by omega), if_pos (by omega), rd58_get hjl, impl_cnt hx hy (by omega), Option.bind_some, if_pos (by rw [List.length_map, List.length_take]; omega), wN j (by omega)]
          exact r2
    obtain ⟨r1, r2⟩ := key b.length 0 (by omega) k (by omega)
    obtain ⟨s1, s2⟩ := ih (i + 1) k (by omega) (by omega)
    constructor
    · rw [spec_ncMatrix.l0.eq_2, if_pos (by omega), if_pos (by omega), if_pos (by omega), rd58_get hi]
      exact r1.trans s1
    · rw [impl_waysMatrix.l0.eq_2, if_pos (by omega), if_pos (by omega), if_pos (by omega), rd58_get hi]
      exact r2.trans s2
theorem mat_run (a b : List S58) (h : goodB a b = true) {k : Nat} (hk : 2100 ≤ k) : spec_ncMatrix.f k a b = some (mat a b) ∧ impl_waysMatrix.f k a b = some (mat a b) := by
  unfold goodB at h
  rw [Bool.and_eq_true, Bool.and_eq_true, Bool.and_eq_true] at h
  have h1 := of_decide_eq_true h.1
  have h2 := of_decide_eq_true h.2.1
  exact mat_rows a b h1.2 (by omega) (by simpa using h.2.2.1) (by simpa using h.2.2.2) a.length 0 k (by omega) (by omega)

theorem eqI_from (L : List Int) (hL : L.length ≤ 1048576) : ∀ (d i k : Nat), i + d = L.length → d < k → laws_eqIntS.l0 k L L (i : Int) = some true := by
  intro d
  induction d with
  | zero =>
    intro i k hd hk
    obtain ⟨k, rfl⟩ : ∃ m, k = m + 1 := ⟨k - 1, by omega⟩
    rw [laws_eqIntS.l0.eq_2, if_neg (by omega)]
  | succ d ih =>
    intro i k hd hk
    obtain ⟨k, rfl⟩ : ∃ m, k = m + 1 := ⟨k - 1, by omega⟩
    rw [laws_eqIntS.l0.eq_2, if_pos (by omega), if_pos (by omega), if_pos (by omega), if_pos rfl, wN i (by omega)]
    exact ih (i + 1) k (by omega) (by omega)
theorem eqI_run (L : List Int) (hL : L.length ≤ 1048576) {k : Nat} (hk : L.length < k) : laws_eqIntS.f k L L = some true := by
  unfold laws_eqIntS.f
  rw [if_pos rfl]
  exact eqI_from L hL L.length 0 k (by omega) hk

theorem rdL_get {L : List (List Int)} {i : Nat} (h : i < L.length) : rd_L1 L (i : Int) = L[i] := by
  unfold rd_L1
  rw [Int.toNat_natCast, List.getD_eq_getElem?_getD, List.getElem?_eq_getElem h]; rfl
theorem eqSS_from (L : List (List Int)) (hL : L.length ≤ 1048576) (hrow : ∀ r ∈ L, r.length ≤ 1048576) : ∀ (d i k : Nat), i + d = L.length → d + 1048577 < k → laws_eqIntSS.l0 k L L (i : Int) = some true := by
  intro d
  induction d with
  | zero =>
    intro i k hd hk
    obtain ⟨k, rfl⟩ : ∃ m, k = m + 1 := ⟨k - 1, by omega⟩
    rw [laws_eqIntSS.l0.eq_2, if_neg (by omega)]
  | succ d ih =>
    intro i k hd hk
    obtain ⟨k, rfl⟩ : ∃ m, k = m + 1 := ⟨k - 1, by omega⟩
    have hi : i < L.length := by omega
    have hr := hrow L[i] (List.getElem_mem hi)
    rw [laws_eqIntSS.l0.eq_2, if_pos (by omega), if_pos (by omega), if_pos (by omega), rdL_get hi, eqI_run L[i] hr (by omega), Option.bind_some, if_pos rfl, wN i (by omega)]
    exact ih (i + 1) k (by omega) (by omega)
theorem eqSS_run (L : List (List Int)) (hL : L.length ≤ 1048576) (hrow : ∀ r ∈ L, r.length ≤ 1048576) {k : Nat} (hk : 3000000 < k) : laws_eqIntSS.f k L L = some true := by
  unfold laws_eqIntSS.f
  rw [if_pos rfl]
  exact eqSS_from L hL hrow L.length 0 k (by omega) (by omega)

/-- The numbers from m on. -/
def seqI (m n : Nat) : List Int := (List.range n).map fun i => ((m + i : Nat) : Int)
theorem seqI_len (m n : Nat) : (seqI m n).length = n := by simp [seqI]
theorem rd_seqI {m n i : Nat} (h : i < n) : rd (seqI m n) (i : Int) = ((m + i : Nat) : Int) := by
  unfold rd seqI
  rw [Int.toNat_natCast, List.getD_eq_getElem?_getD, List.getElem?_map, List.getElem?_range h]; rfl
theorem markI_from (m : Nat) (hm : m ≤ 1000000000) (n : Nat) (hn : n ≤ 1048576) : ∀ (d i k : Nat) (M : List Int), i + d = n → M.length = n → M.take i = (seqI m n).take i → d < k → laws_markIntS.l0 k M ((m + i : Nat) : Int) (i : Int) = some (((m + n : Nat) : Int), seqI m n) := by
  intro d
  induction d with
  | zero =>
    intro i k M hd hM ht hk
    obtain ⟨k, rfl⟩ : ∃ m, k = m + 1 := ⟨k - 1, by omega⟩
    rw [laws_markIntS.l0.eq_2, if_neg (by omega)]
    rw [List.take_of_length_le (by omega), List.take_of_length_le (by rw [seqI_len]; omega)] at ht
    rw [ht, show i = n by omega]
  | succ d ih =>
    intro i k M hd hM ht hk
    obtain ⟨k, rfl⟩ : ∃ m, k = m + 1 := ⟨k - 1, by omega⟩
    rw [laws_markIntS.l0.eq_2, if_pos (by omega), if_pos (by omega), wN (m + i) (by omega), wN i (by omega), Int.toNat_natCast, show m + i + 1 = m + (i + 1) by omega]
    refine ih (i + 1) k _ (by omega) (by rw [List.length_set]; omega) ?_ (by omega)
    rw [List.take_succ_eq_append_getElem (by rw [List.length_set]; omega), List.take_succ_eq_append_getElem (by rw [seqI_len]; omega), List.take_set_of_le (Nat.le_refl i), ht, List.getElem_set_self]
    congr 2
    simp [seqI]
theorem markI_run (L : List Int) (hL : L.length ≤ 1048576) {k : Nat} (hk : L.length < k) : laws_markIntS.f k L 1 = some (((1 + L.length : Nat) : Int), seqI 1 L.length) := by
  unfold laws_markIntS.f
  exact markI_from 1 (by omega) L.length hL L.length 0 k L (by omega) rfl (by simp) hk
theorem markI_at (L : List Int) (hL : L.length ≤ 1048576) (m : Nat) (hm : m ≤ 1000000000) {k : Nat} (hk : L.length < k) : laws_markIntS.f k L (m : Int) = some (((m + L.length : Nat) : Int), seqI m L.length) := by
  unfold laws_markIntS.f
  exact markI_from m hm L.length hL L.length 0 k L (by omega) rfl (by simp) hk
theorem heldI_from (m : Nat) (hm : m ≤ 1000000000) (n : Nat) (hn : n ≤ 1048576) : ∀ (d i k : Nat), i + d = n → d < k → laws_heldIntS.l0 k (seqI m n) ((m + i : Nat) : Int) (i : Int) = some ((m + n : Nat) : Int) := by
  intro d
  induction d with
  | zero =>
    intro i k hd hk
    obtain ⟨k, rfl⟩ : ∃ m, k = m + 1 := ⟨k - 1, by omega⟩
    rw [laws_heldIntS.l0.eq_2, if_neg (by rw [seqI_len]; omega), show i = n by omega]
  | succ d ih =>
    intro i k hd hk
    obtain ⟨k, rfl⟩ : ∃ m, k = m + 1 := ⟨k - 1, by omega⟩
    rw [laws_heldIntS.l0.eq_2, if_pos (by rw [seqI_len]; omega), if_pos (by omega), rd_seqI (by omega), if_pos rfl, wN (m + i) (by omega), wN i (by omega), show m + i + 1 = m + (i + 1) by omega]
    exact ih (i + 1) k (by omega) (by omega)
theorem heldI_run (n : Nat) (hn : n ≤ 1048576) {k : Nat} (hk : n < k) : laws_heldIntS.f k (seqI 1 n) 1 = some ((1 + n : Nat) : Int) := by
  unfold laws_heldIntS.f
  exact heldI_from 1 (by omega) n hn n 0 k (by omega) hk

theorem markC_some : ∀ (d i k : Nat) (M : List S58) (m : Int), i + d = M.length → d < k → 0 ≤ m → m + 2 * d ≤ 1000000000 → M.length ≤ 10000000 → ∃ M', laws_markCellS.l0 k M m (i : Int) = some (m + 2 * (d : Int), M') := by
  intro d
  induction d with
  | zero =>
    intro i k M m hd hk h0 hm hM
    obtain ⟨k, rfl⟩ : ∃ m, k = m + 1 := ⟨k - 1, by omega⟩
    rw [laws_markCellS.l0.eq_2, if_neg (by omega)]
    exact ⟨M, by simp⟩
  | succ d ih =>
    intro i k M m hd hk h0 hm hM
    obtain ⟨k, rfl⟩ : ∃ m, k = m + 1 := ⟨k - 1, by omega⟩
    have key : ∀ M1 : List S58, M1.length = M.length → ∃ M', laws_markCellS.l0 k M1 (m + 2) ((i + 1 : Nat) : Int) = some (m + 2 * ((d + 1 : Nat) : Int), M') := fun M1 h1 => by
      obtain ⟨M', h⟩ := ih (i + 1) k M1 (m + 2) (by omega) (by omega) (by omega) (by omega) (by omega)
      exact ⟨M', h.trans (by congr 2; omega)⟩
    have e1 : wrap64 (m + 1) = m + 1 := w64 (by omega) (by omega)
    have e2 : wrap64 (m + 1 + 1) = m + 2 := (w64 (by omega) (by omega)).trans (by omega)
    rw [laws_markCellS.l0.eq_2, if_pos (by clear e1 e2; omega), if_pos (by clear e1 e2; omega), Option.bind_some, e1, e2, wN i (by clear e1 e2; omega)]
    exact key _ (by rw [List.length_set, List.length_set])
theorem markC_run (M : List S58) (m : Int) (h0 : 0 ≤ m) (hm : m ≤ 100000000) (hM : M.length ≤ 1048576) {k : Nat} (hk : 1048580 ≤ k) : ∃ M', laws_markCellS.f k M m = some (m + 2 * (M.length : Int), M') := by
  unfold laws_markCellS.f
  exact markC_some M.length 0 k M m (by omega) (by omega) h0 (by omega) (by omega)
theorem rdL1 {L : List (List Int)} {i : Nat} (h : i < L.length) : rd_L1 L (i : Int) = L[i] := by
  unfold rd_L1
  rw [Int.toNat_natCast, List.getD_eq_getElem?_getD, List.getElem?_eq_getElem h]; rfl
/-- All marks: rows of one length. -/
def mss (c n : Nat) : List (List Int) := (List.range n).map fun i => seqI (1 + c * i) c
theorem mss_len (c n : Nat) : (mss c n).length = n := by simp [mss]
theorem markSS_from (c n : Nat) (hc : c ≤ 4) (hn : n ≤ 4) : ∀ (d i k : Nat) (M : List (List Int)), i + d = n → M.length = n → (∀ j (h : j < M.length), i ≤ j → M[j].length = c) → M.take i = (mss c n).take i → d + 100 < k → laws_markIntSS.l0 k M ((1 + c * i : Nat) : Int) (i : Int) = some (((1 + c * n : Nat) : Int), mss c n) := by
  intro d
  induction d with
  | zero =>
    intro i k M hd hM h2 ht hk
    obtain ⟨k, rfl⟩ : ∃ m, k = m + 1 := ⟨k - 1, by omega⟩
    rw [laws_markIntSS.l0.eq_2, if_neg (by omega)]
    rw [List.take_of_length_le (by omega), List.take_of_length_le (by rw [mss_len]; omega)] at ht
    rw [ht, show i = n by omega]
  | succ d ih =>
    intro i k M hd hM h2 ht hk
    obtain ⟨k, rfl⟩ : ∃ m, k = m + 1 := ⟨k - 1, by omega⟩
    have hi : i < M.length := by omega
    have hg : M.getD (i : Int).toNat [] = M[i] := by rw [Int.toNat_natCast, List.getD_eq_getElem?_getD, List.getElem?_eq_getElem hi]; rfl
    have hl := h2 i hi (Nat.le_refl _)
    have hb : c * i ≤ 16 := Nat.mul_le_mul hc (show i ≤ 4 by omega)
    rw [laws_markIntSS.l0.eq_2, if_pos (by omega), if_pos (by omega), hg, markI_at _ (by omega) _ (by omega) (by omega), Option.bind_some, wN i (by omega), Int.toNat_natCast, hl]
    show laws_markIntSS.l0 k (M.set i (seqI (1 + c * i) c)) ((1 + c * i + c : Nat) : Int) ((i + 1 : Nat) : Int) = _
    rw [show 1 + c * i + c = 1 + c * (i + 1) by rw [Nat.mul_succ]; omega]
    refine ih (i + 1) k _ (by omega) (by rw [List.length_set]; omega) ?_ ?_ (by omega)
    · intro j hj hij
      rw [List.length_set] at hj
      rw [List.getElem_set_ne (by omega)]
      exact h2 j hj (by omega)
    · rw [List.take_succ_eq_append_getElem (by rw [List.length_set]; omega), List.take_succ_eq_append_getElem (by rw [mss_len]; omega), List.take_set_of_le (Nat.le_refl i), ht, List.getElem_set_self]
      congr 2
      simp [mss]
theorem markSS_run (c : Nat) (L : List (List Int)) (hc : c ≤ 4) (hL : L.length ≤ 4) (h2 : ∀ r ∈ L, r.length = c) {k : Nat} (hk : 500 ≤ k) : laws_markIntSS.f k L 1 = some (((1 + c * L.length : Nat) : Int), mss c L.length) := by
  unfold laws_markIntSS.f
  exact markSS_from c L.length hc hL L.length 0 k L (by omega) rfl (fun j hj _ => h2 _ (List.getElem_mem hj)) (by simp) (by omega)
theorem heldI_at (m n : Nat) (hm : m ≤ 1000000000) (hn : n ≤ 1048576) {k : Nat} (hk : n < k) : laws_heldIntS.f k (seqI m n) (m : Int) = some ((m + n : Nat) : Int) := by
  unfold laws_heldIntS.f
  exact heldI_from m hm n hn n 0 k (by omega) hk
theorem heldSS_from (c n : Nat) (hc : c ≤ 4) (hn : n ≤ 4) : ∀ (d i k : Nat), i + d = n → d + 100 < k → laws_heldIntSS.l0 k (mss c n) ((1 + c * i : Nat) : Int) (i : Int) = some ((1 + c * n : Nat) : Int) := by
  intro d
  induction d with
  | zero =>
    intro i k hd hk
    obtain ⟨k, rfl⟩ : ∃ m, k = m + 1 := ⟨k - 1, by omega⟩
    rw [laws_heldIntSS.l0.eq_2, if_neg (by rw [mss_len]; omega), show i = n by omega]
  | succ d ih =>
    intro i k hd hk
    obtain ⟨k, rfl⟩ : ∃ m, k = m + 1 := ⟨k - 1, by omega⟩
    have hb : c * i ≤ 16 := Nat.mul_le_mul hc (show i ≤ 4 by omega)
    have hr : rd_L1 (mss c n) (i : Int) = seqI (1 + c * i) c := by rw [rdL1 (by rw [mss_len]; omega)]; simp [mss]
    rw [laws_heldIntSS.l0.eq_2, if_pos (by rw [mss_len]; omega), if_pos (by omega), hr, heldI_at _ _ (by omega) (by omega) (by omega), Option.bind_some, if_neg (by omega), wN i (by omega), show 1 + c * i + c = 1 + c * (i + 1) by rw [Nat.mul_succ]; omega]
    exact ih (i + 1) k (by omega) (by omega)
theorem heldSS_run (c n : Nat) (hc : c ≤ 4) (hn : n ≤ 4) {k : Nat} (hk : 500 ≤ k) : laws_heldIntSS.f k (mss c n) 1 = some ((1 + c * n : Nat) : Int) := by
  unfold laws_heldIntSS.f
  exact heldSS_from c n hc hn n 0 k (by omega) (by omega)
/- both answers -/
theorem same (a b : List S58) : ∃ L t c, L.length ≤ 4 ∧ c ≤ 4 ∧ (∀ r ∈ L, r.length = c) ∧ ∀ k, 3000 ≤ k → spec_WaysMatrix.f k a b = some (L, t) ∧ impl_WaysMatrix.f k a b = some (L, t) := by
  by_cases h : goodB a b = true
  · have hg := h
    unfold goodB at hg
    rw [Bool.and_eq_true, Bool.and_eq_true] at hg
    have h1 := of_decide_eq_true hg.1
    have h2 := of_decide_eq_true hg.2.1
    refine ⟨mat a b, true, b.length, by unfold mat; rw [List.length_map]; omega, by omega, ?_, fun k hk => ?_⟩
    · intro r hr
      unfold mat at hr
      obtain ⟨x, _, rfl⟩ := List.mem_map.1 hr
      rw [List.length_map]
    · obtain ⟨m1, m2⟩ := mat_run a b h (k := k) (by omega)
      unfold spec_WaysMatrix.f impl_WaysMatrix.f
      rw [spec_good2 a b (by omega), impl_good2, h, Option.bind_some, Option.bind_some, if_pos rfl, if_pos rfl, m1, m2]
      exact ⟨rfl, rfl⟩
  · refine ⟨[], false, 0, by simp, by simp, by simp, fun k hk => ?_⟩
    unfold spec_WaysMatrix.f impl_WaysMatrix.f
    rw [spec_good2 a b (by omega), impl_good2, Option.bind_some, Option.bind_some, if_neg h, if_neg h]
    exact ⟨rfl, rfl⟩
theorem FnExactWaysMatrix : ∀ (l0 l1 : List S64), (l0.length ≤ 9223372036854775807 ∧ ∀ c ∈ l0, (Lit.int .i64 c.f0).wf = true ∧ (Lit.int .i64 c.f1).wf = true) → (l1.length ≤ 9223372036854775807 ∧ ∀ c ∈ l1, (Lit.int .i64 c.f0).wf = true ∧ (Lit.int .i64 c.f1).wf = true) → ∃ k, laws_FnExactWaysMatrix.f k l0 l1 = some true := by
  intro a b ha hb
  refine ⟨4000003, ?_⟩
  obtain ⟨z, z1, z2⟩ := szC_run a b ha.1 hb.1
  unfold laws_FnExactWaysMatrix.f
  rw [z1, Option.bind_some]
  rcases z2 with z2 | ⟨la, z0, z3, y, y1, y2⟩
  · rw [if_pos z2]
  rw [if_neg (by omega), y1, Option.bind_some]
  rcases y2 with y2 | lb
  · rw [if_pos y2]
  by_cases hy : y < 0
  · rw [if_pos hy]
  rw [if_neg hy, toC_run a la (by omega), Option.bind_some, toC_run b lb (by omega), Option.bind_some]
  obtain ⟨L, t, c, hL, hc, hr, hrun⟩ := same (a.map cv) (b.map cv)
  have hr' : ∀ r ∈ L, r.length ≤ 1048576 := fun r h => by have := hr r h; omega
  have hla : (a.map cv).length ≤ 1048576 := by rw [List.length_map]; exact la
  have hlb : (b.map cv).length ≤ 1048576 := by rw [List.length_map]; exact lb
  rw [(hrun 4000003 (by omega)).1, Option.bind_some, Option.bind_some, Option.bind_some, (hrun 4000003 (by omega)).2, Option.bind_some, eqSS_run L (by omega) hr' (by omega), Option.bind_some, if_pos rfl, bne_self_eq_false, show (4000003 : Nat) = 4000002 + 1 from rfl, laws_FnExactWaysMatrix.j0.eq_2, if_neg (by decide)]
  rw [toC_run a la (by omega), Option.bind_some, eqC_run _ hla (by omega), Option.bind_some, if_pos rfl, toC_run b lb (by omega), Option.bind_some, eqC_run _ hlb (by omega), Option.bind_some, if_pos rfl]
  obtain ⟨M1, e1⟩ := markC_run (a.map cv) 1 (by omega) (by omega) hla (k := 4000002) (by omega)
  obtain ⟨M2, e2⟩ := markC_run (b.map cv) (1 + 2 * ((a.map cv).length : Int)) (by omega) (by omega) hlb (k := 4000002) (by omega)
  rw [e1, Option.bind_some]
  dsimp only
  rw [e2, Option.bind_some]
  dsimp only
  rw [if_neg (by omega), eqSS_run L (by omega) hr' (by omega), Option.bind_some, if_pos rfl, show (4000002 : Nat) = 4000001 + 1 from rfl, bne_self_eq_false, laws_FnExactWaysMatrix.j1.eq_2, if_neg (by decide)]
  rw [markSS_run c L hc hL hr (by omega), Option.bind_some, heldSS_run c _ hc hL (by omega), Option.bind_some, if_neg (by omega), if_pos rfl, toC_run a la (by omega), Option.bind_some, toC_run b lb (by omega), Option.bind_some, (hrun 4000001 (by omega)).2, Option.bind_some, eqSS_run L (by omega) hr' (by omega), Option.bind_some, if_pos rfl, bne_self_eq_false, show (4000001 : Nat) = 4000000 + 1 from rfl, laws_FnExactWaysMatrix.j2.eq_2, if_neg (by decide), heldSS_run c _ hc hL (by omega), Option.bind_some, if_neg (by omega), if_pos rfl]
end Go.Proofs.Ytaneoolaknnkaaa.Pure
