/- All ways between two cells: both count them; up to 200 ways both list them in the same order, the reference by putting the first step ahead, the program by growing the text at its end. No condition. -/
import Derived.Test.YtancdphkbeiopaaOFnExactAllWaysx7
namespace Go.Proofs.Ytancdphkbeiopaa.Pure
open Go.RowKit Go.Proofs.Ytancdphkbeiopaa.Stub Go.Proofs.Ytancdphkbeiopaa.OFnExactAllWays Go.Proofs.YtancdphkbeiopaaW.PrintWords Go.Proofs.YtancdphkbeiopaaW.PrintLast
set_option linter.unusedVariables false
set_option linter.unusedSimpArgs false
theorem w64 {n : Int} (h0 : -9223372036854775808 ≤ n) (h1 : n ≤ 9223372036854775807) : wrap64 n = n := by unfold wrap64; omega
theorem wf_bd {n : Int} (h : (Lit.int .i64 n).wf = true) : -9223372036854775808 ≤ n ∧ n ≤ 9223372036854775807 := by
  unfold Lit.wf at h
  rw [Bool.and_eq_true] at h
  exact ⟨of_decide_eq_true h.1, of_decide_eq_true h.2⟩
theorem wN (n : Nat) (h : n ≤ 1000000000000) : wrap64 ((n : Int) + 1) = ((n + 1 : Nat) : Int) := by rw [w64 (by omega) (by omega)]; omega

theorem in_eq (a b c : Int) : impl_in.f a b c = some (decide (b ≤ a ∧ a ≤ c)) := by
  unfold impl_in.f
  by_cases h1 : b ≤ a <;> by_cases h2 : a ≤ c <;> simp [h1, h2]
theorem l1In_eq (a b c : Int) : spec_l1In.f a b c = some (decide (b ≤ a ∧ a ≤ c)) := by
  unfold spec_l1In.f
  by_cases h1 : b ≤ a <;> by_cases h2 : a ≤ c <;> simp [h1, h2]

/- How many ways there are to choose, by Pascal's rule; the product's rule; both programs come to it. -/
def C : Nat → Nat → Nat
  | _, 0 => 1
  | 0, _ + 1 => 0
  | n + 1, k + 1 => C n k + C n (k + 1)
theorem C_0 (n : Nat) : C n 0 = 1 := by cases n <;> rfl
theorem C_far : ∀ (n k : Nat), n < k → C n k = 0
  | 0, 0, h => by omega
  | 0, k + 1, _ => rfl
  | n + 1, 0, h => by omega
  | n + 1, k + 1, h => by simp only [C]; rw [C_far n k (by omega), C_far n (k + 1) (by omega)]
theorem C_mul : ∀ (n k : Nat), C n (k + 1) * (k + 1) = C n k * (n - k)
  | 0, k => by simp [C]
  | n + 1, 0 => by
    have := C_mul n 0
    simp only [C, C_0] at this ⊢
    omega
  | n + 1, k + 1 => by
    have h1 := C_mul n (k + 1)
    have h2 := C_mul n k
    simp only [C]
    by_cases h : k + 1 ≤ n
    · rw [Nat.add_mul, Nat.add_mul, h1, show n + 1 - (k + 1) = n - k by omega, ← h2, ← Nat.mul_add, ← Nat.mul_add]
      congr 1; omega
    · rw [C_far n (k + 1) (by omega), C_far n (k + 1 + 1) (by omega), show n + 1 - (k + 1) = 0 by omega]; simp
theorem C_self : ∀ n : Nat, C n n = 1
  | 0 => rfl
  | n + 1 => by simp only [C]; rw [C_self n, C_far n (n + 1) (by omega)]
theorem C_sym : ∀ (n a b : Nat), a + b = n → C n a = C n b
  | 0, a, b, h => by obtain rfl : a = 0 := by omega
                     obtain rfl : b = 0 := by omega
                     rfl
  | n + 1, 0, b, h => by obtain rfl : b = n + 1 := by omega
                         rw [C_0, C_self]
  | n + 1, a + 1, 0, h => by obtain rfl : a = n := by omega
                             rw [C_0, C_self]
  | n + 1, a + 1, b + 1, h => by
    simp only [C]
    rw [C_sym n a (b + 1) (by omega), C_sym n (a + 1) b (by omega), Nat.add_comm]
theorem C_le : ∀ (n k : Nat), C n k ≤ 2 ^ n
  | 0, 0 => by decide
  | 0, k + 1 => by simp [C]
  | n + 1, 0 => by rw [C_0]; exact Nat.one_le_two_pow
  | n + 1, k + 1 => by
    have h1 := C_le n k; have h2 := C_le n (k + 1)
    simp only [C]; rw [Nat.pow_succ]; omega
theorem C_pos (n k : Nat) (h : k ≤ n) : 0 < C n k := by
  induction n generalizing k with
  | zero => obtain rfl : k = 0 := by omega
            decide
  | succ n ih =>
    cases k with
    | zero => rw [C_0]; omega
    | succ k => simp only [C]; have := ih k (by omega); omega
theorem C_bd {n k : Nat} (h : n ≤ 40) : C n k ≤ 1099511627776 := by
  have h1 := C_le n k
  have h2 : 2 ^ n ≤ 2 ^ 40 := Nat.pow_le_pow_right (by omega) h
  have h3 : (2 : Nat) ^ 40 = 1099511627776 := by decide
  omega
theorem wadd1 (n : Nat) (h : n ≤ 1000000) : wrap64 ((n : Int) + 1) = ((n + 1 : Nat) : Int) := by rw [w64 (by omega) (by omega)]; omega
theorem wsub1 (n : Nat) (h1 : 1 ≤ n) (h : n ≤ 1000000) : wrap64 ((n : Int) - 1) = ((n - 1 : Nat) : Int) := by rw [w64 (by omega) (by omega)]; omega
theorem wsubn (n i : Nat) (h1 : i ≤ n) (h : n ≤ 1000000) : wrap64 ((n : Int) - (i : Int)) = ((n - i : Nat) : Int) := by rw [w64 (by omega) (by omega)]; omega
theorem wmuln (x y : Nat) (h : x * y ≤ 1000000000000000) : wrap64 ((x : Int) * (y : Int)) = ((x * y : Nat) : Int) := by rw [← Int.natCast_mul, w64 (by omega) (by omega)]
theorem waddn (x y : Nat) (h : x + y ≤ 1000000000000000) : wrap64 ((x : Int) + (y : Int)) = ((x + y : Nat) : Int) := by rw [w64 (by omega) (by omega)]; omega
theorem wdiv (x q d : Nat) (hd : 0 < d) (h : q * d = x) (hq : q ≤ 1000000000000000) : wrap64 (Int.tdiv (x : Int) (d : Int)) = (q : Int) := by
  rw [← h, Int.natCast_mul, Int.mul_tdiv_cancel _ (by omega)]
  exact w64 (by omega) (by omega)
theorem impl_choose_l0 {n K : Nat} (hn : n ≤ 40) (hK : K ≤ n) : ∀ (d i k : Nat), i + d = K → d < k → impl_choose.l0 k (n : Int) ((C n i : Nat) : Int) (K : Int) (i : Int) = some ((C n K : Nat) : Int) := by
  intro d
  induction d with
  | zero =>
    intro i k hd hk
    obtain ⟨k, rfl⟩ : ∃ m, k = m + 1 := ⟨k - 1, by omega⟩
    rw [impl_choose.l0.eq_2, if_neg (by omega), show i = K by omega]
  | succ d ih =>
    intro i k hd hk
    obtain ⟨k, rfl⟩ : ∃ m, k = m + 1 := ⟨k - 1, by omega⟩
    have hb := C_bd (n := n) (k := i) hn
    have hm := C_mul n i
    have hb1 : C n i * (n - i) ≤ 1099511627776 * 40 := Nat.mul_le_mul hb (by omega)
    have hb2 := C_bd (n := n) (k := i + 1) hn
    rw [impl_choose.l0.eq_2, if_pos (by omega), wadd1 i (by omega), if_neg (by omega), wsubn n i (by omega) (by omega), wmuln _ _ (by omega), wdiv _ _ _ (by omega) hm (by omega)]
    exact ih (i + 1) k (by omega) (by omega)
theorem impl_choose_run {n K : Nat} (hn : n ≤ 40) (hK : K ≤ n) {k : Nat} (hk : 50 ≤ k) : impl_choose.f k (n : Int) (K : Int) = some ((C n K : Nat) : Int) := by
  unfold impl_choose.f
  rw [in_eq, Option.bind_some, decide_eq_true (by omega), if_pos rfl]
  have := impl_choose_l0 hn hK K 0 k (by omega) (by omega)
  rw [C_0] at this
  exact this
/- the reference's row -/
def Rw (K i j : Nat) : List Int := (List.range (K + 1)).map fun t => if t ≤ j then ((C (i - 1) t : Nat) : Int) else ((C i t : Nat) : Int)
theorem Rw_len (K i j : Nat) : (Rw K i j).length = K + 1 := by simp [Rw]
theorem Rw_get {K i j t : Nat} (h : t ≤ K) : rd (Rw K i j) (t : Int) = if t ≤ j then ((C (i - 1) t : Nat) : Int) else ((C i t : Nat) : Int) := by
  unfold rd Rw
  rw [Int.toNat_natCast, List.getD_eq_getElem?_getD, List.getElem?_map, List.getElem?_range (by omega)]
  rfl
theorem Rw_step {K i j : Nat} (hj : j + 1 ≤ K) (hi : 1 ≤ i) : (Rw K i (j + 1)).set (j + 1) ((C i (j + 1) : Nat) : Int) = Rw K i j := by
  apply List.ext_getElem
  · simp [Rw]
  · intro t h1 h2
    simp only [Rw, List.length_map, List.length_range] at h2
    by_cases e : t = j + 1
    · subst e
      rw [List.getElem_set_self]
      simp only [Rw, List.getElem_map, List.getElem_range]
      rw [if_neg (by omega)]
    · rw [List.getElem_set_ne (by omega)]
      simp only [Rw, List.getElem_map, List.getElem_range]
      by_cases e2 : t ≤ j
      · rw [if_pos (by omega), if_pos e2]
      · rw [if_neg (by omega), if_neg e2]
theorem Rw_next (K i : Nat) : Rw K i 0 = Rw K (i + 1) (K + (i + 1)) := by
  apply List.ext_getElem
  · simp [Rw]
  · intro t h1 h2
    simp only [Rw, List.length_map, List.length_range] at h2
    simp only [Rw, List.getElem_map, List.getElem_range]
    rw [if_pos (show t ≤ K + (i + 1) by omega), show i + 1 - 1 = i from rfl]
    by_cases e : t ≤ 0
    · obtain rfl : t = 0 := by omega
      rw [if_pos e, C_0, C_0]
    · rw [if_neg e]
theorem Rw_cut (K i : Nat) (hi : 1 ≤ i) {j : Nat} (h : K ≤ j ∨ i ≤ j) : Rw K i (K + i) = Rw K i j := by
  apply List.ext_getElem
  · simp [Rw]
  · intro t h1 h2
    simp only [Rw, List.length_map, List.length_range] at h2
    simp only [Rw, List.getElem_map, List.getElem_range]
    rw [if_pos (by omega)]
    by_cases e : t ≤ j
    · rw [if_pos e]
    · rw [if_neg e, C_far i t (by omega), C_far (i - 1) t (by omega)]
theorem spec_l1_run {n K i : Nat} (hn : n ≤ 40) (hi : 1 ≤ i) (hi' : i ≤ n) : ∀ (j k : Nat), j ≤ K → K ≤ 40 → spec_paChoose.l1 (k + j + 1) (n : Int) (K : Int) (Rw K i j) (i : Int) (j : Int) = spec_paChoose.l0 k (n : Int) (K : Int) (Rw K i 0) ((i + 1 : Nat) : Int) := by
  intro j
  induction j with
  | zero =>
    intro k _ _
    rw [show k + 0 + 1 = k + 1 from rfl, spec_paChoose.l1.eq_2, if_neg (by omega), wadd1 i (by omega)]
  | succ j ih =>
    intro k hj hK
    have b1 := C_bd (n := i - 1) (k := j + 1) (by omega)
    have b2 := C_bd (n := i - 1) (k := j) (by omega)
    have hl := Rw_len K i (j + 1)
    have hC : C (i - 1) (j + 1) + C (i - 1) j = C i (j + 1) := by
      obtain ⟨q, rfl⟩ : ∃ q, i = q + 1 := ⟨i - 1, by omega⟩
      rw [Nat.add_comm]; rfl
    rw [show k + (j + 1) + 1 = (k + j + 1) + 1 from rfl, spec_paChoose.l1.eq_2, if_pos (by omega), if_pos (by omega), if_pos (by omega), wsub1 (j + 1) (by omega) (by omega), if_pos (by omega), if_pos (by omega), show j + 1 - 1 = j from rfl,
      Rw_get (by omega), Rw_get (by omega), if_pos (by omega), if_pos (by omega), waddn _ _ (by omega), hC, Int.toNat_natCast, Rw_step (by omega) hi]
    exact ih k (by omega) hK
theorem spec_l0_run {n K : Nat} (hn : n ≤ 40) (hK : K ≤ n) : ∀ (d i k : Nat), 1 ≤ i → i + d = n + 1 → d * (K + 3) < k → spec_paChoose.l0 k (n : Int) (K : Int) (Rw K i (K + i)) (i : Int) = some ((C n K : Nat) : Int) := by
  intro d
  induction d with
  | zero =>
    intro i k hi hd hk
    obtain ⟨k, rfl⟩ : ∃ m, k = m + 1 := ⟨k - 1, by omega⟩
    have hl := Rw_len K i (K + i)
    rw [spec_paChoose.l0.eq_2, if_neg (by omega), if_pos (by omega), if_pos (by omega), Rw_get (by omega), if_pos (by omega), show i - 1 = n by omega]
  | succ d ih =>
    intro i k hi hd hk
    obtain ⟨k, rfl⟩ : ∃ m, k = m + 1 := ⟨k - 1, by omega⟩
    rw [Nat.add_mul] at hk
    have hl1 : spec_l1Least.f (i : Int) (K : Int) = some ((min i K : Nat) : Int) := by
      unfold spec_l1Least.f
      by_cases h : (i : Int) < K
      · rw [if_pos h, Nat.min_eq_left (by omega)]
      · rw [if_neg h, Nat.min_eq_right (by omega)]
    rw [spec_paChoose.l0.eq_2, if_pos (by omega), hl1, Option.bind_some, Rw_cut K i hi (j := min i K) (by omega)]
    have hmin : min i K ≤ K := Nat.min_le_right _ _
    obtain ⟨q, rfl⟩ : ∃ q, k = q + min i K + 1 := ⟨k - (min i K + 1), by omega⟩
    rw [spec_l1_run hn hi (by omega) (min i K) q hmin (by omega), Rw_next]
    exact ih (i + 1) q (by omega) (by omega) (by omega)
theorem spec_choose_run {n K : Nat} (hn : n ≤ 40) (hK : K ≤ n) {k : Nat} (hk : 2000 ≤ k) : spec_paChoose.f k (n : Int) (K : Int) = some ((C n K : Nat) : Int) := by
  obtain ⟨k, rfl⟩ : ∃ m, k = m + 1 := ⟨k - 1, by omega⟩
  have er : (List.replicate (K + 1) (0 : Int)).set 0 1 = Rw K 1 (K + 1) := by
    apply List.ext_getElem
    · simp [Rw]
    · intro t h1 h2
      simp only [Rw, List.length_map, List.length_range] at h2
      simp only [Rw, List.getElem_map, List.getElem_range]
      rw [if_pos (by omega)]
      by_cases ht : t = 0
      · subst ht; simp [C]
      · rw [List.getElem_set_ne (by omega)]
        obtain ⟨q, rfl⟩ : ∃ q, t = q + 1 := ⟨t - 1, by omega⟩
        simp [C]
  have hf : n * (K + 3) ≤ 1720 := by
    have := Nat.mul_le_mul hn (show K + 3 ≤ 43 by omega)
    omega
  have := spec_l0_run hn hK n 1 k (by omega) (by omega) (by omega)
  unfold spec_paChoose.f
  rw [if_neg (by omega), decide_eq_false (by omega), spec_paChoose.j0.eq_2, if_neg (by decide), wadd1 K (by omega), if_pos (by omega), if_pos (by omega), Int.toNat_natCast, Option.bind_some, if_pos (by rw [List.length_replicate]; omega), show ((0 : Int)).toNat = 0 from rfl, er]
  exact this

/- The words of d steps with e steps east, in order. -/
def W : Nat → Nat → List ByteArray
  | 0, 0 => [⟨#[]⟩]
  | 0, _ + 1 => []
  | d + 1, 0 => (W d 0).map fun w => (⟨#[78]⟩ : ByteArray) ++ w
  | d + 1, e + 1 => ((W d e).map fun w => (⟨#[69]⟩ : ByteArray) ++ w) ++ ((W d (e + 1)).map fun w => (⟨#[78]⟩ : ByteArray) ++ w)
theorem W_len : ∀ d e, (W d e).length = C d e
  | 0, 0 => rfl
  | 0, _ + 1 => rfl
  | d + 1, 0 => by simp only [W, List.length_map]; rw [W_len d 0, C_0, C_0]
  | d + 1, e + 1 => by simp only [W, List.length_map, List.length_append]; rw [W_len d e, W_len d (e + 1)]; rfl
theorem W_size : ∀ d e w, w ∈ W d e → w.size = d
  | 0, 0, w, h => by simp only [W, List.mem_singleton] at h; subst h; rfl
  | 0, _ + 1, w, h => by simp [W] at h
  | d + 1, 0, w, h => by
    simp only [W, List.mem_map] at h
    obtain ⟨v, hv, rfl⟩ := h
    have := W_size d 0 v hv
    rw [ByteArray.size_append, this]; show 1 + d = d + 1; omega
  | d + 1, e + 1, w, h => by
    simp only [W, List.mem_append, List.mem_map] at h
    rcases h with ⟨v, hv, rfl⟩ | ⟨v, hv, rfl⟩
    · have := W_size d e v hv
      rw [ByteArray.size_append, this]; show 1 + d = d + 1; omega
    · have := W_size d (e + 1) v hv
      rw [ByteArray.size_append, this]; show 1 + d = d + 1; omega
theorem W_far {d e : Nat} (h : d < e) : W d e = [] := by
  have := W_len d e
  rw [C_far d e h] at this
  exact List.eq_nil_of_length_eq_zero this
theorem rdB {L : List ByteArray} {i : Nat} (h : i < L.length) : rdOf ByteArray.empty L (i : Int) = L[i] := by
  unfold rdOf
  rw [Int.toNat_natCast, List.getD_eq_getElem?_getD, List.getElem?_eq_getElem h]; rfl
theorem l1_run (L : List ByteArray) (hl : L.length ≤ 1000) (hs : ∀ w ∈ L, w.size ≤ 1000) : ∀ (d i k : Nat) (A : List ByteArray), i + d = L.length → d < k → A.length ≤ 5000 + i → spec_ncTexts.l1 k A L (L.length : Int) (i : Int) = some (A ++ (L.drop i).map fun w => (⟨#[78]⟩ : ByteArray) ++ w) := by
  intro d
  induction d with
  | zero =>
    intro i k A hd hk hA
    obtain ⟨k, rfl⟩ : ∃ m, k = m + 1 := ⟨k - 1, by omega⟩
    rw [spec_ncTexts.l1.eq_2, if_neg (by omega), List.drop_of_length_le (by omega), List.map_nil, List.append_nil]
  | succ d ih =>
    intro i k A hd hk hA
    obtain ⟨k, rfl⟩ : ∃ m, k = m + 1 := ⟨k - 1, by omega⟩
    have hi : i < L.length := by omega
    have hsz := hs _ (List.getElem_mem hi)
    rw [spec_ncTexts.l1.eq_2, if_pos (by omega), if_pos (by omega), if_pos (by omega), rdB hi, if_pos (by omega), if_pos (by omega), wN i (by omega), ih (i + 1) k _ (by omega) (by omega) (by rw [List.length_append, List.length_singleton]; omega), List.drop_eq_getElem_cons hi, List.map_cons, List.append_assoc]
    rfl
theorem l0_run (e n : Int) (L : List ByteArray) (hl : L.length ≤ 1000) (hs : ∀ w ∈ L, w.size ≤ 1000) : ∀ (d i k : Nat) (A : List ByteArray), i + d = L.length → A.length ≤ i → spec_ncTexts.l0 (k + d + 1) e n A L (L.length : Int) (i : Int) = (spec_ncTexts.f k e (wrap64 (n - 1))).bind fun t => spec_ncTexts.l1 k (A ++ (L.drop i).map fun w => (⟨#[69]⟩ : ByteArray) ++ w) t (t.length : Int) 0 := by
  intro d
  induction d with
  | zero =>
    intro i k A hd hA
    rw [spec_ncTexts.l0.eq_2, if_neg (by omega), List.drop_of_length_le (by omega), List.map_nil, List.append_nil]
  | succ d ih =>
    intro i k A hd hA
    have hi : i < L.length := by omega
    have hsz := hs _ (List.getElem_mem hi)
    rw [show k + (d + 1) + 1 = (k + d + 1) + 1 from rfl, spec_ncTexts.l0.eq_2, if_pos (by omega), if_pos (by omega), if_pos (by omega), rdB hi, if_pos (by omega), if_pos (by omega), wN i (by omega), ih (i + 1) k _ (by omega) (by rw [List.length_append, List.length_singleton]; omega), List.drop_eq_getElem_cons hi, List.map_cons, List.append_assoc]
    rfl
theorem C_mono1 (d e : Nat) : C d e ≤ C (d + 1) (e + 1) := by simp only [C]; omega
theorem C_mono0 (d e : Nat) : C d e ≤ C (d + 1) e := by
  cases e with
  | zero => rw [C_0, C_0]; omega
  | succ e => simp only [C]; omega
/- the reference's words -/
theorem texts_neg (e n : Int) (h : e < 0 ∨ n < 0) {k : Nat} (hk : 2 ≤ k) : spec_ncTexts.f k e n = some [] := by
  obtain ⟨k, rfl⟩ : ∃ m, k = m + 1 + 1 := ⟨k - 2, by omega⟩
  rw [spec_ncTexts.f.eq_2]
  by_cases c : e < 0
  · rw [if_pos c, spec_ncTexts.j0.eq_2, if_pos rfl]
  · rw [if_neg c, decide_eq_true (by omega), spec_ncTexts.j0.eq_2, if_pos rfl]
theorem texts_run : ∀ (d e n k : Nat), e + n = d → d ≤ 24 → C d e ≤ 200 → 500 * (d + 1) ≤ k → spec_ncTexts.f k (e : Int) (n : Int) = some (W d e) := by
  intro d
  induction d with
  | zero =>
    intro e n k hd h24 hc hk
    obtain ⟨k, rfl⟩ : ∃ m, k = m + 1 + 1 := ⟨k - 2, by omega⟩
    obtain rfl : e = 0 := by omega
    obtain rfl : n = 0 := by omega
    rw [spec_ncTexts.f.eq_2, if_neg (by decide), decide_eq_false (by decide), spec_ncTexts.j0.eq_2, if_neg (by decide), if_pos (by rw [w64 (by decide) (by decide)]; rfl)]; rfl
  | succ d ih =>
    intro e n k hd h24 hc hk
    obtain ⟨k, rfl⟩ : ∃ m, k = m + 1 + 1 := ⟨k - 2, by omega⟩
    rw [spec_ncTexts.f.eq_2, if_neg (by omega), decide_eq_false (by omega), spec_ncTexts.j0.eq_2, if_neg (by decide), w64 (n := (e : Int) + (n : Int)) (by omega) (by omega), if_neg (by omega), w64 (n := (e : Int) - 1) (by omega) (by omega)]
    have last : ∀ (A : List ByteArray) (q : Nat), A.length ≤ 1000 → 500 * (d + 1) ≤ q → ((spec_ncTexts.f q (e : Int) (wrap64 ((n : Int) - 1))).bind fun t => spec_ncTexts.l1 q A t (t.length : Int) 0) = some (A ++ (W d e).map fun w => (⟨#[78]⟩ : ByteArray) ++ w) := by
      intro A q hA hq
      have hW : spec_ncTexts.f q (e : Int) (wrap64 ((n : Int) - 1)) = some (W d e) := by
        rw [w64 (n := (n : Int) - 1) (by omega) (by omega)]
        cases n with
        | zero => rw [texts_neg _ _ (by omega) (by omega), W_far (by omega)]
        | succ n =>
          rw [show ((n + 1 : Nat) : Int) - 1 = (n : Int) by omega]
          have := C_mono0 d e
          exact ih e n q (by omega) (by omega) (by omega) (by omega)
      have hl : (W d e).length ≤ 200 := by
        have := C_mono0 d e
        rw [W_len]; omega
      rw [hW, Option.bind_some]
      have hs : ∀ w ∈ W d e, w.size ≤ 1000 := fun w hw => by have := W_size d e w hw; omega
      have := l1_run (W d e) (by omega) hs (W d e).length 0 q A (by omega) (by omega) (by omega)
      rw [List.drop_zero] at this
      exact this
    cases e with
    | zero =>
      rw [texts_neg _ _ (by omega) (by omega), Option.bind_some]
      obtain ⟨k, rfl⟩ : ∃ m, k = m + 1 := ⟨k - 1, by omega⟩
      have hq := l0_run (((0 : Nat) : Int)) (n : Int) [] (by simp) (by simp) 0 0 k [] (by simp) (by simp)
      rw [show k + 0 + 1 = k + 1 from rfl] at hq
      refine Eq.trans hq ?_
      exact last _ k (by simp) (by omega)
    | succ e =>
      have hm := C_mono1 d e
      have hl : (W d e).length ≤ 200 := by rw [W_len]; omega
      have hs : ∀ w ∈ W d e, w.size ≤ 1000 := fun w hw => by have := W_size d e w hw; omega
      rw [show ((e + 1 : Nat) : Int) - 1 = (e : Int) by omega, ih e n k (by omega) (by omega) (by omega) (by omega), Option.bind_some]
      obtain ⟨q, rfl⟩ : ∃ q, k = q + (W d e).length + 1 := ⟨k - (W d e).length - 1, by omega⟩
      have hq := l0_run (((e + 1 : Nat) : Int)) (n : Int) (W d e) (by omega) hs (W d e).length 0 q [] (by omega) (by simp)
      refine Eq.trans hq ?_
      rw [List.drop_zero, List.nil_append, last _ q (by rw [List.length_map]; omega) (by omega)]
      rfl
/- the program's words -/
theorem grow_run : ∀ (d e n k : Nat) (x y : Int) (A : List ByteArray) (s : ByteArray), e + n = d → d ≤ 24 → s.size + d ≤ 100 → 0 ≤ x → x + e ≤ 100 → 0 ≤ y → y + n ≤ 100 → C d e ≤ 200 → A.length + C d e ≤ 1000 → 2 * d + 1 ≤ k → impl_grow.f k A s x y (x + (e : Int)) (y + (n : Int)) = some (A ++ (W d e).map fun w => s ++ w) := by
  intro d
  induction d with
  | zero =>
    intro e n k x y A s hd h24 hs hx hx1 hy hy1 hc hA hk
    obtain ⟨k, rfl⟩ : ∃ m, k = m + 1 := ⟨k - 1, by omega⟩
    obtain rfl : e = 0 := by omega
    obtain rfl : n = 0 := by omega
    rw [impl_grow.f.eq_2, if_pos (by simp), if_pos (by omega)]
    simp only [W, List.map_cons, List.map_nil]
    rw [show s ++ (⟨#[]⟩ : ByteArray) = s from ByteArray.append_empty]
  | succ d ih =>
    intro e n k x y A s hd h24 hs hx hx1 hy hy1 hc hA hk
    obtain ⟨k, rfl⟩ : ∃ m, k = m + 1 + 1 := ⟨k - 2, by omega⟩
    have hne : ¬ ((x == x + (e : Int)) && (y == y + (n : Int))) = true := by
      rw [Bool.and_eq_true, beq_iff_eq, beq_iff_eq]; omega
    have last : ∀ (B : List ByteArray), B.length + C d e ≤ 1000 → impl_grow.j0 (k + 1) B s x y (x + (e : Int)) (y + (n : Int)) = some (B ++ (W d e).map fun w => s ++ ((⟨#[78]⟩ : ByteArray) ++ w)) := by
      intro B hB
      rw [impl_grow.j0.eq_2]
      cases n with
      | zero => rw [if_neg (by omega), W_far (by omega), List.map_nil, List.append_nil]
      | succ n =>
        have hm := C_mono0 d e
        rw [if_pos (by omega), if_pos (by omega)]
        unfold impl_Cell_next.f
        rw [if_neg (by decide), Option.bind_some, w64 (n := y + 1) (by omega) (by omega), show y + ((n + 1 : Nat) : Int) = (y + 1) + (n : Int) by omega]
        rw [ih e n k x (y + 1) B _ (by omega) (by omega) (by rw [ByteArray.size_append]; show s.size + 1 + d ≤ 100; omega) hx hx1 (by omega) (by omega) (by omega) hB (by omega), Option.bind_some]
        simp only [ByteArray.append_assoc]
    rw [impl_grow.f.eq_2, if_neg hne]
    cases e with
    | zero =>
      rw [if_neg (by omega), last A (by have := C_mono0 d 0; omega)]
      simp only [W, List.map_map]; rfl
    | succ e =>
      have hm := C_mono1 d e
      have hp : C (d + 1) (e + 1) = C d e + C d (e + 1) := rfl
      rw [if_pos (by omega), if_pos (by omega)]
      unfold impl_Cell_next.f
      rw [if_pos rfl, Option.bind_some, w64 (n := x + 1) (by omega) (by omega)]
      have hg := ih e n (k + 1) (x + 1) y A (s ++ (⟨#[69]⟩ : ByteArray)) (by omega) (by omega) (by rw [ByteArray.size_append]; show s.size + 1 + d ≤ 100; omega) (by omega) (by omega) hy hy1 (by omega) (by omega) (by omega)
      rw [show x + 1 + (e : Int) = x + ((e + 1 : Nat) : Int) by omega] at hg
      have hw := W_len d e
      rw [hg, Option.bind_some, last _ (by rw [List.length_append, List.length_map]; omega), List.append_assoc]
      simp only [W, List.map_append, List.map_map, ByteArray.append_assoc]; rfl
/- the ways themselves -/
def mk (x y : Int) (w : ByteArray) : S35 := ⟨⟨x, y⟩, w⟩
theorem ways_l0 (x y : Int) (L : List ByteArray) (hl : L.length ≤ 1000) : ∀ (d i k : Nat) (A : List S35), i + d = L.length → d < k → A.length ≤ i → spec_ncAll.l0 k A L (L.length : Int) (i : Int) x y = some (A ++ (L.drop i).map (mk x y), true) ∧ impl_allWays.l0 k A L (L.length : Int) (i : Int) x y = some (A ++ (L.drop i).map (mk x y), true) := by
  intro d
  induction d with
  | zero =>
    intro i k A hd hk hA
    obtain ⟨k, rfl⟩ : ∃ m, k = m + 1 := ⟨k - 1, by omega⟩
    rw [spec_ncAll.l0.eq_2, impl_allWays.l0.eq_2, if_neg (by omega), if_neg (by omega), List.drop_of_length_le (by omega), List.map_nil, List.append_nil]
    exact ⟨rfl, rfl⟩
  | succ d ih =>
    intro i k A hd hk hA
    obtain ⟨k, rfl⟩ : ∃ m, k = m + 1 := ⟨k - 1, by omega⟩
    have hi : i < L.length := by omega
    obtain ⟨r1, r2⟩ := ih (i + 1) k (A ++ [mk x y L[i]]) (by omega) (by omega) (by rw [List.length_append, List.length_singleton]; omega)
    have hd' : A ++ (L.drop i).map (mk x y) = A ++ [mk x y L[i]] ++ (L.drop (i + 1)).map (mk x y) := by
      rw [List.drop_eq_getElem_cons hi, List.map_cons, List.append_assoc]; rfl
    rw [hd']
    constructor
    · rw [spec_ncAll.l0.eq_2, if_pos (by omega), if_pos (by omega), if_pos (by omega), rdB hi, if_pos (by omega), wN i (by omega)]
      exact r1
    · rw [impl_allWays.l0.eq_2, if_pos (by omega), if_pos (by omega), if_pos (by omega), rdB hi, if_pos (by omega), wN i (by omega)]
      exact r2
/- both answers -/
theorem same (x y X Y : Int) {k : Nat} (hk : 20000 ≤ k) : ∃ L b, L.length ≤ 200 ∧ spec_AllWays.f k x y X Y = some (L, b) ∧ impl_AllWays.f k x y X Y = some (L, b) := by
  unfold spec_AllWays.f impl_AllWays.f spec_ncCell.f impl_IsCell.f
  rw [l1In_eq, in_eq]
  simp only [Option.bind_some]
  by_cases c0 : 0 ≤ x ∧ x ≤ 12
  case neg => rw [if_neg (by rw [decide_eq_false c0]; decide), if_neg (by rw [decide_eq_false c0]; decide)]; exact ⟨[], false, by simp, rfl, rfl⟩
  rw [if_pos (decide_eq_true c0), if_pos (decide_eq_true c0), l1In_eq, in_eq]
  simp only [Option.bind_some]
  by_cases c1 : 0 ≤ y ∧ y ≤ 12
  case neg => rw [if_neg (by rw [decide_eq_false c1]; decide), if_neg (by rw [decide_eq_false c1]; decide)]; exact ⟨[], false, by simp, rfl, rfl⟩
  rw [if_pos (decide_eq_true c1), if_pos (decide_eq_true c1), l1In_eq, in_eq]
  simp only [Option.bind_some]
  by_cases c2 : 0 ≤ X ∧ X ≤ 12
  case neg => rw [if_neg (by rw [decide_eq_false c2]; decide), if_neg (by rw [decide_eq_false c2]; decide)]; exact ⟨[], false, by simp, rfl, rfl⟩
  rw [if_pos (decide_eq_true c2), if_pos (decide_eq_true c2), l1In_eq, in_eq]
  simp only [Option.bind_some]
  by_cases c3 : 0 ≤ Y ∧ Y ≤ 12
  case neg => rw [if_neg (by rw [decide_eq_false c3]; decide), if_neg (by rw [decide_eq_false c3]; decide)]; exact ⟨[], false, by simp, rfl, rfl⟩
  rw [if_pos (decide_eq_true c3), if_pos (decide_eq_true c3)]
  unfold spec_ncAll.f impl_allWays.f spec_ncCount.f impl_ways.f
  rw [w64 (n := X - x) (by omega) (by omega), w64 (n := Y - y) (by omega) (by omega), w64 (n := X - x + (Y - y)) (by omega) (by omega), w64 (n := X - x + Y) (by omega) (by omega), w64 (n := X - x + Y - y) (by omega) (by omega), show X - x + Y - y = X - x + (Y - y) by omega]
  by_cases n0 : X - x < 0 ∨ Y - y < 0
  · refine ⟨[], true, by simp, ?_, ?_⟩
    · have h0 : (if X - x < 0 then some 0 else if Y - y < 0 then some 0 else (spec_paChoose.f k (X - x + (Y - y)) (X - x)).bind fun t115 => some t115) = some (0 : Int) := by
        by_cases c : X - x < 0
        · rw [if_pos c]
        · rw [if_neg c, if_pos (by omega)]
      rw [h0, Option.bind_some, if_neg (by decide), texts_neg _ _ n0 (by omega), Option.bind_some]
      have := (ways_l0 x y [] (by simp) 0 0 k [] (by simp) (by omega) (by simp)).1
      refine (congrArg (fun o => Option.bind o _) this).trans ?_
      simp
    · have h0 : (if X < x then some 0 else if Y < y then some 0 else (impl_choose.f k (X - x + (Y - y)) (X - x)).bind fun t160 => some t160) = some (0 : Int) := by
        by_cases c : X < x
        · rw [if_pos c]
        · rw [if_neg c, if_pos (by omega)]
      rw [h0, Option.bind_some, if_neg (by decide), Option.bind_some, if_neg (by decide), Option.bind_some]
  · obtain ⟨e, he⟩ : ∃ e : Nat, X - x = e := ⟨(X - x).toNat, by omega⟩
    obtain ⟨n, hn⟩ : ∃ n : Nat, Y - y = n := ⟨(Y - y).toNat, by omega⟩
    obtain rfl : X = x + (e : Int) := by omega
    obtain rfl : Y = y + (n : Int) := by omega
    rw [he, hn, if_neg (by omega), if_neg (by omega), if_neg (by omega), if_neg (by omega), ← Int.natCast_add, spec_choose_run (by omega) (by omega) (by omega), impl_choose_run (by omega) (by omega) (by omega)]
    simp only [Option.bind_some]
    by_cases hc : C (e + n) e ≤ 200
    · have hp := C_pos (e + n) e (by omega)
      have hlen := W_len (e + n) e
      refine ⟨(W (e + n) e).map (mk x y), true, by rw [List.length_map, W_len]; omega, ?_, ?_⟩
      · rw [if_neg (by omega), texts_run (e + n) e n k rfl (by omega) hc (by omega), Option.bind_some]
        have := (ways_l0 x y (W (e + n) e) (by omega) (W (e + n) e).length 0 k [] (by omega) (by omega) (by simp)).1
        refine (congrArg (fun o => Option.bind o _) this).trans ?_
        simp
      · rw [if_neg (by omega), if_pos (by omega), grow_run (e + n) e n k x y [] _ rfl (by omega) (by show 0 + (e + n) ≤ 100; omega) (by omega) (by omega) (by omega) (by omega) hc (by simp; omega) (by omega), Option.bind_some]
        have em : (W (e + n) e).map (fun w => (⟨#[]⟩ : ByteArray) ++ w) = W (e + n) e := by
          rw [show (fun w : ByteArray => (⟨#[]⟩ : ByteArray) ++ w) = id from funext fun w => ByteArray.empty_append]; exact List.map_id _
        rw [em, List.nil_append]
        have := (ways_l0 x y (W (e + n) e) (by omega) (W (e + n) e).length 0 k [] (by omega) (by omega) (by simp)).2
        refine (congrArg (fun o => Option.bind o _) this).trans ?_
        simp
    · refine ⟨[], false, by simp, ?_, ?_⟩
      · rw [if_pos (by omega), Option.bind_some]
      · rw [if_pos (by omega), Option.bind_some]
/- comparing, marking -/
theorem rdW {L : List S35} {i : Nat} (h : i < L.length) : rd_T35 L (i : Int) = L[i] := by
  unfold rd_T35
  rw [Int.toNat_natCast, List.getD_eq_getElem?_getD, List.getElem?_eq_getElem h]; rfl
theorem eqW_from (L : List S35) (hL : L.length ≤ 1000) : ∀ (d i k : Nat), i + d = L.length → d < k → laws_eqWayS.l0 k L L (i : Int) = some true := by
  intro d
  induction d with
  | zero =>
    intro i k hd hk
    obtain ⟨k, rfl⟩ : ∃ m, k = m + 1 := ⟨k - 1, by omega⟩
    rw [laws_eqWayS.l0.eq_2, if_neg (by omega)]
  | succ d ih =>
    intro i k hd hk
    obtain ⟨k, rfl⟩ : ∃ m, k = m + 1 := ⟨k - 1, by omega⟩
    unfold laws_eqWayS.l0 laws_eqWay.f laws_eqCell.f
    rw [if_pos (by omega), if_pos (by omega), if_pos (by omega), if_pos rfl, if_pos rfl, Option.bind_some, if_pos rfl, if_pos rfl, Option.bind_some, if_pos rfl, wN i (by omega)]
    exact ih (i + 1) k (by omega) (by omega)
theorem eqW_run (L : List S35) (hL : L.length ≤ 1000) {k : Nat} (hk : 1002 ≤ k) : laws_eqWayS.f k L L = some true := by
  unfold laws_eqWayS.f
  rw [if_pos rfl]
  exact eqW_from L hL L.length 0 k (by omega) (by omega)
theorem mt_l0 : ∀ (d n : Nat) (s : ByteArray), n < 10 ^ d → n ≤ 1000000000 → s.size + d ≤ 1000 → ∃ t, ∀ k, d < k → laws_markText.l0 k (n : Int) s = some t := by
  intro d
  induction d with
  | zero =>
    intro n s hn hd hs
    obtain rfl : n = 0 := by omega
    refine ⟨(⟨#[109]⟩ : ByteArray) ++ s, fun k hk => ?_⟩
    obtain ⟨k, rfl⟩ : ∃ m, k = m + 1 := ⟨k - 1, by omega⟩
    rw [laws_markText.l0.eq_2, if_neg (by decide), if_pos (by omega)]
  | succ d ih =>
    intro n s hn hd hs
    rw [Nat.pow_succ] at hn
    by_cases h0 : n = 0
    · subst h0
      refine ⟨(⟨#[109]⟩ : ByteArray) ++ s, fun k hk => ?_⟩
      obtain ⟨k, rfl⟩ : ∃ m, k = m + 1 := ⟨k - 1, by omega⟩
      rw [laws_markText.l0.eq_2, if_neg (by decide), if_pos (by omega)]
    · have hz := strOfNums_size [(wrap64 (48 + (Int.tmod (n : Int) 10))) % 256]
      rw [List.length_singleton] at hz
      obtain ⟨t, ht⟩ := ih (n / 10) (strOfNums [(wrap64 (48 + (Int.tmod (n : Int) 10))) % 256] ++ s) (by omega) (by omega) (by rw [ByteArray.size_append]; omega)
      refine ⟨t, fun k hk => ?_⟩
      obtain ⟨k, rfl⟩ : ∃ m, k = m + 1 := ⟨k - 1, by omega⟩
      have hq : wrap64 (Int.tdiv (n : Int) 10) = ((n / 10 : Nat) : Int) := by
        rw [show Int.tdiv (n : Int) 10 = ((n / 10 : Nat) : Int) from rfl, w64 (by omega) (by omega)]
      rw [laws_markText.l0.eq_2, if_pos (by omega), Option.bind_some, if_pos (by omega), hq]
      exact ht k (by omega)
/- the text of a mark -/
def mT (n : Nat) : ByteArray := (laws_markText.f 20 (n : Int)).getD ⟨#[]⟩
theorem mT_run {n k : Nat} (h0 : 0 < n) (h1 : n ≤ 10000) (hk : 20 ≤ k) : laws_markText.f k (n : Int) = some (mT n) := by
  obtain ⟨t, ht⟩ := mt_l0 10 n ⟨#[]⟩ (by omega) (by omega) (by show 0 + 10 ≤ 1000; omega)
  have r : ∀ q, 20 ≤ q → laws_markText.f q (n : Int) = some t := fun q hq => by
    unfold laws_markText.f
    rw [if_neg (by omega)]
    exact ht q (by omega)
  unfold mT
  rw [r k hk, r 20 (by omega)]; rfl
/- the marks -/
def ms (n : Nat) : List S35 := (List.range n).map fun i => ⟨⟨((1 + 3 * i : Nat) : Int), ((2 + 3 * i : Nat) : Int)⟩, mT (3 + 3 * i)⟩
theorem ms_len (n : Nat) : (ms n).length = n := by simp [ms]
theorem markW_from (n : Nat) (hn : n ≤ 1000) : ∀ (d i k : Nat) (M : List S35), i + d = n → M.length = n → M.take i = (ms n).take i → d + 20 < k → laws_markWayS.l0 k M ((1 + 3 * i : Nat) : Int) (i : Int) = some (((1 + 3 * n : Nat) : Int), ms n) := by
  intro d
  induction d with
  | zero =>
    intro i k M hd hM ht hk
    obtain ⟨k, rfl⟩ : ∃ m, k = m + 1 := ⟨k - 1, by omega⟩
    rw [laws_markWayS.l0.eq_2, if_neg (by omega)]
    rw [List.take_of_length_le (by omega), List.take_of_length_le (by rw [ms_len]; omega)] at ht
    rw [ht, show i = n by omega]
  | succ d ih =>
    intro i k M hd hM ht hk
    obtain ⟨k, rfl⟩ : ∃ m, k = m + 1 := ⟨k - 1, by omega⟩
    have e1 : wrap64 (((1 + 3 * i : Nat) : Int) + 1) = ((2 + 3 * i : Nat) : Int) := by rw [w64 (by omega) (by omega)]; omega
    have e2 : wrap64 (((2 + 3 * i : Nat) : Int) + 1) = ((3 + 3 * i : Nat) : Int) := by rw [w64 (by omega) (by omega)]; omega
    have e3 : wrap64 (((3 + 3 * i : Nat) : Int) + 1) = ((1 + 3 * (i + 1) : Nat) : Int) := by rw [w64 (by omega) (by omega)]; omega
    rw [laws_markWayS.l0.eq_2, if_pos (by omega), if_pos (by omega), e1, e2, e3, mT_run (by omega) (by omega) (by omega), Option.bind_some, wN i (by omega), Int.toNat_natCast]
    refine ih (i + 1) k _ (by omega) (by rw [List.length_set]; omega) ?_ (by omega)
    rw [List.take_succ_eq_append_getElem (by rw [List.length_set]; omega), List.take_succ_eq_append_getElem (by rw [ms_len]; omega), List.take_set_of_le (Nat.le_refl i), ht, List.getElem_set_self]
    congr 2
    simp [ms]
theorem markW_run (L : List S35) (hL : L.length ≤ 1000) {k : Nat} (hk : 1030 ≤ k) : laws_markWayS.f k L 1 = some (((1 + 3 * L.length : Nat) : Int), ms L.length) := by
  unfold laws_markWayS.f
  exact markW_from L.length hL L.length 0 k L (by omega) rfl (by simp) (by omega)
theorem heldW_from (n : Nat) (hn : n ≤ 1000) : ∀ (d i k : Nat), i + d = n → d + 20 < k → laws_heldWayS.l0 k (ms n) ((1 + 3 * i : Nat) : Int) (i : Int) = some ((1 + 3 * n : Nat) : Int) := by
  intro d
  induction d with
  | zero =>
    intro i k hd hk
    obtain ⟨k, rfl⟩ : ∃ m, k = m + 1 := ⟨k - 1, by omega⟩
    rw [laws_heldWayS.l0.eq_2, if_neg (by rw [ms_len]; omega), show i = n by omega]
  | succ d ih =>
    intro i k hd hk
    obtain ⟨k, rfl⟩ : ∃ m, k = m + 1 := ⟨k - 1, by omega⟩
    have e1 : wrap64 (((1 + 3 * i : Nat) : Int) + 1) = ((2 + 3 * i : Nat) : Int) := by rw [w64 (by omega) (by omega)]; omega
    have e2 : wrap64 (((2 + 3 * i : Nat) : Int) + 1) = ((3 + 3 * i : Nat) : Int) := by rw [w64 (by omega) (by omega)]; omega
    have e3 : wrap64 (((3 + 3 * i : Nat) : Int) + 1) = ((1 + 3 * (i + 1) : Nat) : Int) := by rw [w64 (by omega) (by omega)]; omega
    have hr : rd_T35 (ms n) (i : Int) = ⟨⟨((1 + 3 * i : Nat) : Int), ((2 + 3 * i : Nat) : Int)⟩, mT (3 + 3 * i)⟩ := by
      rw [rdW (by rw [ms_len]; omega)]; simp [ms]
    rw [laws_heldWayS.l0.eq_2, if_pos (by rw [ms_len]; omega), if_pos (by omega), hr, if_pos rfl, e1, if_pos rfl, e2, mT_run (by omega) (by omega) (by omega), Option.bind_some, if_pos rfl, e3, wN i (by omega)]
    exact ih (i + 1) k (by omega) (by omega)
theorem heldW_run (n : Nat) (hn : n ≤ 1000) {k : Nat} (hk : 1030 ≤ k) : laws_heldWayS.f k (ms n) 1 = some ((1 + 3 * n : Nat) : Int) := by
  unfold laws_heldWayS.f
  exact heldW_from n hn n 0 k (by omega) (by omega)
theorem FnExactAllWays : ∀ (a0_0 : Int) (a0_1 : Int) (a1_0 : Int) (a1_1 : Int), (Lit.int .i64 a0_0).wf = true → (Lit.int .i64 a0_1).wf = true → (Lit.int .i64 a1_0).wf = true → (Lit.int .i64 a1_1).wf = true → ∃ k, laws_FnExactAllWays.f k a0_0 a0_1 a1_0 a1_1 = some true := by
  intro a b c d w1 w2 w3 w4
  refine ⟨30002, ?_⟩
  obtain ⟨L, t, hL, h1, h2⟩ := same a b c d (k := 30002) (by omega)
  obtain ⟨L', t', hL', h1', h2'⟩ := same a b c d (k := 30001) (by omega)
  have hs := spec_AllWays.mono a b c d 30001 _ h1'
  rw [h1] at hs
  obtain ⟨rfl, rfl⟩ := Prod.mk.inj (Option.some.inj hs)
  unfold laws_FnExactAllWays.f laws_toCell.f
  simp only [Option.bind_some]
  rw [h1, Option.bind_some, h2, Option.bind_some, eqW_run L (by omega) (by omega), Option.bind_some, if_pos rfl, bne_self_eq_false, show (30002 : Nat) = 30001 + 1 from rfl, laws_FnExactAllWays.j0.eq_2, if_neg (by decide), markW_run L (by omega) (by omega), Option.bind_some, heldW_run _ (by omega) (by omega), Option.bind_some, if_neg (by omega), if_pos rfl]
  unfold laws_toCell.f
  simp only [Option.bind_some]
  rw [h2', Option.bind_some, eqW_run L (by omega) (by omega), Option.bind_some, if_pos rfl, bne_self_eq_false, show (30001 : Nat) = 30000 + 1 from rfl, laws_FnExactAllWays.j1.eq_2, if_neg (by decide), heldW_run _ (by omega) (by omega), Option.bind_some, if_neg (by omega), if_pos rfl]
end Go.Proofs.Ytancdphkbeiopaa.Pure
