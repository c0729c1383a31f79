/- All pairs of ways that do not meet: both sides list the ways, then the pairs in the same order, and both give up behind 200 pairs: the reference at once, the program at the row's end. No condition. -/
import Derived.Test.YthlbbngmgioamaaOFnExactAllPairsApartx11
namespace Go.Proofs.Ythlbbngmgioamaa.Pure
open Go.RowKit Go.Proofs.Ythlbbngmgioamaa.Stub Go.Proofs.Ythlbbngmgioamaa.OFnExactAllPairsApart Go.Proofs.YthlbbngmgioamaaW.PrintWords Go.Proofs.YthlbbngmgioamaaW.PrintLast
set_option linter.unusedVariables false
set_option linter.unusedSimpArgs false
theorem w64 {n : Int} (h0 : -9223372036854775808 ≤ n) (h1 : n ≤ 9223372036854775807) : wrap64 n = n := by unfold wrap64; omega
theorem wf_bd {n : Int} (h : (Lit.int .i64 n).wf = true) : -9223372036854775808 ≤ n ∧ n ≤ 9223372036854775807 := by
  unfold Lit.wf at h
  rw [Bool.and_eq_true] at h
  exact ⟨of_decide_eq_true h.1, of_decide_eq_true h.2⟩
theorem wN (n : Nat) (h : n ≤ 1000000000000) : wrap64 ((n : Int) + 1) = ((n + 1 : Nat) : Int) := by rw [w64 (by omega) (by omega)]; omega

theorem in_eq (a b c : Int) : impl_in.f a b c = some (decide (b ≤ a ∧ a ≤ c)) := by
  unfold impl_in.f
  by_cases h1 : b ≤ a <;> by_cases h2 : a ≤ c <;> simp [h1, h2]
theorem l1In_eq (a b c : Int) : spec_l1In.f a b c = some (decide (b ≤ a ∧ a ≤ c)) := by
  unfold spec_l1In.f
  by_cases h1 : b ≤ a <;> by_cases h2 : a ≤ c <;> simp [h1, h2]

/- How many ways there are to choose, by Pascal's rule; the product's rule; both programs come to it. -/
def C : Nat → Nat → Nat
  | _, 0 => 1
  | 0, _ + 1 => 0
  | n + 1, k + 1 => C n k + C n (k + 1)
theorem C_0 (n : Nat) : C n 0 = 1 := by cases n <;> rfl
theorem C_far : ∀ (n k : Nat), n < k → C n k = 0
  | 0, 0, h => by omega
  | 0, k + 1, _ => rfl
  | n + 1, 0, h => by omega
  | n + 1, k + 1, h => by simp only [C]; rw [C_far n k (by omega), C_far n (k + 1) (by omega)]
theorem C_mul : ∀ (n k : Nat), C n (k + 1) * (k + 1) = C n k * (n - k)
  | 0, k => by simp [C]
  | n + 1, 0 => by
    have := C_mul n 0
    simp only [C, C_0] at this ⊢
    omega
  | n + 1, k + 1 => by
    have h1 := C_mul n (k + 1)
    have h2 := C_mul n k
    simp only [C]
    by_cases h : k + 1 ≤ n
    · rw [Nat.add_mul, Nat.add_mul, h1, show n + 1 - (k + 1) = n - k by omega, ← h2, ← Nat.mul_add, ← Nat.mul_add]
      congr 1; omega
    · rw [C_far n (k + 1) (by omega), C_far n (k + 1 + 1) (by omega), show n + 1 - (k + 1) = 0 by omega]; simp
theorem C_self : ∀ n : Nat, C n n = 1
  | 0 => rfl
  | n + 1 => by simp only [C]; rw [C_self n, C_far n (n + 1) (by omega)]
theorem C_sym : ∀ (n a b : Nat), a + b = n → C n a = C n b
  | 0, a, b, h => by obtain rfl : a = 0 := by omega
                     obtain rfl : b = 0 := by omega
                     rfl
  | n + 1, 0, b, h => by obtain rfl : b = n + 1 := by omega
                         rw [C_0, C_self]
  | n + 1, a + 1, 0, h => by obtain rfl : a = n := by omega
                             rw [C_0, C_self]
  | n + 1, a + 1, b + 1, h => by
    simp only [C]
    rw [C_sym n a (b + 1) (by omega), C_sym n (a + 1) b (by omega), Nat.add_comm]
theorem C_le : ∀ (n k : Nat), C n k ≤ 2 ^ n
  | 0, 0 => by decide
  | 0, k + 1 => by simp [C]
  | n + 1, 0 => by rw [C_0]; exact Nat.one_le_two_pow
  | n + 1, k + 1 => by
    have h1 := C_le n k; have h2 := C_le n (k + 1)
    simp only [C]; rw [Nat.pow_succ]; omega
theorem C_pos (n k : Nat) (h : k ≤ n) : 0 < C n k := by
  induction n generalizing k with
  | zero => obtain rfl : k = 0 := by omega
            decide
  | succ n ih =>
    cases k with
    | zero => rw [C_0]; omega
    | succ k => simp only [C]; have := ih k (by omega); omega
theorem C_bd {n k : Nat} (h : n ≤ 40) : C n k ≤ 1099511627776 := by
  have h1 := C_le n k
  have h2 : 2 ^ n ≤ 2 ^ 40 := Nat.pow_le_pow_right (by omega) h
  have h3 : (2 : Nat) ^ 40 = 1099511627776 := by decide
  omega
theorem wadd1 (n : Nat) (h : n ≤ 1000000) : wrap64 ((n : Int) + 1) = ((n + 1 : Nat) : Int) := by rw [w64 (by omega) (by omega)]; omega
theorem wsub1 (n : Nat) (h1 : 1 ≤ n) (h : n ≤ 1000000) : wrap64 ((n : Int) - 1) = ((n - 1 : Nat) : Int) := by rw [w64 (by omega) (by omega)]; omega
theorem wsubn (n i : Nat) (h1 : i ≤ n) (h : n ≤ 1000000) : wrap64 ((n : Int) - (i : Int)) = ((n - i : Nat) : Int) := by rw [w64 (by omega) (by omega)]; omega
theorem wmuln (x y : Nat) (h : x * y ≤ 1000000000000000) : wrap64 ((x : Int) * (y : Int)) = ((x * y : Nat) : Int) := by rw [← Int.natCast_mul, w64 (by omega) (by omega)]
theorem waddn (x y : Nat) (h : x + y ≤ 1000000000000000) : wrap64 ((x : Int) + (y : Int)) = ((x + y : Nat) : Int) := by rw [w64 (by omega) (by omega)]; omega
theorem wdiv (x q d : Nat) (hd : 0 < d) (h : q * d = x) (hq : q ≤ 1000000000000000) : wrap64 (Int.tdiv (x : Int) (d : Int)) = (q : Int) := by
  rw [← h, Int.natCast_mul, Int.mul_tdiv_cancel _ (by omega)]
  exact w64 (by omega) (by omega)
theorem impl_choose_l0 {n K : Nat} (hn : n ≤ 40) (hK : K ≤ n) : ∀ (d i k : Nat), i + d = K → d < k → impl_choose.l0 k (n : Int) ((C n i : Nat) : Int) (K : Int) (i : Int) = some ((C n K : Nat) : Int) := by
  intro d
  induction d with
  | zero =>
    intro i k hd hk
    obtain ⟨k, rfl⟩ : ∃ m, k = m + 1 := ⟨k - 1, by omega⟩
    rw [impl_choose.l0.eq_2, if_neg (by omega), show i = K by omega]
  | succ d ih =>
    intro i k hd hk
    obtain ⟨k, rfl⟩ : ∃ m, k = m + 1 := ⟨k - 1, by omega⟩
    have hb := C_bd (n := n) (k := i) hn
    have hm := C_mul n i
    have hb1 : C n i * (n - i) ≤ 1099511627776 * 40 := Nat.mul_le_mul hb (by omega)
    have hb2 := C_bd (n := n) (k := i + 1) hn
    rw [impl_choose.l0.eq_2, if_pos (by omega), wadd1 i (by omega), if_neg (by omega), wsubn n i (by omega) (by omega), wmuln _ _ (by omega), wdiv _ _ _ (by omega) hm (by omega)]
    exact ih (i + 1) k (by omega) (by omega)
theorem impl_choose_run {n K : Nat} (hn : n ≤ 40) (hK : K ≤ n) {k : Nat} (hk : 50 ≤ k) : impl_choose.f k (n : Int) (K : Int) = some ((C n K : Nat) : Int) := by
  unfold impl_choose.f
  rw [in_eq, Option.bind_some, decide_eq_true (by omega), if_pos rfl]
  have := impl_choose_l0 hn hK K 0 k (by omega) (by omega)
  rw [C_0] at this
  exact this
/- the reference's row -/
def Rw (K i j : Nat) : List Int := (List.range (K + 1)).map fun t => if t ≤ j then ((C (i - 1) t : Nat) : Int) else ((C i t : Nat) : Int)
theorem Rw_len (K i j : Nat) : (Rw K i j).length = K + 1 := by simp [Rw]
theorem Rw_get {K i j t : Nat} (h : t ≤ K) : rd (Rw K i j) (t : Int) = if t ≤ j then ((C (i - 1) t : Nat) : Int) else ((C i t : Nat) : Int) := by
  unfold rd Rw
  rw [Int.toNat_natCast, List.getD_eq_getElem?_getD, List.getElem?_map, List.getElem?_range (by omega)]
  rfl
theorem Rw_step {K i j : Nat} (hj : j + 1 ≤ K) (hi : 1 ≤ i) : (Rw K i (j + 1)).set (j + 1) ((C i (j + 1) : Nat) : Int) = Rw K i j := by
  apply List.ext_getElem
  · simp [Rw]
  · intro t h1 h2
    simp only [Rw, List.length_map, List.length_range] at h2
    by_cases e : t = j + 1
    · subst e
      rw [List.getElem_set_self]
      simp only [Rw, List.getElem_map, List.getElem_range]
      rw [if_neg (by omega)]
    · rw [List.getElem_set_ne (by omega)]
      simp only [Rw, List.getElem_map, List.getElem_range]
      by_cases e2 : t ≤ j
      · rw [if_pos (by omega), if_pos e2]
      · rw [if_neg (by omega), if_neg e2]
theorem Rw_next (K i : Nat) : Rw K i 0 = Rw K (i + 1) (K + (i + 1)) := by
  apply List.ext_getElem
  · simp [Rw]
  · intro t h1 h2
    simp only [Rw, List.length_map, List.length_range] at h2
    simp only [Rw, List.getElem_map, List.getElem_range]
    rw [if_pos (show t ≤ K + (i + 1) by omega), show i + 1 - 1 = i from rfl]
    by_cases e : t ≤ 0
    · obtain rfl : t = 0 := by omega
      rw [if_pos e, C_0, C_0]
    · rw [if_neg e]
theorem Rw_cut (K i : Nat) (hi : 1 ≤ i) {j : Nat} (h : K ≤ j ∨ i ≤ j) : Rw K i (K + i) = Rw K i j := by
  apply List.ext_getElem
  · simp [Rw]
  · intro t h1 h2
    simp only [Rw, List.length_map, List.length_range] at h2
    simp only [Rw, List.getElem_map, List.getElem_range]
    rw [if_pos (by omega)]
    by_cases e : t ≤ j
    · rw [if_pos e]
    · rw [if_neg e, C_far i t (by omega), C_far (i - 1) t (by omega)]
theorem spec_l1_run {n K i : Nat} (hn : n ≤ 40) (hi : 1 ≤ i) (hi' : i ≤ n) : ∀ (j k : Nat), j ≤ K → K ≤ 40 → spec_paChoose.l1 (k + j + 1) (n : Int) (K : Int) (Rw K i j) (i : Int) (j : Int) = spec_paChoose.l0 k (n : Int) (K : Int) (Rw K i 0) ((i + 1 : Nat) : Int) := by
  intro j
  induction j with
  | zero =>
    intro k _ _
    rw [show k + 0 + 1 = k + 1 from rfl, spec_paChoose.l1.eq_2, if_neg (by omega), wadd1 i (by omega)]
  | succ j ih =>
    intro k hj hK
    have b1 := C_bd (n := i - 1) (k := j + 1) (by omega)
    have b2 := C_bd (n := i - 1) (k := j) (by omega)
    have hl := Rw_len K i (j + 1)
    have hC : C (i - 1) (j + 1) + C (i - 1) j = C i (j + 1) := by
      obtain ⟨q, rfl⟩ : ∃ q, i = q + 1 := ⟨i - 1, by omega⟩
      rw [Nat.add_comm]; rfl
    rw [show k + (j + 1) + 1 = (k + j + 1) + 1 from rfl, spec_paChoose.l1.eq_2, if_pos (by omega), if_pos (by omega), if_pos (by omega), wsub1 (j + 1) (by omega) (by omega), if_pos (by omega), if_pos (by omega), show j + 1 - 1 = j from rfl,
      Rw_get (by omega), Rw_get (by omega), if_pos (by omega), if_pos (by omega), waddn _ _ (by omega), hC, Int.toNat_natCast, Rw_step (by omega) hi]
    exact ih k (by omega) hK
theorem spec_l0_run {n K : Nat} (hn : n ≤ 40) (hK : K ≤ n) : ∀ (d i k : Nat), 1 ≤ i → i + d = n + 1 → d * (K + 3) < k → spec_paChoose.l0 k (n : Int) (K : Int) (Rw K i (K + i)) (i : Int) = some ((C n K : Nat) : Int) := by
  intro d
  induction d with
  | zero =>
    intro i k hi hd hk
    obtain ⟨k, rfl⟩ : ∃ m, k = m + 1 := ⟨k - 1, by omega⟩
    have hl := Rw_len K i (K + i)
    rw [spec_paChoose.l0.eq_2, if_neg (by omega), if_pos (by omega), if_pos (by omega), Rw_get (by omega), if_pos (by omega), show i - 1 = n by omega]
  | succ d ih =>
    intro i k hi hd hk
    obtain ⟨k, rfl⟩ : ∃ m, k = m + 1 := ⟨k - 1, by omega⟩
    rw [Nat.add_mul] at hk
    have hl1 : spec_l1Least.f (i : Int) (K : Int) = some ((min i K : Nat) : Int) := by
      unfold spec_l1Least.f
      by_cases h : (i : Int) < K
      · rw [if_pos h, Nat.min_eq_left (by omega)]
      · rw [if_neg h, Nat.min_eq_right (by omega)]
    rw [spec_paChoose.l0.eq_2, if_pos (by omega), hl1, Option.bind_some, Rw_cut K i hi (j := min i K) (by omega)]
    have hmin : min i K ≤ K := Nat.min_le_right _ _
    obtain ⟨q, rfl⟩ : ∃ q, k = q + min i K + 1 := ⟨k - (min i K + 1), by omega⟩
    rw [spec_l1_run hn hi (by omega) (min i K) q hmin (by omega), Rw_next]
    exact ih (i + 1) q (by omega) (by omega) (by omega)
theorem spec_choose_run {n K : Nat} (hn : n ≤ 40) (hK : K ≤ n) {k : Nat} (hk : 2000 ≤ k) : spec_paChoose.f k (n : Int) (K : Int) = some ((C n K : Nat) : Int) := by
  obtain ⟨k, rfl⟩ : ∃ m, k = m + 1 := ⟨k - 1, by omega⟩
  have er : (List.replicate (K + 1) (0 : Int)).set 0 1 = Rw K 1 (K + 1) := by
    apply List.ext_getElem
    · simp [Rw]
    · intro t h1 h2
      simp only [Rw, List.length_map, List.length_range] at h2
      simp only [Rw, List.getElem_map, List.getElem_range]
      rw [if_pos (by omega)]
      by_cases ht : t = 0
      · subst ht; simp [C]
      · rw [List.getElem_set_ne (by omega)]
        obtain ⟨q, rfl⟩ : ∃ q, t = q + 1 := ⟨t - 1, by omega⟩
        simp [C]
  have hf : n * (K + 3) ≤ 1720 := by
    have := Nat.mul_le_mul hn (show K + 3 ≤ 43 by omega)
    omega
  have := spec_l0_run hn hK n 1 k (by omega) (by omega) (by omega)
  unfold spec_paChoose.f
  rw [if_neg (by omega), decide_eq_false (by omega), spec_paChoose.j0.eq_2, if_neg (by decide), wadd1 K (by omega), if_pos (by omega), if_pos (by omega), Int.toNat_natCast, Option.bind_some, if_pos (by rw [List.length_replicate]; omega), show ((0 : Int)).toNat = 0 from rfl, er]
  exact this

/- The words of d steps with e steps east, in order. -/
def W : Nat → Nat → List ByteArray
  | 0, 0 => [⟨#[]⟩]
  | 0, _ + 1 => []
  | d + 1, 0 => (W d 0).map fun w => (⟨#[78]⟩ : ByteArray) ++ w
  | d + 1, e + 1 => ((W d e).map fun w => (⟨#[69]⟩ : ByteArray) ++ w) ++ ((W d (e + 1)).map fun w => (⟨#[78]⟩ : ByteArray) ++ w)
theorem W_len : ∀ d e, (W d e).length = C d e
  | 0, 0 => rfl
  | 0, _ + 1 => rfl
  | d + 1, 0 => by simp only [W, List.length_map]; rw [W_len d 0, C_0, C_0]
  | d + 1, e + 1 => by simp only [W, List.length_map, List.length_append]; rw [W_len d e, W_len d (e + 1)]; rfl
theorem W_size : ∀ d e w, w ∈ W d e → w.size = d
  | 0, 0, w, h => by simp only [W, List.mem_singleton] at h; subst h; rfl
  | 0, _ + 1, w, h => by simp [W] at h
  | d + 1, 0, w, h => by
    simp only [W, List.mem_map] at h
    obtain ⟨v, hv, rfl⟩ := h
    have := W_size d 0 v hv
    rw [ByteArray.size_append, this]; show 1 + d = d + 1; omega
  | d + 1, e + 1, w, h => by
    simp only [W, List.mem_append, List.mem_map] at h
    rcases h with ⟨v, hv, rfl⟩ | ⟨v, hv, rfl⟩
    · have := W_size d e v hv
      rw [ByteArray.size_append, this]; show 1 + d = d + 1; omega
    · have := W_size d (e + 1) v hv
      rw [ByteArray.size_append, this]; show 1 + d = d + 1; omega
theorem W_far {d e : Nat} (h : d < e) : W d e = [] := by
  have := W_len d e
  rw [C_far d e h] at this
  exact List.eq_nil_of_length_eq_zero this
theorem rdB {L : List ByteArray} {i : Nat} (h : i < L.length) : rdOf ByteArray.empty L (i : Int) = L[i] := by
  unfold rdOf
  rw [Int.toNat_natCast, List.getD_eq_getElem?_getD, List.getElem?_eq_getElem h]; rfl
theorem l1_run (L : List ByteArray) (hl : L.length ≤ 1000) (hs : ∀ w ∈ L, w.size ≤ 1000) : ∀ (d i k : Nat) (A : List ByteArray), i + d = L.length → d < k → A.length ≤ 5000 + i → spec_ncTexts.l1 k A L (L.length : Int) (i : Int) = some (A ++ (L.drop i).map fun w => (⟨#[78]⟩ : ByteArray) ++ w) := by
  intro d
  induction d with
  | zero =>
    intro i k A hd hk hA
    obtain ⟨k, rfl⟩ : ∃ m, k = m + 1 := ⟨k - 1, by omega⟩
    rw [spec_ncTexts.l1.eq_2, if_neg (by omega), List.drop_of_length_le (by omega), List.map_nil, List.append_nil]
  | succ d ih =>
    intro i k A hd hk hA
    obtain ⟨k, rfl⟩ : ∃ m, k = m + 1 := ⟨k - 1, by omega⟩
    have hi : i < L.length := by omega
    have hsz := hs _ (List.getElem_mem hi)
    rw [spec_ncTexts.l1.eq_2, if_pos (by omega), if_pos (by omega), if_pos (by omega), rdB hi, if_pos (by omega), if_pos (by omega), wN i (by omega), ih (i + 1) k _ (by omega) (by omega) (by rw [List.length_append, List.length_singleton]; omega), List.drop_eq_getElem_cons hi, List.map_cons, List.append_assoc]
    rfl
theorem l0_run (e n : Int) (L : List ByteArray) (hl : L.length ≤ 1000) (hs : ∀ w ∈ L, w.size ≤ 1000) : ∀ (d i k : Nat) (A : List ByteArray), i + d = L.length → A.length ≤ i → spec_ncTexts.l0 (k + d + 1) e n A L (L.length : Int) (i : Int) = (spec_ncTexts.f k e (wrap64 (n - 1))).bind fun t => spec_ncTexts.l1 k (A ++ (L.drop i).map fun w => (⟨#[69]⟩ : ByteArray) ++ w) t (t.length : Int) 0 := by
  intro d
  induction d with
  | zero =>
    intro i k A hd hA
    rw [spec_ncTexts.l0.eq_2, if_neg (by omega), List.drop_of_length_le (by omega), List.map_nil, List.append_nil]
  | succ d ih =>
    intro i k A hd hA
    have hi : i < L.length := by omega
    have hsz := hs _ (List.getElem_mem hi)
    rw [show k + (d + 1) + 1 = (k + d + 1) + 1 from rfl, spec_ncTexts.l0.eq_2, if_pos (by omega), if_pos (by omega), if_pos (by omega), rdB hi, if_pos (by omega), if_pos (by omega), wN i (by omega), ih (i + 1) k _ (by omega) (by rw [List.length_append, List.length_singleton]; omega), List.drop_eq_getElem_cons hi, List.map_cons, List.append_assoc]
    rfl
theorem C_mono1 (d e : Nat) : C d e ≤ C (d + 1) (e + 1) := by simp only [C]; omega
theorem C_mono0 (d e : Nat) : C d e ≤ C (d + 1) e := by
  cases e with
  | zero => rw [C_0, C_0]; omega
  | succ e => simp only [C]; omega
/- the reference's words -/
theorem texts_neg (e n : Int) (h : e < 0 ∨ n < 0) {k : Nat} (hk : 2 ≤ k) : spec_ncTexts.f k e n = some [] := by
  obtain ⟨k, rfl⟩ : ∃ m, k = m + 1 + 1 := ⟨k - 2, by omega⟩
  rw [spec_ncTexts.f.eq_2]
  by_cases c : e < 0
  · rw [if_pos c, spec_ncTexts.j0.eq_2, if_pos rfl]
  · rw [if_neg c, decide_eq_true (by omega), spec_ncTexts.j0.eq_2, if_pos rfl]
theorem texts_run : ∀ (d e n k : Nat), e + n = d → d ≤ 24 → C d e ≤ 200 → 500 * (d + 1) ≤ k → spec_ncTexts.f k (e : Int) (n : Int) = some (W d e) := by
  intro d
  induction d with
  | zero =>
    intro e n k hd h24 hc hk
    obtain ⟨k, rfl⟩ : ∃ m, k = m + 1 + 1 := ⟨k - 2, by omega⟩
    obtain rfl : e = 0 := by omega
    obtain rfl : n = 0 := by omega
    rw [spec_ncTexts.f.eq_2, if_neg (by decide), decide_eq_false (by decide), spec_ncTexts.j0.eq_2, if_neg (by decide), if_pos (by rw [w64 (by decide) (by decide)]; rfl)]; rfl
  | succ d ih =>
    intro e n k hd h24 hc hk
    obtain ⟨k, rfl⟩ : ∃ m, k = m + 1 + 1 := ⟨k - 2, by omega⟩
    rw [spec_ncTexts.f.eq_2, if_neg (by omega), decide_eq_false (by omega), spec_ncTexts.j0.eq_2, if_neg (by decide), w64 (n := (e : Int) + (n : Int)) (by omega) (by omega), if_neg (by omega), w64 (n := (e : Int) - 1) (by omega) (by omega)]
    have last : ∀ (A : List ByteArray) (q : Nat), A.length ≤ 1000 → 500 * (d + 1) ≤ q → ((spec_ncTexts.f q (e : Int) (wrap64 ((n : Int) - 1))).bind fun t => spec_ncTexts.l1 q A t (t.length : Int) 0) = some (A ++ (W d e).map fun w => (⟨#[78]⟩ : ByteArray) ++ w) := by
      intro A q hA hq
      have hW : spec_ncTexts.f q (e : Int) (wrap64 ((n : Int) - 1)) = some (W d e) := by
        rw [w64 (n := (n : Int) - 1) (by omega) (by omega)]
        cases n with
        | zero => rw [texts_neg _ _ (by omega) (by omega), W_far (by omega)]
        | succ n =>
          rw [show ((n + 1 : Nat) : Int) - 1 = (n : Int) by omega]
          have := C_mono0 d e
          exact ih e n q (by omega) (by omega) (by omega) (by omega)
      have hl : (W d e).length ≤ 200 := by
        have := C_mono0 d e
        rw [W_len]; omega
      rw [hW, Option.bind_some]
      have hs : ∀ w ∈ W d e, w.size ≤ 1000 := fun w hw => by have := W_size d e w hw; omega
      have := l1_run (W d e) (by omega) hs (W d e).length 0 q A (by omega) (by omega) (by omega)
      rw [List.drop_zero] at this
      exact this
    cases e with
    | zero =>
      rw [texts_neg _ _ (by omega) (by omega), Option.bind_some]
      obtain ⟨k, rfl⟩ : ∃ m, k = m + 1 := ⟨k - 1, by omega⟩
      have hq := l0_run (((0 : Nat) : Int)) (n : Int) [] (by simp) (by simp) 0 0 k [] (by simp) (by simp)
      rw [show k + 0 + 1 = k + 1 from rfl] at hq
      refine Eq.trans hq ?_
      exact last _ k (by simp) (by omega)
    | succ e =>
      have hm := C_mono1 d e
      have hl : (W d e).length ≤ 200 := by rw [W_len]; omega
      have hs : ∀ w ∈ W d e, w.size ≤ 1000 := fun w hw => by have := W_size d e w hw; omega
      rw [show ((e + 1 : Nat) : Int) - 1 = (e : Int) by omega, ih e n k (by omega) (by omega) (by omega) (by omega), Option.bind_some]
      obtain ⟨q, rfl⟩ : ∃ q, k = q + (W d e).length + 1 := ⟨k - (W d e).length - 1, by omega⟩
      have hq := l0_run (((e + 1 : Nat) : Int)) (n : Int) (W d e) (by omega) hs (W d e).length 0 q [] (by omega) (by simp)
      refine Eq.trans hq ?_
      rw [List.drop_zero, List.nil_append, last _ q (by rw [List.length_map]; omega) (by omega)]
      rfl
/- the program's words -/
theorem grow_run : ∀ (d e n k : Nat) (x y : Int) (A : List ByteArray) (s : ByteArray), e + n = d → d ≤ 24 → s.size + d ≤ 100 → 0 ≤ x → x + e ≤ 100 → 0 ≤ y → y + n ≤ 100 → C d e ≤ 200 → A.length + C d e ≤ 1000 → 2 * d + 1 ≤ k → impl_grow.f k A s x y (x + (e : Int)) (y + (n : Int)) = some (A ++ (W d e).map fun w => s ++ w) := by
  intro d
  induction d with
  | zero =>
    intro e n k x y A s hd h24 hs hx hx1 hy hy1 hc hA hk
    obtain ⟨k, rfl⟩ : ∃ m, k = m + 1 := ⟨k - 1, by omega⟩
    obtain rfl : e = 0 := by omega
    obtain rfl : n = 0 := by omega
    rw [impl_grow.f.eq_2, if_pos (by simp), if_pos (by omega)]
    simp only [W, List.map_cons, List.map_nil]
    rw [show s ++ (⟨#[]⟩ : ByteArray) = s from ByteArray.append_empty]
  | succ d ih =>
    intro e n k x y A s hd h24 hs hx hx1 hy hy1 hc hA hk
    obtain ⟨k, rfl⟩ : ∃ m, k = m + 1 + 1 := ⟨k - 2, by omega⟩
    have hne : ¬ ((x == x + (e : Int)) && (y == y + (n : Int))) = true := by
      rw [Bool.and_eq_true, beq_iff_eq, beq_iff_eq]; omega
    have last : ∀ (B : List ByteArray), B.length + C d e ≤ 1000 → impl_grow.j0 (k + 1) B s x y (x + (e : Int)) (y + (n : Int)) = some (B ++ (W d e).map fun w => s ++ ((⟨#[78]⟩ : ByteArray) ++ w)) := by
      intro B hB
      rw [impl_grow.j0.eq_2]
      cases n with
      | zero => rw [if_neg (by omega), W_far (by omega), List.map_nil, List.append_nil]
      | succ n =>
        have hm := C_mono0 d e
        rw [if_pos (by omega), if_pos (by omega)]
        unfold impl_Cell_next.f
        rw [if_neg (by decide), Option.bind_some, w64 (n := y + 1) (by omega) (by omega), show y + ((n + 1 : Nat) : Int) = (y + 1) + (n : Int) by omega]
        rw [ih e n k x (y + 1) B _ (by omega) (by omega) (by rw [ByteArray.size_append]; show s.size + 1 + d ≤ 100; omega) hx hx1 (by omega) (by omega) (by omega) hB (by omega), Option.bind_some]
        simp only [ByteArray.append_assoc]
    rw [impl_grow.f.eq_2, if_neg hne]
    cases e with
    | zero =>
      rw [if_neg (by omega), last A (by have := C_mono0 d 0; omega)]
      simp only [W, List.map_map]; rfl
    | succ e =>
      have hm := C_mono1 d e
      have hp : C (d + 1) (e + 1) = C d e + C d (e + 1) := rfl
      rw [if_pos (by omega), if_pos (by omega)]
      unfold impl_Cell_next.f
      rw [if_pos rfl, Option.bind_some, w64 (n := x + 1) (by omega) (by omega)]
      have hg := ih e n (k + 1) (x + 1) y A (s ++ (⟨#[69]⟩ : ByteArray)) (by omega) (by omega) (by rw [ByteArray.size_append]; show s.size + 1 + d ≤ 100; omega) (by omega) (by omega) hy hy1 (by omega) (by omega) (by omega)
      rw [show x + 1 + (e : Int) = x + ((e + 1 : Nat) : Int) by omega] at hg
      have hw := W_len d e
      rw [hg, Option.bind_some, last _ (by rw [List.length_append, List.length_map]; omega), List.append_assoc]
      simp only [W, List.map_append, List.map_map, ByteArray.append_assoc]; rfl
/- the ways themselves -/
def mk (x y : Int) (w : ByteArray) : S37 := ⟨⟨x, y⟩, w⟩
theorem ways_l0 (x y : Int) (L : List ByteArray) (hl : L.length ≤ 1000) : ∀ (d i k : Nat) (A : List S37), i + d = L.length → d < k → A.length ≤ i → spec_ncAll.l0 k A L (L.length : Int) (i : Int) x y = some (A ++ (L.drop i).map (mk x y), true) ∧ impl_allWays.l0 k A L (L.length : Int) (i : Int) x y = some (A ++ (L.drop i).map (mk x y), true) := by
  intro d
  induction d with
  | zero =>
    intro i k A hd hk hA
    obtain ⟨k, rfl⟩ : ∃ m, k = m + 1 := ⟨k - 1, by omega⟩
    rw [spec_ncAll.l0.eq_2, impl_allWays.l0.eq_2, if_neg (by omega), if_neg (by omega), List.drop_of_length_le (by omega), List.map_nil, List.append_nil]
    exact ⟨rfl, rfl⟩
  | succ d ih =>
    intro i k A hd hk hA
    obtain ⟨k, rfl⟩ : ∃ m, k = m + 1 := ⟨k - 1, by omega⟩
    have hi : i < L.length := by omega
    obtain ⟨r1, r2⟩ := ih (i + 1) k (A ++ [mk x y L[i]]) (by omega) (by omega) (by rw [List.length_append, List.length_singleton]; omega)
    have hd' : A ++ (L.drop i).map (mk x y) = A ++ [mk x y L[i]] ++ (L.drop (i + 1)).map (mk x y) := by
      rw [List.drop_eq_getElem_cons hi, List.map_cons, List.append_assoc]; rfl
    rw [hd']
    constructor
    · rw [spec_ncAll.l0.eq_2, if_pos (by omega), if_pos (by omega), if_pos (by omega), rdB hi, if_pos (by omega), wN i (by omega)]
      exact r1
    · rw [impl_allWays.l0.eq_2, if_pos (by omega), if_pos (by omega), if_pos (by omega), rdB hi, if_pos (by omega), wN i (by omega)]
      exact r2

def qw (x : Int) : Bool := x == 69 || x == 78
/-- How many steps to the east there are among the first ones. -/
def es (s : ByteArray) : Nat → Nat
  | 0 => 0
  | i + 1 => es s i + (if bt s (i : Int) = 69 then 1 else 0)
theorem es_le (s : ByteArray) : ∀ i, es s i ≤ i
  | 0 => by simp [es]
  | i + 1 => by have := es_le s i; unfold es; split <;> omega
theorem es_mono (s : ByteArray) (i : Nat) : ∀ d, es s i ≤ es s (i + d) ∧ es s (i + d) ≤ es s i + d
  | 0 => by simp
  | d + 1 => by
    have := es_mono s i d
    have e : es s (i + (d + 1)) = es s (i + d) + (if bt s ((i + d : Nat) : Int) = 69 then 1 else 0) := rfl
    rw [e]; split <;> omega
def cl (x y : Int) (s : ByteArray) (i : Nat) : S27 := ⟨x + es s i, y + ((i - es s i : Nat) : Int)⟩
def cls (x y : Int) (s : ByteArray) (n : Nat) : List S27 := (List.range (n + 1)).map (cl x y s)
theorem cls_len (x y : Int) (s : ByteArray) (n : Nat) : (cls x y s n).length = n + 1 := by simp [cls]
theorem cls_get (x y : Int) (s : ByteArray) {n i : Nat} (h : i ≤ n) : rd_T27 (cls x y s n) (i : Int) = cl x y s i := by
  unfold rd_T27 cls
  rw [Int.toNat_natCast, List.getD_eq_getElem?_getD, List.getElem?_map, List.getElem?_range (by omega)]
  rfl
theorem cls_snoc (x y : Int) (s : ByteArray) (n : Nat) : cls x y s n ++ [cl x y s (n + 1)] = cls x y s (n + 1) := by
  unfold cls; rw [List.range_succ (n := n + 1), List.map_append]; rfl
theorem cl_E {x y : Int} {s : ByteArray} {i : Nat} (h : bt s (i : Int) = 69) : cl x y s (i + 1) = ⟨(cl x y s i).f0 + 1, (cl x y s i).f1⟩ := by
  have := es_le s i
  have e : es s (i + 1) = es s i + 1 := by show es s i + (if bt s (i : Int) = 69 then 1 else 0) = _; rw [if_pos h]
  unfold cl
  rw [e]; simp only [S27.mk.injEq]; constructor <;> omega
theorem cl_N {x y : Int} {s : ByteArray} {i : Nat} (h : ¬ bt s (i : Int) = 69) : cl x y s (i + 1) = ⟨(cl x y s i).f0, (cl x y s i).f1 + 1⟩ := by
  have := es_le s i
  have e : es s (i + 1) = es s i := by show es s i + (if bt s (i : Int) = 69 then 1 else 0) = _; rw [if_neg h, Nat.add_zero]
  unfold cl
  rw [e]; simp only [S27.mk.injEq, true_and]; omega
def ing (c : S27) : Prop := (0 ≤ c.f0 ∧ c.f0 ≤ 12) ∧ 0 ≤ c.f1 ∧ c.f1 ≤ 12
instance (c : S27) : Decidable (ing c) := by unfold ing; infer_instance
theorem spec_cell (a b : Int) : spec_ncCell.f a b = some (decide (ing ⟨a, b⟩)) := by
  have hi : ing ⟨a, b⟩ ↔ ((0 ≤ a ∧ a ≤ 12) ∧ (0 ≤ b ∧ b ≤ 12)) := Iff.rfl
  unfold spec_ncCell.f
  rw [l1In_eq, l1In_eq, Option.bind_some, Option.bind_some]
  by_cases h1 : 0 ≤ a ∧ a ≤ 12
  · rw [decide_eq_true h1, if_pos rfl]; congr 1; rw [decide_eq_decide, hi]; exact ⟨fun h => ⟨h1, h⟩, fun h => h.2⟩
  · rw [decide_eq_false h1, if_neg (by decide)]; congr 1; symm; apply decide_eq_false; rw [hi]; exact fun h => h1 h.1
theorem impl_cell (a b : Int) : impl_IsCell.f a b = some (decide (ing ⟨a, b⟩)) := by
  have hi : ing ⟨a, b⟩ ↔ ((0 ≤ a ∧ a ≤ 12) ∧ (0 ≤ b ∧ b ≤ 12)) := Iff.rfl
  unfold impl_IsCell.f
  rw [in_eq, in_eq, Option.bind_some, Option.bind_some]
  by_cases h1 : 0 ≤ a ∧ a ≤ 12
  · rw [decide_eq_true h1, if_pos rfl]; congr 1; rw [decide_eq_decide, hi]; exact ⟨fun h => ⟨h1, h⟩, fun h => h.2⟩
  · rw [decide_eq_false h1, if_neg (by decide)]; congr 1; symm; apply decide_eq_false; rw [hi]; exact fun h => h1 h.1
theorem impl_cells_l0 {x y : Int} (hx : 0 ≤ x) (hx' : x ≤ 12) (hy : 0 ≤ y) (hy' : y ≤ 12) {s : ByteArray} (hs : s.size ≤ 24) (a b : Int) : ∀ (d i k : Nat), i + d = s.size → d < k → impl_Way_cells.l0 k (cls x y s i) (s.size : Int) (i : Int) a b s = some (cls x y s s.size) := by
  intro d
  induction d with
  | zero =>
    intro i k hd hk
    obtain ⟨k, rfl⟩ : ∃ m, k = m + 1 := ⟨k - 1, by omega⟩
    rw [impl_Way_cells.l0.eq_2, if_neg (by omega), show i = s.size by omega]
  | succ d ih =>
    intro i k hd hk
    obtain ⟨k, rfl⟩ : ∃ m, k = m + 1 := ⟨k - 1, by omega⟩
    have hl := cls_len x y s i
    have he := es_le s i
    have hn : impl_Cell_next.f (cl x y s i).f0 (cl x y s i).f1 (bt s (i : Int)) = some ((cl x y s (i + 1)).f0, (cl x y s (i + 1)).f1) := by
      unfold impl_Cell_next.f
      by_cases h : bt s (i : Int) = 69
      · rw [if_pos h, cl_E h]
        have : wrap64 ((cl x y s i).f0 + 1) = (cl x y s i).f0 + 1 := by unfold cl; exact w64 (by show _ ≤ x + (es s i : Int) + 1; omega) (by show x + (es s i : Int) + 1 ≤ _; omega)
        rw [this]
      · rw [if_neg h, cl_N h]
        have : wrap64 ((cl x y s i).f1 + 1) = (cl x y s i).f1 + 1 := by unfold cl; exact w64 (by show _ ≤ y + ((i - es s i : Nat) : Int) + 1; omega) (by show y + ((i - es s i : Nat) : Int) + 1 ≤ _; omega)
        rw [this]
    rw [impl_Way_cells.l0.eq_2, if_pos (by omega), if_pos (by omega), if_pos (by omega), if_pos (by omega), cls_get _ _ _ (Nat.le_refl _), hn, Option.bind_some, if_pos (by omega), w64 (n := (i : Int) + 1) (by omega) (by omega)]
    have := ih (i + 1) k (by omega) (by omega)
    rw [← cls_snoc] at this
    rw [show ((i + 1 : Nat) : Int) = (i : Int) + 1 by omega] at this
    exact this
theorem spec_cells_l0 {x y : Int} (hx : 0 ≤ x) (hx' : x ≤ 12) (hy : 0 ≤ y) (hy' : y ≤ 12) {s : ByteArray} (hs : s.size ≤ 24) (a b : Int) : ∀ (d i : Nat), i + d = s.size → ing (cl x y s i) →
    ∃ t : Bool, (∀ k, d < k → spec_ncCells.l0 k (cls x y s i) (i : Int) a b s (cl x y s i).f0 (cl x y s i).f1 = some (if t = true then cls x y s s.size else [], t)) ∧ (t = true ↔ (∀ j : Nat, i ≤ j → j < s.size → qw (bt s (j : Int)) = true) ∧ ing (cl x y s s.size)) := by
  intro d
  induction d with
  | zero =>
    intro i hd hg
    refine ⟨true, fun k hk => ?_, ?_⟩
    · obtain ⟨k, rfl⟩ : ∃ m, k = m + 1 := ⟨k - 1, by omega⟩
      rw [spec_ncCells.l0.eq_2, if_neg (by omega), show i = s.size by omega]; rfl
    · obtain rfl : i = s.size := by omega
      exact ⟨fun _ => ⟨fun j h1 h2 => by omega, hg⟩, fun _ => rfl⟩
  | succ d ih =>
    intro i hd hg
    have hl := cls_len x y s i
    have he := es_le s i
    have far : ¬ ing (cl x y s (i + 1)) → ¬ ing (cl x y s s.size) := by
      intro h hc
      apply h
      have hm := es_mono s (i + 1) d
      rw [show i + 1 + d = s.size by omega] at hm
      have he1 := es_le s (i + 1)
      unfold ing cl at hc ⊢
      simp only at hc ⊢
      omega
    by_cases hq : qw (bt s (i : Int)) = true
    · have hq' := hq
      unfold qw at hq'
      simp only [Bool.or_eq_true, beq_iff_eq] at hq'
      have stepv : ∀ k, spec_ncCells.l0 (k + 1) (cls x y s i) (i : Int) a b s (cl x y s i).f0 (cl x y s i).f1 = if ing (cl x y s (i + 1)) then spec_ncCells.l0 k (cls x y s (i + 1)) ((i + 1 : Nat) : Int) a b s (cl x y s (i + 1)).f0 (cl x y s (i + 1)).f1 else some ([], false) := by
        intro k
        have hw : wrap64 ((i : Int) + 1) = ((i + 1 : Nat) : Int) := by rw [w64 (by omega) (by omega)]; omega
        by_cases h : bt s (i : Int) = 69
        · have hv : wrap64 ((cl x y s i).f0 + 1) = (cl x y s i).f0 + 1 := by unfold cl; exact w64 (by show _ ≤ x + (es s i : Int) + 1; omega) (by show x + (es s i : Int) + 1 ≤ _; omega)
          rw [spec_ncCells.l0.eq_2, if_pos (by clear hw hv; omega), if_pos (by clear hw hv; omega), if_pos h, hv, spec_cell, Option.bind_some, ← cls_snoc, cl_E h]
          by_cases g : ing ⟨(cl x y s i).f0 + 1, (cl x y s i).f1⟩
          · rw [decide_eq_true g, if_pos rfl, if_pos (by clear hw hv; omega), if_pos g, hw]
          · rw [decide_eq_false g, if_neg (by decide), if_neg g]
        · have hN : bt s (i : Int) = 78 := by rcases hq' with h' | h'; exact absurd h' h; exact h'
          have hv : wrap64 ((cl x y s i).f1 + 1) = (cl x y s i).f1 + 1 := by unfold cl; exact w64 (by show _ ≤ y + ((i - es s i : Nat) : Int) + 1; omega) (by show y + ((i - es s i : Nat) : Int) + 1 ≤ _; omega)
          rw [spec_ncCells.l0.eq_2, if_pos (by clear hw hv; omega), if_pos (by clear hw hv; omega), if_neg h, if_pos hN, hv, spec_cell, Option.bind_some, ← cls_snoc, cl_N h]
          by_cases g : ing ⟨(cl x y s i).f0, (cl x y s i).f1 + 1⟩
          · rw [decide_eq_true g, if_pos rfl, if_pos (by clear hw hv; omega), if_pos g, hw]
          · rw [decide_eq_false g, if_neg (by decide), if_neg g]
      by_cases g : ing (cl x y s (i + 1))
      · obtain ⟨t, t1, t2⟩ := ih (i + 1) (by omega) g
        refine ⟨t, fun k hk => ?_, ?_⟩
        · obtain ⟨k, rfl⟩ : ∃ m, k = m + 1 := ⟨k - 1, by omega⟩
          rw [stepv, if_pos g]; exact t1 k (by omega)
        · rw [t2]
          constructor
          · rintro ⟨h1, h2⟩
            refine ⟨fun j hj hj' => ?_, h2⟩
            by_cases e : j = i
            · subst e; exact hq
            · exact h1 j (by omega) hj'
          · rintro ⟨h1, h2⟩; exact ⟨fun j hj hj' => h1 j (by omega) hj', h2⟩
      · refine ⟨false, fun k hk => ?_, ⟨fun h => (by cases h), fun h => absurd h.2 (far g)⟩⟩
        obtain ⟨k, rfl⟩ : ∃ m, k = m + 1 := ⟨k - 1, by omega⟩
        rw [stepv, if_neg g]; rfl
    · refine ⟨false, fun k hk => ?_, ⟨fun h => (by cases h), fun h => absurd (h.1 i (Nat.le_refl _) (by omega)) hq⟩⟩
      obtain ⟨k, rfl⟩ : ∃ m, k = m + 1 := ⟨k - 1, by omega⟩
      unfold qw at hq
      simp only [Bool.or_eq_true, beq_iff_eq] at hq
      rw [spec_ncCells.l0.eq_2, if_pos (by omega), if_pos (by omega), if_neg (fun h => hq (.inl h)), if_neg (fun h => hq (.inr h))]; rfl

/-- The place of a cell in a list, told from a place on. -/
def fi (bs : List S27) (cx cy : Int) : Nat → Nat → Int
  | 0, _ => -1
  | d + 1, j => if (cx == (rd_T27 bs (j : Int)).f0 && (cy == (rd_T27 bs (j : Int)).f1)) = true then (j : Int) else fi bs cx cy d (j + 1)
theorem fi_rng (bs : List S27) (cx cy : Int) : ∀ d j, fi bs cx cy d j = -1 ∨ ((j : Int) ≤ fi bs cx cy d j ∧ fi bs cx cy d j < (j + d : Nat))
  | 0, j => .inl rfl
  | d + 1, j => by
    unfold fi
    split
    · right; omega
    · rcases fi_rng bs cx cy d (j + 1) with h | h
      · exact .inl h
      · right; omega
/-- The first place at which two lists meet. -/
def mi (ac bs : List S27) : Nat → Nat → Option (Int × Int)
  | 0, _ => none
  | d + 1, i => if fi bs (rd_T27 ac (i : Int)).f0 (rd_T27 ac (i : Int)).f1 bs.length 0 < 0 then mi ac bs d (i + 1) else some ((i : Int), fi bs (rd_T27 ac (i : Int)).f0 (rd_T27 ac (i : Int)).f1 bs.length 0)
theorem mi_rng (ac bs : List S27) : ∀ d i p, mi ac bs d i = some p → (i : Int) ≤ p.1 ∧ p.1 < ((i + d : Nat) : Int) ∧ 0 ≤ p.2 ∧ p.2 < (bs.length : Int)
  | 0, i, p, h => by cases h
  | d + 1, i, p, h => by
    unfold mi at h
    have := fi_rng bs (rd_T27 ac (i : Int)).f0 (rd_T27 ac (i : Int)).f1 bs.length 0
    split at h
    · have := mi_rng ac bs d (i + 1) p h; omega
    · injection h with h; subst h; simp only; omega
theorem impl_index (bs : List S27) (cx cy : Int) (hb : bs.length < 1000) : ∀ (d j k : Nat), j + d = bs.length → d < k → impl_Cell.l0 k bs (bs.length : Int) (j : Int) cx cy = some (fi bs cx cy d j) := by
  intro d
  induction d with
  | zero =>
    intro j k hd hk
    obtain ⟨k, rfl⟩ : ∃ m, k = m + 1 := ⟨k - 1, by omega⟩
    rw [impl_Cell.l0.eq_2, if_neg (by omega)]; rfl
  | succ d ih =>
    intro j k hd hk
    obtain ⟨k, rfl⟩ : ∃ m, k = m + 1 := ⟨k - 1, by omega⟩
    have hw : wrap64 ((j : Int) + 1) = ((j + 1 : Nat) : Int) := by rw [w64 (by omega) (by omega)]; omega
    rw [impl_Cell.l0.eq_2, if_pos (by clear hw; omega), if_pos (by clear hw; omega), if_pos (by clear hw; omega), hw, ih (j + 1) k (by omega) (by omega)]
    have e : fi bs cx cy (d + 1) j = if (cx == (rd_T27 bs (j : Int)).f0 && (cy == (rd_T27 bs (j : Int)).f1)) = true then (j : Int) else fi bs cx cy d (j + 1) := rfl
    rw [e]
    split <;> rfl
theorem spec_inner (ac bs : List S27) (la i cx cy : Int) (hb : bs.length < 1000) : ∀ (d j k : Nat), j + d = bs.length → spec_ncMeet.l1 (k + d + 1) bs i ac la i bs (bs.length : Int) (j : Int) cx cy = if fi bs cx cy d j < 0 then spec_ncMeet.l0 k bs ac la (wrap64 (i + 1)) else some (i, fi bs cx cy d j, true) := by
  intro d
  induction d with
  | zero =>
    intro j k hd
    rw [spec_ncMeet.l1.eq_2, if_neg (by omega), show fi bs cx cy 0 j = -1 from rfl, if_pos (by omega)]
  | succ d ih =>
    intro j k hd
    have hw : wrap64 ((j : Int) + 1) = ((j + 1 : Nat) : Int) := by rw [w64 (by omega) (by omega)]; omega
    rw [spec_ncMeet.l1.eq_2, if_pos (by clear hw; omega), if_pos (by clear hw; omega), if_pos (by clear hw; omega), hw]
    rw [show fi bs cx cy (d + 1) j = if (cx == (rd_T27 bs (j : Int)).f0 && (cy == (rd_T27 bs (j : Int)).f1)) = true then (j : Int) else fi bs cx cy d (j + 1) from rfl]
    by_cases h : (cx == (rd_T27 bs (j : Int)).f0 && (cy == (rd_T27 bs (j : Int)).f1)) = true
    · rw [if_pos h, if_pos h, if_neg (by clear hw; omega)]
    · rw [if_neg h, if_neg h, show k + (d + 1) = k + d + 1 by omega]
      exact ih (j + 1) k (by omega)
theorem spec_outer (ac bs : List S27) (ha : ac.length < 1000) (hb : bs.length < 1000) : ∀ (d i k : Nat), i + d = ac.length → (bs.length + 2) * d < k → spec_ncMeet.l0 k bs ac (ac.length : Int) (i : Int) = some (match mi ac bs d i with | none => (0, 0, false) | some p => (p.1, p.2, true)) := by
  intro d
  induction d with
  | zero =>
    intro i k hd hk
    obtain ⟨k, rfl⟩ : ∃ m, k = m + 1 := ⟨k - 1, by omega⟩
    rw [spec_ncMeet.l0.eq_2, if_neg (by omega)]; rfl
  | succ d ih =>
    intro i k hd hk
    rw [Nat.mul_succ] at hk
    obtain ⟨k, rfl⟩ : ∃ m, k = m + bs.length + 1 + 1 := ⟨k - bs.length - 2, by omega⟩
    have hw : wrap64 ((i : Int) + 1) = ((i + 1 : Nat) : Int) := by rw [w64 (by omega) (by omega)]; omega
    have := spec_inner ac bs (ac.length : Int) (i : Int) (rd_T27 ac (i : Int)).f0 (rd_T27 ac (i : Int)).f1 hb bs.length 0 k (by omega)
    rw [show ((0 : Nat) : Int) = 0 from rfl] at this
    rw [spec_ncMeet.l0.eq_2, if_pos (by clear hw; omega), if_pos (by clear hw; omega), if_pos (by clear hw; omega), this, hw]
    rw [show mi ac bs (d + 1) i = if fi bs (rd_T27 ac (i : Int)).f0 (rd_T27 ac (i : Int)).f1 bs.length 0 < 0 then mi ac bs d (i + 1) else some ((i : Int), fi bs (rd_T27 ac (i : Int)).f0 (rd_T27 ac (i : Int)).f1 bs.length 0) from rfl]
    by_cases h : fi bs (rd_T27 ac (i : Int)).f0 (rd_T27 ac (i : Int)).f1 bs.length 0 < 0
    · rw [if_pos h, if_pos h]; exact ih (i + 1) k (by omega) (by omega)
    · rw [if_neg h, if_neg h]
theorem impl_outer (ac bs : List S27) (ha : ac.length < 1000) (hb : bs.length < 1000) : ∀ (d i k : Nat), i + d = ac.length → bs.length + d < k → impl_meeting.l0 k bs ac (ac.length : Int) (i : Int) = some (match mi ac bs d i with | none => (-1, -1) | some p => p) := by
  intro d
  induction d with
  | zero =>
    intro i k hd hk
    obtain ⟨k, rfl⟩ : ∃ m, k = m + 1 := ⟨k - 1, by omega⟩
    rw [impl_meeting.l0.eq_2, if_neg (by omega)]; rfl
  | succ d ih =>
    intro i k hd hk
    obtain ⟨k, rfl⟩ : ∃ m, k = m + 1 := ⟨k - 1, by omega⟩
    have hw : wrap64 ((i : Int) + 1) = ((i + 1 : Nat) : Int) := by rw [w64 (by omega) (by omega)]; omega
    have := impl_index bs (rd_T27 ac (i : Int)).f0 (rd_T27 ac (i : Int)).f1 hb bs.length 0 k (by omega) (by omega)
    rw [show ((0 : Nat) : Int) = 0 from rfl] at this
    rw [impl_meeting.l0.eq_2, if_pos (by clear hw; omega), if_pos (by clear hw; omega), if_pos (by clear hw; omega)]
    unfold impl_Cell.f
    rw [this, Option.bind_some, hw]
    rw [show mi ac bs (d + 1) i = if fi bs (rd_T27 ac (i : Int)).f0 (rd_T27 ac (i : Int)).f1 bs.length 0 < 0 then mi ac bs d (i + 1) else some ((i : Int), fi bs (rd_T27 ac (i : Int)).f0 (rd_T27 ac (i : Int)).f1 bs.length 0) from rfl]
    by_cases h : fi bs (rd_T27 ac (i : Int)).f0 (rd_T27 ac (i : Int)).f1 bs.length 0 < 0
    · rw [if_neg (by clear hw; omega), if_pos h]; exact ih (i + 1) k (by omega) (by omega)
    · rw [if_pos (by clear hw; omega), if_neg h]
theorem meet_run {x y x' y' : Int} {s s' : ByteArray} (h1 : s.size ≤ 24) (h2 : s'.size ≤ 24)
    (s1 : ∀ k, 30 ≤ k → spec_ncCells.f k x y s = some (cls x y s s.size, true)) (s2 : ∀ k, 30 ≤ k → spec_ncCells.f k x' y' s' = some (cls x' y' s' s'.size, true))
    (i1 : ∀ k, 30 ≤ k → impl_Way_cells.f k x y s = some (cls x y s s.size)) (i2 : ∀ k, 30 ≤ k → impl_Way_cells.f k x' y' s' = some (cls x' y' s' s'.size)) :
    ∃ m : Option (Int × Int), (∀ p, m = some p → 0 ≤ p.1 ∧ p.1 ≤ (s.size : Int) ∧ 0 ≤ p.2 ∧ p.2 ≤ (s'.size : Int)) ∧ (∀ k, 1000 ≤ k → spec_ncMeet.f k x y s x' y' s' = some (match m with | none => (0, 0, false) | some p => (p.1, p.2, true))) ∧
      (∀ k, 1000 ≤ k → impl_meeting.f k x y s x' y' s' = some (match m with | none => (-1, -1) | some p => p)) := by
  have l1 := cls_len x y s s.size
  have l2 := cls_len x' y' s' s'.size
  refine ⟨mi (cls x y s s.size) (cls x' y' s' s'.size) (cls x y s s.size).length 0, fun p hp => ?_, fun k hk => ?_, fun k hk => ?_⟩
  · have := mi_rng _ _ _ _ _ hp
    omega
  · unfold spec_ncMeet.f
    rw [s1 k (by omega), Option.bind_some, s2 k (by omega), Option.bind_some]
    refine spec_outer (cls x y s s.size) (cls x' y' s' s'.size) (by omega) (by omega) _ 0 k (by omega) ?_
    rw [l1, l2]
    have := Nat.mul_le_mul (show s'.size + 1 + 2 ≤ 27 by omega) (show s.size + 1 ≤ 25 by omega)
    omega
  · unfold impl_meeting.f
    rw [i2 k (by omega), Option.bind_some, i1 k (by omega), Option.bind_some]
    exact impl_outer _ _ (by omega) (by omega) _ 0 k (by omega) (by omega)

/- comparing, marking -/
theorem rdW {L : List S37} {i : Nat} (h : i < L.length) : rd_T37 L (i : Int) = L[i] := by
  unfold rd_T37
  rw [Int.toNat_natCast, List.getD_eq_getElem?_getD, List.getElem?_eq_getElem h]; rfl
theorem eqW_from (L : List S37) (hL : L.length ≤ 1000) : ∀ (d i k : Nat), i + d = L.length → d < k → laws_eqWayS.l0 k L L (i : Int) = some true := by
  intro d
  induction d with
  | zero =>
    intro i k hd hk
    obtain ⟨k, rfl⟩ : ∃ m, k = m + 1 := ⟨k - 1, by omega⟩
    rw [laws_eqWayS.l0.eq_2, if_neg (by omega)]
  | succ d ih =>
    intro i k hd hk
    obtain ⟨k, rfl⟩ : ∃ m, k = m + 1 := ⟨k - 1, by omega⟩
    unfold laws_eqWayS.l0 laws_eqWay.f laws_eqCell.f
    rw [if_pos (by omega), if_pos (by omega), if_pos (by omega), if_pos rfl, if_pos rfl, Option.bind_some, if_pos rfl, if_pos rfl, Option.bind_some, if_pos rfl, wN i (by omega)]
    exact ih (i + 1) k (by omega) (by omega)
theorem eqW_run (L : List S37) (hL : L.length ≤ 1000) {k : Nat} (hk : 1002 ≤ k) : laws_eqWayS.f k L L = some true := by
  unfold laws_eqWayS.f
  rw [if_pos rfl]
  exact eqW_from L hL L.length 0 k (by omega) (by omega)
theorem mt_l0 : ∀ (d n : Nat) (s : ByteArray), n < 10 ^ d → n ≤ 1000000000 → s.size + d ≤ 1000 → ∃ t, ∀ k, d < k → laws_markText.l0 k (n : Int) s = some t := by
  intro d
  induction d with
  | zero =>
    intro n s hn hd hs
    obtain rfl : n = 0 := by omega
    refine ⟨(⟨#[109]⟩ : ByteArray) ++ s, fun k hk => ?_⟩
    obtain ⟨k, rfl⟩ : ∃ m, k = m + 1 := ⟨k - 1, by omega⟩
    rw [laws_markText.l0.eq_2, if_neg (by decide), if_pos (by omega)]
  | succ d ih =>
    intro n s hn hd hs
    rw [Nat.pow_succ] at hn
    by_cases h0 : n = 0
    · subst h0
      refine ⟨(⟨#[109]⟩ : ByteArray) ++ s, fun k hk => ?_⟩
      obtain ⟨k, rfl⟩ : ∃ m, k = m + 1 := ⟨k - 1, by omega⟩
      rw [laws_markText.l0.eq_2, if_neg (by decide), if_pos (by omega)]
    · have hz := strOfNums_size [(wrap64 (48 + (Int.tmod (n : Int) 10))) % 256]
      rw [List.length_singleton] at hz
      obtain ⟨t, ht⟩ := ih (n / 10) (strOfNums [(wrap64 (48 + (Int.tmod (n : Int) 10))) % 256] ++ s) (by omega) (by omega) (by rw [ByteArray.size_append]; omega)
      refine ⟨t, fun k hk => ?_⟩
      obtain ⟨k, rfl⟩ : ∃ m, k = m + 1 := ⟨k - 1, by omega⟩
      have hq : wrap64 (Int.tdiv (n : Int) 10) = ((n / 10 : Nat) : Int) := by
        rw [show Int.tdiv (n : Int) 10 = ((n / 10 : Nat) : Int) from rfl, w64 (by omega) (by omega)]
      rw [laws_markText.l0.eq_2, if_pos (by omega), Option.bind_some, if_pos (by omega), hq]
      exact ht k (by omega)
/- the text of a mark -/
def mT (n : Nat) : ByteArray := (laws_markText.f 20 (n : Int)).getD ⟨#[]⟩
theorem mT_run {n k : Nat} (h0 : 0 < n) (h1 : n ≤ 10000) (hk : 20 ≤ k) : laws_markText.f k (n : Int) = some (mT n) := by
  obtain ⟨t, ht⟩ := mt_l0 10 n ⟨#[]⟩ (by omega) (by omega) (by show 0 + 10 ≤ 1000; omega)
  have r : ∀ q, 20 ≤ q → laws_markText.f q (n : Int) = some t := fun q hq => by
    unfold laws_markText.f
    rw [if_neg (by omega)]
    exact ht q (by omega)
  unfold mT
  rw [r k hk, r 20 (by omega)]; rfl
/- the marks -/
def ms (n : Nat) : List S37 := (List.range n).map fun i => ⟨⟨((1 + 3 * i : Nat) : Int), ((2 + 3 * i : Nat) : Int)⟩, mT (3 + 3 * i)⟩
theorem ms_len (n : Nat) : (ms n).length = n := by simp [ms]
theorem markW_from (n : Nat) (hn : n ≤ 1000) : ∀ (d i k : Nat) (M : List S37), i + d = n → M.length = n → M.take i = (ms n).take i → d + 20 < k → laws_markWayS.l0 k M ((1 + 3 * i : Nat) : Int) (i : Int) = some (((1 + 3 * n : Nat) : Int), ms n) := by
  intro d
  induction d with
  | zero =>
    intro i k M hd hM ht hk
    obtain ⟨k, rfl⟩ : ∃ m, k = m + 1 := ⟨k - 1, by omega⟩
    rw [laws_markWayS.l0.eq_2, if_neg (by omega)]
    rw [List.take_of_length_le (by omega), List.take_of_length_le (by rw [ms_len]; omega)] at ht
    rw [ht, show i = n by omega]
  | succ d ih =>
    intro i k M hd hM ht hk
    obtain ⟨k, rfl⟩ : ∃ m, k = m + 1 := ⟨k - 1, by omega⟩
    have e1 : wrap64 (((1 + 3 * i : Nat) : Int) + 1) = ((2 + 3 * i : Nat) : Int) := by rw [w64 (by omega) (by omega)]; omega
    have e2 : wrap64 (((2 + 3 * i : Nat) : Int) + 1) = ((3 + 3 * i : Nat) : Int) := by rw [w64 (by omega) (by omega)]; omega
    have e3 : wrap64 (((3 + 3 * i : Nat) : Int) + 1) = ((1 + 3 * (i + 1) : Nat) : Int) := by rw [w64 (by omega) (by omega)]; omega
    rw [laws_markWayS.l0.eq_2, if_pos (by omega), if_pos (by omega), e1, e2, e3, mT_run (by omega) (by omega) (by omega), Option.bind_some, wN i (by omega), Int.toNat_natCast]
    refine ih (i + 1) k _ (by omega) (by rw [List.length_set]; omega) ?_ (by omega)
    rw [List.take_succ_eq_append_getElem (by rw [List.length_set]; omega), List.take_succ_eq_append_getElem (by rw [ms_len]; omega), List.take_set_of_le (Nat.le_refl i), ht, List.getElem_set_self]
    congr 2
    simp [ms]
theorem markW_run (L : List S37) (hL : L.length ≤ 1000) {k : Nat} (hk : 1030 ≤ k) : laws_markWayS.f k L 1 = some (((1 + 3 * L.length : Nat) : Int), ms L.length) := by
  unfold laws_markWayS.f
  exact markW_from L.length hL L.length 0 k L (by omega) rfl (by simp) (by omega)
theorem heldW_from (n : Nat) (hn : n ≤ 1000) : ∀ (d i k : Nat), i + d = n → d + 20 < k → laws_heldWayS.l0 k (ms n) ((1 + 3 * i : Nat) : Int) (i : Int) = some ((1 + 3 * n : Nat) : Int) := by
  intro d
  induction d with
  | zero =>
    intro i k hd hk
    obtain ⟨k, rfl⟩ : ∃ m, k = m + 1 := ⟨k - 1, by omega⟩
    rw [laws_heldWayS.l0.eq_2, if_neg (by rw [ms_len]; omega), show i = n by omega]
  | succ d ih =>
    intro i k hd hk
    obtain ⟨k, rfl⟩ : ∃ m, k = m + 1 := ⟨k - 1, by omega⟩
    have e1 : wrap64 (((1 + 3 * i : Nat) : Int) + 1) = ((2 + 3 * i : Nat) : Int) := by rw [w64 (by omega) (by omega)]; omega
    have e2 : wrap64 (((2 + 3 * i : Nat) : Int) + 1) = ((3 + 3 * i : Nat) : Int) := by rw [w64 (by omega) (by omega)]; omega
    have e3 : wrap64 (((3 + 3 * i : Nat) : Int) + 1) = ((1 + 3 * (i + 1) : Nat) : Int) := by rw [w64 (by omega) (by omega)]; omega
    have hr : rd_T37 (ms n) (i : Int) = ⟨⟨((1 + 3 * i : Nat) : Int), ((2 + 3 * i : Nat) : Int)⟩, mT (3 + 3 * i)⟩ := by
      rw [rdW (by rw [ms_len]; omega)]; simp [ms]
    rw [laws_heldWayS.l0.eq_2, if_pos (by rw [ms_len]; omega), if_pos (by omega), hr, if_pos rfl, e1, if_pos rfl, e2, mT_run (by omega) (by omega) (by omega), Option.bind_some, if_pos rfl, e3, wN i (by omega)]
    exact ih (i + 1) k (by omega) (by omega)
theorem heldW_run (n : Nat) (hn : n ≤ 1000) {k : Nat} (hk : 1030 ≤ k) : laws_heldWayS.f k (ms n) 1 = some ((1 + 3 * n : Nat) : Int) := by
  unfold laws_heldWayS.f
  exact heldW_from n hn n 0 k (by omega) (by omega)

/- letters of a word -/
theorem bt_0 (c : UInt8) (w : ByteArray) : bt ((⟨#[c]⟩ : ByteArray) ++ w) ((0 : Nat) : Int) = (c.toNat : Int) := by
  have hs : 0 < ((⟨#[c]⟩ : ByteArray) ++ w).size := by rw [ByteArray.size_append]; show 0 < 1 + w.size; omega
  have hz : ((⟨#[c]⟩ : ByteArray) ++ w)[0]'hs = c := by
    rw [ByteArray.getElem_append_left (show 0 < (⟨#[c]⟩ : ByteArray).size from Nat.zero_lt_one)]; rfl
  unfold bt
  rw [dif_pos (show ((0 : Nat) : Int).toNat < _ from hs)]
  show (((((⟨#[c]⟩ : ByteArray) ++ w)[0]'hs).toNat : Nat) : Int) = _
  rw [hz]
theorem bt_s (c : UInt8) (w : ByteArray) (i : Nat) (h : i < w.size) : bt ((⟨#[c]⟩ : ByteArray) ++ w) ((i + 1 : Nat) : Int) = bt w (i : Int) := by
  have h1 : (⟨#[c]⟩ : ByteArray).size = 1 := rfl
  have hs : i + 1 < ((⟨#[c]⟩ : ByteArray) ++ w).size := by rw [ByteArray.size_append, h1]; omega
  have hz : ((⟨#[c]⟩ : ByteArray) ++ w)[i + 1]'hs = w[i]'h := by
    rw [ByteArray.getElem_append_right (by rw [h1]; omega)]; rfl
  unfold bt
  rw [dif_pos (show ((i + 1 : Nat) : Int).toNat < _ from hs), dif_pos (show ((i : Nat) : Int).toNat < _ from h)]
  show (((((⟨#[c]⟩ : ByteArray) ++ w)[i + 1]'hs).toNat : Nat) : Int) = _
  rw [hz]; rfl
theorem es_cons (c : UInt8) (w : ByteArray) : ∀ i, i ≤ w.size → es ((⟨#[c]⟩ : ByteArray) ++ w) (i + 1) = (if (c.toNat : Int) = 69 then 1 else 0) + es w i
  | 0, _ => by
    have : es ((⟨#[c]⟩ : ByteArray) ++ w) (0 + 1) = 0 + (if bt ((⟨#[c]⟩ : ByteArray) ++ w) ((0 : Nat) : Int) = 69 then 1 else 0) := rfl
    rw [this, bt_0, Nat.zero_add]; rfl
  | i + 1, h => by
    have ih := es_cons c w i (by omega)
    have e1 : es ((⟨#[c]⟩ : ByteArray) ++ w) (i + 1 + 1) = es ((⟨#[c]⟩ : ByteArray) ++ w) (i + 1) + (if bt ((⟨#[c]⟩ : ByteArray) ++ w) ((i + 1 : Nat) : Int) = 69 then 1 else 0) := rfl
    have e2 : es w (i + 1) = es w i + (if bt w (i : Int) = 69 then 1 else 0) := rfl
    rw [e1, e2, ih, bt_s c w i (by omega)]; omega
theorem letters_cons (c : UInt8) (w : ByteArray) (hc : qw (c.toNat : Int) = true) (h : ∀ j : Nat, j < w.size → qw (bt w (j : Int)) = true) : ∀ j : Nat, j < ((⟨#[c]⟩ : ByteArray) ++ w).size → qw (bt ((⟨#[c]⟩ : ByteArray) ++ w) (j : Int)) = true := by
  intro j hj
  rw [ByteArray.size_append] at hj
  have h1 : (⟨#[c]⟩ : ByteArray).size = 1 := rfl
  cases j with
  | zero => rw [bt_0]; exact hc
  | succ j => rw [bt_s c w j (by omega)]; exact h j (by omega)
theorem W_good : ∀ d e w, w ∈ W d e → es w w.size = e ∧ ∀ j : Nat, j < w.size → qw (bt w (j : Int)) = true
  | 0, 0, w, h => by
    simp only [W, List.mem_singleton] at h; subst h
    exact ⟨rfl, fun j hj => absurd hj (Nat.not_lt_zero j)⟩
  | 0, _ + 1, w, h => by simp [W] at h
  | d + 1, 0, w, h => by
    simp only [W, List.mem_map] at h
    obtain ⟨v, hv, rfl⟩ := h
    have ⟨g1, g2⟩ := W_good d 0 v hv
    have e := es_cons 78 v v.size (Nat.le_refl _)
    rw [if_neg (by decide), g1] at e
    refine ⟨?_, letters_cons 78 v (by decide) g2⟩
    rw [ByteArray.size_append, show (⟨#[78]⟩ : ByteArray).size + v.size = v.size + 1 from Nat.add_comm _ _]; exact e
  | d + 1, e + 1, w, h => by
    simp only [W, List.mem_append, List.mem_map] at h
    rcases h with ⟨v, hv, rfl⟩ | ⟨v, hv, rfl⟩
    · have ⟨g1, g2⟩ := W_good d e v hv
      have q := es_cons 69 v v.size (Nat.le_refl _)
      rw [if_pos (by decide), g1] at q
      refine ⟨?_, letters_cons 69 v (by decide) g2⟩
      rw [ByteArray.size_append, show (⟨#[69]⟩ : ByteArray).size + v.size = v.size + 1 from Nat.add_comm _ _, q]; omega
    · have ⟨g1, g2⟩ := W_good d (e + 1) v hv
      have q := es_cons 78 v v.size (Nat.le_refl _)
      rw [if_neg (by decide), g1] at q
      refine ⟨?_, letters_cons 78 v (by decide) g2⟩
      rw [ByteArray.size_append, show (⟨#[78]⟩ : ByteArray).size + v.size = v.size + 1 from Nat.add_comm _ _, q]; omega
/-- A way that stays on the board. -/
def G (v : S37) : Prop := v.f1.size ≤ 24 ∧ (∀ k, 30 ≤ k → spec_ncCells.f k v.f0.f0 v.f0.f1 v.f1 = some (cls v.f0.f0 v.f0.f1 v.f1 v.f1.size, true)) ∧ (∀ k, 30 ≤ k → impl_Way_cells.f k v.f0.f0 v.f0.f1 v.f1 = some (cls v.f0.f0 v.f0.f1 v.f1 v.f1.size))
theorem good (x y : Int) (d e n : Nat) (w : ByteArray) (hd : e + n = d) (h : w ∈ W d e) (hx : 0 ≤ x) (hx' : x + e ≤ 12) (hy : 0 ≤ y) (hy' : y + n ≤ 12) : G (mk x y w) := by
  have hs := W_size d e w h
  obtain ⟨g1, g2⟩ := W_good d e w h
  have hl : w.size ≤ 24 := by omega
  have c0 : cl x y w 0 = ⟨x, y⟩ := by unfold cl es; simp
  have l0 : cls x y w 0 = [⟨x, y⟩] := by unfold cls; simp [c0]
  have i0 : ing ⟨x, y⟩ := ⟨⟨hx, by show x ≤ 12; omega⟩, hy, by show y ≤ 12; omega⟩
  have ie : ing (cl x y w w.size) := by
    unfold ing cl
    rw [g1]
    simp only
    omega
  obtain ⟨t, t1, t2⟩ := spec_cells_l0 hx (by omega) hy (by omega) hl x y w.size 0 (by omega) (by rw [c0]; exact i0)
  obtain rfl : t = true := t2.2 ⟨fun j _ hj => g2 j hj, ie⟩
  refine ⟨hl, fun k hk => ?_, fun k hk => ?_⟩
  · show spec_ncCells.f k x y w = some (cls x y w w.size, true)
    obtain ⟨k, rfl⟩ : ∃ q, k = q + 1 := ⟨k - 1, by omega⟩
    unfold spec_ncCells.f
    rw [spec_cell, decide_eq_true i0, Option.bind_some, if_pos rfl, decide_eq_false (by omega), spec_ncCells.j0.eq_2, if_neg (by decide)]
    have := t1 k (by omega)
    rw [l0, c0] at this
    exact this
  · show impl_Way_cells.f k x y w = some (cls x y w w.size)
    have := impl_cells_l0 hx (by omega) hy (by omega) hl x y w.size 0 k (by omega) (by omega)
    rw [l0] at this
    exact this
/- the ways -/
theorem all_run (x y X Y : Int) (c0 : 0 ≤ x ∧ x ≤ 12) (c1 : 0 ≤ y ∧ y ≤ 12) (c2 : 0 ≤ X ∧ X ≤ 12) (c3 : 0 ≤ Y ∧ Y ≤ 12) {k : Nat} (hk : 20000 ≤ k) : ∃ L b, L.length ≤ 200 ∧ (∀ v ∈ L, G v) ∧ spec_ncAll.f k x y X Y = some (L, b) ∧ impl_allWays.f k x y X Y = some (L, b) := by
  unfold spec_ncAll.f impl_allWays.f spec_ncCount.f impl_ways.f
  rw [w64 (n := X - x) (by omega) (by omega), w64 (n := Y - y) (by omega) (by omega), w64 (n := X - x + (Y - y)) (by omega) (by omega), w64 (n := X - x + Y) (by omega) (by omega), w64 (n := X - x + Y - y) (by omega) (by omega), show X - x + Y - y = X - x + (Y - y) by omega]
  by_cases n0 : X - x < 0 ∨ Y - y < 0
  · refine ⟨[], true, by simp, by simp, ?_, ?_⟩
    · have h0 : (if X - x < 0 then some 0 else if Y - y < 0 then some 0 else (spec_paChoose.f k (X - x + (Y - y)) (X - x)).bind fun t115 => some t115) = some (0 : Int) := by
        by_cases c : X - x < 0
        · rw [if_pos c]
        · rw [if_neg c, if_pos (by omega)]
      rw [h0, Option.bind_some, if_neg (by decide), texts_neg _ _ n0 (by omega), Option.bind_some]
      have := (ways_l0 x y [] (by simp) 0 0 k [] (by simp) (by omega) (by simp)).1
      exact this
    · have h0 : (if X < x then some 0 else if Y < y then some 0 else (impl_choose.f k (X - x + (Y - y)) (X - x)).bind fun t160 => some t160) = some (0 : Int) := by
        by_cases c : X < x
        · rw [if_pos c]
        · rw [if_neg c, if_pos (by omega)]
      rw [h0, Option.bind_some, if_neg (by decide), Option.bind_some, if_neg (by decide)]
  · obtain ⟨e, he⟩ : ∃ e : Nat, X - x = e := ⟨(X - x).toNat, by omega⟩
    obtain ⟨n, hn⟩ : ∃ n : Nat, Y - y = n := ⟨(Y - y).toNat, by omega⟩
    obtain rfl : X = x + (e : Int) := by omega
    obtain rfl : Y = y + (n : Int) := by omega
    rw [he, hn, if_neg (by omega), if_neg (by omega), if_neg (by omega), if_neg (by omega), ← Int.natCast_add, spec_choose_run (by omega) (by omega) (by omega), impl_choose_run (by omega) (by omega) (by omega)]
    simp only [Option.bind_some]
    by_cases hc : C (e + n) e ≤ 200
    · have hp := C_pos (e + n) e (by omega)
      have hlen := W_len (e + n) e
      refine ⟨(W (e + n) e).map (mk x y), true, by rw [List.length_map, W_len]; omega, ?_, ?_, ?_⟩
      · intro v hv
        obtain ⟨w, hw, rfl⟩ := List.mem_map.1 hv
        exact good x y (e + n) e n w rfl hw c0.1 c2.2 c1.1 c3.2
      · rw [if_neg (by omega), texts_run (e + n) e n k rfl (by omega) hc (by omega), Option.bind_some]
        have := (ways_l0 x y (W (e + n) e) (by omega) (W (e + n) e).length 0 k [] (by omega) (by omega) (by simp)).1
        exact this
      · rw [if_neg (by omega), if_pos (by omega), grow_run (e + n) e n k x y [] _ rfl (by omega) (by show 0 + (e + n) ≤ 100; omega) (by omega) (by omega) (by omega) (by omega) hc (by simp; omega) (by omega), Option.bind_some]
        have em : (W (e + n) e).map (fun w => (⟨#[]⟩ : ByteArray) ++ w) = W (e + n) e := by
          rw [show (fun w : ByteArray => (⟨#[]⟩ : ByteArray) ++ w) = id from funext fun w => ByteArray.empty_append]; exact List.map_id _
        rw [em, List.nil_append]
        have := (ways_l0 x y (W (e + n) e) (by omega) (W (e + n) e).length 0 k [] (by omega) (by omega) (by simp)).2
        exact this
    · refine ⟨[], false, by simp, by simp, ?_, ?_⟩
      · rw [if_pos (by omega)]
      · rw [if_pos (by omega)]
/-- Whether two ways do not meet. -/
def ap (v w : S37) : Bool := match impl_meeting.f 1000 v.f0.f0 v.f0.f1 v.f1 w.f0.f0 w.f0.f1 w.f1 with | some p => decide (p.1 < 0) | none => false
theorem ap_run {v w : S37} (hv : G v) (hw : G w) {k : Nat} (hk : 1000 ≤ k) : (∃ p q, spec_ncMeet.f k v.f0.f0 v.f0.f1 v.f1 w.f0.f0 w.f0.f1 w.f1 = some (p, q, !ap v w)) ∧ ∃ p q, impl_meeting.f k v.f0.f0 v.f0.f1 v.f1 w.f0.f0 w.f0.f1 w.f1 = some (p, q) ∧ (p < 0 ↔ ap v w = true) := by
  obtain ⟨m, m1, m2, m3⟩ := meet_run hv.1 hw.1 hv.2.1 hw.2.1 hv.2.2 hw.2.2
  have ha : ap v w = m.isNone := by
    unfold ap
    rw [m3 1000 (Nat.le_refl _)]
    cases m with
    | none => rfl
    | some p => have := m1 p rfl; exact decide_eq_false (by show ¬ p.1 < 0; omega)
  rw [ha, m2 k hk, m3 k hk]
  cases m with
  | none => exact ⟨⟨_, _, rfl⟩, _, _, rfl, by simp⟩
  | some p => have := m1 p rfl; exact ⟨⟨_, _, rfl⟩, _, _, rfl, by simp; omega⟩
/-- The pairs of one way, from a place on. -/
def R (bs : List S37) (v : S37) (j : Nat) : List (List S37) := ((bs.drop j).filter (ap v)).map fun w => [v, w]
theorem R_end (bs : List S37) (v : S37) : R bs v bs.length = [] := by unfold R; rw [List.drop_length]; rfl
theorem R_next (bs : List S37) (v : S37) (j : Nat) (h : j < bs.length) : R bs v j = if ap v bs[j] = true then [v, bs[j]] :: R bs v (j + 1) else R bs v (j + 1) := by
  unfold R
  rw [List.drop_eq_getElem_cons h, List.filter_cons]
  split <;> rfl
theorem rdP {L : List S37} {i : Nat} (h : i < L.length) : rd_T37 L (i : Int) = L[i] := rdW h
theorem spec_row (bs va : List S37) (la i : Int) (v : S37) (hv : G v) (hb : ∀ w ∈ bs, G w) (hl : bs.length ≤ 200) : ∀ (d j k : Nat) (A : List (List S37)), j + d = bs.length → 1000 ≤ k → A.length ≤ 200 →
    spec_AllPairsApart.l1 (k + d + 1) bs A va la i bs (bs.length : Int) (j : Int) v.f0.f0 v.f0.f1 v.f1 = if 200 < (A ++ R bs v j).length then some ([], false) else spec_AllPairsApart.l0 k bs (A ++ R bs v j) va la (wrap64 (i + 1)) := by
  intro d
  induction d with
  | zero =>
    intro j k A hd hk hA
    obtain rfl : j = bs.length := by omega
    rw [show k + 0 + 1 = k + 1 from rfl, spec_AllPairsApart.l1.eq_2, if_neg (by omega), R_end, List.append_nil, if_neg (by omega)]
  | succ d ih =>
    intro j k A hd hk hA
    have hj : j < bs.length := by omega
    obtain ⟨⟨p, q, h1⟩, _⟩ := ap_run hv (hb _ (List.getElem_mem hj)) (k := k + d + 1) (by omega)
    rw [show k + (d + 1) + 1 = (k + d + 1) + 1 from rfl, spec_AllPairsApart.l1.eq_2, if_pos (by omega), if_pos (by omega), if_pos (by omega), rdP hj, h1, Option.bind_some, wN j (by omega), R_next bs v j hj]
    cases ha : ap v bs[j] with
    | false =>
      dsimp only
      rw [if_pos (show (!false) = true from rfl), show (if false = true then [v, bs[j]] :: R bs v (j + 1) else R bs v (j + 1)) = R bs v (j + 1) from rfl]
      exact ih (j + 1) k A (by omega) hk hA
    | true =>
      dsimp only
      rw [if_neg (show ¬ (!true) = true by decide), if_pos (show A.length < 5864062014805 by omega), Option.bind_some, show (if true = true then [v, bs[j]] :: R bs v (j + 1) else R bs v (j + 1)) = [v, bs[j]] :: R bs v (j + 1) from rfl]
      have hlen : (A ++ [[v, bs[j]]]).length = A.length + 1 := by simp
      by_cases hover : A.length + 1 ≤ 200
      · have := ih (j + 1) k (A ++ [[v, bs[j]]]) (by omega) hk (by omega)
        rw [List.append_assoc, List.singleton_append] at this
        rw [if_neg (by rw [List.length_append, List.length_singleton]; omega)]
        exact this
      · rw [if_pos (by rw [List.length_append, List.length_singleton]; omega), if_pos (by rw [List.length_append, List.length_cons]; omega)]
theorem impl_row (bs va : List S37) (la i : Int) (v : S37) (hv : G v) (hb : ∀ w ∈ bs, G w) (hl : bs.length ≤ 200) : ∀ (d j k : Nat) (A : List (List S37)), j + d = bs.length → 1000 ≤ k → A.length ≤ 200 + j →
    impl_AllPairsApart.l1 (k + d + 1) bs A va la i bs (bs.length : Int) (j : Int) v.f0.f0 v.f0.f1 v.f1 = if 200 < (A ++ R bs v j).length then some ([], false) else impl_AllPairsApart.l0 k bs (A ++ R bs v j) va la (wrap64 (i + 1)) := by
  intro d
  induction d with
  | zero =>
    intro j k A hd hk hA
    obtain rfl : j = bs.length := by omega
    rw [show k + 0 + 1 = k + 1 from rfl, impl_AllPairsApart.l1.eq_2, if_neg (by omega), R_end, List.append_nil]
    by_cases h : 200 < A.length
    · rw [if_pos (by omega), if_pos h]
    · rw [if_neg (by omega), if_neg h]
  | succ d ih =>
    intro j k A hd hk hA
    have hj : j < bs.length := by omega
    obtain ⟨_, p, q, h1, h2⟩ := ap_run hv (hb _ (List.getElem_mem hj)) (k := k + d + 1) (by omega)
    rw [show k + (d + 1) + 1 = (k + d + 1) + 1 from rfl, impl_AllPairsApart.l1.eq_2, if_pos (by omega), if_pos (by omega), if_pos (by omega), rdP hj, h1, Option.bind_some, wN j (by omega), R_next bs v j hj]
    cases ha : ap v bs[j] with
    | false =>
      rw [ha] at h2
      dsimp only
      rw [if_neg (show ¬ p < 0 from fun h => absurd (h2.1 h) (by decide)), show (if false = true then [v, bs[j]] :: R bs v (j + 1) else R bs v (j + 1)) = R bs v (j + 1) from rfl]
      exact ih (j + 1) k A (by omega) hk (by omega)
    | true =>
      rw [ha] at h2
      have := ih (j + 1) k (A ++ [[v, bs[j]]]) (by omega) hk (by rw [List.length_append, List.length_singleton]; omega)
      rw [List.append_assoc, List.singleton_append] at this
      dsimp only
      rw [if_pos (h2.2 rfl), if_pos (show A.length < 5864062014805 by omega), show (if true = true then [v, bs[j]] :: R bs v (j + 1) else R bs v (j + 1)) = [v, bs[j]] :: R bs v (j + 1) from rfl]
      exact this
/-- All pairs from a place on. -/
def Q (va bs : List S37) (i : Nat) : List (List S37) := (va.drop i).flatMap fun v => R bs v 0
theorem Q_end (va bs : List S37) : Q va bs va.length = [] := by unfold Q; rw [List.drop_length]; rfl
theorem Q_next (va bs : List S37) (i : Nat) (h : i < va.length) : Q va bs i = R bs va[i] 0 ++ Q va bs (i + 1) := by
  unfold Q
  rw [List.drop_eq_getElem_cons h, List.flatMap_cons]
theorem pairs_run (va bs : List S37) (ha : ∀ v ∈ va, G v) (hb : ∀ w ∈ bs, G w) (hla : va.length ≤ 200) (hlb : bs.length ≤ 200) : ∀ (d i k : Nat) (A : List (List S37)), i + d = va.length → 1000 + 250 * d < k → A.length ≤ 200 →
    spec_AllPairsApart.l0 k bs A va (va.length : Int) (i : Int) = (if 200 < (A ++ Q va bs i).length then some ([], false) else some (A ++ Q va bs i, true)) ∧ impl_AllPairsApart.l0 k bs A va (va.length : Int) (i : Int) = (if 200 < (A ++ Q va bs i).length then some ([], false) else some (A ++ Q va bs i, true)) := by
  intro d
  induction d with
  | zero =>
    intro i k A hd hk hA
    obtain ⟨k, rfl⟩ : ∃ m, k = m + 1 := ⟨k - 1, by omega⟩
    obtain rfl : i = va.length := by omega
    rw [Q_end, List.append_nil, if_neg (show ¬ 200 < A.length by omega)]
    rw [spec_AllPairsApart.l0.eq_2, impl_AllPairsApart.l0.eq_2, if_neg (by omega), if_neg (by omega)]
    exact ⟨rfl, rfl⟩
  | succ d ih =>
    intro i k A hd hk hA
    obtain ⟨k, rfl⟩ : ∃ m, k = m + bs.length + 1 + 1 := ⟨k - bs.length - 2, by omega⟩
    have hi : i < va.length := by omega
    have hv := ha _ (List.getElem_mem hi)
    have r1 := spec_row bs va (va.length : Int) (i : Int) va[i] hv hb hlb bs.length 0 k A (by omega) (by omega) hA
    have r2 := impl_row bs va (va.length : Int) (i : Int) va[i] hv hb hlb bs.length 0 k A (by omega) (by omega) (by omega)
    rw [show ((0 : Nat) : Int) = 0 from rfl] at r1 r2
    have i1 : ((i : Nat) : Int) < (va.length : Int) := by omega
    have i2 : (0 : Int) ≤ ((i : Nat) : Int) := by omega
    have e1 : spec_AllPairsApart.l0 (k + bs.length + 1 + 1) bs A va (va.length : Int) (i : Int) = (if 200 < (A ++ R bs va[i] 0).length then some ([], false) else spec_AllPairsApart.l0 k bs (A ++ R bs va[i] 0) va (va.length : Int) ((i + 1 : Nat) : Int)) := by
      rw [spec_AllPairsApart.l0.eq_2, if_pos i1, if_pos i2, if_pos i1, rdP hi, r1, wN i (by omega)]
    have e2 : impl_AllPairsApart.l0 (k + bs.length + 1 + 1) bs A va (va.length : Int) (i : Int) = (if 200 < (A ++ R bs va[i] 0).length then some ([], false) else impl_AllPairsApart.l0 k bs (A ++ R bs va[i] 0) va (va.length : Int) ((i + 1 : Nat) : Int)) := by
      rw [impl_AllPairsApart.l0.eq_2, if_pos i1, if_pos i2, if_pos i1, rdP hi, r2, wN i (by omega)]
    rw [e1, e2, Q_next va bs i hi, ← List.append_assoc]
    by_cases h : 200 < (A ++ R bs va[i] 0).length
    · have h2 : 200 < (A ++ R bs va[i] 0 ++ Q va bs (i + 1)).length := by rw [List.length_append]; omega
      rw [if_pos h, if_pos h, if_pos h2]
      exact ⟨rfl, rfl⟩
    · rw [if_neg h, if_neg h]
      exact ih (i + 1) k _ (by omega) (by omega) (by omega)
theorem Q_two (va bs : List S37) (r : List S37) (h : r ∈ Q va bs 0) : r.length = 2 := by
  unfold Q R at h
  simp only [List.mem_flatMap, List.mem_map] at h
  obtain ⟨v, _, w, _, rfl⟩ := h
  rfl
/- both answers -/
theorem same (a b c d e f g h : Int) {k : Nat} (hk : 60000 ≤ k) : ∃ L t, L.length ≤ 200 ∧ (∀ r ∈ L, r.length = 2) ∧ spec_AllPairsApart.f k a b c d e f g h = some (L, t) ∧ impl_AllPairsApart.f k a b c d e f g h = some (L, t) := by
  obtain ⟨k, rfl⟩ : ∃ m, k = m + 1 + 1 := ⟨k - 2, by omega⟩
  have sb : spec_AllPairsApart.j0 (k + 1 + 1) true a b c d e f g h = some ([], false) := by rw [spec_AllPairsApart.j0.eq_2, if_pos rfl]
  have ib : impl_AllPairsApart.j0 (k + 1 + 1) true a b c d e f g h = some ([], false) := by rw [impl_AllPairsApart.j0.eq_2, if_pos rfl]
  have no : ∃ L t, L.length ≤ 200 ∧ (∀ r ∈ L, r.length = 2) ∧ some ([], false) = some ((L : List (List S37)), (t : Bool)) ∧ some ([], false) = some ((L : List (List S37)), (t : Bool)) := ⟨[], false, by simp, by simp, rfl, rfl⟩
  unfold spec_AllPairsApart.f impl_AllPairsApart.f
  simp only [spec_cell, impl_cell, Option.bind_some]
  by_cases c0 : ing ⟨a, b⟩
  case neg => rw [decide_eq_false c0, if_neg (by decide), if_neg (by decide), sb, ib]; exact no
  rw [decide_eq_true c0, if_pos rfl, if_pos rfl]
  by_cases c1 : ing ⟨c, d⟩
  case neg => rw [decide_eq_false c1, if_neg (by decide), if_neg (by decide), sb, ib]; exact no
  rw [decide_eq_true c1, if_pos rfl, if_pos rfl]
  by_cases c2 : ing ⟨e, f⟩
  case neg => rw [decide_eq_false c2, if_neg (by decide), if_neg (by decide), sb, ib]; exact no
  rw [decide_eq_true c2, if_pos rfl, if_pos rfl]
  by_cases c3 : ing ⟨g, h⟩
  case neg => rw [decide_eq_false c3, Bool.not_false, sb, ib]; exact no
  rw [decide_eq_true c3, Bool.not_true, spec_AllPairsApart.j0.eq_2, impl_AllPairsApart.j0.eq_2, if_neg (by decide), if_neg (by decide)]
  obtain ⟨L1, b1, l1, g1, s1, i1⟩ := all_run a b e f c0.1 c0.2 c2.1 c2.2 (k := k + 1) (by omega)
  obtain ⟨L2, b2, l2, g2, s2, i2⟩ := all_run c d g h c1.1 c1.2 c3.1 c3.2 (k := k + 1) (by omega)
  rw [s1, i1, Option.bind_some, Option.bind_some, s2, i2, Option.bind_some, Option.bind_some]
  have sj : spec_AllPairsApart.j1 (k + 1) L1 L2 true = some ([], false) := by rw [spec_AllPairsApart.j1.eq_2, if_pos rfl]
  have ij : impl_AllPairsApart.j1 (k + 1) L1 L2 true = some ([], false) := by rw [impl_AllPairsApart.j1.eq_2, if_pos rfl]
  cases b1 with
  | false => exact ⟨[], false, by simp, by simp, sj, ij⟩
  | true =>
    cases b2 with
    | false => exact ⟨[], false, by simp, by simp, sj, ij⟩
    | true =>
      show ∃ L t, L.length ≤ 200 ∧ (∀ r ∈ L, r.length = 2) ∧ spec_AllPairsApart.j1 (k + 1) L1 L2 false = some (L, t) ∧ impl_AllPairsApart.j1 (k + 1) L1 L2 false = some (L, t)
      rw [spec_AllPairsApart.j1.eq_2, impl_AllPairsApart.j1.eq_2, if_neg (by decide), if_neg (by decide)]
      obtain ⟨p1, p2⟩ := pairs_run L1 L2 g1 g2 l1 l2 L1.length 0 k [] (by omega) (by omega) (by simp)
      rw [show ((0 : Nat) : Int) = 0 from rfl, List.nil_append] at p1 p2
      rw [p1, p2]
      by_cases hc : 200 < (Q L1 L2 0).length
      · rw [if_pos hc]; exact no
      · rw [if_neg hc]; exact ⟨_, _, by omega, fun r hr => Q_two L1 L2 r hr, rfl, rfl⟩
/- comparing and marking rows -/
theorem rdL {L : List (List S37)} {i : Nat} (h : i < L.length) : rd_L4 L (i : Int) = L[i] := by
  unfold rd_L4
  rw [Int.toNat_natCast, List.getD_eq_getElem?_getD, List.getElem?_eq_getElem h]; rfl
theorem eqSS_from (L : List (List S37)) (hL : L.length ≤ 200) (h2 : ∀ r ∈ L, r.length = 2) : ∀ (d i k : Nat), i + d = L.length → d + 1100 < k → laws_eqWaySS.l0 k L L (i : Int) = some true := by
  intro d
  induction d with
  | zero =>
    intro i k hd hk
    obtain ⟨k, rfl⟩ : ∃ m, k = m + 1 := ⟨k - 1, by omega⟩
    rw [laws_eqWaySS.l0.eq_2, if_neg (by omega)]
  | succ d ih =>
    intro i k hd hk
    obtain ⟨k, rfl⟩ : ∃ m, k = m + 1 := ⟨k - 1, by omega⟩
    have hi : i < L.length := by omega
    have := h2 _ (List.getElem_mem hi)
    rw [laws_eqWaySS.l0.eq_2, if_pos (by omega), if_pos (by omega), if_pos (by omega), rdL hi, eqW_run _ (by omega) (by omega), Option.bind_some, if_pos rfl, wN i (by omega)]
    exact ih (i + 1) k (by omega) (by omega)
theorem eqSS_run (L : List (List S37)) (hL : L.length ≤ 200) (h2 : ∀ r ∈ L, r.length = 2) {k : Nat} (hk : 2000 ≤ k) : laws_eqWaySS.f k L L = some true := by
  unfold laws_eqWaySS.f
  rw [if_pos rfl]
  exact eqSS_from L hL h2 L.length 0 k (by omega) (by omega)
/-- A pair's marks. -/
def mp (m : Nat) : List S37 := [⟨⟨(m : Int), ((m + 1 : Nat) : Int)⟩, mT (m + 2)⟩, ⟨⟨((m + 3 : Nat) : Int), ((m + 4 : Nat) : Int)⟩, mT (m + 5)⟩]
theorem mark_pair (r : List S37) (h : r.length = 2) (m : Nat) (h0 : 0 < m) (hm : m ≤ 9000) {k : Nat} (hk : 100 ≤ k) : laws_markWayS.f k r (m : Int) = some (((m + 6 : Nat) : Int), mp m) := by
  match r, h with
  | [v, w], _ =>
    obtain ⟨k, rfl⟩ : ∃ q, k = q + 1 + 1 + 1 := ⟨k - 3, by omega⟩
    have e : ∀ n : Nat, n ≤ 10000 → wrap64 ((n : Int) + 1) = ((n + 1 : Nat) : Int) := fun n hn => wN n (by omega)
    unfold laws_markWayS.f
    rw [laws_markWayS.l0.eq_2, if_pos (by simp), if_pos (by decide), e m (by omega), e (m + 1) (by omega), e (m + 1 + 1) (by omega), mT_run (by omega) (by omega) (by omega), Option.bind_some, show wrap64 ((0 : Int) + 1) = 1 from by rw [w64 (by decide) (by decide)]; rfl]
    rw [laws_markWayS.l0.eq_2, if_pos (by simp), if_pos (by decide), e (m + 1 + 1 + 1) (by omega), e (m + 1 + 1 + 1 + 1) (by omega), e (m + 1 + 1 + 1 + 1 + 1) (by omega), mT_run (by omega) (by omega) (by omega), Option.bind_some, show wrap64 ((1 : Int) + 1) = 2 from by rw [w64 (by decide) (by decide)]; rfl]
    rw [laws_markWayS.l0.eq_2, if_neg (by simp)]
    rfl
theorem held_pair (m : Nat) (h0 : 0 < m) (hm : m ≤ 9000) {k : Nat} (hk : 100 ≤ k) : laws_heldWayS.f k (mp m) (m : Int) = some ((m + 6 : Nat) : Int) := by
  obtain ⟨k, rfl⟩ : ∃ q, k = q + 1 + 1 + 1 := ⟨k - 3, by omega⟩
  have e : ∀ n : Nat, n ≤ 10000 → wrap64 ((n : Int) + 1) = ((n + 1 : Nat) : Int) := fun n hn => wN n (by omega)
  have r0 : rd_T37 (mp m) 0 = ⟨⟨(m : Int), ((m + 1 : Nat) : Int)⟩, mT (m + 2)⟩ := rfl
  have r1 : rd_T37 (mp m) 1 = ⟨⟨((m + 3 : Nat) : Int), ((m + 4 : Nat) : Int)⟩, mT (m + 5)⟩ := rfl
  unfold laws_heldWayS.f
  rw [laws_heldWayS.l0.eq_2, if_pos (by show (0 : Int) < 2; decide), if_pos (by decide), r0, if_pos rfl, e m (by omega), if_pos rfl, e (m + 1) (by omega), mT_run (by omega) (by omega) (by omega), Option.bind_some, if_pos rfl, e (m + 1 + 1) (by omega), show wrap64 ((0 : Int) + 1) = 1 from by rw [w64 (by decide) (by decide)]; rfl]
  rw [laws_heldWayS.l0.eq_2, if_pos (by show (1 : Int) < 2; decide), if_pos (by decide), r1, if_pos rfl, e (m + 1 + 1 + 1) (by omega), if_pos rfl, e (m + 1 + 1 + 1 + 1) (by omega), mT_run (by omega) (by omega) (by omega), Option.bind_some, if_pos rfl, e (m + 1 + 1 + 1 + 1 + 1) (by omega), show wrap64 ((1 : Int) + 1) = 2 from by rw [w64 (by decide) (by decide)]; rfl]
  rw [laws_heldWayS.l0.eq_2, if_neg (by show ¬ (2 : Int) < 2; decide)]
/-- All marks. -/
def mss (n : Nat) : List (List S37) := (List.range n).map fun i => mp (1 + 6 * i)
theorem mss_len (n : Nat) : (mss n).length = n := by simp [mss]
theorem markSS_from (n : Nat) (hn : n ≤ 200) : ∀ (d i k : Nat) (M : List (List S37)), i + d = n → M.length = n → (∀ j (h : j < M.length), i ≤ j → M[j].length = 2) → M.take i = (mss n).take i → d + 200 < k → laws_markWaySS.l0 k M ((1 + 6 * i : Nat) : Int) (i : Int) = some (((1 + 6 * n : Nat) : Int), mss n) := by
  intro d
  induction d with
  | zero =>
    intro i k M hd hM h2 ht hk
    obtain ⟨k, rfl⟩ : ∃ m, k = m + 1 := ⟨k - 1, by omega⟩
    rw [laws_markWaySS.l0.eq_2, if_neg (by omega)]
    rw [List.take_of_length_le (by omega), List.take_of_length_le (by rw [mss_len]; omega)] at ht
    rw [ht, show i = n by omega]
  | succ d ih =>
    intro i k M hd hM h2 ht hk
    obtain ⟨k, rfl⟩ : ∃ m, k = m + 1 := ⟨k - 1, by omega⟩
    have hi : i < M.length := by omega
    have hg : M.getD (i : Int).toNat [] = M[i] := by rw [Int.toNat_natCast, List.getD_eq_getElem?_getD, List.getElem?_eq_getElem hi]; rfl
    rw [laws_markWaySS.l0.eq_2, if_pos (by omega), if_pos (by omega), hg, mark_pair _ (h2 i hi (Nat.le_refl _)) _ (by omega) (by omega) (by omega), Option.bind_some, wN i (by omega), Int.toNat_natCast]
    show laws_markWaySS.l0 k (M.set i (mp (1 + 6 * i))) ((1 + 6 * i + 6 : Nat) : Int) ((i + 1 : Nat) : Int) = _
    rw [show 1 + 6 * i + 6 = 1 + 6 * (i + 1) by omega]
    refine ih (i + 1) k _ (by omega) (by rw [List.length_set]; omega) ?_ ?_ (by omega)
    · intro j hj hij
      rw [List.length_set] at hj
      rw [List.getElem_set_ne (by omega)]
      exact h2 j hj (by omega)
    · rw [List.take_succ_eq_append_getElem (by rw [List.length_set]; omega), List.take_succ_eq_append_getElem (by rw [mss_len]; omega), List.take_set_of_le (Nat.le_refl i), ht, List.getElem_set_self]
      congr 2
      simp [mss]
theorem markSS_run (L : List (List S37)) (hL : L.length ≤ 200) (h2 : ∀ r ∈ L, r.length = 2) {k : Nat} (hk : 500 ≤ k) : laws_markWaySS.f k L 1 = some (((1 + 6 * L.length : Nat) : Int), mss L.length) := by
  unfold laws_markWaySS.f
  exact markSS_from L.length hL L.length 0 k L (by omega) rfl (fun j hj _ => h2 _ (List.getElem_mem hj)) (by simp) (by omega)
theorem heldSS_from (n : Nat) (hn : n ≤ 200) : ∀ (d i k : Nat), i + d = n → d + 200 < k → laws_heldWaySS.l0 k (mss n) ((1 + 6 * i : Nat) : Int) (i : Int) = some ((1 + 6 * n : Nat) : Int) := by
  intro d
  induction d with
  | zero =>
    intro i k hd hk
    obtain ⟨k, rfl⟩ : ∃ m, k = m + 1 := ⟨k - 1, by omega⟩
    rw [laws_heldWaySS.l0.eq_2, if_neg (by rw [mss_len]; omega), show i = n by omega]
  | succ d ih =>
    intro i k hd hk
    obtain ⟨k, rfl⟩ : ∃ m, k = m + 1 := ⟨k - 1, by omega⟩
    have hr : rd_L4 (mss n) (i : Int) = mp (1 + 6 * i) := by rw [rdL (by rw [mss_len]; omega)]; simp [mss]
    rw [laws_heldWaySS.l0.eq_2, if_pos (by rw [mss_len]; omega), if_pos (by omega), hr, held_pair _ (by omega) (by omega) (by omega), Option.bind_some, if_neg (by omega), wN i (by omega), show 1 + 6 * i + 6 = 1 + 6 * (i + 1) by omega]
    exact ih (i + 1) k (by omega) (by omega)
theorem heldSS_run (n : Nat) (hn : n ≤ 200) {k : Nat} (hk : 500 ≤ k) : laws_heldWaySS.f k (mss n) 1 = some ((1 + 6 * n : Nat) : Int) := by
  unfold laws_heldWaySS.f
  exact heldSS_from n hn n 0 k (by omega) (by omega)
theorem FnExactAllPairsApart : ∀ (a0_0 : Int) (a0_1 : Int) (a1_0 : Int) (a1_1 : Int) (a2_0 : Int) (a2_1 : Int) (a3_0 : Int) (a3_1 : Int), (Lit.int .i64 a0_0).wf = true → (Lit.int .i64 a0_1).wf = true → (Lit.int .i64 a1_0).wf = true → (Lit.int .i64 a1_1).wf = true → (Lit.int .i64 a2_0).wf = true → (Lit.int .i64 a2_1).wf = true → (Lit.int .i64 a3_0).wf = true → (Lit.int .i64 a3_1).wf = true → ∃ k, laws_FnExactAllPairsApart.f k a0_0 a0_1 a1_0 a1_1 a2_0 a2_1 a3_0 a3_1 = some true := by
  intro a b c d e f g h _ _ _ _ _ _ _ _
  refine ⟨90002, ?_⟩
  obtain ⟨L, t, hL, h2, hs, hm⟩ := same a b c d e f g h (k := 90002) (by omega)
  obtain ⟨L', t', hL', h2', hs', hm'⟩ := same a b c d e f g h (k := 90001) (by omega)
  have hq := spec_AllPairsApart.mono a b c d e f g h 90001 _ hs'
  rw [hs] at hq
  obtain ⟨rfl, rfl⟩ := Prod.mk.inj (Option.some.inj hq)
  unfold laws_FnExactAllPairsApart.f laws_toCell.f
  simp only [Option.bind_some]
  rw [hs, Option.bind_some, hm, Option.bind_some, eqSS_run L hL h2 (by omega), Option.bind_some, if_pos rfl, bne_self_eq_false, show (90002 : Nat) = 90001 + 1 from rfl, laws_FnExactAllPairsApart.j0.eq_2, if_neg (by decide), markSS_run L hL h2 (by omega), Option.bind_some, heldSS_run _ hL (by omega), Option.bind_some, if_neg (by omega), if_pos rfl]
  unfold laws_toCell.f
  simp only [Option.bind_some]
  rw [hm', Option.bind_some, eqSS_run L hL h2 (by omega), Option.bind_some, if_pos rfl, bne_self_eq_false, show (90001 : Nat) = 90000 + 1 from rfl, laws_FnExactAllPairsApart.j1.eq_2, if_neg (by decide), heldSS_run _ hL (by omega), Option.bind_some, if_neg (by omega), if_pos rfl]
end Go.Proofs.Ythlbbngmgioamaa.Pure
