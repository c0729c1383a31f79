/- The determinant of a matrix of small numbers: both sides develop it by its first row. No condition. -/
import Derived.Test.YtaneoolaknnkaaaOFnExactDeterminantOfx4
namespace Go.Proofs.Ytaneoolaknnkaaa.Pure
open Go.RowKit Go.Proofs.Ytaneoolaknnkaaa.Stub Go.Proofs.Ytaneoolaknnkaaa.OFnExactDeterminantOf Go.Proofs.YtaneoolaknnkaaaW.PrintWords Go.Proofs.YtaneoolaknnkaaaW.PrintLast
set_option linter.unusedVariables false
set_option linter.unusedSimpArgs false
theorem w64 {n : Int} (h0 : -9223372036854775808 ≤ n) (h1 : n ≤ 9223372036854775807) : wrap64 n = n := by unfold wrap64; omega
theorem wf_bd {n : Int} (h : (Lit.int .i64 n).wf = true) : -9223372036854775808 ≤ n ∧ n ≤ 9223372036854775807 := by
  unfold Lit.wf at h
  rw [Bool.and_eq_true] at h
  exact ⟨of_decide_eq_true h.1, of_decide_eq_true h.2⟩

theorem in_eq (a b c : Int) : impl_in.f a b c = some (decide (b ≤ a ∧ a ≤ c)) := by
  unfold impl_in.f
  by_cases h1 : b ≤ a <;> by_cases h2 : a ≤ c <;> simp [h1, h2]
theorem l1In_eq (a b c : Int) : spec_l1In.f a b c = some (decide (b ≤ a ∧ a ≤ c)) := by
  unfold spec_l1In.f
  by_cases h1 : b ≤ a <;> by_cases h2 : a ≤ c <;> simp [h1, h2]

theorem wN (n : Nat) (h : n ≤ 1000000000000) : wrap64 ((n : Int) + 1) = ((n + 1 : Nat) : Int) := by rw [w64 (by omega) (by omega)]; omega
theorem toI_from (L : List Int) (hL : L.length ≤ 1048576) : ∀ (d i k : Nat) (M : List Int), i + d = L.length → M.length = L.length → M.take i = L.take i → d < k → laws_toIntS.l0 k L M (i : Int) = some L := by
  intro d
  induction d with
  | zero =>
    intro i k M hd hM ht hk
    obtain ⟨k, rfl⟩ : ∃ m, k = m + 1 := ⟨k - 1, by omega⟩
    rw [laws_toIntS.l0.eq_2, if_neg (by omega)]
    rw [List.take_of_length_le (by omega), List.take_of_length_le (by omega)] at ht
    rw [ht]
  | succ d ih =>
    intro i k M hd hM ht hk
    obtain ⟨k, rfl⟩ : ∃ m, k = m + 1 := ⟨k - 1, by omega⟩
    rw [laws_toIntS.l0.eq_2, if_pos (by omega), if_pos (by omega), if_pos (by omega), wN i (by omega), Int.toNat_natCast]
    refine ih (i + 1) k _ (by omega) (by rw [List.length_set]; omega) ?_ (by omega)
    have hi : i < L.length := by omega
    rw [List.take_succ_eq_append_getElem (by rw [List.length_set]; omega), List.take_succ_eq_append_getElem hi, List.take_set_of_le (Nat.le_refl i), ht, List.getElem_set_self]
    congr 2
    unfold rd
    rw [Int.toNat_natCast, List.getD_eq_getElem?_getD, List.getElem?_eq_getElem hi]; rfl
theorem toI_run (L : List Int) (hL : L.length ≤ 1048576) {k : Nat} (hk : L.length < k) : laws_toIntS.f k L = some L := by
  unfold laws_toIntS.f
  rw [if_pos (by omega), Int.toNat_natCast, if_pos (by omega)]
  exact toI_from L hL L.length 0 k _ (by omega) (by simp) (by simp) hk
theorem eqI_from (L : List Int) (hL : L.length ≤ 1048576) : ∀ (d i k : Nat), i + d = L.length → d < k → laws_eqIntS.l0 k L L (i : Int) = some true := by
  intro d
  induction d with
  | zero =>
    intro i k hd hk
    obtain ⟨k, rfl⟩ : ∃ m, k = m + 1 := ⟨k - 1, by omega⟩
    rw [laws_eqIntS.l0.eq_2, if_neg (by omega)]
  | succ d ih =>
    intro i k hd hk
    obtain ⟨k, rfl⟩ : ∃ m, k = m + 1 := ⟨k - 1, by omega⟩
    rw [laws_eqIntS.l0.eq_2, if_pos (by omega), if_pos (by omega), if_pos (by omega), if_pos rfl, wN i (by omega)]
    exact ih (i + 1) k (by omega) (by omega)
theorem eqI_run (L : List Int) (hL : L.length ≤ 1048576) {k : Nat} (hk : L.length < k) : laws_eqIntS.f k L L = some true := by
  unfold laws_eqIntS.f
  rw [if_pos rfl]
  exact eqI_from L hL L.length 0 k (by omega) hk

/-- Whether all numbers are in a range. -/
def allIn (lo hi : Int) (L : List Int) : Bool := L.all fun x => decide (lo ≤ x ∧ x ≤ hi)
theorem allIn_drop (lo hi : Int) (L : List Int) (i : Nat) (h : i < L.length) : allIn lo hi (L.drop i) = (decide (lo ≤ rd L (i : Int) ∧ rd L (i : Int) ≤ hi) && allIn lo hi (L.drop (i + 1))) := by
  unfold allIn
  rw [List.drop_eq_getElem_cons h, List.all_cons]
  have : rd L (i : Int) = L[i] := by
    unfold rd
    rw [Int.toNat_natCast, List.getD_eq_getElem?_getD, List.getElem?_eq_getElem h]; rfl
  rw [this]
theorem all_from (lo hi : Int) (L : List Int) (hL : L.length ≤ 1048576) : ∀ (d i k : Nat), i + d = L.length → d < k → spec_l1All.l0 k lo hi L (L.length : Int) (i : Int) = some (allIn lo hi (L.drop i)) := by
  intro d
  induction d with
  | zero =>
    intro i k hd hk
    obtain ⟨k, rfl⟩ : ∃ m, k = m + 1 := ⟨k - 1, by omega⟩
    rw [spec_l1All.l0.eq_2, if_neg (by omega), List.drop_of_length_le (by omega)]; rfl
  | succ d ih =>
    intro i k hd hk
    obtain ⟨k, rfl⟩ : ∃ m, k = m + 1 := ⟨k - 1, by omega⟩
    rw [spec_l1All.l0.eq_2, if_pos (by omega), if_pos (by omega), if_pos (by omega), l1In_eq, Option.bind_some, allIn_drop lo hi L i (by omega)]
    by_cases h : lo ≤ rd L (i : Int) ∧ rd L (i : Int) ≤ hi
    · rw [if_pos (by simpa using h), decide_eq_true h, Bool.true_and, wN i (by omega)]
      exact ih (i + 1) k (by omega) (by omega)
    · rw [if_neg (by simpa using h), decide_eq_false h, Bool.false_and]
theorem all_run (lo hi : Int) (L : List Int) (hL : L.length ≤ 1048576) {k : Nat} (hk : L.length < k) : spec_l1All.f k L lo hi = some (allIn lo hi L) := by
  unfold spec_l1All.f
  exact all_from lo hi L hL L.length 0 k (by omega) hk
theorem any_out (lo hi : Int) (L : List Int) : (L.any fun x => outB lo hi x) = !allIn lo hi L := by
  unfold allIn
  rw [List.not_all_eq_any_not]
  congr 1; funext x
  unfold outB
  congr 1
  rw [Bool.decide_and]

/-- A row without one column. -/
def cutCol (j : Nat) (r : List Int) : List Int := r.take j ++ r.drop (j + 1)
/-- Rows without the first one and one column. -/
def less (rows : List (List Int)) (j : Nat) : List (List Int) := (rows.drop 1).map (cutCol j)
/-- The sum over the columns from j on. -/
def dloop (f x : Nat → Int) : Nat → Nat → Int → Int → Int
  | 0, _, s, _ => s
  | d + 1, j, s, g => dloop f x d (j + 1) (wrap64 (s + wrap64 (wrap64 (g * x j) * f j))) (wrap64 (-g))
/-- The determinant of a square of numbers. -/
def det : Nat → List (List Int) → Int
  | 0, _ => 1
  | n + 1, rows => dloop (fun j => det n (less rows j)) (fun j => rd (rd_L1 rows 0) (j : Int)) (n + 1) 0 0 1
def Sq (n : Nat) (rows : List (List Int)) : Prop := rows.length = n ∧ ∀ r ∈ rows, r.length = n
theorem Sq_less {n : Nat} {rows : List (List Int)} (h : Sq (n + 1) rows) (j : Nat) (hj : j < n + 1) : Sq n (less rows j) := by
  refine ⟨by unfold less; rw [List.length_map, List.length_drop, h.1]; rfl, fun r hr => ?_⟩
  unfold less at hr
  obtain ⟨q, hq, rfl⟩ := List.mem_map.1 hr
  have := h.2 q (List.mem_of_mem_drop hq)
  unfold cutCol
  rw [List.length_append, List.length_take, List.length_drop]
  omega
theorem wrap_idem' (a : Int) : wrap64 (wrap64 a) = wrap64 a := by unfold wrap64; omega
theorem rdL_get {L : List (List Int)} {i : Nat} (h : i < L.length) : rd_L1 L (i : Int) = L[i] := by
  unfold rd_L1
  rw [Int.toNat_natCast, List.getD_eq_getElem?_getD, List.getElem?_eq_getElem h]; rfl
theorem rdL_mem {L : List (List Int)} {i : Nat} (h : i < L.length) : rd_L1 L (i : Int) ∈ L := by rw [rdL_get h]; exact List.getElem_mem h

/-- Whether rows are a small square. -/
def matB (L : List (List Int)) : Bool := decide (1 ≤ L.length ∧ L.length ≤ 4) && L.all fun r => decide (r.length = L.length) && allIn (-10000) 10000 r
theorem impl_mat (L : List (List Int)) : impl_isMatrix.f L = some (matB L) := by
  unfold impl_isMatrix.f matB
  by_cases h : 1 ≤ L.length ∧ L.length ≤ 4
  · rw [if_pos (by omega), decide_eq_true h, Bool.true_and, List.not_any_eq_all_not]
    congr 2; funext r
    unfold badRow
    by_cases hr : r.length = L.length
    · rw [if_pos hr, decide_eq_true hr, Bool.true_and, any_out, Bool.not_not]
    · rw [if_neg hr, decide_eq_false hr]; rfl
  · rw [if_neg (by omega), decide_eq_false h, Bool.false_and]
theorem small_from (L : List (List Int)) (hL : L.length ≤ 4) : ∀ (d i k : Nat), i + d = L.length → d + 8 < k → spec_ncSmall.l0 k L L (L.length : Int) (i : Int) = some ((L.drop i).all fun r => decide (r.length = L.length) && allIn (-10000) 10000 r) := by
  intro d
  induction d with
  | zero =>
    intro i k hd hk
    obtain ⟨k, rfl⟩ : ∃ m, k = m + 1 := ⟨k - 1, by omega⟩
    rw [spec_ncSmall.l0.eq_2, if_neg (by omega), List.drop_of_length_le (by omega)]; rfl
  | succ d ih =>
    intro i k hd hk
    obtain ⟨k, rfl⟩ : ∃ m, k = m + 1 := ⟨k - 1, by omega⟩
    have hi : i < L.length := by omega
    rw [spec_ncSmall.l0.eq_2, if_pos (by omega), if_pos (by omega), if_pos (by omega), rdL_get hi, List.drop_eq_getElem_cons hi, List.all_cons]
    by_cases hr : L[i].length = L.length
    · rw [if_pos (by omega), decide_eq_true hr, Bool.true_and, all_run _ _ _ (by omega) (by omega), Option.bind_some]
      cases hq : allIn (-10000) 10000 L[i] with
      | true => rw [if_pos rfl, wN i (by omega), ih (i + 1) k (by omega) (by omega), Bool.true_and]
      | false => rfl
    · rw [if_neg (by omega), decide_eq_false hr, Bool.false_and, Bool.false_and]
theorem spec_mat (L : List (List Int)) {k : Nat} (hk : 20 ≤ k) : spec_ncSmall.f k L = some (matB L) := by
  unfold spec_ncSmall.f matB
  rw [l1In_eq, Option.bind_some]
  by_cases h : 1 ≤ L.length ∧ L.length ≤ 4
  · rw [if_pos (decide_eq_true (by omega)), decide_eq_true h, Bool.true_and]
    exact small_from L h.2 L.length 0 k (by omega) (by omega)
  · rw [if_neg (by rw [decide_eq_false (by omega)]; decide), decide_eq_false h, Bool.false_and]
theorem mat_sq {L : List (List Int)} (h : matB L = true) : L.length ≤ 4 ∧ Sq L.length L := by
  unfold matB at h
  rw [Bool.and_eq_true, List.all_eq_true] at h
  refine ⟨(of_decide_eq_true h.1).2, rfl, fun r hr => ?_⟩
  have := h.2 r hr
  rw [Bool.and_eq_true] at this
  exact of_decide_eq_true this.1

theorem own_run (L : List Int) (h : L.length ≤ 1000) : spec_l1Own.f L = some L := by
  unfold spec_l1Own.f
  rw [Option.bind_some, if_pos (by simp; omega)]; rfl
theorem spec_less (n : Nat) (hn : n ≤ 4) (rows : List (List Int)) (x0 : List (List Int)) (s g : Int) (j : Nat) (hj : j < n) (x6 : Int) (r0 : List Int) (a b : Int) (hrows : ∀ r ∈ rows, r.length = n) (hl : rows.length ≤ 4) :
    ∀ (d i k : Nat), i + d = rows.length → ∀ out : List (List Int), out.length = i →
      spec_kiDet.l1 (k + d + 1) x0 s g (j : Int) x6 out r0 a b rows (rows.length : Int) (i : Int) = (spec_kiDet.f k (out ++ (rows.drop i).map (cutCol j))).bind fun t129 => (spec_kiDet.l0 k x0 (wrap64 (s + (wrap64 ((wrap64 (g * x6)) * t129)))) (wrap64 (-g)) r0 a (wrap64 (b + 1))) := by
  intro d
  induction d with
  | zero =>
    intro i k hd out ho
    rw [show k + 0 + 1 = k + 1 from rfl, spec_kiDet.l1.eq_2, if_neg (by omega), List.drop_of_length_le (by omega), List.map_nil, List.append_nil]
  | succ d ih =>
    intro i k hd out ho
    have hi : i < rows.length := by omega
    have hlen : (rd_L1 rows (i : Int)).length = n := hrows _ (rdL_mem hi)
    have hdrop : rows.drop i = rows[i] :: rows.drop (i + 1) := List.drop_eq_getElem_cons hi
    have ew : wrap64 ((j : Int) + 1) = ((j + 1 : Nat) : Int) := wN j (by omega)
    rw [show k + (d + 1) + 1 = (k + d + 1) + 1 from rfl, spec_kiDet.l1.eq_2, if_pos (by omega), if_pos (by omega), if_pos (by omega), if_pos (by omega), if_pos (by omega), Int.toNat_natCast, own_run _ (by rw [List.length_take]; omega), Option.bind_some, ew, if_pos (by omega), if_pos (by omega), Int.toNat_natCast,
      if_pos (by rw [List.length_take, List.length_drop]; omega), if_pos (by omega), wN i (by omega), ih (i + 1) k (by omega) _ (by simp; omega)]
    rw [hdrop, List.map_cons, List.append_assoc, List.singleton_append, rdL_get hi]
    rfl
theorem spec_det : ∀ (n : Nat), n ≤ 4 → ∀ (rows : List (List Int)), Sq n rows → ∀ k, 40 * (n + 1) ≤ k → spec_kiDet.f k rows = some (det n rows)
  | 0, _, rows, h, k, hk => by
    obtain ⟨k, rfl⟩ : ∃ m, k = m + 1 := ⟨k - 1, by omega⟩
    have := h.1
    rw [spec_kiDet.f.eq_2, if_pos (by omega)]; rfl
  | n + 1, hn, rows, h, k, hk => by
    obtain ⟨k, rfl⟩ : ∃ m, k = m + 1 := ⟨k - 1, by omega⟩
    have hl := h.1
    have h0 : (rd_L1 rows 0).length = n + 1 := h.2 _ (rdL_mem (L := rows) (i := 0) (by omega))
    rw [spec_kiDet.f.eq_2, if_neg (by omega), if_pos (by omega), h0]
    show spec_kiDet.l0 k rows 0 1 (rd_L1 rows 0) ((n + 1 : Nat) : Int) ((0 : Nat) : Int) = some (dloop _ _ (n + 1) 0 0 1)
    have key : ∀ (d j : Nat) (s g : Int) (k : Nat), j + d = n + 1 → 40 * (n + 1) + 7 * d + 1 ≤ k → spec_kiDet.l0 k rows s g (rd_L1 rows 0) ((n + 1 : Nat) : Int) (j : Int) = some (dloop (fun j => det n (less rows j)) (fun j => rd (rd_L1 rows 0) (j : Int)) d j s g) := by
      intro d
      induction d with
      | zero =>
        intro j s g k hj hk
        obtain ⟨k, rfl⟩ : ∃ m, k = m + 1 := ⟨k - 1, by omega⟩
        rw [spec_kiDet.l0.eq_2, if_neg (by omega)]; rfl
      | succ d ih =>
        intro j s g k hj hk
        obtain ⟨k, rfl⟩ : ∃ m, k = (m + (rows.drop 1).length + 1) + 1 := ⟨k - (rows.drop 1).length - 2, by rw [List.length_drop]; omega⟩
        have hd1 : (rows.drop 1).length = n := by rw [List.length_drop, hl]; rfl
        rw [spec_kiDet.l0.eq_2, if_pos (by omega), if_pos (by omega), if_pos (by omega), if_pos (by omega), Option.bind_some]
        refine (spec_less (n + 1) hn (rows.drop 1) rows s g j (by omega) _ _ _ _ (fun r hr => h.2 r (List.mem_of_mem_drop hr)) (by omega) (rows.drop 1).length 0 k (by omega) [] rfl).trans ?_
        rw [List.nil_append, List.drop_zero, show (rows.drop 1).map (cutCol j) = less rows j from rfl, spec_det n (by omega) _ (Sq_less h j (by omega)) k (by omega), Option.bind_some, wN j (by omega)]
        exact ih (j + 1) _ _ k (by omega) (by omega)
    exact key (n + 1) 0 0 1 k (by omega) (by omega)

theorem concat2 (a b : List Int) (ha : a.length ≤ 1000) (hb : b.length ≤ 1000) {k : Nat} (hk : 8 ≤ k) : slices_Concat_int_int.f k [a, b] = some (a ++ b) := by
  obtain ⟨k, rfl⟩ : ∃ m, k = m + 1 + 1 + 1 + 1 + 1 + 1 := ⟨k - 6, by omega⟩
  have e1 : wrap64 (0 + 1) = 1 := w64 (by omega) (by omega)
  have e2 : wrap64 (1 + 1) = 2 := w64 (by omega) (by omega)
  have f1 : wrap64 (0 + (a.length : Int)) = (a.length : Int) := by rw [Int.zero_add]; exact w64 (by omega) (by omega)
  have f2 : wrap64 ((a.length : Int) + (b.length : Int)) = (a.length : Int) + (b.length : Int) := w64 (by omega) (by omega)
  have r0 : rd_L1 [a, b] 0 = a := rfl
  have r1 : rd_L1 [a, b] 1 = b := rfl
  have hl : (([a, b] : List (List Int)).length : Int) = 2 := rfl
  unfold slices_Concat_int_int.f
  rw [hl, slices_Concat_int_int.l0.eq_2, if_pos (by omega), if_pos (by omega), hl, if_pos (by omega), r0, f1, if_neg (by omega), e1]
  rw [slices_Concat_int_int.l0.eq_2, if_pos (by omega), if_pos (by omega), hl, if_pos (by omega), r1, f2, if_neg (by omega), e2]
  rw [slices_Concat_int_int.l0.eq_2, if_neg (by omega)]
  have g : slices_Grow_int_int.f [] ((a.length : Int) + (b.length : Int)) = some [] := by
    unfold slices_Grow_int_int.f
    simp only
    rw [if_pos (by omega)]
  rw [g, Option.bind_some, hl, slices_Concat_int_int.l1.eq_2, if_pos (by omega), if_pos (by omega), hl, if_pos (by omega), r0, if_pos (by simp; omega), e1, List.nil_append]
  rw [slices_Concat_int_int.l1.eq_2, if_pos (by omega), if_pos (by omega), hl, if_pos (by omega), r1, if_pos (by omega), e2]
  rw [slices_Concat_int_int.l1.eq_2, if_neg (by omega)]
theorem minor_from (n : Nat) (hn : n ≤ 4) (rows : List (List Int)) (j : Nat) (hj : j < n) (hrows : ∀ r ∈ rows, r.length = n) (hl : rows.length ≤ 4) :
    ∀ (d i k : Nat), i + d = rows.length → d + 8 < k → ∀ out : List (List Int), out.length = i → impl_minor.l0 k (j : Int) out rows (rows.length : Int) (i : Int) = some (out ++ (rows.drop i).map (cutCol j)) := by
  intro d
  induction d with
  | zero =>
    intro i k hd hk out ho
    obtain ⟨k, rfl⟩ : ∃ m, k = m + 1 := ⟨k - 1, by omega⟩
    rw [impl_minor.l0.eq_2, if_neg (by omega), List.drop_of_length_le (by omega), List.map_nil, List.append_nil]
  | succ d ih =>
    intro i k hd hk out ho
    obtain ⟨k, rfl⟩ : ∃ m, k = m + 1 := ⟨k - 1, by omega⟩
    have hi : i < rows.length := by omega
    have hlen : (rd_L1 rows (i : Int)).length = n := hrows _ (rdL_mem hi)
    have hdrop : rows.drop i = rows[i] :: rows.drop (i + 1) := List.drop_eq_getElem_cons hi
    have ew : wrap64 ((j : Int) + 1) = ((j + 1 : Nat) : Int) := wN j (by omega)
    rw [impl_minor.l0.eq_2, if_pos (by omega), if_pos (by omega), if_pos (by omega), if_pos (by omega), if_pos (by omega), ew, if_pos (by omega), if_pos (by omega), Int.toNat_natCast, Int.toNat_natCast,
      concat2 _ _ (by rw [List.length_take]; omega) (by rw [List.length_drop]; omega) (by omega), Option.bind_some, if_pos (by omega), wN i (by omega), ih (i + 1) k (by omega) (by omega) _ (by simp; omega)]
    rw [hdrop, List.map_cons, List.append_assoc, List.singleton_append, rdL_get hi]
    rfl
theorem minor_run (n : Nat) (hn : n ≤ 4) (rows : List (List Int)) (j : Nat) (hj : j < n) (h : Sq n rows) {k : Nat} (hk : 20 ≤ k) : impl_minor.f k rows (j : Int) = some (less rows j) := by
  unfold impl_minor.f
  have hl := h.1
  rw [if_pos (by omega), Option.bind_some]
  refine (minor_from n hn (rows.drop 1) j hj (fun r hr => h.2 r (List.mem_of_mem_drop hr)) (by rw [List.length_drop]; omega) (rows.drop 1).length 0 k (by omega) (by rw [List.length_drop]; omega) [] rfl).trans ?_
  rw [List.nil_append, List.drop_zero]; rfl
theorem impl_det : ∀ (n : Nat), n ≤ 4 → ∀ (rows : List (List Int)), Sq n rows → ∀ k, 40 * (n + 1) ≤ k → impl_determinant.f k rows = some (det n rows)
  | 0, _, rows, h, k, hk => by
    obtain ⟨k, rfl⟩ : ∃ m, k = m + 1 := ⟨k - 1, by omega⟩
    have := h.1
    rw [impl_determinant.f.eq_2, if_pos (by omega)]; rfl
  | n + 1, hn, rows, h, k, hk => by
    obtain ⟨k, rfl⟩ : ∃ m, k = m + 1 := ⟨k - 1, by omega⟩
    have hl := h.1
    have h0 : (rd_L1 rows 0).length = n + 1 := h.2 _ (rdL_mem (L := rows) (i := 0) (by omega))
    rw [impl_determinant.f.eq_2, if_neg (by omega), if_pos (by omega), h0]
    show impl_determinant.l0 k rows 0 1 (rd_L1 rows 0) ((n + 1 : Nat) : Int) ((0 : Nat) : Int) = some (dloop _ _ (n + 1) 0 0 1)
    have key : ∀ (d j : Nat) (s g : Int) (k : Nat), wrap64 s = s → j + d = n + 1 → 40 * (n + 1) + 7 * d + 1 ≤ k → impl_determinant.l0 k rows s g (rd_L1 rows 0) ((n + 1 : Nat) : Int) (j : Int) = some (dloop (fun j => det n (less rows j)) (fun j => rd (rd_L1 rows 0) (j : Int)) d j s g) := by
      intro d
      induction d with
      | zero =>
        intro j s g k hs hj hk
        obtain ⟨k, rfl⟩ : ∃ m, k = m + 1 := ⟨k - 1, by omega⟩
        rw [impl_determinant.l0.eq_2, if_neg (by omega)]; rfl
      | succ d ih =>
        intro j s g k hs hj hk
        obtain ⟨k, rfl⟩ : ∃ m, k = m + 1 := ⟨k - 1, by omega⟩
        rw [impl_determinant.l0.eq_2, if_pos (by omega), if_pos (by omega), if_pos (by omega), wN j (by omega)]
        by_cases hx : rd (rd_L1 rows 0) (j : Int) = 0
        · have e0 : wrap64 0 = 0 := w64 (by omega) (by omega)
          rw [if_pos hx, ih (j + 1) s _ k hs (by omega) (by omega)]
          show _ = some (dloop _ _ d (j + 1) (wrap64 (s + wrap64 (wrap64 (g * rd (rd_L1 rows 0) (j : Int)) * det n (less rows j)))) (wrap64 (-g)))
          rw [hx, Int.mul_zero, e0, Int.zero_mul, e0, Int.add_zero, hs]
        · rw [if_neg hx, minor_run (n + 1) hn rows j (by omega) h (by omega), Option.bind_some, impl_det n (by omega) _ (Sq_less h j (by omega)) k (by omega), Option.bind_some]
          exact ih (j + 1) _ _ k (wrap_idem' _) (by omega) (by omega)
    exact key (n + 1) 0 0 1 k (w64 (by omega) (by omega)) (by omega) (by omega)

theorem sz_rows (L : List (List Int)) (hL : L.length ≤ 1048576) (hrow : ∀ r ∈ L, r.length ≤ 9223372036854775807) : ∀ (d i : Nat) (left : Int) (k : Nat), i + d = L.length → 0 ≤ left → left ≤ 1048576 → d < k → (∀ j, j < i → ∀ h : j < L.length, L[j].length ≤ 1048576) →
    ∃ z, laws_szIntSS.l0 k L left (i : Int) = some z ∧ (z < 0 ∨ ∀ r ∈ L, r.length ≤ 1048576) := by
  intro d
  induction d with
  | zero =>
    intro i left k hd h0 h1 hk hj
    obtain ⟨k, rfl⟩ : ∃ m, k = m + 1 := ⟨k - 1, by omega⟩
    rw [laws_szIntSS.l0.eq_2, if_neg (by omega)]
    refine ⟨left, rfl, .inr fun r hr => ?_⟩
    obtain ⟨j, hj', rfl⟩ := List.getElem_of_mem hr
    exact hj j (by omega) hj'
  | succ d ih =>
    intro i left k hd h0 h1 hk hj
    obtain ⟨k, rfl⟩ : ∃ m, k = m + 1 := ⟨k - 1, by omega⟩
    have hi : i < L.length := by omega
    have hr := hrow L[i] (List.getElem_mem hi)
    rw [laws_szIntSS.l0.eq_2, if_pos (by omega), if_pos (by omega), rdL_get hi]
    unfold laws_szIntS.f
    rw [w64 (n := left - (L[i].length : Int)) (by omega) (by omega)]
    by_cases c : left - (L[i].length : Int) < 0
    · rw [if_pos c, Option.bind_some, if_pos (by omega)]
      exact ⟨-1, rfl, .inl (by omega)⟩
    · rw [if_neg c, Option.bind_some, if_neg c, wN i (by omega)]
      refine ih (i + 1) _ k (by omega) (by omega) (by omega) (by omega) (fun j hj' h => ?_)
      by_cases e : j = i
      · subst e; omega
      · exact hj j (by omega) h
theorem szSS_run (L : List (List Int)) (hL : L.length ≤ 9223372036854775807) (hrow : ∀ r ∈ L, r.length ≤ 9223372036854775807) {k : Nat} (hk : 1048580 < k) : ∃ z, laws_szIntSS.f k L 1048576 = some z ∧ (z < 0 ∨ L.length ≤ 1048576 ∧ ∀ r ∈ L, r.length ≤ 1048576) := by
  unfold laws_szIntSS.f
  rw [w64 (n := 1048576 - (L.length : Int)) (by omega) (by omega)]
  by_cases c : 1048576 - (L.length : Int) < 0
  · rw [if_pos c]; exact ⟨-1, rfl, .inl (by omega)⟩
  · rw [if_neg c]
    obtain ⟨z, h1, h2⟩ := sz_rows L (by omega) hrow L.length 0 (1048576 - (L.length : Int)) k (by omega) (by omega) (by omega) (by omega) (fun j hj => absurd hj (by omega))
    exact ⟨z, h1, h2.imp_right fun h => ⟨by omega, h⟩⟩
theorem toSS_from (L : List (List Int)) (hL : L.length ≤ 1048576) (hrow : ∀ r ∈ L, r.length ≤ 1048576) : ∀ (d i k : Nat) (M : List (List Int)), i + d = L.length → M.length = L.length → M.take i = L.take i → d + 1048577 < k → laws_toIntSS.l0 k L M (i : Int) = some L := by
  intro d
  induction d with
  | zero =>
    intro i k M hd hM ht hk
    obtain ⟨k, rfl⟩ : ∃ m, k = m + 1 := ⟨k - 1, by omega⟩
    rw [laws_toIntSS.l0.eq_2, if_neg (by omega)]
    rw [List.take_of_length_le (by omega), List.take_of_length_le (by omega)] at ht
    rw [ht]
  | succ d ih =>
    intro i k M hd hM ht hk
    obtain ⟨k, rfl⟩ : ∃ m, k = m + 1 := ⟨k - 1, by omega⟩
    have hi : i < L.length := by omega
    rw [laws_toIntSS.l0.eq_2, if_pos (by omega), if_pos (by omega), rdL_get hi]
    have hr := hrow L[i] (List.getElem_mem hi)
    rw [toI_run L[i] hr (by omega), Option.bind_some, if_pos (by omega), wN i (by omega), Int.toNat_natCast]
    refine ih (i + 1) k _ (by omega) (by rw [List.length_set]; omega) ?_ (by omega)
    rw [List.take_succ_eq_append_getElem (by rw [List.length_set]; omega), List.take_succ_eq_append_getElem hi, List.take_set_of_le (Nat.le_refl i), ht, List.getElem_set_self]
theorem toSS_run (L : List (List Int)) (hL : L.length ≤ 1048576) (hrow : ∀ r ∈ L, r.length ≤ 1048576) {k : Nat} (hk : 3000000 < k) : laws_toIntSS.f k L = some L := by
  unfold laws_toIntSS.f
  rw [if_pos (by omega), Int.toNat_natCast, if_pos (by omega)]
  exact toSS_from L hL hrow L.length 0 k _ (by omega) (by simp) (by simp) (by omega)
theorem eqSS_from (L : List (List Int)) (hL : L.length ≤ 1048576) (hrow : ∀ r ∈ L, r.length ≤ 1048576) : ∀ (d i k : Nat), i + d = L.length → d + 1048577 < k → laws_eqIntSS.l0 k L L (i : Int) = some true := by
  intro d
  induction d with
  | zero =>
    intro i k hd hk
    obtain ⟨k, rfl⟩ : ∃ m, k = m + 1 := ⟨k - 1, by omega⟩
    rw [laws_eqIntSS.l0.eq_2, if_neg (by omega)]
  | succ d ih =>
    intro i k hd hk
    obtain ⟨k, rfl⟩ : ∃ m, k = m + 1 := ⟨k - 1, by omega⟩
    have hi : i < L.length := by omega
    have hr := hrow L[i] (List.getElem_mem hi)
    rw [laws_eqIntSS.l0.eq_2, if_pos (by omega), if_pos (by omega), if_pos (by omega), rdL_get hi, eqI_run L[i] hr (by omega), Option.bind_some, if_pos rfl, wN i (by omega)]
    exact ih (i + 1) k (by omega) (by omega)
theorem eqSS_run (L : List (List Int)) (hL : L.length ≤ 1048576) (hrow : ∀ r ∈ L, r.length ≤ 1048576) {k : Nat} (hk : 3000000 < k) : laws_eqIntSS.f k L L = some true := by
  unfold laws_eqIntSS.f
  rw [if_pos rfl]
  exact eqSS_from L hL hrow L.length 0 k (by omega) (by omega)

theorem both_same (L : List (List Int)) : ∃ p, (∀ k, 300 ≤ k → spec_DeterminantOf.f k L = some p) ∧ (∀ k, 300 ≤ k → impl_DeterminantOf.f k L = some p) := by
  unfold spec_DeterminantOf.f impl_DeterminantOf.f
  by_cases h : matB L = true
  · obtain ⟨h4, hs⟩ := mat_sq h
    refine ⟨(det L.length L, true), fun k hk => ?_, fun k hk => ?_⟩
    · rw [spec_mat L (by omega), Option.bind_some, if_pos h, spec_det _ h4 L hs k (by omega), Option.bind_some]
    · rw [impl_mat, Option.bind_some, if_pos h, impl_det _ h4 L hs k (by omega), Option.bind_some]
  · refine ⟨(0, false), fun k hk => ?_, fun k hk => ?_⟩
    · rw [spec_mat L (by omega), Option.bind_some, if_neg h]
    · rw [impl_mat, Option.bind_some, if_neg h]
theorem FnExactDeterminantOf : ∀ (l0 : List (List Int)), (l0.length ≤ 9223372036854775807 ∧ ∀ r ∈ l0, r.length ≤ 9223372036854775807 ∧ ∀ n ∈ r, (Lit.int .i64 n).wf = true) → ∃ k, laws_FnExactDeterminantOf.f k l0 = some true := by
  intro L ⟨hl, hr⟩
  obtain ⟨K, hK⟩ : ∃ K : Nat, 3000000 < K := ⟨3000001, by omega⟩
  refine ⟨K + 1, ?_⟩
  unfold laws_FnExactDeterminantOf.f
  obtain ⟨z, hz, hz'⟩ := szSS_run L hl (fun r h => (hr r h).1) (k := K + 1) (by omega)
  rw [hz, Option.bind_some]
  by_cases h : z < 0
  · rw [if_pos h]
  obtain ⟨h1, h2⟩ := hz'.resolve_left h
  obtain ⟨p, s1, s2⟩ := both_same L
  have tI : ∀ k, K ≤ k → laws_toIntSS.f k L = some L := fun k hk => toSS_run L h1 h2 (by omega)
  rw [if_neg h, tI _ (by omega), Option.bind_some, s1 _ (by omega), Option.bind_some, Option.bind_some, s2 _ (by omega), Option.bind_some, if_pos rfl, laws_FnExactDeterminantOf.j0.eq_2, if_neg (by simp), tI _ (by omega), Option.bind_some, eqSS_run L h1 h2 (by omega), Option.bind_some, if_pos rfl]
end Go.Proofs.Ytaneoolaknnkaaa.Pure
