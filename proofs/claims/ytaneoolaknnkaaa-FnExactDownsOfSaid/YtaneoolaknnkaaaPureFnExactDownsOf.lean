/- The weights of downs out of moments: both sides divide the same Hankel determinants. No condition. -/
import Derived.Test.YtaneoolaknnkaaaOFnExactDownsOfx6
namespace Go.Proofs.Ytaneoolaknnkaaa.Pure
open Go.RowKit Go.Proofs.Ytaneoolaknnkaaa.Stub Go.Proofs.Ytaneoolaknnkaaa.OFnExactDownsOf Go.Proofs.YtaneoolaknnkaaaW.PrintWords Go.Proofs.YtaneoolaknnkaaaW.PrintLast
set_option linter.unusedVariables false
set_option linter.unusedSimpArgs false
theorem w64 {n : Int} (h0 : -9223372036854775808 ≤ n) (h1 : n ≤ 9223372036854775807) : wrap64 n = n := by unfold wrap64; omega
theorem wf_bd {n : Int} (h : (Lit.int .i64 n).wf = true) : -9223372036854775808 ≤ n ∧ n ≤ 9223372036854775807 := by
  unfold Lit.wf at h
  rw [Bool.and_eq_true] at h
  exact ⟨of_decide_eq_true h.1, of_decide_eq_true h.2⟩

theorem in_eq (a b c : Int) : impl_in.f a b c = some (decide (b ≤ a ∧ a ≤ c)) := by
  unfold impl_in.f
  by_cases h1 : b ≤ a <;> by_cases h2 : a ≤ c <;> simp [h1, h2]
theorem l1In_eq (a b c : Int) : spec_l1In.f a b c = some (decide (b ≤ a ∧ a ≤ c)) := by
  unfold spec_l1In.f
  by_cases h1 : b ≤ a <;> by_cases h2 : a ≤ c <;> simp [h1, h2]

theorem wN (n : Nat) (h : n ≤ 1000000000000) : wrap64 ((n : Int) + 1) = ((n + 1 : Nat) : Int) := by rw [w64 (by omega) (by omega)]; omega
theorem toI_from (L : List Int) (hL : L.length ≤ 1048576) : ∀ (d i k : Nat) (M : List Int), i + d = L.length → M.length = L.length → M.take i = L.take i → d < k → laws_toIntS.l0 k L M (i : Int) = some L := by
  intro d
  induction d with
  | zero =>
    intro i k M hd hM ht hk
    obtain ⟨k, rfl⟩ : ∃ m, k = m + 1 := ⟨k - 1, by omega⟩
    rw [laws_toIntS.l0.eq_2, if_neg (by omega)]
    rw [List.take_of_length_le (by omega), List.take_of_length_le (by omega)] at ht
    rw [ht]
  | succ d ih =>
    intro i k M hd hM ht hk
    obtain ⟨k, rfl⟩ : ∃ m, k = m + 1 := ⟨k - 1, by omega⟩
    rw [laws_toIntS.l0.eq_2, if_pos (by omega), if_pos (by omega), if_pos (by omega), wN i (by omega), Int.toNat_natCast]
    refine ih (i + 1) k _ (by omega) (by rw [List.length_set]; omega) ?_ (by omega)
    have hi : i < L.length := by omega
    rw [List.take_succ_eq_append_getElem (by rw [List.length_set]; omega), List.take_succ_eq_append_getElem hi, List.take_set_of_le (Nat.le_refl i), ht, List.getElem_set_self]
    congr 2
    unfold rd
    rw [Int.toNat_natCast, List.getD_eq_getElem?_getD, List.getElem?_eq_getElem hi]; rfl
theorem toI_run (L : List Int) (hL : L.length ≤ 1048576) {k : Nat} (hk : L.length < k) : laws_toIntS.f k L = some L := by
  unfold laws_toIntS.f
  rw [if_pos (by omega), Int.toNat_natCast, if_pos (by omega)]
  exact toI_from L hL L.length 0 k _ (by omega) (by simp) (by simp) hk
theorem eqI_from (L : List Int) (hL : L.length ≤ 1048576) : ∀ (d i k : Nat), i + d = L.length → d < k → laws_eqIntS.l0 k L L (i : Int) = some true := by
  intro d
  induction d with
  | zero =>
    intro i k hd hk
    obtain ⟨k, rfl⟩ : ∃ m, k = m + 1 := ⟨k - 1, by omega⟩
    rw [laws_eqIntS.l0.eq_2, if_neg (by omega)]
  | succ d ih =>
    intro i k hd hk
    obtain ⟨k, rfl⟩ : ∃ m, k = m + 1 := ⟨k - 1, by omega⟩
    rw [laws_eqIntS.l0.eq_2, if_pos (by omega), if_pos (by omega), if_pos (by omega), if_pos rfl, wN i (by omega)]
    exact ih (i + 1) k (by omega) (by omega)
theorem eqI_run (L : List Int) (hL : L.length ≤ 1048576) {k : Nat} (hk : L.length < k) : laws_eqIntS.f k L L = some true := by
  unfold laws_eqIntS.f
  rw [if_pos rfl]
  exact eqI_from L hL L.length 0 k (by omega) hk

/-- Whether all numbers are in a range. -/
def allIn (lo hi : Int) (L : List Int) : Bool := L.all fun x => decide (lo ≤ x ∧ x ≤ hi)
theorem allIn_drop (lo hi : Int) (L : List Int) (i : Nat) (h : i < L.length) : allIn lo hi (L.drop i) = (decide (lo ≤ rd L (i : Int) ∧ rd L (i : Int) ≤ hi) && allIn lo hi (L.drop (i + 1))) := by
  unfold allIn
  rw [List.drop_eq_getElem_cons h, List.all_cons]
  have : rd L (i : Int) = L[i] := by
    unfold rd
    rw [Int.toNat_natCast, List.getD_eq_getElem?_getD, List.getElem?_eq_getElem h]; rfl
  rw [this]
theorem all_from (lo hi : Int) (L : List Int) (hL : L.length ≤ 1048576) : ∀ (d i k : Nat), i + d = L.length → d < k → spec_l1All.l0 k lo hi L (L.length : Int) (i : Int) = some (allIn lo hi (L.drop i)) := by
  intro d
  induction d with
  | zero =>
    intro i k hd hk
    obtain ⟨k, rfl⟩ : ∃ m, k = m + 1 := ⟨k - 1, by omega⟩
    rw [spec_l1All.l0.eq_2, if_neg (by omega), List.drop_of_length_le (by omega)]; rfl
  | succ d ih =>
    intro i k hd hk
    obtain ⟨k, rfl⟩ : ∃ m, k = m + 1 := ⟨k - 1, by omega⟩
    rw [spec_l1All.l0.eq_2, if_pos (by omega), if_pos (by omega), if_pos (by omega), l1In_eq, Option.bind_some, allIn_drop lo hi L i (by omega)]
    by_cases h : lo ≤ rd L (i : Int) ∧ rd L (i : Int) ≤ hi
    · rw [if_pos (by simpa using h), decide_eq_true h, Bool.true_and, wN i (by omega)]
      exact ih (i + 1) k (by omega) (by omega)
    · rw [if_neg (by simpa using h), decide_eq_false h, Bool.false_and]
theorem all_run (lo hi : Int) (L : List Int) (hL : L.length ≤ 1048576) {k : Nat} (hk : L.length < k) : spec_l1All.f k L lo hi = some (allIn lo hi L) := by
  unfold spec_l1All.f
  exact all_from lo hi L hL L.length 0 k (by omega) hk
theorem any_out (lo hi : Int) (L : List Int) : (L.any fun x => outB lo hi x) = !allIn lo hi L := by
  unfold allIn
  rw [List.not_all_eq_any_not]
  congr 1; funext x
  unfold outB
  congr 1
  rw [Bool.decide_and]

/-- Whether numbers are moments. -/
def momB (L : List Int) : Bool := decide (1 ≤ L.length ∧ L.length ≤ 8) && allIn (-1000000000) 1000000000 L
theorem spec_good (L : List Int) {k : Nat} (hk : 9 ≤ k) : spec_kiGood.f k L = some (momB L) := by
  unfold spec_kiGood.f momB
  rw [l1In_eq, Option.bind_some]
  by_cases h1 : 1 ≤ L.length ∧ L.length ≤ 8
  · rw [if_pos (by simpa using (by omega : (1 : Int) ≤ L.length ∧ (L.length : Int) ≤ 8)), decide_eq_true h1, Bool.true_and, all_run _ _ L (by omega) (by omega), Option.bind_some]
  · rw [if_neg (by simpa using (by omega : ¬ ((1 : Int) ≤ L.length ∧ (L.length : Int) ≤ 8))), decide_eq_false h1, Bool.false_and]
theorem impl_are (L : List Int) (m : Int) (h0 : -1000000000000 ≤ m ∧ m ≤ 1000000000000) : impl_areMoments.f L m = some (decide (1 ≤ L.length ∧ L.length ≤ 8) && allIn (-m) m L) := by
  unfold impl_areMoments.f
  rw [if_pos h0, any_out, Bool.not_not]
  congr 2
  rw [← Bool.decide_and]
  congr 1
  apply propext; omega
theorem impl_good (L : List Int) : impl_areMoments.f L 1000000000 = some (momB L) := impl_are L 1000000000 (by omega)

/-- A row without one column. -/
def cutCol (j : Nat) (r : List Int) : List Int := r.take j ++ r.drop (j + 1)
/-- Rows without the first one and one column. -/
def less (rows : List (List Int)) (j : Nat) : List (List Int) := (rows.drop 1).map (cutCol j)
/-- The sum over the columns from j on. -/
def dloop (f x : Nat → Int) : Nat → Nat → Int → Int → Int
  | 0, _, s, _ => s
  | d + 1, j, s, g => dloop f x d (j + 1) (wrap64 (s + wrap64 (wrap64 (g * x j) * f j))) (wrap64 (-g))
/-- The determinant of a square of numbers. -/
def det : Nat → List (List Int) → Int
  | 0, _ => 1
  | n + 1, rows => dloop (fun j => det n (less rows j)) (fun j => rd (rd_L1 rows 0) (j : Int)) (n + 1) 0 0 1
def Sq (n : Nat) (rows : List (List Int)) : Prop := rows.length = n ∧ ∀ r ∈ rows, r.length = n
theorem Sq_less {n : Nat} {rows : List (List Int)} (h : Sq (n + 1) rows) (j : Nat) (hj : j < n + 1) : Sq n (less rows j) := by
  refine ⟨by unfold less; rw [List.length_map, List.length_drop, h.1]; rfl, fun r hr => ?_⟩
  unfold less at hr
  obtain ⟨q, hq, rfl⟩ := List.mem_map.1 hr
  have := h.2 q (List.mem_of_mem_drop hq)
  unfold cutCol
  rw [List.length_append, List.length_take, List.length_drop]
  omega
theorem wrap_idem' (a : Int) : wrap64 (wrap64 a) = wrap64 a := by unfold wrap64; omega
theorem rdL_get {L : List (List Int)} {i : Nat} (h : i < L.length) : rd_L1 L (i : Int) = L[i] := by
  unfold rd_L1
  rw [Int.toNat_natCast, List.getD_eq_getElem?_getD, List.getElem?_eq_getElem h]; rfl
theorem rdL_mem {L : List (List Int)} {i : Nat} (h : i < L.length) : rd_L1 L (i : Int) ∈ L := by rw [rdL_get h]; exact List.getElem_mem h

theorem own_run (L : List Int) (h : L.length ≤ 1000) : spec_l1Own.f L = some L := by
  unfold spec_l1Own.f
  rw [Option.bind_some, if_pos (by simp; omega)]; rfl
theorem spec_less (n : Nat) (hn : n ≤ 4) (rows : List (List Int)) (x0 : List (List Int)) (s g : Int) (j : Nat) (hj : j < n) (x6 : Int) (r0 : List Int) (a b : Int) (hrows : ∀ r ∈ rows, r.length = n) (hl : rows.length ≤ 4) :
    ∀ (d i k : Nat), i + d = rows.length → ∀ out : List (List Int), out.length = i →
      spec_kiDet.l1 (k + d + 1) x0 s g (j : Int) x6 out r0 a b rows (rows.length : Int) (i : Int) = (spec_kiDet.f k (out ++ (rows.drop i).map (cutCol j))).bind fun t129 => (spec_kiDet.l0 k x0 (wrap64 (s + (wrap64 ((wrap64 (g * x6)) * t129)))) (wrap64 (-g)) r0 a (wrap64 (b + 1))) := by
  intro d
  induction d with
  | zero =>
    intro i k hd out ho
    rw [show k + 0 + 1 = k + 1 from rfl, spec_kiDet.l1.eq_2, if_neg (by omega), List.drop_of_length_le (by omega), List.map_nil, List.append_nil]
  | succ d ih =>
    intro i k hd out ho
    have hi : i < rows.length := by omega
    have hlen : (rd_L1 rows (i : Int)).length = n := hrows _ (rdL_mem hi)
    have hdrop : rows.drop i = rows[i] :: rows.drop (i + 1) := List.drop_eq_getElem_cons hi
    have ew : wrap64 ((j : Int) + 1) = ((j + 1 : Nat) : Int) := wN j (by omega)
    rw [show k + (d + 1) + 1 = (k + d + 1) + 1 from rfl, spec_kiDet.l1.eq_2, if_pos (by omega), if_pos (by omega), if_pos (by omega), if_pos (by omega), if_pos (by omega), Int.toNat_natCast, own_run _ (by rw [List.length_take]; omega), Option.bind_some, ew, if_pos (by omega), if_pos (by omega), Int.toNat_natCast,
      if_pos (by rw [List.length_take, List.length_drop]; omega), if_pos (by omega), wN i (by omega), ih (i + 1) k (by omega) _ (by simp; omega)]
    rw [hdrop, List.map_cons, List.append_assoc, List.singleton_append, rdL_get hi]
    rfl
theorem spec_det : ∀ (n : Nat), n ≤ 4 → ∀ (rows : List (List Int)), Sq n rows → ∀ k, 40 * (n + 1) ≤ k → spec_kiDet.f k rows = some (det n rows)
  | 0, _, rows, h, k, hk => by
    obtain ⟨k, rfl⟩ : ∃ m, k = m + 1 := ⟨k - 1, by omega⟩
    have := h.1
    rw [spec_kiDet.f.eq_2, if_pos (by omega)]; rfl
  | n + 1, hn, rows, h, k, hk => by
    obtain ⟨k, rfl⟩ : ∃ m, k = m + 1 := ⟨k - 1, by omega⟩
    have hl := h.1
    have h0 : (rd_L1 rows 0).length = n + 1 := h.2 _ (rdL_mem (L := rows) (i := 0) (by omega))
    rw [spec_kiDet.f.eq_2, if_neg (by omega), if_pos (by omega), h0]
    show spec_kiDet.l0 k rows 0 1 (rd_L1 rows 0) ((n + 1 : Nat) : Int) ((0 : Nat) : Int) = some (dloop _ _ (n + 1) 0 0 1)
    have key : ∀ (d j : Nat) (s g : Int) (k : Nat), j + d = n + 1 → 40 * (n + 1) + 7 * d + 1 ≤ k → spec_kiDet.l0 k rows s g (rd_L1 rows 0) ((n + 1 : Nat) : Int) (j : Int) = some (dloop (fun j => det n (less rows j)) (fun j => rd (rd_L1 rows 0) (j : Int)) d j s g) := by
      intro d
      induction d with
      | zero =>
        intro j s g k hj hk
        obtain ⟨k, rfl⟩ : ∃ m, k = m + 1 := ⟨k - 1, by omega⟩
        rw [spec_kiDet.l0.eq_2, if_neg (by omega)]; rfl
      | succ d ih =>
        intro j s g k hj hk
        obtain ⟨k, rfl⟩ : ∃ m, k = (m + (rows.drop 1).length + 1) + 1 := ⟨k - (rows.drop 1).length - 2, by rw [List.length_drop]; omega⟩
        have hd1 : (rows.drop 1).length = n := by rw [List.length_drop, hl]; rfl
        rw [spec_kiDet.l0.eq_2, if_pos (by omega), if_pos (by omega), if_pos (by omega), if_pos (by omega), Option.bind_some]
        refine (spec_less (n + 1) hn (rows.drop 1) rows s g j (by omega) _ _ _ _ (fun r hr => h.2 r (List.mem_of_mem_drop hr)) (by omega) (rows.drop 1).length 0 k (by omega) [] rfl).trans ?_
        rw [List.nil_append, List.drop_zero, show (rows.drop 1).map (cutCol j) = less rows j from rfl, spec_det n (by omega) _ (Sq_less h j (by omega)) k (by omega), Option.bind_some, wN j (by omega)]
        exact ih (j + 1) _ _ k (by omega) (by omega)
    exact key (n + 1) 0 0 1 k (by omega) (by omega)

theorem concat2 (a b : List Int) (ha : a.length ≤ 1000) (hb : b.length ≤ 1000) {k : Nat} (hk : 8 ≤ k) : slices_Concat_int_int.f k [a, b] = some (a ++ b) := by
  obtain ⟨k, rfl⟩ : ∃ m, k = m + 1 + 1 + 1 + 1 + 1 + 1 := ⟨k - 6, by omega⟩
  have e1 : wrap64 (0 + 1) = 1 := w64 (by omega) (by omega)
  have e2 : wrap64 (1 + 1) = 2 := w64 (by omega) (by omega)
  have f1 : wrap64 (0 + (a.length : Int)) = (a.length : Int) := by rw [Int.zero_add]; exact w64 (by omega) (by omega)
  have f2 : wrap64 ((a.length : Int) + (b.length : Int)) = (a.length : Int) + (b.length : Int) := w64 (by omega) (by omega)
  have r0 : rd_L1 [a, b] 0 = a := rfl
  have r1 : rd_L1 [a, b] 1 = b := rfl
  have hl : (([a, b] : List (List Int)).length : Int) = 2 := rfl
  unfold slices_Concat_int_int.f
  rw [hl, slices_Concat_int_int.l0.eq_2, if_pos (by omega), if_pos (by omega), hl, if_pos (by omega), r0, f1, if_neg (by omega), e1]
  rw [slices_Concat_int_int.l0.eq_2, if_pos (by omega), if_pos (by omega), hl, if_pos (by omega), r1, f2, if_neg (by omega), e2]
  rw [slices_Concat_int_int.l0.eq_2, if_neg (by omega)]
  have g : slices_Grow_int_int.f [] ((a.length : Int) + (b.length : Int)) = some [] := by
    unfold slices_Grow_int_int.f
    simp only
    rw [if_pos (by omega)]
  rw [g, Option.bind_some, hl, slices_Concat_int_int.l1.eq_2, if_pos (by omega), if_pos (by omega), hl, if_pos (by omega), r0, if_pos (by simp; omega), e1, List.nil_append]
  rw [slices_Concat_int_int.l1.eq_2, if_pos (by omega), if_pos (by omega), hl, if_pos (by omega), r1, if_pos (by omega), e2]
  rw [slices_Concat_int_int.l1.eq_2, if_neg (by omega)]
theorem minor_from (n : Nat) (hn : n ≤ 4) (rows : List (List Int)) (j : Nat) (hj : j < n) (hrows : ∀ r ∈ rows, r.length = n) (hl : rows.length ≤ 4) :
    ∀ (d i k : Nat), i + d = rows.length → d + 8 < k → ∀ out : List (List Int), out.length = i → impl_minor.l0 k (j : Int) out rows (rows.length : Int) (i : Int) = some (out ++ (rows.drop i).map (cutCol j)) := by
  intro d
  induction d with
  | zero =>
    intro i k hd hk out ho
    obtain ⟨k, rfl⟩ : ∃ m, k = m + 1 := ⟨k - 1, by omega⟩
    rw [impl_minor.l0.eq_2, if_neg (by omega), List.drop_of_length_le (by omega), List.map_nil, List.append_nil]
  | succ d ih =>
    intro i k hd hk out ho
    obtain ⟨k, rfl⟩ : ∃ m, k = m + 1 := ⟨k - 1, by omega⟩
    have hi : i < rows.length := by omega
    have hlen : (rd_L1 rows (i : Int)).length = n := hrows _ (rdL_mem hi)
    have hdrop : rows.drop i = rows[i] :: rows.drop (i + 1) := List.drop_eq_getElem_cons hi
    have ew : wrap64 ((j : Int) + 1) = ((j + 1 : Nat) : Int) := wN j (by omega)
    rw [impl_minor.l0.eq_2, if_pos (by omega), if_pos (by omega), if_pos (by omega), if_pos (by omega), if_pos (by omega), ew, if_pos (by omega), if_pos (by omega), Int.toNat_natCast, Int.toNat_natCast,
      concat2 _ _ (by rw [List.length_take]; omega) (by rw [List.length_drop]; omega) (by omega), Option.bind_some, if_pos (by omega), wN i (by omega), ih (i + 1) k (by omega) (by omega) _ (by simp; omega)]
    rw [hdrop, List.map_cons, List.append_assoc, List.singleton_append, rdL_get hi]
    rfl
theorem minor_run (n : Nat) (hn : n ≤ 4) (rows : List (List Int)) (j : Nat) (hj : j < n) (h : Sq n rows) {k : Nat} (hk : 20 ≤ k) : impl_minor.f k rows (j : Int) = some (less rows j) := by
  unfold impl_minor.f
  have hl := h.1
  rw [if_pos (by omega), Option.bind_some]
  refine (minor_from n hn (rows.drop 1) j hj (fun r hr => h.2 r (List.mem_of_mem_drop hr)) (by rw [List.length_drop]; omega) (rows.drop 1).length 0 k (by omega) (by rw [List.length_drop]; omega) [] rfl).trans ?_
  rw [List.nil_append, List.drop_zero]; rfl
theorem impl_det : ∀ (n : Nat), n ≤ 4 → ∀ (rows : List (List Int)), Sq n rows → ∀ k, 40 * (n + 1) ≤ k → impl_determinant.f k rows = some (det n rows)
  | 0, _, rows, h, k, hk => by
    obtain ⟨k, rfl⟩ : ∃ m, k = m + 1 := ⟨k - 1, by omega⟩
    have := h.1
    rw [impl_determinant.f.eq_2, if_pos (by omega)]; rfl
  | n + 1, hn, rows, h, k, hk => by
    obtain ⟨k, rfl⟩ : ∃ m, k = m + 1 := ⟨k - 1, by omega⟩
    have hl := h.1
    have h0 : (rd_L1 rows 0).length = n + 1 := h.2 _ (rdL_mem (L := rows) (i := 0) (by omega))
    rw [impl_determinant.f.eq_2, if_neg (by omega), if_pos (by omega), h0]
    show impl_determinant.l0 k rows 0 1 (rd_L1 rows 0) ((n + 1 : Nat) : Int) ((0 : Nat) : Int) = some (dloop _ _ (n + 1) 0 0 1)
    have key : ∀ (d j : Nat) (s g : Int) (k : Nat), wrap64 s = s → j + d = n + 1 → 40 * (n + 1) + 7 * d + 1 ≤ k → impl_determinant.l0 k rows s g (rd_L1 rows 0) ((n + 1 : Nat) : Int) (j : Int) = some (dloop (fun j => det n (less rows j)) (fun j => rd (rd_L1 rows 0) (j : Int)) d j s g) := by
      intro d
      induction d with
      | zero =>
        intro j s g k hs hj hk
        obtain ⟨k, rfl⟩ : ∃ m, k = m + 1 := ⟨k - 1, by omega⟩
        rw [impl_determinant.l0.eq_2, if_neg (by omega)]; rfl
      | succ d ih =>
        intro j s g k hs hj hk
        obtain ⟨k, rfl⟩ : ∃ m, k = m + 1 := ⟨k - 1, by omega⟩
        rw [impl_determinant.l0.eq_2, if_pos (by omega), if_pos (by omega), if_pos (by omega), wN j (by omega)]
        by_cases hx : rd (rd_L1 rows 0) (j : Int) = 0
        · have e0 : wrap64 0 = 0 := w64 (by omega) (by omega)
          rw [if_pos hx, ih (j + 1) s _ k hs (by omega) (by omega)]
          show _ = some (dloop _ _ d (j + 1) (wrap64 (s + wrap64 (wrap64 (g * rd (rd_L1 rows 0) (j : Int)) * det n (less rows j)))) (wrap64 (-g)))
          rw [hx, Int.mul_zero, e0, Int.zero_mul, e0, Int.add_zero, hs]
        · rw [if_neg hx, minor_run (n + 1) hn rows j (by omega) h (by omega), Option.bind_some, impl_det n (by omega) _ (Sq_less h j (by omega)) k (by omega), Option.bind_some]
          exact ih (j + 1) _ _ k (wrap_idem' _) (by omega) (by omega)
    exact key (n + 1) 0 0 1 k (w64 (by omega) (by omega)) (by omega) (by omega)

/-- The square of a Hankel determinant. -/
def hrows (L : List Int) (n : Nat) : List (List Int) := (List.range n).map fun i => (L.take (i + n)).drop i
theorem hrows_sq (L : List Int) (n : Nat) (h : 2 * n ≤ L.length + 1) : Sq n (hrows L n) := by
  refine ⟨by simp [hrows], fun r hr => ?_⟩
  unfold hrows at hr
  obtain ⟨i, hi, rfl⟩ := List.mem_map.1 hr
  have := List.mem_range.1 hi
  rw [List.length_drop, List.length_take]
  omega
theorem spec_hankel (L : List Int) (hL : L.length ≤ 8) (n : Nat) (hn : n ≤ 4) (h : 2 * n ≤ L.length + 1) {k : Nat} (hk : 300 ≤ k) : spec_kiHankel.f k L (n : Int) = some (det n (hrows L n)) := by
  unfold spec_kiHankel.f
  have key : ∀ (d i k : Nat), i + d = n → 280 + d ≤ k → spec_kiHankel.l0 k L (n : Int) ((List.range i).map fun i => (L.take (i + n)).drop i) (i : Int) = some (det n (hrows L n)) := by
    intro d
    induction d with
    | zero =>
      intro i k hd hk
      obtain ⟨k, rfl⟩ : ∃ m, k = m + 1 := ⟨k - 1, by omega⟩
      obtain rfl : i = n := by omega
      rw [spec_kiHankel.l0.eq_2, if_neg (by omega)]
      have := spec_det i hn (hrows L i) (hrows_sq L i h) k (by omega)
      unfold hrows at this
      rw [this, Option.bind_some]; rfl
    | succ d ih =>
      intro i k hd hk
      obtain ⟨k, rfl⟩ : ∃ m, k = m + 1 := ⟨k - 1, by omega⟩
      have e : wrap64 ((i : Int) + (n : Int)) = ((i + n : Nat) : Int) := by rw [w64 (by omega) (by omega)]; omega
      rw [spec_kiHankel.l0.eq_2, if_pos (by omega), if_pos (by omega), e, if_pos (by omega), if_pos (by omega), Int.toNat_natCast, Int.toNat_natCast, own_run _ (by rw [List.length_drop, List.length_take]; omega), Option.bind_some, if_pos (by simp; omega), wN i (by omega)]
      have := ih (i + 1) k (by omega) (by omega)
      rw [List.range_succ, List.map_append] at this
      exact this
  exact key n 0 k (by omega) (by omega)
theorem impl_hank (L : List Int) (hL : L.length ≤ 8) (n : Nat) (hn : n ≤ 4) (h : 2 * n ≤ L.length + 1) {k : Nat} (hk : 300 ≤ k) : impl_hankel.f k L (n : Int) = some (det n (hrows L n)) := by
  unfold impl_hankel.f
  have key : ∀ (d i k : Nat), i + d = n → 280 + d ≤ k → impl_hankel.l0 k L (n : Int) ((List.range i).map fun i => (L.take (i + n)).drop i) (n : Int) (i : Int) = some (det n (hrows L n)) := by
    intro d
    induction d with
    | zero =>
      intro i k hd hk
      obtain ⟨k, rfl⟩ : ∃ m, k = m + 1 := ⟨k - 1, by omega⟩
      obtain rfl : i = n := by omega
      rw [impl_hankel.l0.eq_2, if_neg (by omega)]
      have := impl_det i hn (hrows L i) (hrows_sq L i h) k (by omega)
      unfold hrows at this
      rw [this, Option.bind_some]; rfl
    | succ d ih =>
      intro i k hd hk
      obtain ⟨k, rfl⟩ : ∃ m, k = m + 1 := ⟨k - 1, by omega⟩
      have e : wrap64 ((i : Int) + (n : Int)) = ((i + n : Nat) : Int) := by rw [w64 (by omega) (by omega)]; omega
      rw [impl_hankel.l0.eq_2, if_pos (by omega), if_pos (by omega), e, if_pos (by omega), if_pos (by omega), Int.toNat_natCast, Int.toNat_natCast, if_pos (by simp; omega), wN i (by omega)]
      have := ih (i + 1) k (by omega) (by omega)
      rw [List.range_succ, List.map_append] at this
      exact this
  exact key n 0 k (by omega) (by omega)
/-- All numbers that are small are not too large. -/
theorem allIn_wide (L : List Int) (h : allIn (-10000) 10000 L = true) : allIn (-1000000000) 1000000000 L = true := by
  unfold allIn at h ⊢
  rw [List.all_eq_true] at h ⊢
  intro x hx
  have := of_decide_eq_true (h x hx)
  exact decide_eq_true (by omega)
/-- Whether numbers are moments, and small. -/
def smallB (L : List Int) : Bool := decide (1 ≤ L.length ∧ L.length ≤ 8) && allIn (-10000) 10000 L
theorem small_len {L : List Int} (h : smallB L = true) : 1 ≤ L.length ∧ L.length ≤ 8 := by
  unfold smallB at h
  rw [Bool.and_eq_true] at h
  exact of_decide_eq_true h.1
theorem impl_small (L : List Int) : impl_areMoments.f L 10000 = some (smallB L) := impl_are L 10000 (by omega)
theorem mom_small (L : List Int) : (momB L && allIn (-10000) 10000 L) = smallB L := by
  unfold momB smallB
  cases h : allIn (-10000) 10000 L with
  | true => rw [allIn_wide L h]; simp
  | false => simp

/-- The numbers from m on. -/
def seqI (m n : Nat) : List Int := (List.range n).map fun i => ((m + i : Nat) : Int)
theorem seqI_len (m n : Nat) : (seqI m n).length = n := by simp [seqI]
theorem rd_seqI {m n i : Nat} (h : i < n) : rd (seqI m n) (i : Int) = ((m + i : Nat) : Int) := by
  unfold rd seqI
  rw [Int.toNat_natCast, List.getD_eq_getElem?_getD, List.getElem?_map, List.getElem?_range h]; rfl
theorem markI_from (m : Nat) (hm : m ≤ 1000000000) (n : Nat) (hn : n ≤ 1048576) : ∀ (d i k : Nat) (M : List Int), i + d = n → M.length = n → M.take i = (seqI m n).take i → d < k → laws_markIntS.l0 k M ((m + i : Nat) : Int) (i : Int) = some (((m + n : Nat) : Int), seqI m n) := by
  intro d
  induction d with
  | zero =>
    intro i k M hd hM ht hk
    obtain ⟨k, rfl⟩ : ∃ m, k = m + 1 := ⟨k - 1, by omega⟩
    rw [laws_markIntS.l0.eq_2, if_neg (by omega)]
    rw [List.take_of_length_le (by omega), List.take_of_length_le (by rw [seqI_len]; omega)] at ht
    rw [ht, show i = n by omega]
  | succ d ih =>
    intro i k M hd hM ht hk
    obtain ⟨k, rfl⟩ : ∃ m, k = m + 1 := ⟨k - 1, by omega⟩
    rw [laws_markIntS.l0.eq_2, if_pos (by omega), if_pos (by omega), wN (m + i) (by omega), wN i (by omega), Int.toNat_natCast, show m + i + 1 = m + (i + 1) by omega]
    refine ih (i + 1) k _ (by omega) (by rw [List.length_set]; omega) ?_ (by omega)
    rw [List.take_succ_eq_append_getElem (by rw [List.length_set]; omega), List.take_succ_eq_append_getElem (by rw [seqI_len]; omega), List.take_set_of_le (Nat.le_refl i), ht, List.getElem_set_self]
    congr 2
    simp [seqI]
theorem markI_run (L : List Int) (hL : L.length ≤ 1048576) {k : Nat} (hk : L.length < k) : laws_markIntS.f k L 1 = some (((1 + L.length : Nat) : Int), seqI 1 L.length) := by
  unfold laws_markIntS.f
  exact markI_from 1 (by omega) L.length hL L.length 0 k L (by omega) rfl (by simp) hk
theorem markI_at (L : List Int) (hL : L.length ≤ 1048576) (m : Nat) (hm : m ≤ 1000000000) {k : Nat} (hk : L.length < k) : laws_markIntS.f k L (m : Int) = some (((m + L.length : Nat) : Int), seqI m L.length) := by
  unfold laws_markIntS.f
  exact markI_from m hm L.length hL L.length 0 k L (by omega) rfl (by simp) hk
theorem heldI_from (m : Nat) (hm : m ≤ 1000000000) (n : Nat) (hn : n ≤ 1048576) : ∀ (d i k : Nat), i + d = n → d < k → laws_heldIntS.l0 k (seqI m n) ((m + i : Nat) : Int) (i : Int) = some ((m + n : Nat) : Int) := by
  intro d
  induction d with
  | zero =>
    intro i k hd hk
    obtain ⟨k, rfl⟩ : ∃ m, k = m + 1 := ⟨k - 1, by omega⟩
    rw [laws_heldIntS.l0.eq_2, if_neg (by rw [seqI_len]; omega), show i = n by omega]
  | succ d ih =>
    intro i k hd hk
    obtain ⟨k, rfl⟩ : ∃ m, k = m + 1 := ⟨k - 1, by omega⟩
    rw [laws_heldIntS.l0.eq_2, if_pos (by rw [seqI_len]; omega), if_pos (by omega), rd_seqI (by omega), if_pos rfl, wN (m + i) (by omega), wN i (by omega), show m + i + 1 = m + (i + 1) by omega]
    exact ih (i + 1) k (by omega) (by omega)
theorem heldI_run (n : Nat) (hn : n ≤ 1048576) {k : Nat} (hk : n < k) : laws_heldIntS.f k (seqI 1 n) 1 = some ((1 + n : Nat) : Int) := by
  unfold laws_heldIntS.f
  exact heldI_from 1 (by omega) n hn n 0 k (by omega) hk

theorem dloop_wrap (f x : Nat → Int) : ∀ (d j : Nat) (s g : Int), wrap64 s = s → wrap64 (dloop f x d j s g) = dloop f x d j s g
  | 0, _, s, _, h => h
  | d + 1, j, s, g, h => dloop_wrap f x d (j + 1) _ _ (wrap_idem' _)
theorem det_wrap (n : Nat) (rows : List (List Int)) : wrap64 (det n rows) = det n rows := by
  cases n with
  | zero => exact w64 (n := 1) (by omega) (by omega)
  | succ n => exact dloop_wrap _ _ _ _ _ _ (w64 (by omega) (by omega))
theorem two_n (n : Nat) (h : n ≤ 100) : wrap64 (wrap64 (2 * (n : Int)) - 1) = 2 * (n : Int) - 1 := by
  rw [w64 (n := 2 * (n : Int)) (by omega) (by omega), w64 (by omega) (by omega)]
theorem half (m : Nat) (h : m ≤ 100) : wrap64 (Int.tdiv (wrap64 ((m : Int) + 1)) 2) = (((m + 1) / 2 : Nat) : Int) := by
  rw [w64 (n := (m : Int) + 1) (by omega) (by omega), Int.tdiv_eq_ediv_of_nonneg (by omega), w64 (by omega) (by omega)]
  omega
/-- The reference's step from n on. -/
theorem spec_at (L : List Int) (hL : L.length ≤ 8) (n k : Nat) (b l : Int) (out : List Int) (hn : n ≤ 4) (h : 2 * n ≤ L.length + 1) (hk : 300 ≤ k) (hb : b ≠ 0) (h2 : 2 ≤ n) (D q : Int) (hD : det n (hrows L n) = D) (hq : wrap64 (Int.tdiv D b) = q) :
    spec_DownsOf.l0 (k + 1) L b l out (n : Int) = if Int.tmod D b = 0 then (if q < 1 then spec_DownsOf.j2 k L b l out (n : Int) D true else spec_DownsOf.j2 k L b l out (n : Int) D false) else spec_DownsOf.j2 k L b l out (n : Int) D true := by
  rw [spec_DownsOf.l0.eq_2, two_n n (by omega), if_pos (by omega), spec_hankel L hL n hn h (by omega), Option.bind_some, if_neg hb, hD, hq]
  rw [show (if (n : Int) = 1 then spec_DownsOf.j2 k L b l out (n : Int) D (D != 1) else spec_DownsOf.j2 k L b l out (n : Int) D false) = spec_DownsOf.j2 k L b l out (n : Int) D false from if_neg (by omega)]
theorem impl_at (L : List Int) (hL : L.length ≤ 8) (n k : Nat) (b l : Int) (out : List Int) (hn : n ≤ 4) (h : 2 * n ≤ L.length + 1) (hk : 300 ≤ k) (hb : b ≠ 0) (D q : Int) (hD : det n (hrows L n) = D) (hq : wrap64 (Int.tdiv D b) = q) :
    impl_DownsOf.l0 (k + 1) L out b l (n : Int) = if Int.tmod D b = 0 then impl_DownsOf.j2 k L out b l (n : Int) D (decide (q < 1)) else impl_DownsOf.j2 k L out b l (n : Int) D true := by
  rw [impl_DownsOf.l0.eq_2, half L.length (by omega), if_pos (by omega), impl_hank L hL n hn h (by omega), Option.bind_some, if_neg hb, hD, hq]
theorem spec_on (L : List Int) (n k : Nat) (b l : Int) (out : List Int) (hb : b ≠ 0) (hl : 1 ≤ l) (h2 : 2 ≤ n) (hn : n ≤ 4) (ho : out.length ≤ 20) (D q : Int) (hq : wrap64 (Int.tdiv D b) = q) :
    spec_DownsOf.j2 (k + 1) L b l out (n : Int) D false = if Int.tmod q l = 0 then spec_DownsOf.l0 k L D q (out ++ [wrap64 (Int.tdiv q l)]) ((n + 1 : Nat) : Int) else some ([], false) := by
  rw [spec_DownsOf.j2.eq_2, if_neg (by decide), if_neg hb, if_neg (by omega), hq, wN n (by omega)]
  by_cases h : Int.tmod q l = 0
  · rw [if_pos h, if_pos h, if_pos (by omega), if_pos (by omega)]
  · rw [if_neg h, if_neg h]
theorem impl_on (L : List Int) (n k : Nat) (b l : Int) (out : List Int) (hb : b ≠ 0) (hl : 1 ≤ l) (h2 : 2 ≤ n) (hn : n ≤ 4) (ho : out.length ≤ 20) (D q : Int) (hq : wrap64 (Int.tdiv D b) = q) :
    impl_DownsOf.j2 (k + 1 + 1 + 1) L out b l (n : Int) D false = if Int.tmod q l = 0 then impl_DownsOf.l0 k L (out ++ [wrap64 (Int.tdiv q l)]) D q ((n + 1 : Nat) : Int) else some ([], false) := by
  rw [impl_DownsOf.j2.eq_2, if_neg (by decide), if_neg hb, if_neg (by omega), hq, impl_DownsOf.j3.eq_2, if_neg (by decide), if_pos (by omega), if_neg (by omega), impl_DownsOf.j4.eq_2, wN n (by omega)]
  by_cases h : Int.tmod q l = 0
  · rw [if_pos h, if_neg (by rw [h]; decide), if_pos (by omega), if_neg (by omega), if_pos (by omega)]
  · rw [if_neg h, if_pos (by simpa using h)]
theorem rounds_same (L : List Int) (hL : L.length ≤ 8) (hodd : L.length % 2 = 1) : ∀ (d n k : Nat) (b l : Int) (out : List Int), 2 ≤ n → 2 * (n + d) = L.length + 3 → b ≠ 0 → 1 ≤ l → out.length ≤ n → 400 + 6 * d ≤ k →
    ∃ (R : List Int) (t : Bool), R.length ≤ 20 ∧ spec_DownsOf.l0 k L b l out (n : Int) = some (R, t) ∧ impl_DownsOf.l0 k L out b l (n : Int) = some (R, t) := by
  intro d
  induction d with
  | zero =>
    intro n k b l out hn hd hb hl ho hk
    obtain ⟨k, rfl⟩ : ∃ m, k = m + 1 := ⟨k - 1, by omega⟩
    refine ⟨out, true, by omega, ?_, ?_⟩
    · rw [spec_DownsOf.l0.eq_2, two_n n (by omega), if_neg (by omega)]
    · rw [impl_DownsOf.l0.eq_2, half L.length (by omega), if_neg (by omega)]
  | succ d ih =>
    intro n k b l out hn hd hb hl ho hk
    obtain ⟨k, rfl⟩ : ∃ m, k = m + 1 + 1 + 1 + 1 := ⟨k - 4, by omega⟩
    obtain ⟨D, hD⟩ : ∃ D, det n (hrows L n) = D := ⟨_, rfl⟩
    obtain ⟨q, hq⟩ : ∃ q, wrap64 (Int.tdiv D b) = q := ⟨_, rfl⟩
    have hs := spec_at L hL n (k + 1 + 1 + 1) b l out (by omega) (by omega) (by omega) hb hn D q hD hq
    have hi := impl_at L hL n (k + 1 + 1 + 1) b l out (by omega) (by omega) (by omega) hb D q hD hq
    have h1 := spec_on L n (k + 1 + 1) b l out hb hl hn (by omega) (by omega) D q hq
    have h2 := impl_on L n k b l out hb hl hn (by omega) (by omega) D q hq
    have s0 : spec_DownsOf.j2 (k + 1 + 1 + 1) L b l out (n : Int) D true = some ([], false) := by rw [spec_DownsOf.j2.eq_2, if_pos rfl]
    have i0 : impl_DownsOf.j2 (k + 1 + 1 + 1) L out b l (n : Int) D true = some ([], false) := by rw [impl_DownsOf.j2.eq_2, if_pos rfl]
    by_cases hm : Int.tmod D b = 0
    · rw [if_pos hm] at hs hi
      by_cases hq1 : q < 1
      · rw [if_pos hq1, s0] at hs
        rw [decide_eq_true hq1, i0] at hi
        exact ⟨[], false, by simp, hs, hi⟩
      · rw [if_neg hq1, h1] at hs
        rw [decide_eq_false hq1, h2] at hi
        by_cases hr : Int.tmod q l = 0
        · rw [if_pos hr] at hs hi
          have hD0 : D ≠ 0 := by
            intro h
            apply hq1
            rw [← hq, h, Int.zero_tdiv, w64 (by omega) (by omega)]; omega
          clear h1 h2 s0 i0 hq hD
          obtain ⟨R, t, hR, r1, r2⟩ := ih (n + 1) k D q (out ++ [wrap64 (Int.tdiv q l)]) (by omega) (by omega) hD0 (by omega) (by rw [List.length_append, List.length_singleton]; omega) (by omega)
          exact ⟨R, t, hR, hs.trans (at_rounds (fun k => (spec_DownsOf.mono_l k).2.1 _ _ _ _ _) (by omega) r1), hi.trans r2⟩
        · rw [if_neg hr] at hs hi
          exact ⟨[], false, by simp, hs, hi⟩
    · rw [if_neg hm, s0] at hs
      rw [if_neg hm, i0] at hi
      exact ⟨[], false, by simp, hs, hi⟩
theorem first_same (L : List Int) (hL : L.length ≤ 8) (hodd : L.length % 2 = 1) : ∃ (R : List Int) (t : Bool), R.length ≤ 20 ∧ spec_DownsOf.l0 500 L 1 1 [] 1 = some (R, t) ∧ impl_DownsOf.l0 500 L [] 1 0 1 = some (R, t) := by
  obtain ⟨D, hD⟩ : ∃ D, det 1 (hrows L 1) = D := ⟨_, rfl⟩
  have hw : wrap64 D = D := by rw [← hD]; exact det_wrap _ _
  have hs : spec_DownsOf.l0 500 L 1 1 [] 1 = if D < 1 then some ([], false) else spec_DownsOf.j2 499 L 1 1 [] 1 D (D != 1) := by
    have e : wrap64 (wrap64 (2 * 1) - 1) = 1 := by rw [w64 (n := 2 * 1) (by omega) (by omega), w64 (by omega) (by omega)]; rfl
    rw [show (500 : Nat) = 499 + 1 from rfl, spec_DownsOf.l0.eq_2, e, if_pos (by omega), show spec_kiHankel.f 499 L 1 = some D from (spec_hankel L hL 1 (by omega) (by omega) (by omega)).trans (by rw [hD]), Option.bind_some, if_neg (by decide), Int.tmod_one, if_pos rfl, Int.tdiv_one, hw, if_pos rfl]
    by_cases h : D < 1
    · rw [if_pos h, if_pos h, show (499 : Nat) = 498 + 1 from rfl, spec_DownsOf.j2.eq_2, if_pos rfl]
    · rw [if_neg h, if_neg h]
  have hi : impl_DownsOf.l0 500 L [] 1 0 1 = impl_DownsOf.j2 499 L [] 1 0 1 D (decide (D < 1)) := by
    rw [show (500 : Nat) = 499 + 1 from rfl, impl_DownsOf.l0.eq_2, half L.length (by omega), if_pos (by omega), show impl_hankel.f 499 L 1 = some D from (impl_hank L hL 1 (by omega) (by omega) (by omega)).trans (by rw [hD]), Option.bind_some, if_neg (by decide), Int.tmod_one, if_pos rfl, Int.tdiv_one, hw]
  by_cases h1 : D = 1
  · subst h1
    have s1 : spec_DownsOf.l0 500 L 1 1 [] 1 = spec_DownsOf.l0 498 L 1 1 [] ((2 : Nat) : Int) := by
      rw [hs, if_neg (by omega), show (499 : Nat) = 498 + 1 from rfl, spec_DownsOf.j2.eq_2, if_neg (by decide), if_neg (by decide), if_neg (by decide), Int.tdiv_one, hw, Int.tmod_one, if_pos rfl, if_neg (by decide), show wrap64 (1 + 1) = 2 from w64 (by omega) (by omega)]
      rfl
    have i1 : impl_DownsOf.l0 500 L [] 1 0 1 = impl_DownsOf.l0 496 L [] 1 1 ((2 : Nat) : Int) := by
      rw [hi, decide_eq_false (by omega), show (499 : Nat) = 498 + 1 from rfl, impl_DownsOf.j2.eq_2, if_neg (by decide), if_neg (by decide), if_pos rfl, Int.tdiv_one, hw, show (498 : Nat) = 497 + 1 from rfl, impl_DownsOf.j3.eq_2, if_neg (by decide), if_neg (by decide), show (497 : Nat) = 496 + 1 from rfl, impl_DownsOf.j4.eq_2, if_neg (by decide), if_neg (by decide), show wrap64 (1 + 1) = 2 from w64 (by omega) (by omega)]
      rfl
    obtain ⟨R, t, hR, r1, r2⟩ := rounds_same L hL hodd ((L.length + 3) / 2 - 2) 2 490 1 1 [] (by omega) (by omega) (by omega) (by omega) (by simp) (by omega)
    exact ⟨R, t, hR, s1.trans (at_rounds (fun k => (spec_DownsOf.mono_l k).2.1 _ _ _ _ _) (by omega) r1), i1.trans (at_rounds (fun k => (impl_DownsOf.mono_l k).2.1 _ _ _ _ _) (by omega) r2)⟩
  · have s1 : spec_DownsOf.l0 500 L 1 1 [] 1 = some ([], false) := by
      rw [hs]
      by_cases h : D < 1
      · rw [if_pos h]
      · rw [if_neg h, show (499 : Nat) = 498 + 1 from rfl, spec_DownsOf.j2.eq_2, if_pos (by simpa using h1)]
    have i1 : impl_DownsOf.l0 500 L [] 1 0 1 = some ([], false) := by
      rw [hi]
      by_cases h : D < 1
      · rw [decide_eq_true h, show (499 : Nat) = 498 + 1 from rfl, impl_DownsOf.j2.eq_2, if_pos rfl]
      · rw [decide_eq_false h, show (499 : Nat) = 498 + 1 from rfl, impl_DownsOf.j2.eq_2, if_neg (by decide), if_neg (by decide), if_pos rfl, Int.tdiv_one, hw, show (498 : Nat) = 497 + 1 from rfl, impl_DownsOf.j3.eq_2, if_pos (by simpa using h1)]
    exact ⟨[], false, by simp, s1, i1⟩
theorem both_same (L : List Int) (hL : L.length ≤ 1048576) : ∃ (R : List Int) (t : Bool), R.length ≤ 20 ∧ (∀ k, 600 ≤ k → spec_DownsOf.f k L = some (R, t)) ∧ (∀ k, 600 ≤ k → impl_DownsOf.f k L = some (R, t)) := by
  unfold spec_DownsOf.f impl_DownsOf.f
  have hs := mom_small L
  by_cases hg : smallB L = true
  · rw [hg, Bool.and_eq_true] at hs
    have hl := small_len hg
    by_cases hp : L.length % 2 = 0
    · have e : ((L.length : Int) % 2 == 0) = true := by rw [beq_iff_eq]; omega
      refine ⟨[], false, by simp, fun k hk => ?_, fun k hk => ?_⟩
      · obtain ⟨k, rfl⟩ : ∃ m, k = m + 1 := ⟨k - 1, by omega⟩
        rw [spec_good L (by omega), Option.bind_some, if_pos hs.1, all_run _ _ L (by omega) (by omega), Option.bind_some, if_pos hs.2, spec_DownsOf.j0.eq_2, if_pos e]
      · obtain ⟨k, rfl⟩ : ∃ m, k = m + 1 := ⟨k - 1, by omega⟩
        rw [impl_small, Option.bind_some, if_pos hg, impl_DownsOf.j0.eq_2, if_pos e]
    · have e : ¬ ((L.length : Int) % 2 == 0) = true := by rw [beq_iff_eq]; omega
      obtain ⟨R, t, hR, r1, r2⟩ := first_same L hl.2 (by omega)
      refine ⟨R, t, hR, fun k hk => ?_, fun k hk => ?_⟩
      · obtain ⟨k, rfl⟩ : ∃ m, k = m + 1 := ⟨k - 1, by omega⟩
        rw [spec_good L (by omega), Option.bind_some, if_pos hs.1, all_run _ _ L (by omega) (by omega), Option.bind_some, if_pos hs.2, spec_DownsOf.j0.eq_2, if_neg e]
        exact at_rounds (fun k => (spec_DownsOf.mono_l k).2.1 _ _ _ _ _) (by omega) r1
      · obtain ⟨k, rfl⟩ : ∃ m, k = m + 1 := ⟨k - 1, by omega⟩
        rw [impl_small, Option.bind_some, if_pos hg, impl_DownsOf.j0.eq_2, if_neg e]
        exact at_rounds (fun k => (impl_DownsOf.mono_l k).2.1 _ _ _ _ _) (by omega) r2
  · refine ⟨[], false, by simp, fun k hk => ?_, fun k hk => ?_⟩
    · obtain ⟨k, rfl⟩ : ∃ m, k = m + 1 := ⟨k - 1, by omega⟩
      have jt : spec_DownsOf.j0 (k + 1) L true = some ([], false) := by rw [spec_DownsOf.j0.eq_2, if_pos rfl]
      rw [spec_good L (by omega), Option.bind_some]
      by_cases hm : momB L = true
      · have ha : ¬ allIn (-10000) 10000 L = true := fun ha => hg (by rw [← hs, hm, ha]; rfl)
        have hml : L.length ≤ 8 := by
          unfold momB at hm
          rw [Bool.and_eq_true] at hm
          exact (of_decide_eq_true hm.1).2
        rw [if_pos hm, all_run _ _ L (by omega) (by omega), Option.bind_some, if_neg ha, jt]
      · rw [if_neg hm, jt]
    · obtain ⟨k, rfl⟩ : ∃ m, k = m + 1 := ⟨k - 1, by omega⟩
      rw [impl_small, Option.bind_some, if_neg hg, impl_DownsOf.j0.eq_2, if_pos rfl]
theorem FnExactDownsOf : ∀ (l0 : List Int), (l0.length ≤ 9223372036854775807 ∧ ∀ n ∈ l0, (Lit.int .i64 n).wf = true) → ∃ k, laws_FnExactDownsOf.f k l0 = some true := by
  intro L _
  obtain ⟨K, hK⟩ : ∃ K : Nat, 1048600 < K := ⟨1048601, by omega⟩
  refine ⟨K + 3, ?_⟩
  unfold laws_FnExactDownsOf.f
  by_cases hl : (L.length : Int) > 1048576
  · rw [if_pos hl]
  obtain ⟨R, t, hR, h1, h2⟩ := both_same L (by omega)
  have tI : ∀ k, K ≤ k → laws_toIntS.f k L = some L := fun k hk => toI_run L (by omega) (by omega)
  have eR : ∀ k, K ≤ k → laws_eqIntS.f k R R = some true := fun k hk => eqI_run R (by omega) (by omega)
  rw [if_neg hl, tI _ (by omega), Option.bind_some, h1 _ (by omega), Option.bind_some, Option.bind_some, h2 _ (by omega), Option.bind_some, eR _ (by omega), Option.bind_some, if_pos rfl]
  rw [show K + 3 = (K + 2) + 1 from rfl, laws_FnExactDownsOf.j0.eq_2, if_neg (by simp), tI _ (by omega), Option.bind_some, eqI_run L (by omega) (by omega), Option.bind_some, if_pos rfl, markI_run L (by omega) (by omega), Option.bind_some, if_neg (by omega), eR _ (by omega), Option.bind_some, if_pos rfl]
  rw [show K + 2 = (K + 1) + 1 from rfl, laws_FnExactDownsOf.j1.eq_2, if_neg (by simp), markI_run R (by omega) (by omega), Option.bind_some, heldI_run R.length (by omega) (by omega), Option.bind_some, if_neg (by omega), if_pos rfl, tI _ (by omega), Option.bind_some, h2 _ (by omega), Option.bind_some, eR _ (by omega), Option.bind_some, if_pos rfl]
  rw [laws_FnExactDownsOf.j2.eq_2, if_neg (by simp), heldI_run R.length (by omega) (by omega), Option.bind_some, if_neg (by omega), if_pos rfl]
end Go.Proofs.Ytaneoolaknnkaaa.Pure
