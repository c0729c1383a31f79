/- The first moments of levels: both sides reckon the same rows. No condition. -/
import Derived.Test.YtpccmlaaebaobaaOFnExactMomentsOfx5
namespace Go.Proofs.Ytpccmlaaebaobaa.Pure
open Go.RowKit Go.Proofs.Ytpccmlaaebaobaa.Stub Go.Proofs.Ytpccmlaaebaobaa.Gen Go.Proofs.Ytpccmlaaebaobaa.OFnExactMomentsOf Go.Proofs.YtpccmlaaebaobaaW.PrintWords Go.Proofs.YtpccmlaaebaobaaW.PrintLast
set_option linter.unusedVariables false
set_option linter.unusedSimpArgs false
theorem w64 {n : Int} (h0 : -9223372036854775808 ≤ n) (h1 : n ≤ 9223372036854775807) : wrap64 n = n := by unfold wrap64; omega
theorem wf_bd {n : Int} (h : (Lit.int .i64 n).wf = true) : -9223372036854775808 ≤ n ∧ n ≤ 9223372036854775807 := by
  unfold Lit.wf at h
  rw [Bool.and_eq_true] at h
  exact ⟨of_decide_eq_true h.1, of_decide_eq_true h.2⟩

theorem in_eq (a b c : Int) : impl_in.f a b c = some (decide (b ≤ a ∧ a ≤ c)) := by
  unfold impl_in.f
  by_cases h1 : b ≤ a <;> by_cases h2 : a ≤ c <;> simp [h1, h2]
theorem l1In_eq (a b c : Int) : spec_l1In.f a b c = some (decide (b ≤ a ∧ a ≤ c)) := by
  unfold spec_l1In.f
  by_cases h1 : b ≤ a <;> by_cases h2 : a ≤ c <;> simp [h1, h2]

theorem ite_iff {p q : Prop} [Decidable p] [Decidable q] (h : p ↔ q) (a b : Int) : (if p then a else b) = if q then a else b := by
  by_cases hp : p
  · rw [if_pos hp, if_pos (h.1 hp)]
  · rw [if_neg hp, if_neg (fun hq => hp (h.2 hq))]
theorem wrap_idem (a : Int) : wrap64 (wrap64 a) = wrap64 a := by unfold wrap64; omega
theorem wrap_add_l (a b : Int) : wrap64 (wrap64 a + b) = wrap64 (a + b) := by unfold wrap64; omega
theorem wrap_add_r (a b : Int) : wrap64 (a + wrap64 b) = wrap64 (a + b) := by unfold wrap64; omega
/-- A number is added to the entry at a place. -/
def addAt (N : List Int) (i : Nat) (v : Int) : List Int := N.set i (wrap64 (rd N (i : Int) + wrap64 v))
theorem addAt_len (N : List Int) (i : Nat) (v : Int) : (addAt N i v).length = N.length := by unfold addAt; simp
theorem rd_set_self {L : List Int} {i : Nat} {v : Int} (h : i < L.length) : rd (L.set i v) (i : Int) = v := by
  unfold rd
  rw [Int.toNat_natCast, List.getD_eq_getElem?_getD, List.getElem?_set_self h]; rfl
theorem rd_set_other {L : List Int} {i j : Nat} {v : Int} (h : i ≠ j) : rd (L.set i v) (j : Int) = rd L (j : Int) := by
  unfold rd
  rw [Int.toNat_natCast, List.getD_eq_getElem?_getD, List.getD_eq_getElem?_getD, List.getElem?_set_ne h]
theorem rd_out {L : List Int} {j : Nat} (h : L.length ≤ j) : rd L (j : Int) = 0 := by
  unfold rd
  rw [Int.toNat_natCast, List.getD_eq_getElem?_getD, List.getElem?_eq_none h]; rfl
theorem rd_replicate (n j : Nat) : rd (List.replicate n (0 : Int)) (j : Int) = 0 := by
  unfold rd
  rw [Int.toNat_natCast, List.getD_eq_getElem?_getD, List.getElem?_replicate]
  split <;> rfl
theorem rd_addAt {N : List Int} {p : Nat → Int} (hN : ∀ j, j < N.length → rd N (j : Int) = wrap64 (p j)) (i : Nat) (hi : i < N.length) (v : Int) :
    ∀ j, j < (addAt N i v).length → rd (addAt N i v) (j : Int) = wrap64 (p j + if j = i then v else 0) := by
  intro j hj
  rw [addAt_len] at hj
  by_cases e : j = i
  · subst e
    rw [if_pos rfl]
    unfold addAt
    rw [rd_set_self hi, hN j hi, wrap_add_r, wrap_add_l]
  · rw [if_neg e, Int.add_zero]
    unfold addAt
    rw [rd_set_other (Ne.symm e), hN j hj]
/-- How many paths lead to each height, weighted. -/
def row (U F D : Nat → Int) : Nat → Nat → Int
  | 0, j => if j = 0 then 1 else 0
  | m + 1, j => wrap64 ((if 1 ≤ j then U (j - 1) * row U F D m (j - 1) else 0) + F j * row U F D m j + D (j + 1) * row U F D m (j + 1))
theorem row_out (U F D : Nat → Int) : ∀ m j, m < j → row U F D m j = 0
  | 0, j, h => by unfold row; rw [if_neg (by omega)]
  | m + 1, j, h => by
    unfold row
    rw [row_out U F D m (j - 1) (by omega), row_out U F D m j (by omega), row_out U F D m (j + 1) (by omega)]
    simp only [Int.mul_zero, ite_self, Int.add_zero]
    exact w64 (by omega) (by omega)
/-- What has been added up to a height. -/
def upto (U F D r : Nat → Int) (h j : Nat) : Int := (if 1 ≤ j ∧ j ≤ h then U (j - 1) * r (j - 1) else 0) + (if j < h then F j * r j else 0) + (if j + 1 < h then D (j + 1) * r (j + 1) else 0)
theorem upto_zero (U F D r : Nat → Int) (j : Nat) : upto U F D r 0 j = 0 := by
  unfold upto; rw [if_neg (by omega), if_neg (by omega), if_neg (by omega)]; rfl
theorem upto_succ (U F D r : Nat → Int) (h j : Nat) : upto U F D r (h + 1) j = upto U F D r h j + (if j = h + 1 then U h * r h else 0) + (if j = h then F h * r h else 0) + (if j + 1 = h then D h * r h else 0) := by
  unfold upto
  by_cases e1 : j = h + 1
  · subst e1
    rw [if_pos (by omega), if_neg (by omega), if_neg (by omega), if_neg (by omega), if_neg (by omega), if_neg (by omega), if_pos rfl, if_neg (by omega), if_neg (by omega), Nat.add_sub_cancel]
    omega
  · by_cases e2 : j = h
    · subst e2
      rw [if_neg (c := j = j + 1) (by omega), if_pos (c := j < j + 1) (by omega), if_neg (c := j + 1 < j + 1) (by omega), if_neg (c := j < j) (by omega), if_neg (c := j + 1 < j) (by omega), if_pos (c := j = j) rfl, if_neg (c := j + 1 = j) (by omega)]
      by_cases e : 1 ≤ j
      · rw [if_pos ⟨e, by omega⟩, if_pos ⟨e, by omega⟩]; omega
      · rw [if_neg (by omega), if_neg (by omega)]; omega
    · by_cases e3 : j + 1 = h
      · subst e3
        rw [if_neg (c := j = j + 1 + 1) e1, if_neg (c := j = j + 1) e2, if_pos (c := j + 1 = j + 1) rfl, if_pos (c := j < j + 1 + 1) (by omega), if_pos (c := j + 1 < j + 1 + 1) (by omega), if_pos (c := j < j + 1) (by omega), if_neg (c := j + 1 < j + 1) (by omega)]
        by_cases e : 1 ≤ j
        · rw [if_pos ⟨e, by omega⟩, if_pos ⟨e, by omega⟩]; omega
        · rw [if_neg (by omega), if_neg (by omega)]; omega
      · rw [if_neg e1, if_neg e2, if_neg e3]
        by_cases e : j < h
        · have e' : j + 1 < h := by omega
          rw [if_pos (c := j < h + 1) (by omega), if_pos (c := j + 1 < h + 1) (by omega), if_pos e, if_pos e']
          by_cases f : 1 ≤ j
          · rw [if_pos ⟨f, by omega⟩, if_pos ⟨f, by omega⟩]; omega
          · rw [if_neg (by omega), if_neg (by omega)]; omega
        · rw [if_neg (c := j < h + 1) (by omega), if_neg (c := j + 1 < h + 1) (by omega), if_neg (c := j < h) e, if_neg (c := j + 1 < h) (by omega), if_neg (by omega), if_neg (by omega)]; omega
theorem wnext' (h : Nat) (hh : h ≤ 100000) : wrap64 ((h : Int) + 1) = ((h + 1 : Nat) : Int) := by rw [w64 (by omega) (by omega)]; omega
theorem wprev' (h : Nat) (h1 : 1 ≤ h) (hh : h ≤ 100000) : wrap64 ((h : Int) - 1) = ((h - 1 : Nat) : Int) := by rw [w64 (by omega) (by omega)]; omega

/-- One round over all heights: from height h on. -/
theorem sum_round (wt : Int → Int → Option Int) (U F D r : Nat → Int) (m : Nat) (hm : m ≤ 1000) (hU : ∀ h, h ≤ m → wt 85 (h : Int) = some (U h)) (hF : ∀ h, h ≤ m → wt 70 (h : Int) = some (F h)) (hD : ∀ h, 1 ≤ h → h ≤ m → wt 68 (h : Int) = some (D h))
    (now : List Int) (hnow : now.length = m + 1) (hr : ∀ j : Nat, rd now (j : Int) = r j) (x10 x11 : Int) :
    ∀ (d h : Nat) (N : List Int), h + d = m + 1 → N.length = m + 2 → (∀ j, j < N.length → rd N (j : Int) = wrap64 (upto U F D r h j)) →
      ∃ N' : List Int, N'.length = m + 2 ∧ (∀ j, j < N'.length → rd N' (j : Int) = wrap64 (upto U F D r (m + 1) j)) ∧
        ∀ k : Nat, sumMixed.l1 wt (k + d + 1) N x10 x11 now ((m + 1 : Nat) : Int) (h : Int) = sumMixed.l0 wt k N' x10 (wrap64 (x11 + 1)) := by
  intro d
  induction d with
  | zero =>
    intro h N hd hN hp
    obtain rfl : h = m + 1 := by omega
    refine ⟨N, hN, hp, fun k => ?_⟩
    rw [show k + 0 + 1 = k + 1 from rfl, sumMixed.l1.eq_2, if_neg (by omega)]
  | succ d ih =>
    intro h N hd hN hp
    by_cases hz : r h = 0
    · obtain ⟨N', h1, h2, h3⟩ := ih (h + 1) N (by omega) hN (fun j hj => by rw [hp j hj, upto_succ, hz]; simp only [Int.mul_zero, ite_self, Int.add_zero])
      refine ⟨N', h1, h2, fun k => ?_⟩
      rw [← h3 k, show k + (d + 1) + 1 = (k + d + 1) + 1 from rfl, sumMixed.l1.eq_2, if_pos (by omega), if_pos (by omega), if_pos (by omega), hr h, if_pos hz, wnext' h (by omega)]
    · have h1 := rd_addAt hp (h + 1) (by omega) (r h * U h)
      have h2 := rd_addAt h1 h (by rw [addAt_len]; omega) (r h * F h)
      by_cases h0 : 1 ≤ h
      · have h3 := rd_addAt h2 (h - 1) (by rw [addAt_len, addAt_len]; omega) (r h * D h)
        obtain ⟨N', g1, g2, g3⟩ := ih (h + 1) (addAt (addAt (addAt N (h + 1) (r h * U h)) h (r h * F h)) (h - 1) (r h * D h)) (by omega) (by rw [addAt_len, addAt_len, addAt_len]; omega) (fun j hj => by
          rw [h3 j hj, upto_succ, Int.mul_comm (U h), Int.mul_comm (F h), Int.mul_comm (D h)]
          rw [show (if j = h - 1 then r h * D h else 0) = (if j + 1 = h then r h * D h else 0) from ite_iff (by omega) _ _])
        refine ⟨N', g1, g2, fun k => ?_⟩
        rw [← g3 k, show k + (d + 1) + 1 = (k + d + 1) + 1 from rfl, sumMixed.l1.eq_2, if_pos (by omega), if_pos (by omega), if_pos (by omega), hr h, if_neg hz, wnext' h (by omega), if_pos (by omega), if_pos (by omega),
          hU h (by omega), Option.bind_some, Option.bind_some, if_pos (by omega), hF h (by omega), Option.bind_some, Option.bind_some, if_pos (by omega), wprev' h h0 (by omega), if_pos (by omega), if_pos (by omega), hD h h0 (by omega), Option.bind_some]
        simp only [Int.toNat_natCast]
        rfl
      · obtain rfl : h = 0 := by omega
        obtain ⟨N', g1, g2, g3⟩ := ih 1 (addAt (addAt N 1 (r 0 * U 0)) 0 (r 0 * F 0)) (by omega) (by rw [addAt_len, addAt_len]; omega) (fun j hj => by
          rw [h2 j hj, upto_succ, Int.mul_comm (U 0), Int.mul_comm (F 0), if_neg (c := j + 1 = 0) (by omega), Int.add_zero])
        refine ⟨N', g1, g2, fun k => ?_⟩
        rw [← g3 k, show k + (d + 1) + 1 = (k + d + 1) + 1 from rfl, sumMixed.l1.eq_2, if_pos (by omega), if_pos (by omega), if_pos (by omega), hr 0, if_neg hz, wnext' 0 (by omega), if_pos (by omega), if_pos (by omega),
          hU 0 (by omega), Option.bind_some, Option.bind_some, if_pos (by omega), hF 0 (by omega), Option.bind_some, Option.bind_some, if_neg (by omega)]
        simp only [Int.toNat_natCast]
        rfl
theorem row_of_upto (U F D : Nat → Int) (m j : Nat) (hj : j < m + 2) : wrap64 (upto U F D (row U F D m) (m + 1) j) = row U F D (m + 1) j := by
  rw [row]
  unfold upto
  congr 1
  by_cases e : 1 ≤ j
  · rw [if_pos ⟨e, by omega⟩, if_pos e]
    by_cases f : j < m + 1
    · rw [if_pos f]
      by_cases g : j + 1 < m + 1
      · rw [if_pos g]
      · rw [if_neg g, row_out U F D m (j + 1) (by omega), Int.mul_zero]
    · rw [if_neg f, if_neg (by omega), row_out U F D m j (by omega), row_out U F D m (j + 1) (by omega), Int.mul_zero, Int.mul_zero]
  · rw [if_neg (by omega), if_neg e]
    by_cases f : j < m + 1
    · rw [if_pos f]
      by_cases g : j + 1 < m + 1
      · rw [if_pos g]
      · rw [if_neg g, row_out U F D m (j + 1) (by omega), Int.mul_zero]
    · rw [if_neg f, if_neg (by omega), row_out U F D m j (by omega), row_out U F D m (j + 1) (by omega), Int.mul_zero, Int.mul_zero]
theorem sum_rows (wt : Int → Int → Option Int) (U F D : Nat → Int) (n : Nat) (hn : n ≤ 1000) (hU : ∀ h, h < n → wt 85 (h : Int) = some (U h)) (hF : ∀ h, h < n → wt 70 (h : Int) = some (F h)) (hD : ∀ h, 1 ≤ h → h < n → wt 68 (h : Int) = some (D h)) :
    ∀ (d m : Nat) (now : List Int), m + d = n → now.length = m + 1 → (∀ j : Nat, rd now (j : Int) = row U F D m j) →
      ∀ k, (d + 1) * (n + 4) ≤ k → sumMixed.l0 wt k now (n : Int) (m : Int) = some (row U F D n 0) := by
  intro d
  induction d with
  | zero =>
    intro m now hd hl hr k hk
    obtain rfl : m = n := by omega
    obtain ⟨k, rfl⟩ : ∃ i, k = i + 1 := ⟨k - 1, by omega⟩
    rw [sumMixed.l0.eq_2, if_neg (by omega), if_pos (by omega)]
    exact congrArg some (hr 0)
  | succ d ih =>
    intro m now hd hl hr k hk
    have e : (d + 1 + 1) * (n + 4) = (d + 1) * (n + 4) + (n + 4) := Nat.succ_mul _ _
    obtain ⟨k, rfl⟩ : ∃ i, k = (i + (m + 1) + 1) + 1 := ⟨k - (m + 1) - 2, by omega⟩
    obtain ⟨N', h1, h2, h3⟩ := sum_round wt U F D (row U F D m) m (by omega) (fun h hh => hU h (by omega)) (fun h hh => hF h (by omega)) (fun h h0 hh => hD h h0 (by omega)) now hl hr (n : Int) (m : Int) (m + 1) 0 (List.replicate (m + 2) 0) (by omega) (by simp)
      (fun j hj => by rw [rd_replicate, upto_zero]; exact (w64 (by omega) (by omega)).symm)
    rw [sumMixed.l0.eq_2, if_pos (by omega), hl]
    have e2 : wrap64 (((m + 1 : Nat) : Int) + 1) = ((m + 2 : Nat) : Int) := wnext' (m + 1) (by omega)
    rw [e2, if_pos (by omega), Int.toNat_natCast, if_pos (by omega)]
    refine (h3 k).trans ?_
    rw [wnext' m (by omega)]
    refine ih (m + 1) N' (by omega) h1 (fun j => ?_) k (by omega)
    by_cases hj : j < m + 2
    · rw [h2 j (by omega), row_of_upto U F D m j hj]
    · rw [rd_out (by omega), row_out U F D (m + 1) j (by omega)]
theorem sum_is (wt : Int → Int → Option Int) (U F D : Nat → Int) (n : Nat) (hn : n ≤ 1000) (hU : ∀ h, h < n → wt 85 (h : Int) = some (U h)) (hF : ∀ h, h < n → wt 70 (h : Int) = some (F h)) (hD : ∀ h, 1 ≤ h → h < n → wt 68 (h : Int) = some (D h))
    (k : Nat) (hk : (n + 1) * (n + 4) ≤ k) : sumMixed.f wt k (n : Int) = some (row U F D n 0) := by
  unfold sumMixed.f
  exact sum_rows wt U F D n hn hU hF hD n 0 [1] (by omega) rfl (fun j => by
    cases j with
    | zero => rfl
    | succ j => rw [rd_out (by simp)]; rfl) k hk

theorem wN (n : Nat) (h : n ≤ 1000000000000) : wrap64 ((n : Int) + 1) = ((n + 1 : Nat) : Int) := by rw [w64 (by omega) (by omega)]; omega
theorem toI_from (L : List Int) (hL : L.length ≤ 1048576) : ∀ (d i k : Nat) (M : List Int), i + d = L.length → M.length = L.length → M.take i = L.take i → d < k → laws_toIntS.l0 k L M (i : Int) = some L := by
  intro d
  induction d with
  | zero =>
    intro i k M hd hM ht hk
    obtain ⟨k, rfl⟩ : ∃ m, k = m + 1 := ⟨k - 1, by omega⟩
    rw [laws_toIntS.l0.eq_2, if_neg (by omega)]
    rw [List.take_of_length_le (by omega), List.take_of_length_le (by omega)] at ht
    rw [ht]
  | succ d ih =>
    intro i k M hd hM ht hk
    obtain ⟨k, rfl⟩ : ∃ m, k = m + 1 := ⟨k - 1, by omega⟩
    rw [laws_toIntS.l0.eq_2, if_pos (by omega), if_pos (by omega), if_pos (by omega), wN i (by omega), Int.toNat_natCast]
    refine ih (i + 1) k _ (by omega) (by rw [List.length_set]; omega) ?_ (by omega)
    have hi : i < L.length := by omega
    rw [List.take_succ_eq_append_getElem (by rw [List.length_set]; omega), List.take_succ_eq_append_getElem hi, List.take_set_of_le (Nat.le_refl i), ht, List.getElem_set_self]
    congr 2
    unfold rd
    rw [Int.toNat_natCast, List.getD_eq_getElem?_getD, List.getElem?_eq_getElem hi]; rfl
theorem toI_run (L : List Int) (hL : L.length ≤ 1048576) {k : Nat} (hk : L.length < k) : laws_toIntS.f k L = some L := by
  unfold laws_toIntS.f
  rw [if_pos (by omega), Int.toNat_natCast, if_pos (by omega)]
  exact toI_from L hL L.length 0 k _ (by omega) (by simp) (by simp) hk
theorem eqI_from (L : List Int) (hL : L.length ≤ 1048576) : ∀ (d i k : Nat), i + d = L.length → d < k → laws_eqIntS.l0 k L L (i : Int) = some true := by
  intro d
  induction d with
  | zero =>
    intro i k hd hk
    obtain ⟨k, rfl⟩ : ∃ m, k = m + 1 := ⟨k - 1, by omega⟩
    rw [laws_eqIntS.l0.eq_2, if_neg (by omega)]
  | succ d ih =>
    intro i k hd hk
    obtain ⟨k, rfl⟩ : ∃ m, k = m + 1 := ⟨k - 1, by omega⟩
    rw [laws_eqIntS.l0.eq_2, if_pos (by omega), if_pos (by omega), if_pos (by omega), if_pos rfl, wN i (by omega)]
    exact ih (i + 1) k (by omega) (by omega)
theorem eqI_run (L : List Int) (hL : L.length ≤ 1048576) {k : Nat} (hk : L.length < k) : laws_eqIntS.f k L L = some true := by
  unfold laws_eqIntS.f
  rw [if_pos rfl]
  exact eqI_from L hL L.length 0 k (by omega) hk

/-- Whether all numbers are in a range. -/
def allIn (lo hi : Int) (L : List Int) : Bool := L.all fun x => decide (lo ≤ x ∧ x ≤ hi)
theorem allIn_drop (lo hi : Int) (L : List Int) (i : Nat) (h : i < L.length) : allIn lo hi (L.drop i) = (decide (lo ≤ rd L (i : Int) ∧ rd L (i : Int) ≤ hi) && allIn lo hi (L.drop (i + 1))) := by
  unfold allIn
  rw [List.drop_eq_getElem_cons h, List.all_cons]
  have : rd L (i : Int) = L[i] := by
    unfold rd
    rw [Int.toNat_natCast, List.getD_eq_getElem?_getD, List.getElem?_eq_getElem h]; rfl
  rw [this]
theorem all_from (lo hi : Int) (L : List Int) (hL : L.length ≤ 1048576) : ∀ (d i k : Nat), i + d = L.length → d < k → spec_l1All.l0 k lo hi L (L.length : Int) (i : Int) = some (allIn lo hi (L.drop i)) := by
  intro d
  induction d with
  | zero =>
    intro i k hd hk
    obtain ⟨k, rfl⟩ : ∃ m, k = m + 1 := ⟨k - 1, by omega⟩
    rw [spec_l1All.l0.eq_2, if_neg (by omega), List.drop_of_length_le (by omega)]; rfl
  | succ d ih =>
    intro i k hd hk
    obtain ⟨k, rfl⟩ : ∃ m, k = m + 1 := ⟨k - 1, by omega⟩
    rw [spec_l1All.l0.eq_2, if_pos (by omega), if_pos (by omega), if_pos (by omega), l1In_eq, Option.bind_some, allIn_drop lo hi L i (by omega)]
    by_cases h : lo ≤ rd L (i : Int) ∧ rd L (i : Int) ≤ hi
    · rw [if_pos (by simpa using h), decide_eq_true h, Bool.true_and, wN i (by omega)]
      exact ih (i + 1) k (by omega) (by omega)
    · rw [if_neg (by simpa using h), decide_eq_false h, Bool.false_and]
theorem all_run (lo hi : Int) (L : List Int) (hL : L.length ≤ 1048576) {k : Nat} (hk : L.length < k) : spec_l1All.f k L lo hi = some (allIn lo hi L) := by
  unfold spec_l1All.f
  exact all_from lo hi L hL L.length 0 k (by omega) hk
theorem any_out (lo hi : Int) (L : List Int) : (L.any fun x => outB lo hi x) = !allIn lo hi L := by
  unfold allIn
  rw [List.not_all_eq_any_not]
  congr 1; funext x
  unfold outB
  congr 1
  rw [Bool.decide_and]

/-- Whether two rows are levels. -/
def levB (a b : List Int) : Bool := decide (1 ≤ a.length ∧ a.length ≤ 6) && (decide (b.length = a.length) && (allIn (-5) 5 a && allIn 1 5 b))
theorem spec_lev (a b : List Int) {k : Nat} (hk : 7 ≤ k) : spec_kiLevels.f k a b = some (levB a b) := by
  unfold spec_kiLevels.f levB
  rw [l1In_eq, Option.bind_some]
  by_cases h1 : 1 ≤ a.length ∧ a.length ≤ 6
  · rw [if_pos (by simpa using (by omega : (1 : Int) ≤ a.length ∧ (a.length : Int) ≤ 6)), decide_eq_true h1, Bool.true_and]
    by_cases h2 : b.length = a.length
    · rw [if_pos (by omega), decide_eq_true h2, Bool.true_and, all_run (-5) 5 a (by omega) (by omega), Option.bind_some]
      cases allIn (-5) 5 a with
      | true => rw [if_pos rfl, all_run 1 5 b (by omega) (by omega), Option.bind_some, Bool.true_and]
      | false => rfl
    · rw [if_neg (by omega), decide_eq_false h2, Bool.false_and]
  · rw [if_neg (by simpa using (by omega : ¬ ((1 : Int) ≤ a.length ∧ (a.length : Int) ≤ 6))), decide_eq_false h1, Bool.false_and]
theorem impl_lev (a b : List Int) : impl_IsLevels.f a b = some (levB a b) := by
  unfold impl_IsLevels.f levB
  rw [any_out, any_out]
  by_cases h2 : b.length = a.length
  · rw [if_pos (by omega), decide_eq_true h2, Bool.true_and]
    by_cases h1 : 1 ≤ a.length ∧ a.length ≤ 6
    · rw [if_pos (by omega), decide_eq_true h1, Bool.true_and]
      cases allIn (-5) 5 a <;> simp
    · rw [if_neg (by omega), decide_eq_false h1, Bool.false_and]
  · rw [if_neg (by omega), decide_eq_false h2, Bool.false_and, Bool.and_false]
theorem toL_run (a b : List Int) (ha : a.length ≤ 1048576) (hb : b.length ≤ 1048576) {k : Nat} (hk : 1048576 < k) : laws_toLevels.f k a b = some (a, b) := by
  unfold laws_toLevels.f
  rw [toI_run a ha (by omega), Option.bind_some, toI_run b hb (by omega), Option.bind_some]
theorem eqL_run (a b : List Int) (ha : a.length ≤ 1048576) (hb : b.length ≤ 1048576) {k : Nat} (hk : 1048576 < k) : laws_eqLevels.f k a b a b = some true := by
  unfold laws_eqLevels.f
  rw [eqI_run a ha (by omega), Option.bind_some, if_pos rfl, eqI_run b hb (by omega), Option.bind_some, if_pos rfl]
theorem sz_run (a b : List Int) (ha : a.length ≤ 9223372036854775807) (hb : b.length ≤ 9223372036854775807) : ∃ z, laws_szLevels.f a b 1048576 = some z ∧ (z < 0 ∨ a.length ≤ 1048576 ∧ b.length ≤ 1048576) := by
  unfold laws_szLevels.f laws_szIntS.f
  rw [w64 (n := 1048576 - (a.length : Int)) (by omega) (by omega)]
  by_cases h1 : 1048576 - (a.length : Int) < 0
  · rw [if_pos h1, Option.bind_some, if_pos (by omega)]; exact ⟨_, rfl, .inl (by omega)⟩
  · rw [if_neg h1, Option.bind_some, if_neg h1, w64 (n := 1048576 - (a.length : Int) - (b.length : Int)) (by omega) (by omega)]
    by_cases h2 : 1048576 - (a.length : Int) - (b.length : Int) < 0
    · rw [if_pos h2, Option.bind_some, if_pos (by omega)]; exact ⟨_, rfl, .inl (by omega)⟩
    · rw [if_neg h2, Option.bind_some, if_neg h2]; exact ⟨_, rfl, .inr (by omega)⟩

/-- The weights at a height. -/
def fw (a : List Int) (h : Nat) : Int := if h < a.length then rd a (h : Int) else 0
def dw (b : List Int) (h : Nat) : Int := if h - 1 < b.length then rd b ((h - 1 : Nat) : Int) else 0
abbrev one (_ : Nat) : Int := 1
theorem row_one_wrap (a b : List Int) : ∀ m j, wrap64 (row one (fw a) (dw b) m j) = row one (fw a) (dw b) m j
  | 0, j => by
    unfold row
    by_cases h : j = 0
    · rw [if_pos h]; exact w64 (by omega) (by omega)
    · rw [if_neg h]; exact w64 (by omega) (by omega)
  | m + 1, j => by unfold row; exact wrap_idem _
theorem km_round (a b : List Int) (K : Nat) (ha : a.length = K) (hb : b.length = K) (hK : K ≤ 6) (r : Nat → Int) (n : Int) (now out : List Int) (hnow : now.length = K + 1) (hr : ∀ j : Nat, j < K + 1 → rd now (j : Int) = r j) :
    ∀ (d h : Nat) (N : List Int), h + d = K → N.length = K + 1 → (∀ j, j < N.length → rd N (j : Int) = wrap64 (upto one (fw a) (dw b) r h j)) →
      ∃ N' : List Int, N'.length = K + 1 ∧ (∀ j, j < N'.length → rd N' (j : Int) = wrap64 (upto one (fw a) (dw b) r K j)) ∧
        ∀ k : Nat, spec_kiMoments.l1 (k + d + 1) n (K : Int) now out N (h : Int) a b = spec_kiMoments.l1 (k + 1) n (K : Int) now out N' (K : Int) a b := by
  intro d
  induction d with
  | zero =>
    intro h N hd hN hp
    obtain rfl : h = K := by omega
    exact ⟨N, hN, hp, fun k => rfl⟩
  | succ d ih =>
    intro h N hd hN hp
    have hF : fw a h = rd a (h : Int) := by unfold fw; rw [if_pos (by omega)]
    have h1 := rd_addAt hp h (by omega) (fw a h * r h)
    have h2 := rd_addAt h1 (h + 1) (by rw [addAt_len]; omega) (r h)
    have eU : ∀ M : List Int, M.set (h + 1) (wrap64 (rd M ((h + 1 : Nat) : Int) + r h)) = addAt M (h + 1) (r h) := fun M => by unfold addAt; rw [wrap_add_r]
    by_cases h0 : 1 ≤ h
    · have hD : dw b h = rd b ((h - 1 : Nat) : Int) := by unfold dw; rw [if_pos (by omega)]
      have h3 := rd_addAt h2 (h - 1) (by rw [addAt_len, addAt_len]; omega) (dw b h * r h)
      obtain ⟨N', g1, g2, g3⟩ := ih (h + 1) (addAt (addAt (addAt N h (fw a h * r h)) (h + 1) (r h)) (h - 1) (dw b h * r h)) (by omega) (by rw [addAt_len, addAt_len, addAt_len]; omega) (fun j hj => by
        rw [h3 j hj, upto_succ, show (if j = h - 1 then dw b h * r h else 0) = (if j + 1 = h then dw b h * r h else 0) from ite_iff (by omega) _ _, show one h * r h = r h from Int.one_mul _]
        congr 1; omega)
      refine ⟨N', g1, g2, fun k => ?_⟩
      rw [← g3 k, show k + (d + 1) + 1 = (k + d + 1) + 1 from rfl, spec_kiMoments.l1.eq_2, if_pos (by omega), if_pos (by omega), if_pos (by omega), if_pos (by omega), if_pos (by omega), Option.bind_some, wnext' h (by omega), if_pos (by omega), if_pos (by omega), Option.bind_some,
        if_pos (by omega), wprev' h h0 (by omega), if_pos (by omega), if_pos (by omega), if_pos (by omega), hr h (by omega), ← hF, ← hD]
      simp only [Int.toNat_natCast]
      rw [eU]
      rfl
    · obtain rfl : h = 0 := by omega
      obtain ⟨N', g1, g2, g3⟩ := ih 1 (addAt (addAt N 0 (fw a 0 * r 0)) 1 (r 0)) (by omega) (by rw [addAt_len, addAt_len]; omega) (fun j hj => by
        rw [h2 j hj, upto_succ, if_neg (c := j + 1 = 0) (by omega), Int.add_zero, show one 0 * r 0 = r 0 from Int.one_mul _]
        congr 1; omega)
      refine ⟨N', g1, g2, fun k => ?_⟩
      rw [← g3 k, show k + (d + 1) + 1 = (k + d + 1) + 1 from rfl, spec_kiMoments.l1.eq_2, if_pos (by omega), if_pos (by omega), if_pos (by omega), if_pos (by omega), if_pos (by omega), Option.bind_some, wnext' 0 (by omega), if_pos (by omega), if_pos (by omega), Option.bind_some,
        if_neg (by omega), hr 0 (by omega), ← hF]
      simp only [Int.toNat_natCast]
      rw [eU]
      rfl
theorem km_next (a b : List Int) (K : Nat) (ha : a.length = K) (hb : b.length = K) (hK0 : 1 ≤ K) (m j : Nat) (hj : j < K + 1) :
    wrap64 (upto one (fw a) (dw b) (row one (fw a) (dw b) m) K j + if j = K - 1 then dw b K * row one (fw a) (dw b) m K else 0) = row one (fw a) (dw b) (m + 1) j := by
  rw [row]
  unfold upto
  congr 1
  have hU : (if 1 ≤ j ∧ j ≤ K then one (j - 1) * row one (fw a) (dw b) m (j - 1) else 0) = (if 1 ≤ j then one (j - 1) * row one (fw a) (dw b) m (j - 1) else 0) := ite_iff (by omega) _ _
  rw [hU]
  by_cases e : j = K
  · subst e
    rw [if_neg (c := j < j) (by omega), if_neg (c := j + 1 < j) (by omega), if_neg (c := j = j - 1) (by omega)]
    have hF : fw a j = 0 := by unfold fw; rw [if_neg (by omega)]
    have hD : dw b (j + 1) = 0 := by unfold dw; rw [if_neg (by omega)]
    rw [hF, hD, Int.zero_mul, Int.zero_mul]; omega
  · rw [if_pos (c := j < K) (by omega)]
    by_cases f : j = K - 1
    · rw [if_neg (c := j + 1 < K) (by omega), if_pos f, show K = j + 1 by omega]; omega
    · rw [if_pos (c := j + 1 < K) (by omega), if_neg f]; omega
theorem km_rows (a b : List Int) (K : Nat) (ha : a.length = K) (hb : b.length = K) (hK0 : 1 ≤ K) (hK : K ≤ 6) (n : Nat) (hn : n ≤ 1000) :
    ∀ (d m : Nat) (now : List Int), m + 1 + d = n → now.length = K + 1 → (∀ j : Nat, j < K + 1 → rd now (j : Int) = row one (fw a) (dw b) m j) →
      ∀ k, (d + 1) * 10 ≤ k → spec_kiMoments.l0 k (n : Int) (K : Int) now ((List.range (m + 1)).map fun i => row one (fw a) (dw b) i 0) a b = some ((List.range n).map fun i => row one (fw a) (dw b) i 0) := by
  intro d
  induction d with
  | zero =>
    intro m now hd hl hr k hk
    obtain ⟨k, rfl⟩ : ∃ i, k = i + 1 := ⟨k - 1, by omega⟩
    rw [spec_kiMoments.l0.eq_2, if_neg (by simp; omega), show m + 1 = n by omega]
  | succ d ih =>
    intro m now hd hl hr k hk
    obtain ⟨k, rfl⟩ : ∃ i, k = (i + K + 1) + 1 := ⟨k - K - 2, by omega⟩
    obtain ⟨N', h1, h2, h3⟩ := km_round a b K ha hb hK (row one (fw a) (dw b) m) (n : Int) now ((List.range (m + 1)).map fun i => row one (fw a) (dw b) i 0) hl hr K 0 (List.replicate (K + 1) 0) (by omega) (by simp)
      (fun j hj => by rw [rd_replicate, upto_zero]; exact (w64 (by omega) (by omega)).symm)
    have h4 := rd_addAt h2 (K - 1) (by omega) (dw b K * row one (fw a) (dw b) m K)
    have hD : dw b K = rd b ((K - 1 : Nat) : Int) := by unfold dw; rw [if_pos (by omega)]
    rw [spec_kiMoments.l0.eq_2, if_pos (by first | (simp; done) | (simp; omega)), wnext' K (by omega), if_pos (by omega), Int.toNat_natCast, if_pos (by omega)]
    refine (h3 k).trans ?_
    rw [spec_kiMoments.l1.eq_2, if_neg (by omega), wprev' K hK0 (by omega), if_pos (by omega), if_pos (by omega), if_pos (by omega), if_pos (by omega), if_pos (by omega), Option.bind_some, if_pos (by omega), if_pos (by first | (simp; done) | (simp; omega)), hr K (by omega), ← hD]
    simp only [Int.toNat_natCast]
    have e0 := h4 0 (by rw [addAt_len]; omega)
    rw [km_next a b K ha hb hK0 m 0 (by omega)] at e0
    have := ih (m + 1) (addAt N' (K - 1) (dw b K * row one (fw a) (dw b) m K)) (by omega) (by rw [addAt_len]; omega) (fun j hj => by
      rw [h4 j (by rw [addAt_len]; omega), km_next a b K ha hb hK0 m j hj]) k (by omega)
    rw [← this]
    congr 1
    rw [List.range_succ (n := m + 1), List.map_append]
    congr 1
    show [rd (addAt N' (K - 1) (dw b K * row one (fw a) (dw b) m K)) ((0 : Nat) : Int)] = _
    rw [e0]; rfl
theorem km_is (a b : List Int) (K : Nat) (ha : a.length = K) (hb : b.length = K) (hK0 : 1 ≤ K) (hK : K ≤ 6) (n : Nat) (hn0 : 1 ≤ n) (hn : n ≤ 8) (k : Nat) (hk : 100 ≤ k) :
    spec_kiMoments.f k a b (n : Int) = some ((List.range n).map fun i => row one (fw a) (dw b) i 0) := by
  unfold spec_kiMoments.f
  rw [ha, wnext' K (by omega), if_pos (by omega), Int.toNat_natCast, if_pos (by omega), Option.bind_some, if_pos (by first | (simp; done) | (simp; omega))]
  refine km_rows a b K ha hb hK0 hK n (by omega) (n - 1) 0 _ (by omega) (by simp) (fun j hj => ?_) k (by omega)
  cases j with
  | zero => exact rd_set_self (i := 0) (by simp)
  | succ j =>
    refine (rd_set_other (i := 0) (j := j + 1) (by omega)).trans ?_
    rw [rd_replicate]; rfl
theorem moment_is (a b : List Int) (n : Nat) (hn : n ≤ 8) (k : Nat) (hk : 200 ≤ k) : impl_Levels_moment.f k a b (n : Int) = some (row one (fw a) (dw b) n 0) := by
  unfold impl_Levels_moment.f
  have hk' : (n + 1) * (n + 4) ≤ k := Nat.le_trans (Nat.mul_le_mul (show n + 1 ≤ 9 by omega) (show n + 4 ≤ 12 by omega)) (by omega)
  refine sum_is (wmom a b) one (fw a) (dw b) n (by omega) (fun h _ => by unfold wmom; rw [if_pos rfl]) (fun h hh => ?_) (fun h h1 hh => ?_) k hk'
  · unfold wmom fw
    rw [if_neg (by omega), if_pos rfl]
    by_cases c : h < a.length
    · rw [if_pos (by omega), if_pos (by omega), if_pos c]
    · rw [if_neg (by omega), if_neg c]
  · unfold wmom dw
    rw [if_neg (by omega), if_neg (by omega), if_pos rfl, wprev' h h1 (by omega)]
    by_cases c : h - 1 < b.length
    · rw [if_pos (by omega), if_pos (by omega), if_pos c]
    · rw [if_neg (by omega), if_neg c]

/-- The numbers from m on. -/
def seqI (m n : Nat) : List Int := (List.range n).map fun i => ((m + i : Nat) : Int)
theorem seqI_len (m n : Nat) : (seqI m n).length = n := by simp [seqI]
theorem rd_seqI {m n i : Nat} (h : i < n) : rd (seqI m n) (i : Int) = ((m + i : Nat) : Int) := by
  unfold rd seqI
  rw [Int.toNat_natCast, List.getD_eq_getElem?_getD, List.getElem?_map, List.getElem?_range h]; rfl
theorem markI_from (m : Nat) (hm : m ≤ 1000000000) (n : Nat) (hn : n ≤ 1048576) : ∀ (d i k : Nat) (M : List Int), i + d = n → M.length = n → M.take i = (seqI m n).take i → d < k → laws_markIntS.l0 k M ((m + i : Nat) : Int) (i : Int) = some (((m + n : Nat) : Int), seqI m n) := by
  intro d
  induction d with
  | zero =>
    intro i k M hd hM ht hk
    obtain ⟨k, rfl⟩ : ∃ m, k = m + 1 := ⟨k - 1, by omega⟩
    rw [laws_markIntS.l0.eq_2, if_neg (by omega)]
    rw [List.take_of_length_le (by omega), List.take_of_length_le (by rw [seqI_len]; omega)] at ht
    rw [ht, show i = n by omega]
  | succ d ih =>
    intro i k M hd hM ht hk
    obtain ⟨k, rfl⟩ : ∃ m, k = m + 1 := ⟨k - 1, by omega⟩
    rw [laws_markIntS.l0.eq_2, if_pos (by omega), if_pos (by omega), wN (m + i) (by omega), wN i (by omega), Int.toNat_natCast, show m + i + 1 = m + (i + 1) by omega]
    refine ih (i + 1) k _ (by omega) (by rw [List.length_set]; omega) ?_ (by omega)
    rw [List.take_succ_eq_append_getElem (by rw [List.length_set]; omega), List.take_succ_eq_append_getElem (by rw [seqI_len]; omega), List.take_set_of_le (Nat.le_refl i), ht, List.getElem_set_self]
    congr 2
    simp [seqI]
theorem markI_run (L : List Int) (hL : L.length ≤ 1048576) {k : Nat} (hk : L.length < k) : laws_markIntS.f k L 1 = some (((1 + L.length : Nat) : Int), seqI 1 L.length) := by
  unfold laws_markIntS.f
  exact markI_from 1 (by omega) L.length hL L.length 0 k L (by omega) rfl (by simp) hk
theorem markI_at (L : List Int) (hL : L.length ≤ 1048576) (m : Nat) (hm : m ≤ 1000000000) {k : Nat} (hk : L.length < k) : laws_markIntS.f k L (m : Int) = some (((m + L.length : Nat) : Int), seqI m L.length) := by
  unfold laws_markIntS.f
  exact markI_from m hm L.length hL L.length 0 k L (by omega) rfl (by simp) hk
theorem heldI_from (m : Nat) (hm : m ≤ 1000000000) (n : Nat) (hn : n ≤ 1048576) : ∀ (d i k : Nat), i + d = n → d < k → laws_heldIntS.l0 k (seqI m n) ((m + i : Nat) : Int) (i : Int) = some ((m + n : Nat) : Int) := by
  intro d
  induction d with
  | zero =>
    intro i k hd hk
    obtain ⟨k, rfl⟩ : ∃ m, k = m + 1 := ⟨k - 1, by omega⟩
    rw [laws_heldIntS.l0.eq_2, if_neg (by rw [seqI_len]; omega), show i = n by omega]
  | succ d ih =>
    intro i k hd hk
    obtain ⟨k, rfl⟩ : ∃ m, k = m + 1 := ⟨k - 1, by omega⟩
    rw [laws_heldIntS.l0.eq_2, if_pos (by rw [seqI_len]; omega), if_pos (by omega), rd_seqI (by omega), if_pos rfl, wN (m + i) (by omega), wN i (by omega), show m + i + 1 = m + (i + 1) by omega]
    exact ih (i + 1) k (by omega) (by omega)
theorem heldI_run (n : Nat) (hn : n ≤ 1048576) {k : Nat} (hk : n < k) : laws_heldIntS.f k (seqI 1 n) 1 = some ((1 + n : Nat) : Int) := by
  unfold laws_heldIntS.f
  exact heldI_from 1 (by omega) n hn n 0 k (by omega) hk

theorem markL_run (a b : List Int) (ha : a.length ≤ 1048576) (hb : b.length ≤ 1048576) {k : Nat} (hk : 1048576 < k) : laws_markLevels.f k a b 1 = some (((1 + a.length + b.length : Nat) : Int), seqI 1 a.length, seqI (1 + a.length) b.length) := by
  unfold laws_markLevels.f
  rw [markI_run a ha (by omega), Option.bind_some, markI_at b hb (1 + a.length) (by omega) (by omega), Option.bind_some]

theorem im_rows (a b : List Int) (n : Nat) (hn : n ≤ 8) : ∀ (d i k : Nat), i + d = n → d + 300 ≤ k →
    impl_MomentsOf.l0 k ((List.range i).map fun i => row one (fw a) (dw b) i 0) (n : Int) (i : Int) a b = some ((List.range n).map fun i => row one (fw a) (dw b) i 0, true) := by
  intro d
  induction d with
  | zero =>
    intro i k hd hk
    obtain ⟨k, rfl⟩ : ∃ i, k = i + 1 := ⟨k - 1, by omega⟩
    rw [impl_MomentsOf.l0.eq_2, if_neg (by omega), show i = n by omega]
  | succ d ih =>
    intro i k hd hk
    obtain ⟨k, rfl⟩ : ∃ i, k = i + 1 := ⟨k - 1, by omega⟩
    rw [impl_MomentsOf.l0.eq_2, if_pos (by omega), moment_is a b i (by omega) k (by omega), Option.bind_some, if_pos (by simp; omega), wN i (by omega)]
    have := ih (i + 1) k (by omega) (by omega)
    rw [List.range_succ, List.map_append] at this
    exact this
theorem both_same (a b : List Int) (n : Int) (wn : -9223372036854775808 ≤ n ∧ n ≤ 9223372036854775807) : ∃ (R : List Int) (t : Bool), R.length ≤ 8 ∧ (∀ k, 400 ≤ k → spec_MomentsOf.f k a b n = some (R, t)) ∧ (∀ k, 400 ≤ k → impl_MomentsOf.f k a b n = some (R, t)) := by
  unfold spec_MomentsOf.f impl_MomentsOf.f
  by_cases hl : levB a b = true
  · have hl' := hl
    unfold levB at hl'
    rw [Bool.and_eq_true, Bool.and_eq_true] at hl'
    have h1 := of_decide_eq_true hl'.1
    have h2 := of_decide_eq_true hl'.2.1
    have hw : wrap64 (2 * (a.length : Int)) = 2 * (a.length : Int) := w64 (by omega) (by omega)
    by_cases hn : 1 ≤ n ∧ n ≤ 8 ∧ n ≤ 2 * (a.length : Int)
    · obtain ⟨m, rfl⟩ : ∃ m : Nat, n = m := ⟨n.toNat, by omega⟩
      refine ⟨(List.range m).map fun i => row one (fw a) (dw b) i 0, true, by simp; omega, fun k hk => ?_, fun k hk => ?_⟩
      · rw [spec_lev a b (by omega), Option.bind_some, if_pos hl, l1In_eq, Option.bind_some, if_pos (decide_eq_true (by omega)), hw, if_neg (by omega), km_is a b a.length rfl h2 (by omega) (by omega) m (by omega) (by omega) k (by omega), Option.bind_some]
      · obtain ⟨k, rfl⟩ : ∃ i, k = i + 1 := ⟨k - 1, by omega⟩
        rw [impl_lev, Option.bind_some, if_pos hl, in_eq, Option.bind_some, hw, decide_eq_true (by unfold mn; omega), impl_MomentsOf.j0.eq_2, if_neg (by decide)]
        exact im_rows a b m (by omega) m 0 k (by omega) (by omega)
    · refine ⟨[], false, by simp, fun k hk => ?_, fun k hk => ?_⟩
      · rw [spec_lev a b (by omega), Option.bind_some, if_pos hl, l1In_eq, Option.bind_some, hw]
        by_cases h8 : 1 ≤ n ∧ n ≤ 8
        · rw [if_pos (decide_eq_true h8), if_pos (by omega)]
        · rw [if_neg (by rw [decide_eq_false h8]; decide)]
      · obtain ⟨k, rfl⟩ : ∃ i, k = i + 1 := ⟨k - 1, by omega⟩
        rw [impl_lev, Option.bind_some, if_pos hl, in_eq, Option.bind_some, hw, decide_eq_false (by unfold mn; omega), impl_MomentsOf.j0.eq_2, if_pos (show (!false) = true from rfl)]
  · refine ⟨[], false, by simp, fun k hk => ?_, fun k hk => ?_⟩
    · rw [spec_lev a b (by omega), Option.bind_some, if_neg hl]
    · obtain ⟨k, rfl⟩ : ∃ i, k = i + 1 := ⟨k - 1, by omega⟩
      rw [impl_lev, Option.bind_some, if_neg hl, impl_MomentsOf.j0.eq_2, if_pos rfl]
theorem FnExactMomentsOf : ∀ (l0_0 : List Int) (l0_1 : List Int) (a1 : Int), (l0_0.length ≤ 9223372036854775807 ∧ ∀ n ∈ l0_0, (Lit.int .i64 n).wf = true) → (l0_1.length ≤ 9223372036854775807 ∧ ∀ n ∈ l0_1, (Lit.int .i64 n).wf = true) → (Lit.int .i64 a1).wf = true → ∃ k, laws_FnExactMomentsOf.f k l0_0 l0_1 a1 = some true := by
  intro a b n ⟨ha, _⟩ ⟨hb, _⟩ wn
  obtain ⟨K, hK⟩ : ∃ K : Nat, 1048600 < K := ⟨1048601, by omega⟩
  refine ⟨K + 3, ?_⟩
  unfold laws_FnExactMomentsOf.f
  obtain ⟨z, hz, hz'⟩ := sz_run a b ha hb
  rw [hz, Option.bind_some]
  by_cases h : z < 0
  · rw [if_pos h]
  obtain ⟨h1, h2⟩ := hz'.resolve_left h
  obtain ⟨R, t, hR, s1, s2⟩ := both_same a b n (wf_bd wn)
  have tL : ∀ k, K ≤ k → laws_toLevels.f k a b = some (a, b) := fun k hk => toL_run a b h1 h2 (by omega)
  have eR : ∀ k, K ≤ k → laws_eqIntS.f k R R = some true := fun k hk => eqI_run R (by omega) (by omega)
  rw [if_neg h, tL _ (by omega), Option.bind_some, s1 _ (by omega), Option.bind_some, Option.bind_some, s2 _ (by omega), Option.bind_some, eR _ (by omega), Option.bind_some, if_pos rfl]
  rw [show K + 3 = (K + 2) + 1 from rfl, laws_FnExactMomentsOf.j0.eq_2, if_neg (by simp), tL _ (by omega), Option.bind_some, eqL_run a b h1 h2 (by omega), Option.bind_some, if_pos rfl, markL_run a b h1 h2 (by omega), Option.bind_some, if_neg (by omega), eR _ (by omega), Option.bind_some, if_pos rfl]
  rw [show K + 2 = (K + 1) + 1 from rfl, laws_FnExactMomentsOf.j1.eq_2, if_neg (by simp), markI_run R (by omega) (by omega), Option.bind_some, heldI_run R.length (by omega) (by omega), Option.bind_some, if_neg (by omega), if_pos rfl, tL _ (by omega), Option.bind_some, s2 _ (by omega), Option.bind_some, eR _ (by omega), Option.bind_some, if_pos rfl]
  rw [laws_FnExactMomentsOf.j2.eq_2, if_neg (by simp), heldI_run R.length (by omega) (by omega), Option.bind_some, if_neg (by omega), if_pos rfl]
end Go.Proofs.Ytpccmlaaebaobaa.Pure
