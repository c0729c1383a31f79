/- Levels out of moments: the reference looks for each weight, the program divides for it; both come to one weight, since the newest weight stands in the moment once, times the product of those of the steps down before it. No condition. -/
import Derived.Test.YtgoiohlmifgncaaOFnExactLevelsOfx8
namespace Go.Proofs.Ytgoiohlmifgncaa.Pure
open Go.RowKit Go.Proofs.Ytgoiohlmifgncaa.Stub Go.Proofs.Ytgoiohlmifgncaa.Gen Go.Proofs.Ytgoiohlmifgncaa.OFnExactLevelsOf Go.Proofs.YtgoiohlmifgncaaW.PrintWords Go.Proofs.YtgoiohlmifgncaaW.PrintLast
set_option linter.unusedVariables false
set_option linter.unusedSimpArgs false
theorem w64 {n : Int} (h0 : -9223372036854775808 ≤ n) (h1 : n ≤ 9223372036854775807) : wrap64 n = n := by unfold wrap64; omega
theorem wf_bd {n : Int} (h : (Lit.int .i64 n).wf = true) : -9223372036854775808 ≤ n ∧ n ≤ 9223372036854775807 := by
  unfold Lit.wf at h
  rw [Bool.and_eq_true] at h
  exact ⟨of_decide_eq_true h.1, of_decide_eq_true h.2⟩
theorem wN (n : Nat) (h : n ≤ 1000000000000) : wrap64 ((n : Int) + 1) = ((n + 1 : Nat) : Int) := by rw [w64 (by omega) (by omega)]; omega

theorem in_eq (a b c : Int) : impl_in.f a b c = some (decide (b ≤ a ∧ a ≤ c)) := by
  unfold impl_in.f
  by_cases h1 : b ≤ a <;> by_cases h2 : a ≤ c <;> simp [h1, h2]
theorem l1In_eq (a b c : Int) : spec_l1In.f a b c = some (decide (b ≤ a ∧ a ≤ c)) := by
  unfold spec_l1In.f
  by_cases h1 : b ≤ a <;> by_cases h2 : a ≤ c <;> simp [h1, h2]

/-- Whether all numbers are in a range. -/
def allIn (lo hi : Int) (L : List Int) : Bool := L.all fun x => decide (lo ≤ x ∧ x ≤ hi)
theorem allIn_drop (lo hi : Int) (L : List Int) (i : Nat) (h : i < L.length) : allIn lo hi (L.drop i) = (decide (lo ≤ rd L (i : Int) ∧ rd L (i : Int) ≤ hi) && allIn lo hi (L.drop (i + 1))) := by
  unfold allIn
  rw [List.drop_eq_getElem_cons h, List.all_cons]
  have : rd L (i : Int) = L[i] := by
    unfold rd
    rw [Int.toNat_natCast, List.getD_eq_getElem?_getD, List.getElem?_eq_getElem h]; rfl
  rw [this]
theorem all_from (lo hi : Int) (L : List Int) (hL : L.length ≤ 1048576) : ∀ (d i k : Nat), i + d = L.length → d < k → spec_l1All.l0 k lo hi L (L.length : Int) (i : Int) = some (allIn lo hi (L.drop i)) := by
  intro d
  induction d with
  | zero =>
    intro i k hd hk
    obtain ⟨k, rfl⟩ : ∃ m, k = m + 1 := ⟨k - 1, by omega⟩
    rw [spec_l1All.l0.eq_2, if_neg (by omega), List.drop_of_length_le (by omega)]; rfl
  | succ d ih =>
    intro i k hd hk
    obtain ⟨k, rfl⟩ : ∃ m, k = m + 1 := ⟨k - 1, by omega⟩
    rw [spec_l1All.l0.eq_2, if_pos (by omega), if_pos (by omega), if_pos (by omega), l1In_eq, Option.bind_some, allIn_drop lo hi L i (by omega)]
    by_cases h : lo ≤ rd L (i : Int) ∧ rd L (i : Int) ≤ hi
    · rw [if_pos (by simpa using h), decide_eq_true h, Bool.true_and, wN i (by omega)]
      exact ih (i + 1) k (by omega) (by omega)
    · rw [if_neg (by simpa using h), decide_eq_false h, Bool.false_and]
theorem all_run (lo hi : Int) (L : List Int) (hL : L.length ≤ 1048576) {k : Nat} (hk : L.length < k) : spec_l1All.f k L lo hi = some (allIn lo hi L) := by
  unfold spec_l1All.f
  exact all_from lo hi L hL L.length 0 k (by omega) hk
theorem any_out (lo hi : Int) (L : List Int) : (L.any fun x => outB lo hi x) = !allIn lo hi L := by
  unfold allIn
  rw [List.not_all_eq_any_not]
  congr 1; funext x
  unfold outB
  congr 1
  rw [Bool.decide_and]

/-- Whether numbers are moments. -/
def momB (L : List Int) : Bool := decide (1 ≤ L.length ∧ L.length ≤ 8) && allIn (-1000000000) 1000000000 L
theorem spec_good (L : List Int) {k : Nat} (hk : 9 ≤ k) : spec_kiGood.f k L = some (momB L) := by
  unfold spec_kiGood.f momB
  rw [l1In_eq, Option.bind_some]
  by_cases h1 : 1 ≤ L.length ∧ L.length ≤ 8
  · rw [if_pos (by simpa using (by omega : (1 : Int) ≤ L.length ∧ (L.length : Int) ≤ 8)), decide_eq_true h1, Bool.true_and, all_run _ _ L (by omega) (by omega), Option.bind_some]
  · rw [if_neg (by simpa using (by omega : ¬ ((1 : Int) ≤ L.length ∧ (L.length : Int) ≤ 8))), decide_eq_false h1, Bool.false_and]
theorem impl_are (L : List Int) (m : Int) (h0 : -1000000000000 ≤ m ∧ m ≤ 1000000000000) : impl_areMoments.f L m = some (decide (1 ≤ L.length ∧ L.length ≤ 8) && allIn (-m) m L) := by
  unfold impl_areMoments.f
  rw [if_pos h0, any_out, Bool.not_not]
  congr 2
  rw [← Bool.decide_and]
  congr 1
  apply propext; omega
theorem impl_good (L : List Int) : impl_areMoments.f L 1000000000 = some (momB L) := impl_are L 1000000000 (by omega)

theorem ite_iff {p q : Prop} [Decidable p] [Decidable q] (h : p ↔ q) (a b : Int) : (if p then a else b) = if q then a else b := by
  by_cases hp : p
  · rw [if_pos hp, if_pos (h.1 hp)]
  · rw [if_neg hp, if_neg (fun hq => hp (h.2 hq))]
theorem wrap_idem (a : Int) : wrap64 (wrap64 a) = wrap64 a := by unfold wrap64; omega
theorem wrap_add_l (a b : Int) : wrap64 (wrap64 a + b) = wrap64 (a + b) := by unfold wrap64; omega
theorem wrap_add_r (a b : Int) : wrap64 (a + wrap64 b) = wrap64 (a + b) := by unfold wrap64; omega
/-- A number is added to the entry at a place. -/
def addAt (N : List Int) (i : Nat) (v : Int) : List Int := N.set i (wrap64 (rd N (i : Int) + wrap64 v))
theorem addAt_len (N : List Int) (i : Nat) (v : Int) : (addAt N i v).length = N.length := by unfold addAt; simp
theorem rd_set_self {L : List Int} {i : Nat} {v : Int} (h : i < L.length) : rd (L.set i v) (i : Int) = v := by
  unfold rd
  rw [Int.toNat_natCast, List.getD_eq_getElem?_getD, List.getElem?_set_self h]; rfl
theorem rd_set_other {L : List Int} {i j : Nat} {v : Int} (h : i ≠ j) : rd (L.set i v) (j : Int) = rd L (j : Int) := by
  unfold rd
  rw [Int.toNat_natCast, List.getD_eq_getElem?_getD, List.getD_eq_getElem?_getD, List.getElem?_set_ne h]
theorem rd_out {L : List Int} {j : Nat} (h : L.length ≤ j) : rd L (j : Int) = 0 := by
  unfold rd
  rw [Int.toNat_natCast, List.getD_eq_getElem?_getD, List.getElem?_eq_none h]; rfl
theorem rd_replicate (n j : Nat) : rd (List.replicate n (0 : Int)) (j : Int) = 0 := by
  unfold rd
  rw [Int.toNat_natCast, List.getD_eq_getElem?_getD, List.getElem?_replicate]
  split <;> rfl
theorem rd_addAt {N : List Int} {p : Nat → Int} (hN : ∀ j, j < N.length → rd N (j : Int) = wrap64 (p j)) (i : Nat) (hi : i < N.length) (v : Int) :
    ∀ j, j < (addAt N i v).length → rd (addAt N i v) (j : Int) = wrap64 (p j + if j = i then v else 0) := by
  intro j hj
  rw [addAt_len] at hj
  by_cases e : j = i
  · subst e
    rw [if_pos rfl]
    unfold addAt
    rw [rd_set_self hi, hN j hi, wrap_add_r, wrap_add_l]
  · rw [if_neg e, Int.add_zero]
    unfold addAt
    rw [rd_set_other (Ne.symm e), hN j hj]
/-- How many paths lead to each height, weighted. -/
def row (U F D : Nat → Int) : Nat → Nat → Int
  | 0, j => if j = 0 then 1 else 0
  | m + 1, j => wrap64 ((if 1 ≤ j then U (j - 1) * row U F D m (j - 1) else 0) + F j * row U F D m j + D (j + 1) * row U F D m (j + 1))
theorem row_out (U F D : Nat → Int) : ∀ m j, m < j → row U F D m j = 0
  | 0, j, h => by unfold row; rw [if_neg (by omega)]
  | m + 1, j, h => by
    unfold row
    rw [row_out U F D m (j - 1) (by omega), row_out U F D m j (by omega), row_out U F D m (j + 1) (by omega)]
    simp only [Int.mul_zero, ite_self, Int.add_zero]
    exact w64 (by omega) (by omega)
/-- What has been added up to a height. -/
def upto (U F D r : Nat → Int) (h j : Nat) : Int := (if 1 ≤ j ∧ j ≤ h then U (j - 1) * r (j - 1) else 0) + (if j < h then F j * r j else 0) + (if j + 1 < h then D (j + 1) * r (j + 1) else 0)
theorem upto_zero (U F D r : Nat → Int) (j : Nat) : upto U F D r 0 j = 0 := by
  unfold upto; rw [if_neg (by omega), if_neg (by omega), if_neg (by omega)]; rfl
theorem upto_succ (U F D r : Nat → Int) (h j : Nat) : upto U F D r (h + 1) j = upto U F D r h j + (if j = h + 1 then U h * r h else 0) + (if j = h then F h * r h else 0) + (if j + 1 = h then D h * r h else 0) := by
  unfold upto
  by_cases e1 : j = h + 1
  · subst e1
    rw [if_pos (by omega), if_neg (by omega), if_neg (by omega), if_neg (by omega), if_neg (by omega), if_neg (by omega), if_pos rfl, if_neg (by omega), if_neg (by omega), Nat.add_sub_cancel]
    omega
  · by_cases e2 : j = h
    · subst e2
      rw [if_neg (c := j = j + 1) (by omega), if_pos (c := j < j + 1) (by omega), if_neg (c := j + 1 < j + 1) (by omega), if_neg (c := j < j) (by omega), if_neg (c := j + 1 < j) (by omega), if_pos (c := j = j) rfl, if_neg (c := j + 1 = j) (by omega)]
      by_cases e : 1 ≤ j
      · rw [if_pos ⟨e, by omega⟩, if_pos ⟨e, by omega⟩]; omega
      · rw [if_neg (by omega), if_neg (by omega)]; omega
    · by_cases e3 : j + 1 = h
      · subst e3
        rw [if_neg (c := j = j + 1 + 1) e1, if_neg (c := j = j + 1) e2, if_pos (c := j + 1 = j + 1) rfl, if_pos (c := j < j + 1 + 1) (by omega), if_pos (c := j + 1 < j + 1 + 1) (by omega), if_pos (c := j < j + 1) (by omega), if_neg (c := j + 1 < j + 1) (by omega)]
        by_cases e : 1 ≤ j
        · rw [if_pos ⟨e, by omega⟩, if_pos ⟨e, by omega⟩]; omega
        · rw [if_neg (by omega), if_neg (by omega)]; omega
      · rw [if_neg e1, if_neg e2, if_neg e3]
        by_cases e : j < h
        · have e' : j + 1 < h := by omega
          rw [if_pos (c := j < h + 1) (by omega), if_pos (c := j + 1 < h + 1) (by omega), if_pos e, if_pos e']
          by_cases f : 1 ≤ j
          · rw [if_pos ⟨f, by omega⟩, if_pos ⟨f, by omega⟩]; omega
          · rw [if_neg (by omega), if_neg (by omega)]; omega
        · rw [if_neg (c := j < h + 1) (by omega), if_neg (c := j + 1 < h + 1) (by omega), if_neg (c := j < h) e, if_neg (c := j + 1 < h) (by omega), if_neg (by omega), if_neg (by omega)]; omega
theorem wnext' (h : Nat) (hh : h ≤ 100000) : wrap64 ((h : Int) + 1) = ((h + 1 : Nat) : Int) := by rw [w64 (by omega) (by omega)]; omega
theorem wprev' (h : Nat) (h1 : 1 ≤ h) (hh : h ≤ 100000) : wrap64 ((h : Int) - 1) = ((h - 1 : Nat) : Int) := by rw [w64 (by omega) (by omega)]; omega

/-- One round over all heights: from height h on. -/
theorem sum_round (wt : Int → Int → Option Int) (U F D r : Nat → Int) (m : Nat) (hm : m ≤ 1000) (hU : ∀ h, h ≤ m → wt 85 (h : Int) = some (U h)) (hF : ∀ h, h ≤ m → wt 70 (h : Int) = some (F h)) (hD : ∀ h, 1 ≤ h → h ≤ m → wt 68 (h : Int) = some (D h))
    (now : List Int) (hnow : now.length = m + 1) (hr : ∀ j : Nat, rd now (j : Int) = r j) (x10 x11 : Int) :
    ∀ (d h : Nat) (N : List Int), h + d = m + 1 → N.length = m + 2 → (∀ j, j < N.length → rd N (j : Int) = wrap64 (upto U F D r h j)) →
      ∃ N' : List Int, N'.length = m + 2 ∧ (∀ j, j < N'.length → rd N' (j : Int) = wrap64 (upto U F D r (m + 1) j)) ∧
        ∀ k : Nat, sumMixed.l1 wt (k + d + 1) N x10 x11 now ((m + 1 : Nat) : Int) (h : Int) = sumMixed.l0 wt k N' x10 (wrap64 (x11 + 1)) := by
  intro d
  induction d with
  | zero =>
    intro h N hd hN hp
    obtain rfl : h = m + 1 := by omega
    refine ⟨N, hN, hp, fun k => ?_⟩
    rw [show k + 0 + 1 = k + 1 from rfl, sumMixed.l1.eq_2, if_neg (by omega)]
  | succ d ih =>
    intro h N hd hN hp
    by_cases hz : r h = 0
    · obtain ⟨N', h1, h2, h3⟩ := ih (h + 1) N (by omega) hN (fun j hj => by rw [hp j hj, upto_succ, hz]; simp only [Int.mul_zero, ite_self, Int.add_zero])
      refine ⟨N', h1, h2, fun k => ?_⟩
      rw [← h3 k, show k + (d + 1) + 1 = (k + d + 1) + 1 from rfl, sumMixed.l1.eq_2, if_pos (by omega), if_pos (by omega), if_pos (by omega), hr h, if_pos hz, wnext' h (by omega)]
    · have h1 := rd_addAt hp (h + 1) (by omega) (r h * U h)
      have h2 := rd_addAt h1 h (by rw [addAt_len]; omega) (r h * F h)
      by_cases h0 : 1 ≤ h
      · have h3 := rd_addAt h2 (h - 1) (by rw [addAt_len, addAt_len]; omega) (r h * D h)
        obtain ⟨N', g1, g2, g3⟩ := ih (h + 1) (addAt (addAt (addAt N (h + 1) (r h * U h)) h (r h * F h)) (h - 1) (r h * D h)) (by omega) (by rw [addAt_len, addAt_len, addAt_len]; omega) (fun j hj => by
          rw [h3 j hj, upto_succ, Int.mul_comm (U h), Int.mul_comm (F h), Int.mul_comm (D h)]
          rw [show (if j = h - 1 then r h * D h else 0) = (if j + 1 = h then r h * D h else 0) from ite_iff (by omega) _ _])
        refine ⟨N', g1, g2, fun k => ?_⟩
        rw [← g3 k, show k + (d + 1) + 1 = (k + d + 1) + 1 from rfl, sumMixed.l1.eq_2, if_pos (by omega), if_pos (by omega), if_pos (by omega), hr h, if_neg hz, wnext' h (by omega), if_pos (by omega), if_pos (by omega),
          hU h (by omega), Option.bind_some, Option.bind_some, if_pos (by omega), hF h (by omega), Option.bind_some, Option.bind_some, if_pos (by omega), wprev' h h0 (by omega), if_pos (by omega), if_pos (by omega), hD h h0 (by omega), Option.bind_some]
        simp only [Int.toNat_natCast]
        rfl
      · obtain rfl : h = 0 := by omega
        obtain ⟨N', g1, g2, g3⟩ := ih 1 (addAt (addAt N 1 (r 0 * U 0)) 0 (r 0 * F 0)) (by omega) (by rw [addAt_len, addAt_len]; omega) (fun j hj => by
          rw [h2 j hj, upto_succ, Int.mul_comm (U 0), Int.mul_comm (F 0), if_neg (c := j + 1 = 0) (by omega), Int.add_zero])
        refine ⟨N', g1, g2, fun k => ?_⟩
        rw [← g3 k, show k + (d + 1) + 1 = (k + d + 1) + 1 from rfl, sumMixed.l1.eq_2, if_pos (by omega), if_pos (by omega), if_pos (by omega), hr 0, if_neg hz, wnext' 0 (by omega), if_pos (by omega), if_pos (by omega),
          hU 0 (by omega), Option.bind_some, Option.bind_some, if_pos (by omega), hF 0 (by omega), Option.bind_some, Option.bind_some, if_neg (by omega)]
        simp only [Int.toNat_natCast]
        rfl
theorem row_of_upto (U F D : Nat → Int) (m j : Nat) (hj : j < m + 2) : wrap64 (upto U F D (row U F D m) (m + 1) j) = row U F D (m + 1) j := by
  rw [row]
  unfold upto
  congr 1
  by_cases e : 1 ≤ j
  · rw [if_pos ⟨e, by omega⟩, if_pos e]
    by_cases f : j < m + 1
    · rw [if_pos f]
      by_cases g : j + 1 < m + 1
      · rw [if_pos g]
      · rw [if_neg g, row_out U F D m (j + 1) (by omega), Int.mul_zero]
    · rw [if_neg f, if_neg (by omega), row_out U F D m j (by omega), row_out U F D m (j + 1) (by omega), Int.mul_zero, Int.mul_zero]
  · rw [if_neg (by omega), if_neg e]
    by_cases f : j < m + 1
    · rw [if_pos f]
      by_cases g : j + 1 < m + 1
      · rw [if_pos g]
      · rw [if_neg g, row_out U F D m (j + 1) (by omega), Int.mul_zero]
    · rw [if_neg f, if_neg (by omega), row_out U F D m j (by omega), row_out U F D m (j + 1) (by omega), Int.mul_zero, Int.mul_zero]
theorem sum_rows (wt : Int → Int → Option Int) (U F D : Nat → Int) (n : Nat) (hn : n ≤ 1000) (hU : ∀ h, h < n → wt 85 (h : Int) = some (U h)) (hF : ∀ h, h < n → wt 70 (h : Int) = some (F h)) (hD : ∀ h, 1 ≤ h → h < n → wt 68 (h : Int) = some (D h)) :
    ∀ (d m : Nat) (now : List Int), m + d = n → now.length = m + 1 → (∀ j : Nat, rd now (j : Int) = row U F D m j) →
      ∀ k, (d + 1) * (n + 4) ≤ k → sumMixed.l0 wt k now (n : Int) (m : Int) = some (row U F D n 0) := by
  intro d
  induction d with
  | zero =>
    intro m now hd hl hr k hk
    obtain rfl : m = n := by omega
    obtain ⟨k, rfl⟩ : ∃ i, k = i + 1 := ⟨k - 1, by omega⟩
    rw [sumMixed.l0.eq_2, if_neg (by omega), if_pos (by omega)]
    exact congrArg some (hr 0)
  | succ d ih =>
    intro m now hd hl hr k hk
    have e : (d + 1 + 1) * (n + 4) = (d + 1) * (n + 4) + (n + 4) := Nat.succ_mul _ _
    obtain ⟨k, rfl⟩ : ∃ i, k = (i + (m + 1) + 1) + 1 := ⟨k - (m + 1) - 2, by omega⟩
    obtain ⟨N', h1, h2, h3⟩ := sum_round wt U F D (row U F D m) m (by omega) (fun h hh => hU h (by omega)) (fun h hh => hF h (by omega)) (fun h h0 hh => hD h h0 (by omega)) now hl hr (n : Int) (m : Int) (m + 1) 0 (List.replicate (m + 2) 0) (by omega) (by simp)
      (fun j hj => by rw [rd_replicate, upto_zero]; exact (w64 (by omega) (by omega)).symm)
    rw [sumMixed.l0.eq_2, if_pos (by omega), hl]
    have e2 : wrap64 (((m + 1 : Nat) : Int) + 1) = ((m + 2 : Nat) : Int) := wnext' (m + 1) (by omega)
    rw [e2, if_pos (by omega), Int.toNat_natCast, if_pos (by omega)]
    refine (h3 k).trans ?_
    rw [wnext' m (by omega)]
    refine ih (m + 1) N' (by omega) h1 (fun j => ?_) k (by omega)
    by_cases hj : j < m + 2
    · rw [h2 j (by omega), row_of_upto U F D m j hj]
    · rw [rd_out (by omega), row_out U F D (m + 1) j (by omega)]
theorem sum_is (wt : Int → Int → Option Int) (U F D : Nat → Int) (n : Nat) (hn : n ≤ 1000) (hU : ∀ h, h < n → wt 85 (h : Int) = some (U h)) (hF : ∀ h, h < n → wt 70 (h : Int) = some (F h)) (hD : ∀ h, 1 ≤ h → h < n → wt 68 (h : Int) = some (D h))
    (k : Nat) (hk : (n + 1) * (n + 4) ≤ k) : sumMixed.f wt k (n : Int) = some (row U F D n 0) := by
  unfold sumMixed.f
  exact sum_rows wt U F D n hn hU hF hD n 0 [1] (by omega) rfl (fun j => by
    cases j with
    | zero => rfl
    | succ j => rw [rd_out (by simp)]; rfl) k hk

/-- The weights at a height. -/
def fw (a : List Int) (h : Nat) : Int := if h < a.length then rd a (h : Int) else 0
def dw (b : List Int) (h : Nat) : Int := if h - 1 < b.length then rd b ((h - 1 : Nat) : Int) else 0
abbrev one (_ : Nat) : Int := 1
theorem row_one_wrap (a b : List Int) : ∀ m j, wrap64 (row one (fw a) (dw b) m j) = row one (fw a) (dw b) m j
  | 0, j => by
    unfold row
    by_cases h : j = 0
    · rw [if_pos h]; exact w64 (by omega) (by omega)
    · rw [if_neg h]; exact w64 (by omega) (by omega)
  | m + 1, j => by unfold row; exact wrap_idem _
theorem km_round (a b : List Int) (K : Nat) (ha : a.length = K) (hb : b.length = K) (hK : K ≤ 6) (r : Nat → Int) (n : Int) (now out : List Int) (hnow : now.length = K + 1) (hr : ∀ j : Nat, j < K + 1 → rd now (j : Int) = r j) :
    ∀ (d h : Nat) (N : List Int), h + d = K → N.length = K + 1 → (∀ j, j < N.length → rd N (j : Int) = wrap64 (upto one (fw a) (dw b) r h j)) →
      ∃ N' : List Int, N'.length = K + 1 ∧ (∀ j, j < N'.length → rd N' (j : Int) = wrap64 (upto one (fw a) (dw b) r K j)) ∧
        ∀ k : Nat, spec_kiMoments.l1 (k + d + 1) n (K : Int) now out N (h : Int) a b = spec_kiMoments.l1 (k + 1) n (K : Int) now out N' (K : Int) a b := by
  intro d
  induction d with
  | zero =>
    intro h N hd hN hp
    obtain rfl : h = K := by omega
    exact ⟨N, hN, hp, fun k => rfl⟩
  | succ d ih =>
    intro h N hd hN hp
    have hF : fw a h = rd a (h : Int) := by unfold fw; rw [if_pos (by omega)]
    have h1 := rd_addAt hp h (by omega) (fw a h * r h)
    have h2 := rd_addAt h1 (h + 1) (by rw [addAt_len]; omega) (r h)
    have eU : ∀ M : List Int, M.set (h + 1) (wrap64 (rd M ((h + 1 : Nat) : Int) + r h)) = addAt M (h + 1) (r h) := fun M => by unfold addAt; rw [wrap_add_r]
    by_cases h0 : 1 ≤ h
    · have hD : dw b h = rd b ((h - 1 : Nat) : Int) := by unfold dw; rw [if_pos (by omega)]
      have h3 := rd_addAt h2 (h - 1) (by rw [addAt_len, addAt_len]; omega) (dw b h * r h)
      obtain ⟨N', g1, g2, g3⟩ := ih (h + 1) (addAt (addAt (addAt N h (fw a h * r h)) (h + 1) (r h)) (h - 1) (dw b h * r h)) (by omega) (by rw [addAt_len, addAt_len, addAt_len]; omega) (fun j hj => by
        rw [h3 j hj, upto_succ, show (if j = h - 1 then dw b h * r h else 0) = (if j + 1 = h then dw b h * r h else 0) from ite_iff (by omega) _ _, show one h * r h = r h from Int.one_mul _]
        congr 1; omega)
      refine ⟨N', g1, g2, fun k => ?_⟩
      rw [← g3 k, show k + (d + 1) + 1 = (k + d + 1) + 1 from rfl, spec_kiMoments.l1.eq_2, if_pos (by omega), if_pos (by omega), if_pos (by omega), if_pos (by omega), if_pos (by omega), Option.bind_some, wnext' h (by omega), if_pos (by omega), if_pos (by omega), Option.bind_some,
        if_pos (by omega), wprev' h h0 (by omega), if_pos (by omega), if_pos (by omega), if_pos (by omega), hr h (by omega), ← hF, ← hD]
      simp only [Int.toNat_natCast]
      rw [eU]
      rfl
    · obtain rfl : h = 0 := by omega
      obtain ⟨N', g1, g2, g3⟩ := ih 1 (addAt (addAt N 0 (fw a 0 * r 0)) 1 (r 0)) (by omega) (by rw [addAt_len, addAt_len]; omega) (fun j hj => by
        rw [h2 j hj, upto_succ, if_neg (c := j + 1 = 0) (by omega), Int.add_zero, show one 0 * r 0 = r 0 from Int.one_mul _]
        congr 1; omega)
      refine ⟨N', g1, g2, fun k => ?_⟩
      rw [← g3 k, show k + (d + 1) + 1 = (k + d + 1) + 1 from rfl, spec_kiMoments.l1.eq_2, if_pos (by omega), if_pos (by omega), if_pos (by omega), if_pos (by omega), if_pos (by omega), Option.bind_some, wnext' 0 (by omega), if_pos (by omega), if_pos (by omega), Option.bind_some,
        if_neg (by omega), hr 0 (by omega), ← hF]
      simp only [Int.toNat_natCast]
      rw [eU]
      rfl
theorem km_next (a b : List Int) (K : Nat) (ha : a.length = K) (hb : b.length = K) (hK0 : 1 ≤ K) (m j : Nat) (hj : j < K + 1) :
    wrap64 (upto one (fw a) (dw b) (row one (fw a) (dw b) m) K j + if j = K - 1 then dw b K * row one (fw a) (dw b) m K else 0) = row one (fw a) (dw b) (m + 1) j := by
  rw [row]
  unfold upto
  congr 1
  have hU : (if 1 ≤ j ∧ j ≤ K then one (j - 1) * row one (fw a) (dw b) m (j - 1) else 0) = (if 1 ≤ j then one (j - 1) * row one (fw a) (dw b) m (j - 1) else 0) := ite_iff (by omega) _ _
  rw [hU]
  by_cases e : j = K
  · subst e
    rw [if_neg (c := j < j) (by omega), if_neg (c := j + 1 < j) (by omega), if_neg (c := j = j - 1) (by omega)]
    have hF : fw a j = 0 := by unfold fw; rw [if_neg (by omega)]
    have hD : dw b (j + 1) = 0 := by unfold dw; rw [if_neg (by omega)]
    rw [hF, hD, Int.zero_mul, Int.zero_mul]; omega
  · rw [if_pos (c := j < K) (by omega)]
    by_cases f : j = K - 1
    · rw [if_neg (c := j + 1 < K) (by omega), if_pos f, show K = j + 1 by omega]; omega
    · rw [if_pos (c := j + 1 < K) (by omega), if_neg f]; omega
theorem km_rows (a b : List Int) (K : Nat) (ha : a.length = K) (hb : b.length = K) (hK0 : 1 ≤ K) (hK : K ≤ 6) (n : Nat) (hn : n ≤ 1000) :
    ∀ (d m : Nat) (now : List Int), m + 1 + d = n → now.length = K + 1 → (∀ j : Nat, j < K + 1 → rd now (j : Int) = row one (fw a) (dw b) m j) →
      ∀ k, (d + 1) * 10 ≤ k → spec_kiMoments.l0 k (n : Int) (K : Int) now ((List.range (m + 1)).map fun i => row one (fw a) (dw b) i 0) a b = some ((List.range n).map fun i => row one (fw a) (dw b) i 0) := by
  intro d
  induction d with
  | zero =>
    intro m now hd hl hr k hk
    obtain ⟨k, rfl⟩ : ∃ i, k = i + 1 := ⟨k - 1, by omega⟩
    rw [spec_kiMoments.l0.eq_2, if_neg (by simp; omega), show m + 1 = n by omega]
  | succ d ih =>
    intro m now hd hl hr k hk
    obtain ⟨k, rfl⟩ : ∃ i, k = (i + K + 1) + 1 := ⟨k - K - 2, by omega⟩
    obtain ⟨N', h1, h2, h3⟩ := km_round a b K ha hb hK (row one (fw a) (dw b) m) (n : Int) now ((List.range (m + 1)).map fun i => row one (fw a) (dw b) i 0) hl hr K 0 (List.replicate (K + 1) 0) (by omega) (by simp)
      (fun j hj => by rw [rd_replicate, upto_zero]; exact (w64 (by omega) (by omega)).symm)
    have h4 := rd_addAt h2 (K - 1) (by omega) (dw b K * row one (fw a) (dw b) m K)
    have hD : dw b K = rd b ((K - 1 : Nat) : Int) := by unfold dw; rw [if_pos (by omega)]
    rw [spec_kiMoments.l0.eq_2, if_pos (by first | (simp; done) | (simp; omega)), wnext' K (by omega), if_pos (by omega), Int.toNat_natCast, if_pos (by omega)]
    refine (h3 k).trans ?_
    rw [spec_kiMoments.l1.eq_2, if_neg (by omega), wprev' K hK0 (by omega), if_pos (by omega), if_pos (by omega), if_pos (by omega), if_pos (by omega), if_pos (by omega), Option.bind_some, if_pos (by omega), if_pos (by first | (simp; done) | (simp; omega)), hr K (by omega), ← hD]
    simp only [Int.toNat_natCast]
    have e0 := h4 0 (by rw [addAt_len]; omega)
    rw [km_next a b K ha hb hK0 m 0 (by omega)] at e0
    have := ih (m + 1) (addAt N' (K - 1) (dw b K * row one (fw a) (dw b) m K)) (by omega) (by rw [addAt_len]; omega) (fun j hj => by
      rw [h4 j (by rw [addAt_len]; omega), km_next a b K ha hb hK0 m j hj]) k (by omega)
    rw [← this]
    congr 1
    rw [List.range_succ (n := m + 1), List.map_append]
    congr 1
    show [rd (addAt N' (K - 1) (dw b K * row one (fw a) (dw b) m K)) ((0 : Nat) : Int)] = _
    rw [e0]; rfl
theorem km_is (a b : List Int) (K : Nat) (ha : a.length = K) (hb : b.length = K) (hK0 : 1 ≤ K) (hK : K ≤ 6) (n : Nat) (hn0 : 1 ≤ n) (hn : n ≤ 8) (k : Nat) (hk : 100 ≤ k) :
    spec_kiMoments.f k a b (n : Int) = some ((List.range n).map fun i => row one (fw a) (dw b) i 0) := by
  unfold spec_kiMoments.f
  rw [ha, wnext' K (by omega), if_pos (by omega), Int.toNat_natCast, if_pos (by omega), Option.bind_some, if_pos (by first | (simp; done) | (simp; omega))]
  refine km_rows a b K ha hb hK0 hK n (by omega) (n - 1) 0 _ (by omega) (by simp) (fun j hj => ?_) k (by omega)
  cases j with
  | zero => exact rd_set_self (i := 0) (by simp)
  | succ j =>
    refine (rd_set_other (i := 0) (j := j + 1) (by omega)).trans ?_
    rw [rd_replicate]; rfl
theorem moment_is (a b : List Int) (n : Nat) (hn : n ≤ 8) (k : Nat) (hk : 200 ≤ k) : impl_Levels_moment.f k a b (n : Int) = some (row one (fw a) (dw b) n 0) := by
  unfold impl_Levels_moment.f
  have hk' : (n + 1) * (n + 4) ≤ k := Nat.le_trans (Nat.mul_le_mul (show n + 1 ≤ 9 by omega) (show n + 4 ≤ 12 by omega)) (by omega)
  refine sum_is (wmom a b) one (fw a) (dw b) n (by omega) (fun h _ => by unfold wmom; rw [if_pos rfl]) (fun h hh => ?_) (fun h h1 hh => ?_) k hk'
  · unfold wmom fw
    rw [if_neg (by omega), if_pos rfl]
    by_cases c : h < a.length
    · rw [if_pos (by omega), if_pos (by omega), if_pos c]
    · rw [if_neg (by omega), if_neg c]
  · unfold wmom dw
    rw [if_neg (by omega), if_neg (by omega), if_pos rfl, wprev' h h1 (by omega)]
    by_cases c : h - 1 < b.length
    · rw [if_pos (by omega), if_pos (by omega), if_pos c]
    · rw [if_neg (by omega), if_neg c]

/-- How many paths lead to each height, weighted, in whole numbers. -/
def rz (F D : Nat → Int) : Nat → Nat → Int
  | 0, j => if j = 0 then 1 else 0
  | m + 1, j => (if 1 ≤ j then rz F D m (j - 1) else 0) + F j * rz F D m j + D (j + 1) * rz F D m (j + 1)
theorem rz_succ (F D : Nat → Int) (m j : Nat) : rz F D (m + 1) j = (if 1 ≤ j then rz F D m (j - 1) else 0) + F j * rz F D m j + D (j + 1) * rz F D m (j + 1) := rfl
theorem rz_out (F D : Nat → Int) : ∀ m j, m < j → rz F D m j = 0
  | 0, j, h => by unfold rz; rw [if_neg (by omega)]
  | m + 1, j, h => by
    unfold rz
    rw [rz_out F D m (j - 1) (by omega), rz_out F D m j (by omega), rz_out F D m (j + 1) (by omega)]
    simp only [Int.mul_zero, ite_self, Int.add_zero]
theorem rz_top (F D : Nat → Int) : ∀ m, rz F D m m = 1
  | 0 => rfl
  | m + 1 => by
    unfold rz
    rw [if_pos (by omega), Nat.add_sub_cancel, rz_top F D m, rz_out F D m (m + 1) (by omega), rz_out F D m (m + 1 + 1) (by omega), Int.mul_zero, Int.mul_zero]; rfl
theorem mul5 {x y B : Int} (h0 : -5 ≤ x) (h1 : x ≤ 5) (h2 : -B ≤ y) (h3 : y ≤ B) : -(5 * B) ≤ x * y ∧ x * y ≤ 5 * B := by
  have : x = -5 ∨ x = -4 ∨ x = -3 ∨ x = -2 ∨ x = -1 ∨ x = 0 ∨ x = 1 ∨ x = 2 ∨ x = 3 ∨ x = 4 ∨ x = 5 := by omega
  rcases this with rfl | rfl | rfl | rfl | rfl | rfl | rfl | rfl | rfl | rfl | rfl <;> omega
theorem rz_bd (F D : Nat → Int) (hF : ∀ j, -5 ≤ F j ∧ F j ≤ 5) (hD : ∀ j, -5 ≤ D j ∧ D j ≤ 5) : ∀ m j, -((11 : Int) ^ m) ≤ rz F D m j ∧ rz F D m j ≤ (11 : Int) ^ m
  | 0, j => by unfold rz; split <;> omega
  | m + 1, j => by
    have h1 := rz_bd F D hF hD m (j - 1)
    have h2 := rz_bd F D hF hD m j
    have h3 := rz_bd F D hF hD m (j + 1)
    have h4 := mul5 (hF j).1 (hF j).2 h2.1 h2.2
    have h5 := mul5 (hD (j + 1)).1 (hD (j + 1)).2 h3.1 h3.2
    unfold rz
    rw [Int.pow_succ]
    split <;> omega
theorem pow11 : ∀ m : Nat, m ≤ 8 → (1 : Int) ≤ 11 ^ m ∧ (11 : Int) ^ m ≤ 214358881 := by decide
theorem rz_small (F D : Nat → Int) (hF : ∀ j, -5 ≤ F j ∧ F j ≤ 5) (hD : ∀ j, -5 ≤ D j ∧ D j ≤ 5) (m j : Nat) (hm : m ≤ 8) : -214358881 ≤ rz F D m j ∧ rz F D m j ≤ 214358881 := by
  have := rz_bd F D hF hD m j
  have := pow11 m hm
  omega
theorem row_rz (F D : Nat → Int) (hF : ∀ j, -5 ≤ F j ∧ F j ≤ 5) (hD : ∀ j, -5 ≤ D j ∧ D j ≤ 5) : ∀ m j, m ≤ 8 → row one F D m j = rz F D m j
  | 0, j, _ => rfl
  | m + 1, j, hm => by
    have h := rz_small F D hF hD (m + 1) j hm
    rw [row, row_rz F D hF hD m (j - 1) (by omega), row_rz F D hF hD m j (by omega), row_rz F D hF hD m (j + 1) (by omega), Int.one_mul]
    rw [rz] at h ⊢
    exact w64 (by omega) (by omega)
/-- The product of the weights from behind a height to a height. -/
def pr (D : Nat → Int) (j : Nat) : Nat → Int
  | 0 => 1
  | n + 1 => D (j + 1) * pr D (j + 1) n
theorem pr_end (D : Nat → Int) : ∀ n j, pr D j (n + 1) = pr D j n * D (j + n + 1)
  | 0, j => by unfold pr pr; rw [Int.mul_one, Int.one_mul]
  | n + 1, j => by
    rw [pr, pr_end D n (j + 1), pr, Int.mul_assoc, show j + 1 + n + 1 = j + (n + 1) + 1 by omega]
theorem pr_congr {D D' : Nat → Int} : ∀ n j, (∀ i, 1 ≤ i → i ≤ j + n → D i = D' i) → pr D j n = pr D' j n
  | 0, _, _ => rfl
  | n + 1, j, h => by unfold pr; rw [h (j + 1) (by omega) (by omega), pr_congr n (j + 1) (fun i h1 hi => h i h1 (by omega))]
theorem pr_pos {D : Nat → Int} : ∀ n j, (∀ i, 1 ≤ i → i ≤ j + n → 1 ≤ D i) → 1 ≤ pr D j n
  | 0, _, _ => by unfold pr; omega
  | n + 1, j, h => by
    unfold pr
    have h1 := h (j + 1) (by omega) (by omega)
    have h2 := pr_pos (D := D) n (j + 1) (fun i hi hj => h i hi (by omega))
    have := Int.mul_le_mul h1 h2 (by omega) (by omega)
    omega
theorem pr_le {D : Nat → Int} : ∀ n j, (∀ i, 1 ≤ i → i ≤ j + n → 1 ≤ D i ∧ D i ≤ 5) → pr D j n ≤ 5 ^ n
  | 0, _, _ => by unfold pr; omega
  | n + 1, j, h => by
    unfold pr
    have h1 := h (j + 1) (by omega) (by omega)
    have h2 := pr_le (D := D) n (j + 1) (fun i hi hj => h i hi (by omega))
    have h3 := pr_pos (D := D) n (j + 1) (fun i hi hj => (h i hi (by omega)).1)
    have := Int.mul_le_mul h1.2 h2 (by omega) (by omega)
    rw [Int.pow_succ, Int.mul_comm]
    rw [Int.mul_comm] at this
    omega
/-- The moment of 2 h knows no flat weight from h on. -/
theorem rz_flat_same {F F' D D' : Nat → Int} {h : Nat} (eF : ∀ j, j < h → F j = F' j) (eD : ∀ j, 1 ≤ j → j ≤ h → D j = D' j) : ∀ m j, m + j < 2 * h + 1 → rz F D m j = rz F' D' m j
  | 0, _, _ => rfl
  | m + 1, j, hm => by
    have h1 : (if 1 ≤ j then rz F D m (j - 1) else 0) = (if 1 ≤ j then rz F' D' m (j - 1) else 0) := by rw [rz_flat_same eF eD m (j - 1) (by omega)]
    have h2 : F j * rz F D m j = F' j * rz F' D' m j := by
      by_cases c : j < h
      · rw [eF j c, rz_flat_same eF eD m j (by omega)]
      · rw [rz_out F D m j (by omega), rz_out F' D' m j (by omega), Int.mul_zero, Int.mul_zero]
    have h3 : D (j + 1) * rz F D m (j + 1) = D' (j + 1) * rz F' D' m (j + 1) := by
      by_cases c : j + 1 ≤ h
      · rw [eD (j + 1) (by omega) c, rz_flat_same eF eD m (j + 1) (by omega)]
      · rw [rz_out F D m (j + 1) (by omega), rz_out F' D' m (j + 1) (by omega), Int.mul_zero, Int.mul_zero]
    rw [rz_succ F D, rz_succ F' D', h1, h2, h3]
theorem rz_flat {F F' D D' : Nat → Int} {h : Nat} (eF : ∀ j, j < h → F j = F' j) (e0 : F' h = 0) (eD : ∀ j, 1 ≤ j → j ≤ h → D j = D' j) :
    ∀ n j m, j + n = h → m + j = 2 * h + 1 → rz F D m j = rz F' D' m j + F h * pr D j n
  | 0, j, m, hn, hm => by
    obtain rfl : j = h := by omega
    obtain ⟨m, rfl⟩ : ∃ i, m = i + 1 := ⟨m - 1, by omega⟩
    obtain rfl : m = j := by omega
    rw [rz_succ F D, rz_succ F' D', rz_top F D, rz_top F' D', rz_out F D m (m + 1) (by omega), rz_out F' D' m (m + 1) (by omega), e0, rz_flat_same (h := m) eF eD m (m - 1) (by omega)]
    unfold pr
    omega
  | n + 1, j, m, hn, hm => by
    obtain ⟨m, rfl⟩ : ∃ i, m = i + 1 := ⟨m - 1, by omega⟩
    rw [rz_succ F D, rz_succ F' D', rz_flat_same (h := h) eF eD m (j - 1) (by omega), rz_flat_same (h := h) eF eD m j (by omega), eF j (by omega), rz_flat eF e0 eD n (j + 1) m (by omega) (by omega), eD (j + 1) (by omega) (by omega), Int.mul_add]
    rw [pr, ← eD (j + 1) (by omega) (by omega), Int.mul_left_comm (F h)]
    omega
/-- The moment of 2 h + 1 knows no weight of a step down from behind h. -/
theorem rz_down_same {F F' D D' : Nat → Int} {h : Nat} (eF : ∀ j, j ≤ h → F j = F' j) (eD : ∀ j, 1 ≤ j → j ≤ h → D j = D' j) : ∀ m j, m + j < 2 * h + 2 → rz F D m j = rz F' D' m j
  | 0, _, _ => rfl
  | m + 1, j, hm => by
    have h1 : (if 1 ≤ j then rz F D m (j - 1) else 0) = (if 1 ≤ j then rz F' D' m (j - 1) else 0) := by rw [rz_down_same eF eD m (j - 1) (by omega)]
    have h2 : F j * rz F D m j = F' j * rz F' D' m j := by
      by_cases c : j ≤ h
      · rw [eF j c, rz_down_same eF eD m j (by omega)]
      · rw [rz_out F D m j (by omega), rz_out F' D' m j (by omega), Int.mul_zero, Int.mul_zero]
    have h3 : D (j + 1) * rz F D m (j + 1) = D' (j + 1) * rz F' D' m (j + 1) := by
      by_cases c : j + 1 ≤ h
      · rw [eD (j + 1) (by omega) c, rz_down_same eF eD m (j + 1) (by omega)]
      · rw [rz_out F D m (j + 1) (by omega), rz_out F' D' m (j + 1) (by omega), Int.mul_zero, Int.mul_zero]
    rw [rz_succ F D, rz_succ F' D', h1, h2, h3]
theorem rz_down {F F' D D' : Nat → Int} {h : Nat} (eF : ∀ j, j ≤ h → F j = F' j) (eD : ∀ j, 1 ≤ j → j ≤ h → D j = D' j) (e0 : D' (h + 1) = 0) :
    ∀ n j m, j + n = h → m + j = 2 * h + 2 → rz F D m j = rz F' D' m j + D (h + 1) * pr D j n
  | 0, j, m, hn, hm => by
    obtain rfl : j = h := by omega
    obtain ⟨m, rfl⟩ : ∃ i, m = i + 1 := ⟨m - 1, by omega⟩
    obtain rfl : m = j + 1 := by omega
    rw [rz_succ F D, rz_succ F' D', rz_top F D, rz_top F' D', e0, rz_down_same (h := j) eF eD (j + 1) (j - 1) (by omega), rz_down_same (h := j) eF eD (j + 1) j (by omega), eF j (by omega)]
    unfold pr
    omega
  | n + 1, j, m, hn, hm => by
    obtain ⟨m, rfl⟩ : ∃ i, m = i + 1 := ⟨m - 1, by omega⟩
    rw [rz_succ F D, rz_succ F' D', rz_down_same (h := h) eF eD m (j - 1) (by omega), rz_down_same (h := h) eF eD m j (by omega), eF j (by omega), rz_down eF eD e0 n (j + 1) m (by omega) (by omega), eD (j + 1) (by omega) (by omega), Int.mul_add]
    rw [pr, ← eD (j + 1) (by omega) (by omega), Int.mul_left_comm (D (h + 1))]
    omega

theorem toI_from (L : List Int) (hL : L.length ≤ 1048576) : ∀ (d i k : Nat) (M : List Int), i + d = L.length → M.length = L.length → M.take i = L.take i → d < k → laws_toIntS.l0 k L M (i : Int) = some L := by
  intro d
  induction d with
  | zero =>
    intro i k M hd hM ht hk
    obtain ⟨k, rfl⟩ : ∃ m, k = m + 1 := ⟨k - 1, by omega⟩
    rw [laws_toIntS.l0.eq_2, if_neg (by omega)]
    rw [List.take_of_length_le (by omega), List.take_of_length_le (by omega)] at ht
    rw [ht]
  | succ d ih =>
    intro i k M hd hM ht hk
    obtain ⟨k, rfl⟩ : ∃ m, k = m + 1 := ⟨k - 1, by omega⟩
    rw [laws_toIntS.l0.eq_2, if_pos (by omega), if_pos (by omega), if_pos (by omega), wN i (by omega), Int.toNat_natCast]
    refine ih (i + 1) k _ (by omega) (by rw [List.length_set]; omega) ?_ (by omega)
    have hi : i < L.length := by omega
    rw [List.take_succ_eq_append_getElem (by rw [List.length_set]; omega), List.take_succ_eq_append_getElem hi, List.take_set_of_le (Nat.le_refl i), ht, List.getElem_set_self]
    congr 2
    unfold rd
    rw [Int.toNat_natCast, List.getD_eq_getElem?_getD, List.getElem?_eq_getElem hi]; rfl
theorem toI_run (L : List Int) (hL : L.length ≤ 1048576) {k : Nat} (hk : L.length < k) : laws_toIntS.f k L = some L := by
  unfold laws_toIntS.f
  rw [if_pos (by omega), Int.toNat_natCast, if_pos (by omega)]
  exact toI_from L hL L.length 0 k _ (by omega) (by simp) (by simp) hk
theorem eqI_from (L : List Int) (hL : L.length ≤ 1048576) : ∀ (d i k : Nat), i + d = L.length → d < k → laws_eqIntS.l0 k L L (i : Int) = some true := by
  intro d
  induction d with
  | zero =>
    intro i k hd hk
    obtain ⟨k, rfl⟩ : ∃ m, k = m + 1 := ⟨k - 1, by omega⟩
    rw [laws_eqIntS.l0.eq_2, if_neg (by omega)]
  | succ d ih =>
    intro i k hd hk
    obtain ⟨k, rfl⟩ : ∃ m, k = m + 1 := ⟨k - 1, by omega⟩
    rw [laws_eqIntS.l0.eq_2, if_pos (by omega), if_pos (by omega), if_pos (by omega), if_pos rfl, wN i (by omega)]
    exact ih (i + 1) k (by omega) (by omega)
theorem eqI_run (L : List Int) (hL : L.length ≤ 1048576) {k : Nat} (hk : L.length < k) : laws_eqIntS.f k L L = some true := by
  unfold laws_eqIntS.f
  rw [if_pos rfl]
  exact eqI_from L hL L.length 0 k (by omega) hk

/-- The numbers from m on. -/
def seqI (m n : Nat) : List Int := (List.range n).map fun i => ((m + i : Nat) : Int)
theorem seqI_len (m n : Nat) : (seqI m n).length = n := by simp [seqI]
theorem rd_seqI {m n i : Nat} (h : i < n) : rd (seqI m n) (i : Int) = ((m + i : Nat) : Int) := by
  unfold rd seqI
  rw [Int.toNat_natCast, List.getD_eq_getElem?_getD, List.getElem?_map, List.getElem?_range h]; rfl
theorem markI_from (m : Nat) (hm : m ≤ 1000000000) (n : Nat) (hn : n ≤ 1048576) : ∀ (d i k : Nat) (M : List Int), i + d = n → M.length = n → M.take i = (seqI m n).take i → d < k → laws_markIntS.l0 k M ((m + i : Nat) : Int) (i : Int) = some (((m + n : Nat) : Int), seqI m n) := by
  intro d
  induction d with
  | zero =>
    intro i k M hd hM ht hk
    obtain ⟨k, rfl⟩ : ∃ m, k = m + 1 := ⟨k - 1, by omega⟩
    rw [laws_markIntS.l0.eq_2, if_neg (by omega)]
    rw [List.take_of_length_le (by omega), List.take_of_length_le (by rw [seqI_len]; omega)] at ht
    rw [ht, show i = n by omega]
  | succ d ih =>
    intro i k M hd hM ht hk
    obtain ⟨k, rfl⟩ : ∃ m, k = m + 1 := ⟨k - 1, by omega⟩
    rw [laws_markIntS.l0.eq_2, if_pos (by omega), if_pos (by omega), wN (m + i) (by omega), wN i (by omega), Int.toNat_natCast, show m + i + 1 = m + (i + 1) by omega]
    refine ih (i + 1) k _ (by omega) (by rw [List.length_set]; omega) ?_ (by omega)
    rw [List.take_succ_eq_append_getElem (by rw [List.length_set]; omega), List.take_succ_eq_append_getElem (by rw [seqI_len]; omega), List.take_set_of_le (Nat.le_refl i), ht, List.getElem_set_self]
    congr 2
    simp [seqI]
theorem markI_run (L : List Int) (hL : L.length ≤ 1048576) {k : Nat} (hk : L.length < k) : laws_markIntS.f k L 1 = some (((1 + L.length : Nat) : Int), seqI 1 L.length) := by
  unfold laws_markIntS.f
  exact markI_from 1 (by omega) L.length hL L.length 0 k L (by omega) rfl (by simp) hk
theorem markI_at (L : List Int) (hL : L.length ≤ 1048576) (m : Nat) (hm : m ≤ 1000000000) {k : Nat} (hk : L.length < k) : laws_markIntS.f k L (m : Int) = some (((m + L.length : Nat) : Int), seqI m L.length) := by
  unfold laws_markIntS.f
  exact markI_from m hm L.length hL L.length 0 k L (by omega) rfl (by simp) hk
theorem heldI_from (m : Nat) (hm : m ≤ 1000000000) (n : Nat) (hn : n ≤ 1048576) : ∀ (d i k : Nat), i + d = n → d < k → laws_heldIntS.l0 k (seqI m n) ((m + i : Nat) : Int) (i : Int) = some ((m + n : Nat) : Int) := by
  intro d
  induction d with
  | zero =>
    intro i k hd hk
    obtain ⟨k, rfl⟩ : ∃ m, k = m + 1 := ⟨k - 1, by omega⟩
    rw [laws_heldIntS.l0.eq_2, if_neg (by rw [seqI_len]; omega), show i = n by omega]
  | succ d ih =>
    intro i k hd hk
    obtain ⟨k, rfl⟩ : ∃ m, k = m + 1 := ⟨k - 1, by omega⟩
    rw [laws_heldIntS.l0.eq_2, if_pos (by rw [seqI_len]; omega), if_pos (by omega), rd_seqI (by omega), if_pos rfl, wN (m + i) (by omega), wN i (by omega), show m + i + 1 = m + (i + 1) by omega]
    exact ih (i + 1) k (by omega) (by omega)
theorem heldI_run (n : Nat) (hn : n ≤ 1048576) {k : Nat} (hk : n < k) : laws_heldIntS.f k (seqI 1 n) 1 = some ((1 + n : Nat) : Int) := by
  unfold laws_heldIntS.f
  exact heldI_from 1 (by omega) n hn n 0 k (by omega) hk

theorem rd_app (a : List Int) (x : Int) (j : Nat) : rd (a ++ [x]) (j : Int) = if j < a.length then rd a (j : Int) else if j = a.length then x else 0 := by
  unfold rd
  rw [Int.toNat_natCast, List.getD_eq_getElem?_getD, List.getD_eq_getElem?_getD]
  by_cases h : j < a.length
  · rw [if_pos h, List.getElem?_append_left h]
  · rw [if_neg h, List.getElem?_append_right (by omega)]
    by_cases e : j = a.length
    · rw [if_pos e, e, Nat.sub_self]; rfl
    · rw [if_neg e, List.getElem?_eq_none (by simp; omega)]; rfl
theorem rd_zeros (a : List Int) (z j : Nat) : rd (a ++ List.replicate z 0) (j : Int) = rd a (j : Int) := by
  unfold rd
  rw [Int.toNat_natCast, List.getD_eq_getElem?_getD, List.getD_eq_getElem?_getD]
  by_cases h : j < a.length
  · rw [List.getElem?_append_left h]
  · rw [List.getElem?_append_right (by omega), List.getElem?_eq_none (by omega : a.length ≤ j), List.getElem?_replicate]
    split <;> rfl
theorem fw_rd (a : List Int) (h : Nat) : fw a h = rd a (h : Int) := by
  unfold fw
  by_cases c : h < a.length
  · rw [if_pos c]
  · rw [if_neg c, rd_out (by omega)]
theorem dw_rd (b : List Int) (h : Nat) : dw b h = rd b ((h - 1 : Nat) : Int) := by
  unfold dw
  by_cases c : h - 1 < b.length
  · rw [if_pos c]
  · rw [if_neg c, rd_out (by omega)]
theorem fw_zeros (a : List Int) (z : Nat) : fw (a ++ List.replicate z 0) = fw a := by funext j; rw [fw_rd, fw_rd, rd_zeros]
theorem dw_zeros (b : List Int) (z : Nat) : dw (b ++ List.replicate z 0) = dw b := by funext j; rw [dw_rd, dw_rd, rd_zeros]
/-- The weights found so far are small. -/
def okF (a : List Int) : Prop := ∀ j : Nat, -5 ≤ rd a (j : Int) ∧ rd a (j : Int) ≤ 5
def okD (b : List Int) : Prop := ∀ j : Nat, 0 ≤ rd b (j : Int) ∧ rd b (j : Int) ≤ 5 ∧ (j < b.length → 1 ≤ rd b (j : Int))
theorem okF_app {a : List Int} {x : Int} (h : okF a) (h0 : -5 ≤ x) (h1 : x ≤ 5) : okF (a ++ [x]) := by
  intro j; rw [rd_app]; have := h j; split
  · exact this
  · split <;> omega
theorem okD_app {b : List Int} {x : Int} (h : okD b) (h0 : 1 ≤ x) (h1 : x ≤ 5) : okD (b ++ [x]) := by
  intro j; rw [rd_app]; have := h j; simp only [List.length_append, List.length_cons, List.length_nil]; split
  · rename_i c; exact ⟨this.1, this.2.1, fun _ => this.2.2 c⟩
  · split <;> refine ⟨by omega, by omega, fun _ => by omega⟩
theorem fb {a : List Int} (h : okF a) : ∀ j, -5 ≤ fw a j ∧ fw a j ≤ 5 := fun j => by rw [fw_rd]; exact h j
theorem db {b : List Int} (h : okD b) : ∀ j, -5 ≤ dw b j ∧ dw b j ≤ 5 := fun j => by rw [dw_rd]; have := h (j - 1); omega
/-- The weight that is divided for. -/
def find (d T lo hi : Int) : Option Int := if Int.tmod d T = 0 ∧ lo ≤ Int.tdiv d T ∧ Int.tdiv d T ≤ hi then some (Int.tdiv d T) else none
theorem find_of {d T lo hi x : Int} (hT : 1 ≤ T) (e : x * T = d) (h0 : lo ≤ x) (h1 : x ≤ hi) : find d T lo hi = some x := by
  have e1 : Int.tdiv d T = x := by rw [← e]; exact Int.mul_tdiv_cancel x (by omega)
  have e2 : Int.tmod d T = 0 := by rw [← e]; exact Int.mul_tmod_left x T
  unfold find
  rw [if_pos ⟨e2, by omega, by omega⟩, e1]
theorem find_some {d T lo hi x : Int} (h : find d T lo hi = some x) : x * T = d ∧ lo ≤ x ∧ x ≤ hi ∧ Int.tmod d T = 0 ∧ Int.tdiv d T = x := by
  unfold find at h
  split at h
  · rename_i c
    have e := Option.some.inj h
    have := Int.mul_tdiv_add_tmod d T
    rw [c.1, e, Int.add_zero, Int.mul_comm] at this
    exact ⟨this, by omega, by omega, c.1, e⟩
  · cases h
/-- What is wanted of the next weight of a flat step, and of a step down. -/
def dF (m : Nat → Int) (a b : List Int) : Int := m (2 * a.length + 1) - rz (fw a) (dw b) (2 * a.length + 1) 0
def dD (m : Nat → Int) (a b : List Int) : Int := m (2 * b.length + 2) - rz (fw a) (dw b) (2 * b.length + 2) 0
def pT (b : List Int) : Int := pr (dw b) 0 b.length
abbrev no : List Int × List Int × Bool := ([], [], false)
def solve (m : Nat → Int) (n : Nat) : Nat → List Int → List Int → List Int × List Int × Bool
  | 0, _, _ => no
  | f + 1, a, b => match find (dF m a b) (pT b) (-5) 5 with
    | none => no
    | some x => if 2 * a.length + 2 = n then (a ++ [x], b ++ [1], true) else match find (dD m (a ++ [x]) b) (pT b) 1 5 with
      | none => no
      | some y => solve m n f (a ++ [x]) (b ++ [y])
theorem pT_pos {b : List Int} (h : okD b) : 1 ≤ pT b := pr_pos b.length 0 fun i h1 hi => by rw [dw_rd]; exact (h (i - 1)).2.2 (by omega)
theorem pT_app (b : List Int) (y : Int) : pT (b ++ [y]) = pT b * y := by
  unfold pT
  rw [List.length_append, List.length_cons, List.length_nil, Nat.zero_add, pr_end]
  congr 1
  · exact pr_congr _ _ fun i h1 hi => by rw [dw_rd, dw_rd, rd_app, if_pos (by omega)]
  · rw [dw_rd, rd_app, if_neg (by omega), if_pos (by omega)]
theorem pT_le {b : List Int} (h : okD b) (hb : b.length ≤ 4) : pT b ≤ 625 := by
  have h1 : pT b ≤ 5 ^ b.length := pr_le b.length 0 fun i h1 hi => by rw [dw_rd]; have := h (i - 1); exact ⟨this.2.2 (by omega), this.2.1⟩
  have h2 : (5 : Int) ^ b.length ≤ 625 := by
    have : b.length = 0 ∨ b.length = 1 ∨ b.length = 2 ∨ b.length = 3 ∨ b.length = 4 := by omega
    rcases this with e | e | e | e | e <;> rw [e] <;> decide
  omega
theorem flat_moment (a b : List Int) (x v : Int) (hab : a.length = b.length) : rz (fw (a ++ [x])) (dw (b ++ [v])) (2 * a.length + 1) 0 = rz (fw a) (dw b) (2 * a.length + 1) 0 + x * pT b := by
  rw [rz_flat (h := a.length) (F' := fw a) (D' := dw b) (fun j hj => by rw [fw_rd, fw_rd, rd_app, if_pos hj]) (by rw [fw_rd, rd_out (Nat.le_refl _)]) (fun j h1 hj => by rw [dw_rd, dw_rd, rd_app, if_pos (by omega)]) a.length 0 _ (by omega) (by omega)]
  congr 1
  rw [fw_rd, rd_app, if_neg (by omega), if_pos rfl]
  congr 1
  unfold pT
  rw [hab]
  exact pr_congr _ _ fun i h1 hi => by rw [dw_rd, dw_rd, rd_app, if_pos (by omega)]
theorem rd_app2 (b : List Int) (x v : Int) (j : Nat) (hj : j ≤ b.length) : rd (b ++ [x] ++ [v]) (j : Int) = rd (b ++ [x]) (j : Int) := by
  rw [rd_app (b ++ [x]), List.length_append, List.length_cons, List.length_nil, if_pos (by omega)]
theorem down_moment (a b : List Int) (x v u : Int) (hab : a.length = b.length + 1) : rz (fw (a ++ [u])) (dw (b ++ [x] ++ [v])) (2 * b.length + 2) 0 = rz (fw a) (dw b) (2 * b.length + 2) 0 + x * pT b := by
  have hx : dw (b ++ [x] ++ [v]) (b.length + 1) = x := by rw [dw_rd, Nat.add_sub_cancel, rd_app2 _ _ _ _ (Nat.le_refl _), rd_app, if_neg (by omega), if_pos rfl]
  rw [rz_down (h := b.length) (F' := fw a) (D' := dw b) (fun j hj => by rw [fw_rd, fw_rd, rd_app, if_pos (by omega)]) (fun j h1 hj => by rw [dw_rd, dw_rd, rd_app2 _ _ _ _ (by omega), rd_app, if_pos (by omega)]) (by rw [dw_rd, Nat.add_sub_cancel, rd_out (Nat.le_refl _)]) b.length 0 _ (by omega) (by omega), hx]
  congr 2
  exact pr_congr _ _ fun i h1 hi => by rw [dw_rd, dw_rd, rd_app2 _ _ _ _ (by omega), rd_app, if_pos (by omega)]
theorem set_last (b : List Int) (v x : Int) : (b ++ [v]).set b.length x = b ++ [x] := by simp
theorem set_zero (a : List Int) (z : Nat) (x : Int) : (a ++ List.replicate (z + 1) 0).set a.length x = (a ++ [x]) ++ List.replicate z 0 := by
  rw [List.set_append_right _ _ (Nat.le_refl _), Nat.sub_self, List.replicate_succ, List.set_cons_zero, List.append_assoc]; rfl
abbrev mo (M : List Int) (i : Nat) : Int := rd M (i : Int)
theorem ki_rd (a b : List Int) (K : Nat) (ha : a.length = K) (hb : b.length = K) (h1 : 1 ≤ K) (hK : K ≤ 6) (oa : okF a) (ob : okD b) (n i : Nat) (hn : n ≤ 8) (hi : i < n) (k : Nat) (hk : 100 ≤ k) :
    ∃ L : List Int, spec_kiMoments.f k a b (n : Int) = some L ∧ L.length = n ∧ rd L (i : Int) = rz (fw a) (dw b) i 0 := by
  refine ⟨_, km_is a b K ha hb h1 hK n (by omega) hn k hk, by simp, ?_⟩
  unfold rd
  rw [Int.toNat_natCast, List.getD_eq_getElem?_getD, List.getElem?_map, List.getElem?_range hi]
  show row one (fw a) (dw b) i 0 = _
  exact row_rz _ _ (fb oa) (db ob) i 0 (by omega)
theorem own_eq (l : List Int) (h : l.length ≤ 1000) : spec_l1Own.f l = some l := by
  unfold spec_l1Own.f
  rw [Option.bind_some, if_pos (by simp; omega)]; rfl
theorem spec_l2 (M a b : List Int) (R : List Int × List Int × Bool) (C : Nat) (hlen : a.length = b.length + 1) (hb4 : b.length ≤ 3) (ha : okF a) (hb : okD b) (hn : 2 * b.length + 2 < M.length) (h8 : M.length ≤ 8)
    (hsol : ∀ y, 1 ≤ y → y ≤ 5 → y * pT b = dD (mo M) a b → ∀ k, C ≤ k → spec_LevelsOf.l0 k M ((b.length + 1 : Nat) : Int) a (b ++ [y]) = some R)
    (hno : (∀ y, 1 ≤ y → y ≤ 5 → y * pT b ≠ dD (mo M) a b) → R = no) :
    ∀ (d : Nat) (x v : Int), x + (d : Int) = 6 → 1 ≤ x → (∀ y, 1 ≤ y → y < x → y * pT b ≠ dD (mo M) a b) → ∀ k, C + 300 + 2 * d ≤ k → spec_LevelsOf.l2 k M (b.length : Int) false x a (b ++ [v]) = some R := by
  intro d
  induction d with
  | zero =>
    intro x v hd h1 hx k hk
    obtain ⟨k, rfl⟩ : ∃ i, k = (i + 1) + 1 := ⟨k - 2, by omega⟩
    rw [spec_LevelsOf.l2.eq_2, if_neg (by omega), spec_LevelsOf.j5.eq_2, if_neg (by decide), if_neg (by decide), hno (fun y h1 h2 => hx y h1 (by omega))]
  | succ d ih =>
    intro x v hd h1 hx k hk
    obtain ⟨k, rfl⟩ : ∃ i, k = (i + 1) + 1 := ⟨k - 2, by omega⟩
    have e3 : wrap64 (wrap64 (2 * (b.length : Int)) + 3) = ((2 * b.length + 3 : Nat) : Int) := by rw [w64 (n := 2 * (b.length : Int)) (by omega) (by omega), w64 (by omega) (by omega)]; omega
    have e2 : wrap64 (wrap64 (2 * (b.length : Int)) + 2) = ((2 * b.length + 2 : Nat) : Int) := by rw [w64 (n := 2 * (b.length : Int)) (by omega) (by omega), w64 (by omega) (by omega)]; omega
    obtain ⟨L, hL, hl, hr⟩ := ki_rd (a ++ [0]) (b ++ [x] ++ [1]) (b.length + 2) (by simp; omega) (by simp) (by omega) (by omega) (okF_app ha (by omega) (by omega)) (okD_app (okD_app hb h1 (by omega)) (by omega) (by omega)) (2 * b.length + 3) (2 * b.length + 2) (by omega) (by omega) k (by omega)
    rw [down_moment a b x 1 0 hlen] at hr
    rw [spec_LevelsOf.l2.eq_2, if_pos (by omega), spec_LevelsOf.j5.eq_2, if_pos (c := (!false) = true) rfl, if_pos (by omega), if_pos (by simp; omega), Int.toNat_natCast, set_last, Option.bind_some, own_eq a (by omega), Option.bind_some, Option.bind_some, if_pos (by simp; omega),
      own_eq (b ++ [x]) (by simp; omega), Option.bind_some, Option.bind_some, if_pos (by simp; omega), e3, hL, Option.bind_some, e2, if_pos (by omega), if_pos (by omega), if_pos (by omega), hr, w64 (n := x + 1) (by omega) (by omega)]
    by_cases e : x * pT b = dD (mo M) a b
    · have e' : (rz (fw a) (dw b) (2 * b.length + 2) 0 + x * pT b == rd M ((2 * b.length + 2 : Nat) : Int)) = true := by
        rw [beq_iff_eq]; unfold dD mo at e; omega
      rw [e']
      have hs := hsol x h1 (by omega) e
      obtain ⟨k, rfl⟩ : ∃ i, k = (i + 1) + 1 := ⟨k - 2, by omega⟩
      have ej : ∀ z : Bool, z = false → spec_LevelsOf.j5 (k + 1) M (b.length : Int) true (x + 1) z a (b ++ [x]) = some R := by
        intro z hz
        rw [spec_LevelsOf.j5.eq_2, if_neg (by rw [hz]; decide), if_pos rfl, wnext' b.length (by omega)]
        exact hs k (by omega)
      rw [spec_LevelsOf.l2.eq_2, ej (!true) rfl, ej false rfl, ite_self]
    · have e' : (rz (fw a) (dw b) (2 * b.length + 2) 0 + x * pT b == rd M ((2 * b.length + 2 : Nat) : Int)) = false := by
        rw [beq_eq_false_iff_ne]; intro h; apply e; unfold dD mo; omega
      rw [e']
      refine ih (x + 1) x (by omega) (by omega) (fun y h2 h3 => ?_) k (by omega)
      by_cases f : y = x
      · rw [f]; exact e
      · exact hx y h2 (by omega)
theorem spec_l1 (M a b : List Int) (R : List Int × List Int × Bool) (C : Nat) (hlen : a.length = b.length) (hb4 : a.length ≤ 3) (ha : okF a) (hb : okD b) (hn : 2 * a.length + 1 < M.length) (h8 : M.length ≤ 8)
    (hsol : ∀ y, -5 ≤ y → y ≤ 5 → y * pT b = dF (mo M) a b → ∀ k, C ≤ k → spec_LevelsOf.j3 k M (a.length : Int) true (a ++ [y]) (b ++ [1]) = some R)
    (hno : (∀ y, -5 ≤ y → y ≤ 5 → y * pT b ≠ dF (mo M) a b) → R = no) :
    ∀ (d : Nat) (x v : Int), x + (d : Int) = 6 → -5 ≤ x → (∀ y, -5 ≤ y → y < x → y * pT b ≠ dF (mo M) a b) → ∀ k, C + 300 + 2 * d ≤ k → spec_LevelsOf.l1 k M (a.length : Int) false x (a ++ [v]) (b ++ [1]) = some R := by
  intro d
  induction d with
  | zero =>
    intro x v hd h1 hx k hk
    obtain ⟨k, rfl⟩ : ∃ i, k = (i + 1) + 1 := ⟨k - 2, by omega⟩
    rw [spec_LevelsOf.l1.eq_2, if_neg (by omega), spec_LevelsOf.j3.eq_2, if_neg (by decide), hno (fun y h1 h2 => hx y h1 (by omega))]
  | succ d ih =>
    intro x v hd h1 hx k hk
    obtain ⟨k, rfl⟩ : ∃ i, k = i + 1 := ⟨k - 1, by omega⟩
    have e2 : wrap64 (wrap64 (2 * (a.length : Int)) + 2) = ((2 * a.length + 2 : Nat) : Int) := by rw [w64 (n := 2 * (a.length : Int)) (by omega) (by omega), w64 (by omega) (by omega)]; omega
    have e1 : wrap64 (wrap64 (2 * (a.length : Int)) + 1) = ((2 * a.length + 1 : Nat) : Int) := by rw [w64 (n := 2 * (a.length : Int)) (by omega) (by omega), w64 (by omega) (by omega)]; omega
    obtain ⟨L, hL, hl, hr⟩ := ki_rd (a ++ [x]) (b ++ [1]) (a.length + 1) (by simp) (by simp; omega) (by omega) (by omega) (okF_app ha (by omega) (by omega)) (okD_app hb (by omega) (by omega)) (2 * a.length + 2) (2 * a.length + 1) (by omega) (by omega) k (by omega)
    rw [flat_moment a b x 1 hlen] at hr
    rw [spec_LevelsOf.l1.eq_2, if_pos (by omega), if_neg (by decide), if_pos (by omega), if_pos (by simp; omega), Int.toNat_natCast, set_last, Option.bind_some, e2, hL, Option.bind_some, e1, if_pos (by omega), if_pos (by omega), if_pos (by omega), hr, w64 (n := x + 1) (by omega) (by omega)]
    by_cases e : x * pT b = dF (mo M) a b
    · have e' : (rz (fw a) (dw b) (2 * a.length + 1) 0 + x * pT b == rd M ((2 * a.length + 1 : Nat) : Int)) = true := by
        rw [beq_iff_eq]; unfold dF mo at e; omega
      rw [e']
      have hs := hsol x h1 (by omega) e
      obtain ⟨k, rfl⟩ : ∃ i, k = i + 1 := ⟨k - 1, by omega⟩
      rw [spec_LevelsOf.l1.eq_2, if_pos (c := true = true) rfl, hs k (by omega), ite_self]
    · have e' : (rz (fw a) (dw b) (2 * a.length + 1) 0 + x * pT b == rd M ((2 * a.length + 1 : Nat) : Int)) = false := by
        rw [beq_eq_false_iff_ne]; intro h; apply e; unfold dF mo; omega
      rw [e']
      refine ih (x + 1) x (by omega) (by omega) (fun y h2 h3 => ?_) k (by omega)
      by_cases f : y = x
      · rw [f]; exact e
      · exact hx y h2 (by omega)
theorem find_none {d T lo hi : Int} (h : ∀ y, lo ≤ y → y ≤ hi → y * T ≠ d) : find d T lo hi = none := by
  cases e : find d T lo hi with
  | none => rfl
  | some x => obtain ⟨h1, h2, h3, _⟩ := find_some e; exact absurd h1 (h x h2 h3)
set_option maxRecDepth 8000 in
theorem spec_l0 (M : List Int) (h8 : M.length ≤ 8) : ∀ (f : Nat) (a b : List Int), a.length = b.length → 2 * (a.length + f) = M.length → 1 ≤ f → okF a → okD b → ∀ k, f * 1000 ≤ k → spec_LevelsOf.l0 k M (a.length : Int) a b = some (solve (mo M) M.length f a b) := by
  intro f
  induction f with
  | zero => intro a b _ _ h; omega
  | succ f ih =>
    intro a b hlen hf _ ha hb k hk
    obtain ⟨k, rfl⟩ : ∃ i, k = i + 1 := ⟨k - 1, by omega⟩
    have hT := pT_pos hb
    rw [spec_LevelsOf.l0.eq_2, if_pos (by rw [w64 (by omega) (by omega)]; omega), Option.bind_some, if_pos (by simp; omega), Option.bind_some, if_pos (by simp; omega)]
    refine spec_l1 M a b _ (f * 1000 + 400) hlen (by omega) ha hb (by omega) h8 (fun x h0 h1 e j hj => ?_) (fun hn => ?_) 11 (-5) 0 (by omega) (by omega) (fun y h0 h1 => by omega) k (by omega)
    · obtain ⟨j, rfl⟩ : ∃ i, j = i + 1 := ⟨j - 1, by omega⟩
      have hS : solve (mo M) M.length (f + 1) a b = if 2 * a.length + 2 = M.length then (a ++ [x], b ++ [1], true) else match find (dD (mo M) (a ++ [x]) b) (pT b) 1 5 with
          | none => no
          | some y => solve (mo M) M.length f (a ++ [x]) (b ++ [y]) := by
        rw [solve, find_of hT e h0 h1]
      rw [hS, spec_LevelsOf.j3.eq_2, if_pos rfl, show wrap64 (wrap64 (2 * (a.length : Int)) + 2) = ((2 * a.length + 2 : Nat) : Int) by rw [w64 (n := 2 * (a.length : Int)) (by omega) (by omega), w64 (by omega) (by omega)]; omega]
      by_cases c : 2 * a.length + 2 = M.length
      · rw [if_pos (by omega), if_pos c]
      · rw [if_neg (by omega), if_neg c, hlen]
        refine spec_l2 M (a ++ [x]) b _ (f * 1000) (by simp; omega) (by omega) (okF_app ha h0 h1) hb (by omega) h8 (fun y g0 g1 g i hi => ?_) (fun hn => (by rw [find_none hn])) 5 1 1 (by omega) (by omega) (fun y h0 h1 => by omega) j (by clear hS e; omega)
        rw [find_of hT g g0 g1]
        have := ih (a ++ [x]) (b ++ [y]) (by simp; omega) (by simp; omega) (by omega) (okF_app ha h0 h1) (okD_app hb g0 g1) i hi
        rw [show (a ++ [x]).length = b.length + 1 by simp; omega] at this
        exact this
    · rw [solve, find_none hn]
theorem moment_rz (a b : List Int) (z y : Nat) (oa : okF a) (ob : okD b) (n : Nat) (hn : n ≤ 8) (k : Nat) (hk : 200 ≤ k) : impl_Levels_moment.f k (a ++ List.replicate z 0) (b ++ List.replicate y 0) (n : Int) = some (rz (fw a) (dw b) n 0) := by
  rw [moment_is _ _ n hn k hk, fw_zeros, dw_zeros, row_rz _ _ (fb oa) (db ob) n 0 hn]
theorem tm1 (h : Nat) : Int.tmod ((2 * h + 1 : Nat) : Int) 2 = 1 := by rw [Int.tmod_eq_emod_of_nonneg (by omega)]; omega
theorem tm0 (h : Nat) : Int.tmod ((2 * h + 2 : Nat) : Int) 2 = 0 := by rw [Int.tmod_eq_emod_of_nonneg (by omega)]; omega
theorem td1 (h : Nat) : Int.tdiv ((2 * h + 1 : Nat) : Int) 2 = (h : Int) := by rw [Int.tdiv_eq_ediv_of_nonneg (by omega)]; omega
theorem td2 (h : Nat) : Int.tdiv ((2 * h + 2 : Nat) : Int) 2 = ((h + 1 : Nat) : Int) := by rw [Int.tdiv_eq_ediv_of_nonneg (by omega)]; omega
theorem td_bd {d T : Int} (hT : 1 ≤ T) (h0 : -2000000000 ≤ d) (h1 : d ≤ 2000000000) : -2000000000 ≤ Int.tdiv d T ∧ Int.tdiv d T ≤ 2000000000 := by
  have := Int.natAbs_tdiv_le_natAbs d T
  omega
set_option maxRecDepth 8000 in
theorem impl_l0 (M : List Int) (K : Nat) (hK : M.length = 2 * K) (h8 : K ≤ 4) (hM : ∀ j : Nat, -1000000000 ≤ rd M (j : Int) ∧ rd M (j : Int) ≤ 1000000000) :
    ∀ (f : Nat) (a b : List Int), a.length = b.length → 2 * (a.length + f) = M.length → 1 ≤ f → okF a → okD b → ∀ k, f * 1000 ≤ k →
      impl_LevelsOf.l0 k M (K : Int) (pT b) ((2 * a.length + 1 : Nat) : Int) (a ++ List.replicate f 0) (b ++ List.replicate f 0) = some (solve (mo M) M.length f a b) := by
  intro f
  induction f with
  | zero => intro a b _ _ h; omega
  | succ f ih =>
    intro a b hlen hf _ ha hb k hk
    obtain ⟨k, rfl⟩ : ∃ i, k = (i + 1) + 1 := ⟨k - 2, by omega⟩
    have hT := pT_pos hb
    have hT5 := pT_le hb (by omega)
    have hz := rz_small _ _ (fb ha) (db hb) (2 * a.length + 1) 0 (by omega)
    have hm := hM (2 * a.length + 1)
    have hd : wrap64 (rd M ((2 * a.length + 1 : Nat) : Int) - rz (fw a) (dw b) (2 * a.length + 1) 0) = dF (mo M) a b := by
      rw [w64 (by omega) (by omega)]; rfl
    have hd0 : -2000000000 ≤ dF (mo M) a b ∧ dF (mo M) a b ≤ 2000000000 := by
      have : dF (mo M) a b = rd M ((2 * a.length + 1 : Nat) : Int) - rz (fw a) (dw b) (2 * a.length + 1) 0 := rfl
      omega
    have hq := td_bd hT hd0.1 hd0.2
    rw [impl_LevelsOf.l0.eq_2, if_pos (by omega), if_pos (by omega), moment_rz a b _ _ ha hb _ (by omega) _ (by omega), Option.bind_some, if_neg (by omega), hd, tm1, td1, w64 (n := (a.length : Int)) (by omega) (by omega), w64 (n := Int.tdiv (dF (mo M) a b) (pT b)) (by omega) (by omega), in_eq, Option.bind_some]
    by_cases c : Int.tmod (dF (mo M) a b) (pT b) = 0
    · rw [if_pos c, if_pos rfl]
      by_cases g : -5 ≤ Int.tdiv (dF (mo M) a b) (pT b) ∧ Int.tdiv (dF (mo M) a b) (pT b) ≤ 5
      · have hs : find (dF (mo M) a b) (pT b) (-5) 5 = some (Int.tdiv (dF (mo M) a b) (pT b)) := by unfold find; rw [if_pos ⟨c, g.1, g.2⟩]
        rw [solve, hs]
        generalize Int.tdiv (dF (mo M) a b) (pT b) = x at g
        rw [if_pos (decide_eq_true g), if_pos (by omega), if_pos (by simp; omega), Int.toNat_natCast, set_zero, w64 (n := ((2 * a.length + 1 : Nat) : Int) + 1) (by omega) (by omega)]
        show impl_LevelsOf.l0 (k + 1) M (K : Int) (pT b) (((2 * a.length + 1 : Nat) : Int) + 1) _ _ = some (if 2 * a.length + 2 = M.length then (a ++ [x], b ++ [1], true) else match find (dD (mo M) (a ++ [x]) b) (pT b) 1 5 with
          | none => no
          | some y => solve (mo M) M.length f (a ++ [x]) (b ++ [y]))
        by_cases l : 2 * a.length + 2 = M.length
        · obtain rfl : f = 0 := by omega
          have hK1 : wrap64 ((K : Int) - 1) = (b.length : Int) := by rw [w64 (by omega) (by omega)]; omega
          rw [if_pos l, impl_LevelsOf.l0.eq_2, if_neg (by omega), hK1, if_pos (by omega), if_pos (by simp; omega), Int.toNat_natCast, set_zero]
          simp
        · rw [if_neg l]
          have oa := okF_app ha g.1 g.2
          have hl2 : (a ++ [x]).length = b.length + 1 := by simp; omega
          have hz := rz_small _ _ (fb oa) (db hb) (2 * b.length + 2) 0 (by omega)
          have hm := hM (2 * b.length + 2)
          have hd : wrap64 (rd M ((2 * b.length + 2 : Nat) : Int) - rz (fw (a ++ [x])) (dw b) (2 * b.length + 2) 0) = dD (mo M) (a ++ [x]) b := by
            rw [w64 (by omega) (by omega)]; rfl
          have hd0 : -2000000000 ≤ dD (mo M) (a ++ [x]) b ∧ dD (mo M) (a ++ [x]) b ≤ 2000000000 := by
            have : dD (mo M) (a ++ [x]) b = rd M ((2 * b.length + 2 : Nat) : Int) - rz (fw (a ++ [x])) (dw b) (2 * b.length + 2) 0 := rfl
            omega
          have hq := td_bd hT hd0.1 hd0.2
          have hi : wrap64 (((b.length + 1 : Nat) : Int) - 1) = (b.length : Int) := by rw [w64 (by omega) (by omega)]; omega
          rw [show ((2 * a.length + 1 : Nat) : Int) + 1 = ((2 * b.length + 2 : Nat) : Int) by omega]
          rw [impl_LevelsOf.l0.eq_2, if_pos (by omega), if_pos (by omega), moment_rz (a ++ [x]) b _ _ oa hb _ (by omega) _ (by omega), Option.bind_some, if_neg (by omega), hd, tm0, td2, w64 (n := ((b.length + 1 : Nat) : Int)) (by omega) (by omega), hi, w64 (n := Int.tdiv (dD (mo M) (a ++ [x]) b) (pT b)) (by omega) (by omega), in_eq, in_eq, Option.bind_some, Option.bind_some]
          by_cases c : Int.tmod (dD (mo M) (a ++ [x]) b) (pT b) = 0
          · rw [if_pos c, if_neg (by decide)]
            by_cases g2 : 1 ≤ Int.tdiv (dD (mo M) (a ++ [x]) b) (pT b) ∧ Int.tdiv (dD (mo M) (a ++ [x]) b) (pT b) ≤ 5
            · have hs : find (dD (mo M) (a ++ [x]) b) (pT b) 1 5 = some (Int.tdiv (dD (mo M) (a ++ [x]) b) (pT b)) := by unfold find; rw [if_pos ⟨c, g2.1, g2.2⟩]
              rw [hs]
              generalize Int.tdiv (dD (mo M) (a ++ [x]) b) (pT b) = y at g2
              have hy : pT b * y ≤ 625 * 5 ∧ 1 * 1 ≤ pT b * y := ⟨Int.mul_le_mul hT5 g2.2 (by omega) (by omega), Int.mul_le_mul hT g2.1 (by omega) (by omega)⟩
              have := ih (a ++ [x]) (b ++ [y]) (by simp; omega) (by simp; omega) (by omega) oa (okD_app hb g2.1 g2.2) k (by omega)
              rw [pT_app, hl2] at this
              rw [if_pos (decide_eq_true g2), if_pos (by omega), if_pos (by simp; omega), Int.toNat_natCast, set_zero, w64 (n := pT b * y) (by omega) (by omega), w64 (n := ((2 * b.length + 2 : Nat) : Int) + 1) (by omega) (by omega), show ((2 * b.length + 2 : Nat) : Int) + 1 = ((2 * (b.length + 1) + 1 : Nat) : Int) by omega]
              exact this
            · have hs : find (dD (mo M) (a ++ [x]) b) (pT b) 1 5 = none := by unfold find; rw [if_neg (fun h => g2 ⟨h.2.1, h.2.2⟩)]
              rw [hs, if_neg (by rw [decide_eq_false g2]; decide)]
          · have hs : find (dD (mo M) (a ++ [x]) b) (pT b) 1 5 = none := by unfold find; rw [if_neg (fun h => c h.1)]
            rw [if_neg c, hs]
      · have hs : find (dF (mo M) a b) (pT b) (-5) 5 = none := by unfold find; rw [if_neg (fun h => g ⟨h.2.1, h.2.2⟩)]
        rw [solve, hs, if_neg (by rw [decide_eq_false g]; decide)]
    · have hs : find (dF (mo M) a b) (pT b) (-5) 5 = none := by unfold find; rw [if_neg (fun h => c h.1)]
      rw [if_neg c, solve, hs]
theorem solve_len (m : Nat → Int) (n : Nat) : ∀ (f : Nat) (a b : List Int), (solve m n f a b).1.length ≤ a.length + f ∧ (solve m n f a b).2.1.length ≤ b.length + f
  | 0, a, b => ⟨Nat.zero_le _, Nat.zero_le _⟩
  | f + 1, a, b => by
    unfold solve
    split
    · exact ⟨Nat.zero_le _, Nat.zero_le _⟩
    · rename_i x _
      split
      · simp only [List.length_append, List.length_cons, List.length_nil]; omega
      · split
        · exact ⟨Nat.zero_le _, Nat.zero_le _⟩
        · rename_i y _
          have := solve_len m n f (a ++ [x]) (b ++ [y])
          simp only [List.length_append, List.length_cons, List.length_nil] at this
          omega
theorem mom_bd {M : List Int} (h : momB M = true) : (1 ≤ M.length ∧ M.length ≤ 8) ∧ ∀ j : Nat, -1000000000 ≤ rd M (j : Int) ∧ rd M (j : Int) ≤ 1000000000 := by
  unfold momB at h
  rw [Bool.and_eq_true] at h
  refine ⟨of_decide_eq_true h.1, fun j => ?_⟩
  by_cases c : j < M.length
  · have := List.all_eq_true.mp h.2 M[j] (List.getElem_mem c)
    have e : rd M (j : Int) = M[j] := by
      unfold rd
      rw [Int.toNat_natCast, List.getD_eq_getElem?_getD, List.getElem?_eq_getElem c]; rfl
    rw [e]
    exact of_decide_eq_true this
  · rw [rd_out (by omega)]; omega
theorem both (M : List Int) : ∃ (A B : List Int) (t : Bool), A.length ≤ 8 ∧ B.length ≤ 8 ∧ (∀ k, 9000 ≤ k → spec_LevelsOf.f k M = some (A, B, t)) ∧ (∀ k, 9000 ≤ k → impl_LevelsOf.f k M = some (A, B, t)) := by
  unfold spec_LevelsOf.f impl_LevelsOf.f
  by_cases hg : momB M = true
  · obtain ⟨hl, hM⟩ := mom_bd hg
    by_cases ev : M.length % 2 = 1
    · refine ⟨[], [], false, by simp, by simp, fun k hk => ?_, fun k hk => ?_⟩
      · obtain ⟨k, rfl⟩ : ∃ i, k = i + 1 := ⟨k - 1, by omega⟩
        rw [spec_good M (by omega), Option.bind_some, if_pos hg, if_pos (by omega), spec_LevelsOf.j0.eq_2, if_pos rfl]
      · obtain ⟨k, rfl⟩ : ∃ i, k = i + 1 := ⟨k - 1, by omega⟩
        rw [impl_good, Option.bind_some, if_pos hg, if_neg (by omega), impl_LevelsOf.j0.eq_2, if_pos rfl]
    · by_cases h1 : (rd M 0 != 1) = true
      · refine ⟨[], [], false, by simp, by simp, fun k hk => ?_, fun k hk => ?_⟩
        · obtain ⟨k, rfl⟩ : ∃ i, k = i + 1 := ⟨k - 1, by omega⟩
          rw [spec_good M (by omega), Option.bind_some, if_pos hg, if_neg (by omega), if_pos (by omega), spec_LevelsOf.j0.eq_2, if_pos h1]
        · obtain ⟨k, rfl⟩ : ∃ i, k = i + 1 := ⟨k - 1, by omega⟩
          rw [impl_good, Option.bind_some, if_pos hg, if_pos (by omega), if_pos (by omega), impl_LevelsOf.j0.eq_2, if_pos h1]
      · obtain ⟨K, hK⟩ : ∃ K, M.length = 2 * K := ⟨M.length / 2, by omega⟩
        have oF : okF [] := fun j => by rw [rd_out (Nat.zero_le _)]; omega
        have oD : okD [] := fun j => by rw [rd_out (Nat.zero_le _)]; exact ⟨by omega, by omega, fun h => absurd h (by simp)⟩
        have hs := solve_len (mo M) M.length K [] []
        simp only [List.length_nil] at hs
        refine ⟨(solve (mo M) M.length K [] []).1, (solve (mo M) M.length K [] []).2.1, (solve (mo M) M.length K [] []).2.2, by omega, by omega, fun k hk => ?_, fun k hk => ?_⟩
        · obtain ⟨k, rfl⟩ : ∃ i, k = i + 1 := ⟨k - 1, by omega⟩
          rw [spec_good M (by omega), Option.bind_some, if_pos hg, if_neg (by omega), if_pos (by omega), spec_LevelsOf.j0.eq_2, if_neg h1]
          exact spec_l0 M (by omega) K [] [] rfl (by simp; omega) (by omega) oF oD k (by omega)
        · obtain ⟨k, rfl⟩ : ∃ i, k = i + 1 := ⟨k - 1, by omega⟩
          have e : wrap64 ((M.length : Int) / 2) = (K : Int) := by rw [w64 (by omega) (by omega)]; omega
          rw [impl_good, Option.bind_some, if_pos hg, if_pos (by omega), if_pos (by omega), impl_LevelsOf.j0.eq_2, if_neg h1, e, if_pos (by omega), Int.toNat_natCast, if_pos (by omega)]
          exact impl_l0 M K hK (by omega) hM K [] [] rfl (by simp; omega) (by omega) oF oD k (by omega)
  · refine ⟨[], [], false, by simp, by simp, fun k hk => ?_, fun k hk => ?_⟩
    · obtain ⟨k, rfl⟩ : ∃ i, k = i + 1 := ⟨k - 1, by omega⟩
      rw [spec_good M (by omega), Option.bind_some, if_neg hg, spec_LevelsOf.j0.eq_2, if_pos rfl]
    · obtain ⟨k, rfl⟩ : ∃ i, k = i + 1 := ⟨k - 1, by omega⟩
      rw [impl_good, Option.bind_some, if_neg hg, impl_LevelsOf.j0.eq_2, if_pos rfl]
theorem eqL_run (a b : List Int) (ha : a.length ≤ 1048576) (hb : b.length ≤ 1048576) {k : Nat} (hk : 1048576 < k) : laws_eqLevels.f k a b a b = some true := by
  unfold laws_eqLevels.f
  rw [eqI_run a ha (by omega), Option.bind_some, if_pos rfl, eqI_run b hb (by omega), Option.bind_some, if_pos rfl]
theorem markL_run (a b : List Int) (ha : a.length ≤ 1048576) (hb : b.length ≤ 1048576) {k : Nat} (hk : 1048576 < k) : laws_markLevels.f k a b 1 = some (((1 + a.length + b.length : Nat) : Int), seqI 1 a.length, seqI (1 + a.length) b.length) := by
  unfold laws_markLevels.f
  rw [markI_run a ha (by omega), Option.bind_some, markI_at b hb (1 + a.length) (by omega) (by omega), Option.bind_some]
theorem heldI_at (m n : Nat) (hm : m ≤ 1000000000) (hn : n ≤ 1048576) {k : Nat} (hk : n < k) : laws_heldIntS.f k (seqI m n) (m : Int) = some ((m + n : Nat) : Int) := heldI_from m hm n hn n 0 k (by omega) hk
theorem heldL_run (n m : Nat) (hn : n ≤ 1048576) (hm : m ≤ 1048576) {k : Nat} (hk : 1048576 < k) : laws_heldLevels.f k (seqI 1 n) (seqI (1 + n) m) 1 = some ((1 + n + m : Nat) : Int) := by
  unfold laws_heldLevels.f
  rw [heldI_run n hn (by omega), Option.bind_some, if_neg (by omega), heldI_at (1 + n) m (by omega) hm (by omega), Option.bind_some, if_neg (by omega)]
theorem FnExactLevelsOf : laws_FnExactLevelsOf.Pure := by
  intro L _ _ _
  obtain ⟨K, hK⟩ : ∃ K : Nat, 1048600 < K := ⟨1048601, by omega⟩
  refine ⟨K + 3, ?_⟩
  unfold laws_FnExactLevelsOf.f
  by_cases h : (L.length : Int) > 1048576
  · rw [if_pos h]
  have hl : L.length ≤ 1048576 := by omega
  obtain ⟨A, B, t, hA, hB, s1, s2⟩ := both L
  have tL : ∀ k, K ≤ k → laws_toIntS.f k L = some L := fun k hk => toI_run L hl (by omega)
  have eL : ∀ k, K ≤ k → laws_eqLevels.f k A B A B = some true := fun k hk => eqL_run A B (by omega) (by omega) (by omega)
  have ht : (t != t) = false := by cases t <;> rfl
  rw [if_neg h, tL _ (by omega), Option.bind_some, s1 _ (by omega), Option.bind_some, Option.bind_some, s2 _ (by omega), Option.bind_some, eL _ (by omega), Option.bind_some, if_pos rfl]
  rw [show K + 3 = (K + 2) + 1 from rfl, laws_FnExactLevelsOf.j0.eq_2, ht, if_neg (by decide), tL _ (by omega), Option.bind_some, eqI_run L hl (by omega), Option.bind_some, if_pos rfl, markI_run L hl (by omega), Option.bind_some, if_neg (by omega), eL _ (by omega), Option.bind_some, if_pos rfl]
  rw [show K + 2 = (K + 1) + 1 from rfl, laws_FnExactLevelsOf.j1.eq_2, if_neg (by decide), markL_run A B (by omega) (by omega) (by omega), Option.bind_some, heldL_run A.length B.length (by omega) (by omega) (by omega), Option.bind_some, if_neg (by omega), if_pos rfl, tL _ (by omega), Option.bind_some, s2 _ (by omega), Option.bind_some, eL _ (by omega), Option.bind_some, if_pos rfl]
  rw [laws_FnExactLevelsOf.j2.eq_2, ht, if_neg (by decide), heldL_run A.length B.length (by omega) (by omega) (by omega), Option.bind_some, if_neg (by omega), if_pos rfl]
end Go.Proofs.Ytgoiohlmifgncaa.Pure
