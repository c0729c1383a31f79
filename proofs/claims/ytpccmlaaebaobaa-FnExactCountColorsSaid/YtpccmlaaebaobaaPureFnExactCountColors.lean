/- How many mixed paths with colours there are: both sides reckon the same rows, at each number of steps and of colours; of what is out of bounds both say no. No condition. -/
import Derived.Test.YtpccmlaaebaobaaOFnExactCountColorsx3
namespace Go.Proofs.Ytpccmlaaebaobaa.Pure
open Go.RowKit Go.Proofs.Ytpccmlaaebaobaa.Stub Go.Proofs.Ytpccmlaaebaobaa.Gen Go.Proofs.Ytpccmlaaebaobaa.OFnExactCountColors Go.Proofs.YtpccmlaaebaobaaW.PrintWords Go.Proofs.YtpccmlaaebaobaaW.PrintLast
set_option linter.unusedVariables false
set_option linter.unusedSimpArgs false
theorem w64 {n : Int} (h0 : -9223372036854775808 ≤ n) (h1 : n ≤ 9223372036854775807) : wrap64 n = n := by unfold wrap64; omega
theorem wf_bd {n : Int} (h : (Lit.int .i64 n).wf = true) : -9223372036854775808 ≤ n ∧ n ≤ 9223372036854775807 := by
  unfold Lit.wf at h
  rw [Bool.and_eq_true] at h
  exact ⟨of_decide_eq_true h.1, of_decide_eq_true h.2⟩

theorem in_eq (a b c : Int) : impl_in.f a b c = some (decide (b ≤ a ∧ a ≤ c)) := by
  unfold impl_in.f
  by_cases h1 : b ≤ a <;> by_cases h2 : a ≤ c <;> simp [h1, h2]
theorem l1In_eq (a b c : Int) : spec_l1In.f a b c = some (decide (b ≤ a ∧ a ≤ c)) := by
  unfold spec_l1In.f
  by_cases h1 : b ≤ a <;> by_cases h2 : a ≤ c <;> simp [h1, h2]

theorem ite_iff {p q : Prop} [Decidable p] [Decidable q] (h : p ↔ q) (a b : Int) : (if p then a else b) = if q then a else b := by
  by_cases hp : p
  · rw [if_pos hp, if_pos (h.1 hp)]
  · rw [if_neg hp, if_neg (fun hq => hp (h.2 hq))]
theorem wrap_idem (a : Int) : wrap64 (wrap64 a) = wrap64 a := by unfold wrap64; omega
theorem wrap_add_l (a b : Int) : wrap64 (wrap64 a + b) = wrap64 (a + b) := by unfold wrap64; omega
theorem wrap_add_r (a b : Int) : wrap64 (a + wrap64 b) = wrap64 (a + b) := by unfold wrap64; omega
/-- A number is added to the entry at a place. -/
def addAt (N : List Int) (i : Nat) (v : Int) : List Int := N.set i (wrap64 (rd N (i : Int) + wrap64 v))
theorem addAt_len (N : List Int) (i : Nat) (v : Int) : (addAt N i v).length = N.length := by unfold addAt; simp
theorem rd_set_self {L : List Int} {i : Nat} {v : Int} (h : i < L.length) : rd (L.set i v) (i : Int) = v := by
  unfold rd
  rw [Int.toNat_natCast, List.getD_eq_getElem?_getD, List.getElem?_set_self h]; rfl
theorem rd_set_other {L : List Int} {i j : Nat} {v : Int} (h : i ≠ j) : rd (L.set i v) (j : Int) = rd L (j : Int) := by
  unfold rd
  rw [Int.toNat_natCast, List.getD_eq_getElem?_getD, List.getD_eq_getElem?_getD, List.getElem?_set_ne h]
theorem rd_out {L : List Int} {j : Nat} (h : L.length ≤ j) : rd L (j : Int) = 0 := by
  unfold rd
  rw [Int.toNat_natCast, List.getD_eq_getElem?_getD, List.getElem?_eq_none h]; rfl
theorem rd_replicate (n j : Nat) : rd (List.replicate n (0 : Int)) (j : Int) = 0 := by
  unfold rd
  rw [Int.toNat_natCast, List.getD_eq_getElem?_getD, List.getElem?_replicate]
  split <;> rfl
theorem rd_addAt {N : List Int} {p : Nat → Int} (hN : ∀ j, j < N.length → rd N (j : Int) = wrap64 (p j)) (i : Nat) (hi : i < N.length) (v : Int) :
    ∀ j, j < (addAt N i v).length → rd (addAt N i v) (j : Int) = wrap64 (p j + if j = i then v else 0) := by
  intro j hj
  rw [addAt_len] at hj
  by_cases e : j = i
  · subst e
    rw [if_pos rfl]
    unfold addAt
    rw [rd_set_self hi, hN j hi, wrap_add_r, wrap_add_l]
  · rw [if_neg e, Int.add_zero]
    unfold addAt
    rw [rd_set_other (Ne.symm e), hN j hj]
/-- How many paths lead to each height, weighted. -/
def row (U F D : Nat → Int) : Nat → Nat → Int
  | 0, j => if j = 0 then 1 else 0
  | m + 1, j => wrap64 ((if 1 ≤ j then U (j - 1) * row U F D m (j - 1) else 0) + F j * row U F D m j + D (j + 1) * row U F D m (j + 1))
theorem row_out (U F D : Nat → Int) : ∀ m j, m < j → row U F D m j = 0
  | 0, j, h => by unfold row; rw [if_neg (by omega)]
  | m + 1, j, h => by
    unfold row
    rw [row_out U F D m (j - 1) (by omega), row_out U F D m j (by omega), row_out U F D m (j + 1) (by omega)]
    simp only [Int.mul_zero, ite_self, Int.add_zero]
    exact w64 (by omega) (by omega)
/-- What has been added up to a height. -/
def upto (U F D r : Nat → Int) (h j : Nat) : Int := (if 1 ≤ j ∧ j ≤ h then U (j - 1) * r (j - 1) else 0) + (if j < h then F j * r j else 0) + (if j + 1 < h then D (j + 1) * r (j + 1) else 0)
theorem upto_zero (U F D r : Nat → Int) (j : Nat) : upto U F D r 0 j = 0 := by
  unfold upto; rw [if_neg (by omega), if_neg (by omega), if_neg (by omega)]; rfl
theorem upto_succ (U F D r : Nat → Int) (h j : Nat) : upto U F D r (h + 1) j = upto U F D r h j + (if j = h + 1 then U h * r h else 0) + (if j = h then F h * r h else 0) + (if j + 1 = h then D h * r h else 0) := by
  unfold upto
  by_cases e1 : j = h + 1
  · subst e1
    rw [if_pos (by omega), if_neg (by omega), if_neg (by omega), if_neg (by omega), if_neg (by omega), if_neg (by omega), if_pos rfl, if_neg (by omega), if_neg (by omega), Nat.add_sub_cancel]
    omega
  · by_cases e2 : j = h
    · subst e2
      rw [if_neg (c := j = j + 1) (by omega), if_pos (c := j < j + 1) (by omega), if_neg (c := j + 1 < j + 1) (by omega), if_neg (c := j < j) (by omega), if_neg (c := j + 1 < j) (by omega), if_pos (c := j = j) rfl, if_neg (c := j + 1 = j) (by omega)]
      by_cases e : 1 ≤ j
      · rw [if_pos ⟨e, by omega⟩, if_pos ⟨e, by omega⟩]; omega
      · rw [if_neg (by omega), if_neg (by omega)]; omega
    · by_cases e3 : j + 1 = h
      · subst e3
        rw [if_neg (c := j = j + 1 + 1) e1, if_neg (c := j = j + 1) e2, if_pos (c := j + 1 = j + 1) rfl, if_pos (c := j < j + 1 + 1) (by omega), if_pos (c := j + 1 < j + 1 + 1) (by omega), if_pos (c := j < j + 1) (by omega), if_neg (c := j + 1 < j + 1) (by omega)]
        by_cases e : 1 ≤ j
        · rw [if_pos ⟨e, by omega⟩, if_pos ⟨e, by omega⟩]; omega
        · rw [if_neg (by omega), if_neg (by omega)]; omega
      · rw [if_neg e1, if_neg e2, if_neg e3]
        by_cases e : j < h
        · have e' : j + 1 < h := by omega
          rw [if_pos (c := j < h + 1) (by omega), if_pos (c := j + 1 < h + 1) (by omega), if_pos e, if_pos e']
          by_cases f : 1 ≤ j
          · rw [if_pos ⟨f, by omega⟩, if_pos ⟨f, by omega⟩]; omega
          · rw [if_neg (by omega), if_neg (by omega)]; omega
        · rw [if_neg (c := j < h + 1) (by omega), if_neg (c := j + 1 < h + 1) (by omega), if_neg (c := j < h) e, if_neg (c := j + 1 < h) (by omega), if_neg (by omega), if_neg (by omega)]; omega
theorem wnext' (h : Nat) (hh : h ≤ 100000) : wrap64 ((h : Int) + 1) = ((h + 1 : Nat) : Int) := by rw [w64 (by omega) (by omega)]; omega
theorem wprev' (h : Nat) (h1 : 1 ≤ h) (hh : h ≤ 100000) : wrap64 ((h : Int) - 1) = ((h - 1 : Nat) : Int) := by rw [w64 (by omega) (by omega)]; omega

/-- One round over all heights: from height h on. -/
theorem sum_round (wt : Int → Int → Option Int) (U F D r : Nat → Int) (m : Nat) (hm : m ≤ 1000) (hU : ∀ h, h ≤ m → wt 85 (h : Int) = some (U h)) (hF : ∀ h, h ≤ m → wt 70 (h : Int) = some (F h)) (hD : ∀ h, 1 ≤ h → h ≤ m → wt 68 (h : Int) = some (D h))
    (now : List Int) (hnow : now.length = m + 1) (hr : ∀ j : Nat, rd now (j : Int) = r j) (x10 x11 : Int) :
    ∀ (d h : Nat) (N : List Int), h + d = m + 1 → N.length = m + 2 → (∀ j, j < N.length → rd N (j : Int) = wrap64 (upto U F D r h j)) →
      ∃ N' : List Int, N'.length = m + 2 ∧ (∀ j, j < N'.length → rd N' (j : Int) = wrap64 (upto U F D r (m + 1) j)) ∧
        ∀ k : Nat, sumMixed.l1 wt (k + d + 1) N x10 x11 now ((m + 1 : Nat) : Int) (h : Int) = sumMixed.l0 wt k N' x10 (wrap64 (x11 + 1)) := by
  intro d
  induction d with
  | zero =>
    intro h N hd hN hp
    obtain rfl : h = m + 1 := by omega
    refine ⟨N, hN, hp, fun k => ?_⟩
    rw [show k + 0 + 1 = k + 1 from rfl, sumMixed.l1.eq_2, if_neg (by omega)]
  | succ d ih =>
    intro h N hd hN hp
    by_cases hz : r h = 0
    · obtain ⟨N', h1, h2, h3⟩ := ih (h + 1) N (by omega) hN (fun j hj => by rw [hp j hj, upto_succ, hz]; simp only [Int.mul_zero, ite_self, Int.add_zero])
      refine ⟨N', h1, h2, fun k => ?_⟩
      rw [← h3 k, show k + (d + 1) + 1 = (k + d + 1) + 1 from rfl, sumMixed.l1.eq_2, if_pos (by omega), if_pos (by omega), if_pos (by omega), hr h, if_pos hz, wnext' h (by omega)]
    · have h1 := rd_addAt hp (h + 1) (by omega) (r h * U h)
      have h2 := rd_addAt h1 h (by rw [addAt_len]; omega) (r h * F h)
      by_cases h0 : 1 ≤ h
      · have h3 := rd_addAt h2 (h - 1) (by rw [addAt_len, addAt_len]; omega) (r h * D h)
        obtain ⟨N', g1, g2, g3⟩ := ih (h + 1) (addAt (addAt (addAt N (h + 1) (r h * U h)) h (r h * F h)) (h - 1) (r h * D h)) (by omega) (by rw [addAt_len, addAt_len, addAt_len]; omega) (fun j hj => by
          rw [h3 j hj, upto_succ, Int.mul_comm (U h), Int.mul_comm (F h), Int.mul_comm (D h)]
          rw [show (if j = h - 1 then r h * D h else 0) = (if j + 1 = h then r h * D h else 0) from ite_iff (by omega) _ _])
        refine ⟨N', g1, g2, fun k => ?_⟩
        rw [← g3 k, show k + (d + 1) + 1 = (k + d + 1) + 1 from rfl, sumMixed.l1.eq_2, if_pos (by omega), if_pos (by omega), if_pos (by omega), hr h, if_neg hz, wnext' h (by omega), if_pos (by omega), if_pos (by omega),
          hU h (by omega), Option.bind_some, Option.bind_some, if_pos (by omega), hF h (by omega), Option.bind_some, Option.bind_some, if_pos (by omega), wprev' h h0 (by omega), if_pos (by omega), if_pos (by omega), hD h h0 (by omega), Option.bind_some]
        simp only [Int.toNat_natCast]
        rfl
      · obtain rfl : h = 0 := by omega
        obtain ⟨N', g1, g2, g3⟩ := ih 1 (addAt (addAt N 1 (r 0 * U 0)) 0 (r 0 * F 0)) (by omega) (by rw [addAt_len, addAt_len]; omega) (fun j hj => by
          rw [h2 j hj, upto_succ, Int.mul_comm (U 0), Int.mul_comm (F 0), if_neg (c := j + 1 = 0) (by omega), Int.add_zero])
        refine ⟨N', g1, g2, fun k => ?_⟩
        rw [← g3 k, show k + (d + 1) + 1 = (k + d + 1) + 1 from rfl, sumMixed.l1.eq_2, if_pos (by omega), if_pos (by omega), if_pos (by omega), hr 0, if_neg hz, wnext' 0 (by omega), if_pos (by omega), if_pos (by omega),
          hU 0 (by omega), Option.bind_some, Option.bind_some, if_pos (by omega), hF 0 (by omega), Option.bind_some, Option.bind_some, if_neg (by omega)]
        simp only [Int.toNat_natCast]
        rfl
theorem row_of_upto (U F D : Nat → Int) (m j : Nat) (hj : j < m + 2) : wrap64 (upto U F D (row U F D m) (m + 1) j) = row U F D (m + 1) j := by
  rw [row]
  unfold upto
  congr 1
  by_cases e : 1 ≤ j
  · rw [if_pos ⟨e, by omega⟩, if_pos e]
    by_cases f : j < m + 1
    · rw [if_pos f]
      by_cases g : j + 1 < m + 1
      · rw [if_pos g]
      · rw [if_neg g, row_out U F D m (j + 1) (by omega), Int.mul_zero]
    · rw [if_neg f, if_neg (by omega), row_out U F D m j (by omega), row_out U F D m (j + 1) (by omega), Int.mul_zero, Int.mul_zero]
  · rw [if_neg (by omega), if_neg e]
    by_cases f : j < m + 1
    · rw [if_pos f]
      by_cases g : j + 1 < m + 1
      · rw [if_pos g]
      · rw [if_neg g, row_out U F D m (j + 1) (by omega), Int.mul_zero]
    · rw [if_neg f, if_neg (by omega), row_out U F D m j (by omega), row_out U F D m (j + 1) (by omega), Int.mul_zero, Int.mul_zero]
theorem sum_rows (wt : Int → Int → Option Int) (U F D : Nat → Int) (n : Nat) (hn : n ≤ 1000) (hU : ∀ h, h < n → wt 85 (h : Int) = some (U h)) (hF : ∀ h, h < n → wt 70 (h : Int) = some (F h)) (hD : ∀ h, 1 ≤ h → h < n → wt 68 (h : Int) = some (D h)) :
    ∀ (d m : Nat) (now : List Int), m + d = n → now.length = m + 1 → (∀ j : Nat, rd now (j : Int) = row U F D m j) →
      ∀ k, (d + 1) * (n + 4) ≤ k → sumMixed.l0 wt k now (n : Int) (m : Int) = some (row U F D n 0) := by
  intro d
  induction d with
  | zero =>
    intro m now hd hl hr k hk
    obtain rfl : m = n := by omega
    obtain ⟨k, rfl⟩ : ∃ i, k = i + 1 := ⟨k - 1, by omega⟩
    rw [sumMixed.l0.eq_2, if_neg (by omega), if_pos (by omega)]
    exact congrArg some (hr 0)
  | succ d ih =>
    intro m now hd hl hr k hk
    have e : (d + 1 + 1) * (n + 4) = (d + 1) * (n + 4) + (n + 4) := Nat.succ_mul _ _
    obtain ⟨k, rfl⟩ : ∃ i, k = (i + (m + 1) + 1) + 1 := ⟨k - (m + 1) - 2, by omega⟩
    obtain ⟨N', h1, h2, h3⟩ := sum_round wt U F D (row U F D m) m (by omega) (fun h hh => hU h (by omega)) (fun h hh => hF h (by omega)) (fun h h0 hh => hD h h0 (by omega)) now hl hr (n : Int) (m : Int) (m + 1) 0 (List.replicate (m + 2) 0) (by omega) (by simp)
      (fun j hj => by rw [rd_replicate, upto_zero]; exact (w64 (by omega) (by omega)).symm)
    rw [sumMixed.l0.eq_2, if_pos (by omega), hl]
    have e2 : wrap64 (((m + 1 : Nat) : Int) + 1) = ((m + 2 : Nat) : Int) := wnext' (m + 1) (by omega)
    rw [e2, if_pos (by omega), Int.toNat_natCast, if_pos (by omega)]
    refine (h3 k).trans ?_
    rw [wnext' m (by omega)]
    refine ih (m + 1) N' (by omega) h1 (fun j => ?_) k (by omega)
    by_cases hj : j < m + 2
    · rw [h2 j (by omega), row_of_upto U F D m j hj]
    · rw [rd_out (by omega), row_out U F D (m + 1) j (by omega)]
theorem sum_is (wt : Int → Int → Option Int) (U F D : Nat → Int) (n : Nat) (hn : n ≤ 1000) (hU : ∀ h, h < n → wt 85 (h : Int) = some (U h)) (hF : ∀ h, h < n → wt 70 (h : Int) = some (F h)) (hD : ∀ h, 1 ≤ h → h < n → wt 68 (h : Int) = some (D h))
    (k : Nat) (hk : (n + 1) * (n + 4) ≤ k) : sumMixed.f wt k (n : Int) = some (row U F D n 0) := by
  unfold sumMixed.f
  exact sum_rows wt U F D n hn hU hF hD n 0 [1] (by omega) rfl (fun j => by
    cases j with
    | zero => rfl
    | succ j => rw [rd_out (by simp)]; rfl) k hk

/-- The reference: one round over all heights, with flat steps at the floor. -/
theorem ki_round (U F D : Int) (r : Nat → Int) (n m : Nat) (hm : m < n) (hn : n ≤ 1000) (now : List Int) (hnow : now.length = n + 2) (hr : ∀ j : Nat, rd now (j : Int) = r j) :
    ∀ (d h : Nat) (N : List Int), h + d = m + 1 → N.length = n + 2 → (∀ j, j < N.length → rd N (j : Int) = wrap64 (upto (fun _ => U) (fun _ => F) (fun _ => D) r h j)) →
      ∃ N' : List Int, N'.length = n + 2 ∧ (∀ j, j < N'.length → rd N' (j : Int) = wrap64 (upto (fun _ => U) (fun _ => F) (fun _ => D) r (m + 1) j)) ∧
        ∀ k : Nat, spec_kiCount.l1 (k + d + 1) (n : Int) U F D true now (m : Int) N (h : Int) = spec_kiCount.l0 k (n : Int) U F D true N' (wrap64 ((m : Int) + 1)) := by
  intro d
  induction d with
  | zero =>
    intro h N hd hN hp
    obtain rfl : h = m + 1 := by omega
    refine ⟨N, hN, hp, fun k => ?_⟩
    rw [show k + 0 + 1 = k + 1 from rfl, spec_kiCount.l1.eq_2, if_neg (by omega)]
  | succ d ih =>
    intro h N hd hN hp
    have h1 := rd_addAt hp (h + 1) (by omega) (U * r h)
    by_cases h0 : 1 ≤ h
    · have h2 := rd_addAt h1 (h - 1) (by rw [addAt_len]; omega) (D * r h)
      have h3 := rd_addAt h2 h (by rw [addAt_len, addAt_len]; omega) (F * r h)
      obtain ⟨N', g1, g2, g3⟩ := ih (h + 1) (addAt (addAt (addAt N (h + 1) (U * r h)) (h - 1) (D * r h)) h (F * r h)) (by omega) (by rw [addAt_len, addAt_len, addAt_len]; omega) (fun j hj => by
        rw [h3 j hj, upto_succ, show (if j = h - 1 then D * r h else 0) = (if j + 1 = h then D * r h else 0) from ite_iff (by omega) _ _]
        congr 1; omega)
      refine ⟨N', g1, g2, fun k => ?_⟩
      rw [← g3 k, show k + (d + 1) + 1 = (k + d + 1) + 1 from rfl, spec_kiCount.l1.eq_2, if_pos (by omega), wnext' h (by omega), if_pos (by omega), if_pos (by omega), if_pos (by omega), if_pos (by omega), Option.bind_some,
        if_pos (by omega), wprev' h h0 (by omega), if_pos (by omega), if_pos (by omega), Option.bind_some, if_pos (by omega), hr h]
      simp only [Int.toNat_natCast]
      rfl
    · obtain rfl : h = 0 := by omega
      have h3 := rd_addAt h1 0 (by rw [addAt_len]; omega) (F * r 0)
      obtain ⟨N', g1, g2, g3⟩ := ih 1 (addAt (addAt N 1 (U * r 0)) 0 (F * r 0)) (by omega) (by rw [addAt_len, addAt_len]; omega) (fun j hj => by
        rw [h3 j hj, upto_succ, if_neg (c := j + 1 = 0) (by omega), Int.add_zero])
      refine ⟨N', g1, g2, fun k => ?_⟩
      rw [← g3 k, show k + (d + 1) + 1 = (k + d + 1) + 1 from rfl, spec_kiCount.l1.eq_2, if_pos (by omega), wnext' 0 (by omega), if_pos (by omega), if_pos (by omega), if_pos (by omega), if_pos (by omega), Option.bind_some,
        if_neg (by omega), if_pos rfl, if_pos (by omega), hr 0]
      simp only [Int.toNat_natCast]
      rfl
theorem ki_rows (U F D : Int) (n : Nat) (hn : n ≤ 1000) :
    ∀ (d m : Nat) (now : List Int), m + d = n → now.length = n + 2 → (∀ j : Nat, rd now (j : Int) = row (fun _ => U) (fun _ => F) (fun _ => D) m j) →
      ∀ k, (d + 1) * (n + 4) ≤ k → spec_kiCount.l0 k (n : Int) U F D true now (m : Int) = some (row (fun _ => U) (fun _ => F) (fun _ => D) n 0) := by
  intro d
  induction d with
  | zero =>
    intro m now hd hl hr k hk
    obtain rfl : m = n := by omega
    obtain ⟨k, rfl⟩ : ∃ i, k = i + 1 := ⟨k - 1, by omega⟩
    rw [spec_kiCount.l0.eq_2, if_neg (by omega), if_pos (by omega)]
    exact congrArg some (hr 0)
  | succ d ih =>
    intro m now hd hl hr k hk
    have e : (d + 1 + 1) * (n + 4) = (d + 1) * (n + 4) + (n + 4) := Nat.succ_mul _ _
    obtain ⟨k, rfl⟩ : ∃ i, k = (i + (m + 1) + 1) + 1 := ⟨k - (m + 1) - 2, by omega⟩
    obtain ⟨N', h1, h2, h3⟩ := ki_round U F D (row (fun _ => U) (fun _ => F) (fun _ => D) m) n m (by omega) hn now hl hr (m + 1) 0 (List.replicate (n + 2) 0) (by omega) (by simp)
      (fun j hj => by rw [rd_replicate, upto_zero]; exact (w64 (by omega) (by omega)).symm)
    rw [spec_kiCount.l0.eq_2, if_pos (by omega)]
    have e2 : wrap64 ((n : Int) + 2) = ((n + 2 : Nat) : Int) := by rw [w64 (by omega) (by omega)]; omega
    rw [e2, if_pos (by omega), Int.toNat_natCast, if_pos (by omega)]
    refine (h3 k).trans ?_
    rw [wnext' m (by omega)]
    refine ih (m + 1) N' (by omega) h1 (fun j => ?_) k (by omega)
    by_cases hj : j < m + 2
    · rw [h2 j (by omega), row_of_upto _ _ _ m j hj]
    · by_cases hj' : j < n + 2
      · rw [h2 j (by omega), row_out _ _ _ (m + 1) j (by omega)]
        unfold upto
        rw [if_neg (by omega), if_neg (by omega), if_neg (by omega)]
        exact w64 (by omega) (by omega)
      · rw [rd_out (by omega), row_out _ _ _ (m + 1) j (by omega)]
theorem ki_is (U F D : Int) (n : Nat) (hn : n ≤ 1000) (k : Nat) (hk : (n + 1) * (n + 4) ≤ k) : spec_kiCount.f k (n : Int) U F D true = some (row (fun _ => U) (fun _ => F) (fun _ => D) n 0) := by
  unfold spec_kiCount.f
  have e2 : wrap64 ((n : Int) + 2) = ((n + 2 : Nat) : Int) := by rw [w64 (by omega) (by omega)]; omega
  rw [e2, if_pos (by omega), Int.toNat_natCast, if_pos (by omega), Option.bind_some, if_pos (by simp; omega)]
  refine ki_rows U F D n hn n 0 _ (by omega) (by simp) (fun j => ?_) k hk
  cases j with
  | zero => exact rd_set_self (i := 0) (by simp)
  | succ j => 
    refine (rd_set_other (i := 0) (j := j + 1) (by omega)).trans ?_
    rw [rd_replicate]; rfl

theorem colored_is (n : Nat) (hn : n ≤ 12) (U F D : Int) : impl_colored.f 1000 (n : Int) U F D = some (row (fun _ => U) (fun _ => F) (fun _ => D) n 0) := by
  have hk : (n + 1) * (n + 4) ≤ 1000 := Nat.le_trans (Nat.mul_le_mul (show n + 1 ≤ 13 by omega) (show n + 4 ≤ 16 by omega)) (by omega)
  exact sum_is (wcol U F D) _ _ _ n (by omega) (fun h _ => by unfold wcol; rw [if_pos rfl]) (fun h _ => by unfold wcol; rw [if_neg (by omega), if_neg (by omega)]) (fun h _ _ => by unfold wcol; rw [if_neg (by omega), if_pos rfl]) 1000 hk
theorem ki_is' (n : Nat) (hn : n ≤ 12) (U F D : Int) : spec_kiCount.f 1000 (n : Int) U F D true = some (row (fun _ => U) (fun _ => F) (fun _ => D) n 0) :=
  ki_is U F D n (by omega) 1000 (Nat.le_trans (Nat.mul_le_mul (show n + 1 ≤ 13 by omega) (show n + 4 ≤ 16 by omega)) (by omega))
theorem same_law {p : Int × Bool} : (if p.1 = p.1 then (if (p.2 != p.2) = true then (some false) else (some true)) else (some false) : Option Bool) = some true := by
  rw [if_pos rfl, if_neg (by simp)]

theorem colors_in (a b c : Int) (k : Nat) (hk : 5 ≤ k) : spec_l1All.f k [a, b, c] 0 9 = some (decide ((0 ≤ a ∧ a ≤ 9) ∧ (0 ≤ b ∧ b ≤ 9) ∧ (0 ≤ c ∧ c ≤ 9))) := by
  obtain ⟨k, rfl⟩ : ∃ i, k = i + 1 + 1 + 1 + 1 := ⟨k - 4, by omega⟩
  have e1 : wrap64 (0 + 1) = 1 := w64 (by omega) (by omega)
  have e2 : wrap64 (1 + 1) = 2 := w64 (by omega) (by omega)
  have e3 : wrap64 (2 + 1) = 3 := w64 (by omega) (by omega)
  unfold spec_l1All.f
  rw [spec_l1All.l0.eq_2, show (([a, b, c] : List Int).length : Int) = 3 from rfl, if_pos (by omega), if_pos (by omega), if_pos (by omega), show rd [a, b, c] 0 = a from rfl, l1In_eq, Option.bind_some]
  by_cases h1 : 0 ≤ a ∧ a ≤ 9
  · rw [if_pos (by simpa using h1), e1, spec_l1All.l0.eq_2, show (([a, b, c] : List Int).length : Int) = 3 from rfl, if_pos (by omega), if_pos (by omega), if_pos (by omega), show rd [a, b, c] 1 = b from rfl, l1In_eq, Option.bind_some]
    by_cases h2 : 0 ≤ b ∧ b ≤ 9
    · rw [if_pos (by simpa using h2), e2, spec_l1All.l0.eq_2, show (([a, b, c] : List Int).length : Int) = 3 from rfl, if_pos (by omega), if_pos (by omega), if_pos (by omega), show rd [a, b, c] 2 = c from rfl, l1In_eq, Option.bind_some]
      by_cases h3 : 0 ≤ c ∧ c ≤ 9
      · rw [if_pos (by simpa using h3), e3, spec_l1All.l0.eq_2, if_neg (by omega), decide_eq_true ⟨h1, h2, h3⟩]
      · rw [if_neg (by simpa using h3), decide_eq_false (fun h => h3 h.2.2)]
    · rw [if_neg (by simpa using h2), decide_eq_false (fun h => h2 h.2.1)]
  · rw [if_neg (by simpa using h1), decide_eq_false (fun h => h1 h.1)]
theorem FnExactCountColors : laws_FnExactCountColors.Pure := by
  intro n a b c wn wa wb wc
  refine ⟨1000, ?_⟩
  have key : ∃ p, spec_CountColors.f 1000 n a b c = some p ∧ impl_CountColors.f 1000 n a b c = some p := by
    unfold spec_CountColors.f spec_kiSteps.f impl_CountColors.f
    rw [l1In_eq, in_eq, Option.bind_some, Option.bind_some]
    by_cases hn : 0 ≤ n ∧ n ≤ 12
    · rw [if_pos (by simpa using hn), if_pos (by simpa using hn), colors_in a b c 1000 (by omega), Option.bind_some, in_eq, Option.bind_some, Option.bind_some]
      by_cases h1 : 0 ≤ a ∧ a ≤ 9
      · rw [if_pos (c := decide (0 ≤ a ∧ a ≤ 9) = true) (by simpa using h1), in_eq, Option.bind_some]
        by_cases h2 : 0 ≤ b ∧ b ≤ 9
        · rw [if_pos (c := decide (0 ≤ b ∧ b ≤ 9) = true) (by simpa using h2), in_eq, Option.bind_some]
          by_cases h3 : 0 ≤ c ∧ c ≤ 9
          · rw [if_pos (c := decide (0 ≤ c ∧ c ≤ 9) = true) (by simpa using h3), decide_eq_true (p := (0 ≤ a ∧ a ≤ 9) ∧ (0 ≤ b ∧ b ≤ 9) ∧ (0 ≤ c ∧ c ≤ 9)) ⟨h1, h2, h3⟩, if_pos rfl]
            obtain ⟨m, rfl⟩ : ∃ m : Nat, n = m := ⟨n.toNat, by omega⟩
            rw [ki_is' m (by omega), colored_is m (by omega)]
            exact ⟨_, rfl, rfl⟩
          · rw [if_neg (c := decide (0 ≤ c ∧ c ≤ 9) = true) (by simpa using h3), decide_eq_false (p := (0 ≤ a ∧ a ≤ 9) ∧ (0 ≤ b ∧ b ≤ 9) ∧ (0 ≤ c ∧ c ≤ 9)) (fun h => h3 h.2.2)]
            exact ⟨_, rfl, rfl⟩
        · rw [if_neg (c := decide (0 ≤ b ∧ b ≤ 9) = true) (by simpa using h2), decide_eq_false (p := (0 ≤ a ∧ a ≤ 9) ∧ (0 ≤ b ∧ b ≤ 9) ∧ (0 ≤ c ∧ c ≤ 9)) (fun h => h2 h.2.1)]
          exact ⟨_, rfl, rfl⟩
      · rw [if_neg (c := decide (0 ≤ a ∧ a ≤ 9) = true) (by simpa using h1), decide_eq_false (p := (0 ≤ a ∧ a ≤ 9) ∧ (0 ≤ b ∧ b ≤ 9) ∧ (0 ≤ c ∧ c ≤ 9)) (fun h => h1 h.1)]
        exact ⟨_, rfl, rfl⟩
    · rw [if_neg (by simpa using hn), if_neg (by simpa using hn)]
      exact ⟨_, rfl, rfl⟩
  obtain ⟨p, h1, h2⟩ := key
  unfold laws_FnExactCountColors.f
  rw [h1, h2, Option.bind_some, Option.bind_some]
  exact same_law
end Go.Proofs.Ytpccmlaaebaobaa.Pure
