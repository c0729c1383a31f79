/- Whether there are levels: both sides test the same bounds of all numbers. No condition. -/
import Derived.Test.YtobdaglkdnfnlaaOFnExactIsLevelsx2
namespace Go.Proofs.Ytobdaglkdnfnlaa.Pure
open Go.RowKit Go.Proofs.Ytobdaglkdnfnlaa.Stub Go.Proofs.Ytobdaglkdnfnlaa.OFnExactIsLevels Go.Proofs.YtobdaglkdnfnlaaW.PrintWords Go.Proofs.YtobdaglkdnfnlaaW.PrintLast
set_option linter.unusedVariables false
set_option linter.unusedSimpArgs false
theorem w64 {n : Int} (h0 : -9223372036854775808 ≤ n) (h1 : n ≤ 9223372036854775807) : wrap64 n = n := by unfold wrap64; omega
theorem wf_bd {n : Int} (h : (Lit.int .i64 n).wf = true) : -9223372036854775808 ≤ n ∧ n ≤ 9223372036854775807 := by
  unfold Lit.wf at h
  rw [Bool.and_eq_true] at h
  exact ⟨of_decide_eq_true h.1, of_decide_eq_true h.2⟩

theorem in_eq (a b c : Int) : impl_in.f a b c = some (decide (b ≤ a ∧ a ≤ c)) := by
  unfold impl_in.f
  by_cases h1 : b ≤ a <;> by_cases h2 : a ≤ c <;> simp [h1, h2]
theorem l1In_eq (a b c : Int) : spec_l1In.f a b c = some (decide (b ≤ a ∧ a ≤ c)) := by
  unfold spec_l1In.f
  by_cases h1 : b ≤ a <;> by_cases h2 : a ≤ c <;> simp [h1, h2]

theorem wN (n : Nat) (h : n ≤ 1000000000000) : wrap64 ((n : Int) + 1) = ((n + 1 : Nat) : Int) := by rw [w64 (by omega) (by omega)]; omega
theorem toI_from (L : List Int) (hL : L.length ≤ 1048576) : ∀ (d i k : Nat) (M : List Int), i + d = L.length → M.length = L.length → M.take i = L.take i → d < k → laws_toIntS.l0 k L M (i : Int) = some L := by
  intro d
  induction d with
  | zero =>
    intro i k M hd hM ht hk
    obtain ⟨k, rfl⟩ : ∃ m, k = m + 1 := ⟨k - 1, by omega⟩
    rw [laws_toIntS.l0.eq_2, if_neg (by omega)]
    rw [List.take_of_length_le (by omega), List.take_of_length_le (by omega)] at ht
    rw [ht]
  | succ d ih =>
    intro i k M hd hM ht hk
    obtain ⟨k, rfl⟩ : ∃ m, k = m + 1 := ⟨k - 1, by omega⟩
    rw [laws_toIntS.l0.eq_2, if_pos (by omega), if_pos (by omega), if_pos (by omega), wN i (by omega), Int.toNat_natCast]
    refine ih (i + 1) k _ (by omega) (by rw [List.length_set]; omega) ?_ (by omega)
    have hi : i < L.length := by omega
    rw [List.take_succ_eq_append_getElem (by rw [List.length_set]; omega), List.take_succ_eq_append_getElem hi, List.take_set_of_le (Nat.le_refl i), ht, List.getElem_set_self]
    congr 2
    unfold rd
    rw [Int.toNat_natCast, List.getD_eq_getElem?_getD, List.getElem?_eq_getElem hi]; rfl
theorem toI_run (L : List Int) (hL : L.length ≤ 1048576) {k : Nat} (hk : L.length < k) : laws_toIntS.f k L = some L := by
  unfold laws_toIntS.f
  rw [if_pos (by omega), Int.toNat_natCast, if_pos (by omega)]
  exact toI_from L hL L.length 0 k _ (by omega) (by simp) (by simp) hk
theorem eqI_from (L : List Int) (hL : L.length ≤ 1048576) : ∀ (d i k : Nat), i + d = L.length → d < k → laws_eqIntS.l0 k L L (i : Int) = some true := by
  intro d
  induction d with
  | zero =>
    intro i k hd hk
    obtain ⟨k, rfl⟩ : ∃ m, k = m + 1 := ⟨k - 1, by omega⟩
    rw [laws_eqIntS.l0.eq_2, if_neg (by omega)]
  | succ d ih =>
    intro i k hd hk
    obtain ⟨k, rfl⟩ : ∃ m, k = m + 1 := ⟨k - 1, by omega⟩
    rw [laws_eqIntS.l0.eq_2, if_pos (by omega), if_pos (by omega), if_pos (by omega), if_pos rfl, wN i (by omega)]
    exact ih (i + 1) k (by omega) (by omega)
theorem eqI_run (L : List Int) (hL : L.length ≤ 1048576) {k : Nat} (hk : L.length < k) : laws_eqIntS.f k L L = some true := by
  unfold laws_eqIntS.f
  rw [if_pos rfl]
  exact eqI_from L hL L.length 0 k (by omega) hk

/-- Whether all numbers are in a range. -/
def allIn (lo hi : Int) (L : List Int) : Bool := L.all fun x => decide (lo ≤ x ∧ x ≤ hi)
theorem allIn_drop (lo hi : Int) (L : List Int) (i : Nat) (h : i < L.length) : allIn lo hi (L.drop i) = (decide (lo ≤ rd L (i : Int) ∧ rd L (i : Int) ≤ hi) && allIn lo hi (L.drop (i + 1))) := by
  unfold allIn
  rw [List.drop_eq_getElem_cons h, List.all_cons]
  have : rd L (i : Int) = L[i] := by
    unfold rd
    rw [Int.toNat_natCast, List.getD_eq_getElem?_getD, List.getElem?_eq_getElem h]; rfl
  rw [this]
theorem all_from (lo hi : Int) (L : List Int) (hL : L.length ≤ 1048576) : ∀ (d i k : Nat), i + d = L.length → d < k → spec_l1All.l0 k lo hi L (L.length : Int) (i : Int) = some (allIn lo hi (L.drop i)) := by
  intro d
  induction d with
  | zero =>
    intro i k hd hk
    obtain ⟨k, rfl⟩ : ∃ m, k = m + 1 := ⟨k - 1, by omega⟩
    rw [spec_l1All.l0.eq_2, if_neg (by omega), List.drop_of_length_le (by omega)]; rfl
  | succ d ih =>
    intro i k hd hk
    obtain ⟨k, rfl⟩ : ∃ m, k = m + 1 := ⟨k - 1, by omega⟩
    rw [spec_l1All.l0.eq_2, if_pos (by omega), if_pos (by omega), if_pos (by omega), l1In_eq, Option.bind_some, allIn_drop lo hi L i (by omega)]
    by_cases h : lo ≤ rd L (i : Int) ∧ rd L (i : Int) ≤ hi
    · rw [if_pos (by simpa using h), decide_eq_true h, Bool.true_and, wN i (by omega)]
      exact ih (i + 1) k (by omega) (by omega)
    · rw [if_neg (by simpa using h), decide_eq_false h, Bool.false_and]
theorem all_run (lo hi : Int) (L : List Int) (hL : L.length ≤ 1048576) {k : Nat} (hk : L.length < k) : spec_l1All.f k L lo hi = some (allIn lo hi L) := by
  unfold spec_l1All.f
  exact all_from lo hi L hL L.length 0 k (by omega) hk
theorem any_out (lo hi : Int) (L : List Int) : (L.any fun x => outB lo hi x) = !allIn lo hi L := by
  unfold allIn
  rw [List.not_all_eq_any_not]
  congr 1; funext x
  unfold outB
  congr 1
  rw [Bool.decide_and]

/-- Whether two rows are levels. -/
def levB (a b : List Int) : Bool := decide (1 ≤ a.length ∧ a.length ≤ 6) && (decide (b.length = a.length) && (allIn (-5) 5 a && allIn 1 5 b))
theorem spec_lev (a b : List Int) {k : Nat} (hk : 7 ≤ k) : spec_kiLevels.f k a b = some (levB a b) := by
  unfold spec_kiLevels.f levB
  rw [l1In_eq, Option.bind_some]
  by_cases h1 : 1 ≤ a.length ∧ a.length ≤ 6
  · rw [if_pos (by simpa using (by omega : (1 : Int) ≤ a.length ∧ (a.length : Int) ≤ 6)), decide_eq_true h1, Bool.true_and]
    by_cases h2 : b.length = a.length
    · rw [if_pos (by omega), decide_eq_true h2, Bool.true_and, all_run (-5) 5 a (by omega) (by omega), Option.bind_some]
      cases allIn (-5) 5 a with
      | true => rw [if_pos rfl, all_run 1 5 b (by omega) (by omega), Option.bind_some, Bool.true_and]
      | false => rfl
    · rw [if_neg (by omega), decide_eq_false h2, Bool.false_and]
  · rw [if_neg (by simpa using (by omega : ¬ ((1 : Int) ≤ a.length ∧ (a.length : Int) ≤ 6))), decide_eq_false h1, Bool.false_and]
theorem impl_lev (a b : List Int) : impl_IsLevels.f a b = some (levB a b) := by
  unfold impl_IsLevels.f levB
  rw [any_out, any_out]
  by_cases h2 : b.length = a.length
  · rw [if_pos (by omega), decide_eq_true h2, Bool.true_and]
    by_cases h1 : 1 ≤ a.length ∧ a.length ≤ 6
    · rw [if_pos (by omega), decide_eq_true h1, Bool.true_and]
      cases allIn (-5) 5 a <;> simp
    · rw [if_neg (by omega), decide_eq_false h1, Bool.false_and]
  · rw [if_neg (by omega), decide_eq_false h2, Bool.false_and, Bool.and_false]
theorem toL_run (a b : List Int) (ha : a.length ≤ 1048576) (hb : b.length ≤ 1048576) {k : Nat} (hk : 1048576 < k) : laws_toLevels.f k a b = some (a, b) := by
  unfold laws_toLevels.f
  rw [toI_run a ha (by omega), Option.bind_some, toI_run b hb (by omega), Option.bind_some]
theorem eqL_run (a b : List Int) (ha : a.length ≤ 1048576) (hb : b.length ≤ 1048576) {k : Nat} (hk : 1048576 < k) : laws_eqLevels.f k a b a b = some true := by
  unfold laws_eqLevels.f
  rw [eqI_run a ha (by omega), Option.bind_some, if_pos rfl, eqI_run b hb (by omega), Option.bind_some, if_pos rfl]
theorem sz_run (a b : List Int) (ha : a.length ≤ 9223372036854775807) (hb : b.length ≤ 9223372036854775807) : ∃ z, laws_szLevels.f a b 1048576 = some z ∧ (z < 0 ∨ a.length ≤ 1048576 ∧ b.length ≤ 1048576) := by
  unfold laws_szLevels.f laws_szIntS.f
  rw [w64 (n := 1048576 - (a.length : Int)) (by omega) (by omega)]
  by_cases h1 : 1048576 - (a.length : Int) < 0
  · rw [if_pos h1, Option.bind_some, if_pos (by omega)]; exact ⟨_, rfl, .inl (by omega)⟩
  · rw [if_neg h1, Option.bind_some, if_neg h1, w64 (n := 1048576 - (a.length : Int) - (b.length : Int)) (by omega) (by omega)]
    by_cases h2 : 1048576 - (a.length : Int) - (b.length : Int) < 0
    · rw [if_pos h2, Option.bind_some, if_pos (by omega)]; exact ⟨_, rfl, .inl (by omega)⟩
    · rw [if_neg h2, Option.bind_some, if_neg h2]; exact ⟨_, rfl, .inr (by omega)⟩

theorem FnExactIsLevels : ∀ (l0_0 : List Int) (l0_1 : List Int), (l0_0.length ≤ 9223372036854775807 ∧ ∀ n ∈ l0_0, (Lit.int .i64 n).wf = true) → (l0_1.length ≤ 9223372036854775807 ∧ ∀ n ∈ l0_1, (Lit.int .i64 n).wf = true) → ∃ k, laws_FnExactIsLevels.f k l0_0 l0_1 = some true := by
  intro a b ⟨ha, _⟩ ⟨hb, _⟩
  obtain ⟨K, hK⟩ : ∃ K : Nat, 1048576 < K := ⟨1048577, by omega⟩
  refine ⟨K, ?_⟩
  unfold laws_FnExactIsLevels.f
  obtain ⟨z, hz, hz'⟩ := sz_run a b ha hb
  rw [hz, Option.bind_some]
  by_cases h : z < 0
  · rw [if_pos h]
  · obtain ⟨h1, h2⟩ := hz'.resolve_left h
    rw [if_neg h, toL_run a b h1 h2 hK, Option.bind_some]
    unfold spec_IsLevels.f
    rw [spec_lev a b (by omega), Option.bind_some, Option.bind_some, Option.bind_some, impl_lev, Option.bind_some, if_neg (by simp), Option.bind_some, eqL_run a b h1 h2 hK, Option.bind_some, if_pos rfl]
end Go.Proofs.Ytobdaglkdnfnlaa.Pure
