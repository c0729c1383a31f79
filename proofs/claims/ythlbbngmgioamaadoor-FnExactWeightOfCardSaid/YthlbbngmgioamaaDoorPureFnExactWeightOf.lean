/- The weight of a mixed path by levels: both sides multiply the same weights on the way, and say no at the same step. No condition. -/
import Derived.Test.YthlbbngmgioamaaDoorOFnExactWeightOfx4
namespace Go.Proofs.YthlbbngmgioamaaDoor.Pure
open Go.RowKit Go.Proofs.YthlbbngmgioamaaDoor.Stub Go.Proofs.YthlbbngmgioamaaDoor.OFnExactWeightOf Go.Proofs.YthlbbngmgioamaaDoorW.PrintWords Go.Proofs.YthlbbngmgioamaaDoorW.PrintLast
set_option linter.unusedVariables false
set_option linter.unusedSimpArgs false
theorem w64 {n : Int} (h0 : -9223372036854775808 ≤ n) (h1 : n ≤ 9223372036854775807) : wrap64 n = n := by unfold wrap64; omega
theorem wf_bd {n : Int} (h : (Lit.int .i64 n).wf = true) : -9223372036854775808 ≤ n ∧ n ≤ 9223372036854775807 := by
  unfold Lit.wf at h
  rw [Bool.and_eq_true] at h
  exact ⟨of_decide_eq_true h.1, of_decide_eq_true h.2⟩

theorem in_eq (a b c : Int) : impl_in.f a b c = some (decide (b ≤ a ∧ a ≤ c)) := by
  unfold impl_in.f
  by_cases h1 : b ≤ a <;> by_cases h2 : a ≤ c <;> simp [h1, h2]
theorem l1In_eq (a b c : Int) : spec_l1In.f a b c = some (decide (b ≤ a ∧ a ≤ c)) := by
  unfold spec_l1In.f
  by_cases h1 : b ≤ a <;> by_cases h2 : a ≤ c <;> simp [h1, h2]

theorem wN (n : Nat) (h : n ≤ 1000000000000) : wrap64 ((n : Int) + 1) = ((n + 1 : Nat) : Int) := by rw [w64 (by omega) (by omega)]; omega
theorem toI_from (L : List Int) (hL : L.length ≤ 1048576) : ∀ (d i k : Nat) (M : List Int), i + d = L.length → M.length = L.length → M.take i = L.take i → d < k → laws_toIntS.l0 k L M (i : Int) = some L := by
  intro d
  induction d with
  | zero =>
    intro i k M hd hM ht hk
    obtain ⟨k, rfl⟩ : ∃ m, k = m + 1 := ⟨k - 1, by omega⟩
    rw [laws_toIntS.l0.eq_2, if_neg (by omega)]
    rw [List.take_of_length_le (by omega), List.take_of_length_le (by omega)] at ht
    rw [ht]
  | succ d ih =>
    intro i k M hd hM ht hk
    obtain ⟨k, rfl⟩ : ∃ m, k = m + 1 := ⟨k - 1, by omega⟩
    rw [laws_toIntS.l0.eq_2, if_pos (by omega), if_pos (by omega), if_pos (by omega), wN i (by omega), Int.toNat_natCast]
    refine ih (i + 1) k _ (by omega) (by rw [List.length_set]; omega) ?_ (by omega)
    have hi : i < L.length := by omega
    rw [List.take_succ_eq_append_getElem (by rw [List.length_set]; omega), List.take_succ_eq_append_getElem hi, List.take_set_of_le (Nat.le_refl i), ht, List.getElem_set_self]
    congr 2
    unfold rd
    rw [Int.toNat_natCast, List.getD_eq_getElem?_getD, List.getElem?_eq_getElem hi]; rfl
theorem toI_run (L : List Int) (hL : L.length ≤ 1048576) {k : Nat} (hk : L.length < k) : laws_toIntS.f k L = some L := by
  unfold laws_toIntS.f
  rw [if_pos (by omega), Int.toNat_natCast, if_pos (by omega)]
  exact toI_from L hL L.length 0 k _ (by omega) (by simp) (by simp) hk
theorem eqI_from (L : List Int) (hL : L.length ≤ 1048576) : ∀ (d i k : Nat), i + d = L.length → d < k → laws_eqIntS.l0 k L L (i : Int) = some true := by
  intro d
  induction d with
  | zero =>
    intro i k hd hk
    obtain ⟨k, rfl⟩ : ∃ m, k = m + 1 := ⟨k - 1, by omega⟩
    rw [laws_eqIntS.l0.eq_2, if_neg (by omega)]
  | succ d ih =>
    intro i k hd hk
    obtain ⟨k, rfl⟩ : ∃ m, k = m + 1 := ⟨k - 1, by omega⟩
    rw [laws_eqIntS.l0.eq_2, if_pos (by omega), if_pos (by omega), if_pos (by omega), if_pos rfl, wN i (by omega)]
    exact ih (i + 1) k (by omega) (by omega)
theorem eqI_run (L : List Int) (hL : L.length ≤ 1048576) {k : Nat} (hk : L.length < k) : laws_eqIntS.f k L L = some true := by
  unfold laws_eqIntS.f
  rw [if_pos rfl]
  exact eqI_from L hL L.length 0 k (by omega) hk

/-- Whether all numbers are in a range. -/
def allIn (lo hi : Int) (L : List Int) : Bool := L.all fun x => decide (lo ≤ x ∧ x ≤ hi)
theorem allIn_drop (lo hi : Int) (L : List Int) (i : Nat) (h : i < L.length) : allIn lo hi (L.drop i) = (decide (lo ≤ rd L (i : Int) ∧ rd L (i : Int) ≤ hi) && allIn lo hi (L.drop (i + 1))) := by
  unfold allIn
  rw [List.drop_eq_getElem_cons h, List.all_cons]
  have : rd L (i : Int) = L[i] := by
    unfold rd
    rw [Int.toNat_natCast, List.getD_eq_getElem?_getD, List.getElem?_eq_getElem h]; rfl
  rw [this]
theorem all_from (lo hi : Int) (L : List Int) (hL : L.length ≤ 1048576) : ∀ (d i k : Nat), i + d = L.length → d < k → spec_l1All.l0 k lo hi L (L.length : Int) (i : Int) = some (allIn lo hi (L.drop i)) := by
  intro d
  induction d with
  | zero =>
    intro i k hd hk
    obtain ⟨k, rfl⟩ : ∃ m, k = m + 1 := ⟨k - 1, by omega⟩
    rw [spec_l1All.l0.eq_2, if_neg (by omega), List.drop_of_length_le (by omega)]; rfl
  | succ d ih =>
    intro i k hd hk
    obtain ⟨k, rfl⟩ : ∃ m, k = m + 1 := ⟨k - 1, by omega⟩
    rw [spec_l1All.l0.eq_2, if_pos (by omega), if_pos (by omega), if_pos (by omega), l1In_eq, Option.bind_some, allIn_drop lo hi L i (by omega)]
    by_cases h : lo ≤ rd L (i : Int) ∧ rd L (i : Int) ≤ hi
    · rw [if_pos (by simpa using h), decide_eq_true h, Bool.true_and, wN i (by omega)]
      exact ih (i + 1) k (by omega) (by omega)
    · rw [if_neg (by simpa using h), decide_eq_false h, Bool.false_and]
theorem all_run (lo hi : Int) (L : List Int) (hL : L.length ≤ 1048576) {k : Nat} (hk : L.length < k) : spec_l1All.f k L lo hi = some (allIn lo hi L) := by
  unfold spec_l1All.f
  exact all_from lo hi L hL L.length 0 k (by omega) hk
theorem any_out (lo hi : Int) (L : List Int) : (L.any fun x => outB lo hi x) = !allIn lo hi L := by
  unfold allIn
  rw [List.not_all_eq_any_not]
  congr 1; funext x
  unfold outB
  congr 1
  rw [Bool.decide_and]

/-- Whether two rows are levels. -/
def levB (a b : List Int) : Bool := decide (1 ≤ a.length ∧ a.length ≤ 6) && (decide (b.length = a.length) && (allIn (-5) 5 a && allIn 1 5 b))
theorem spec_lev (a b : List Int) {k : Nat} (hk : 7 ≤ k) : spec_kiLevels.f k a b = some (levB a b) := by
  unfold spec_kiLevels.f levB
  rw [l1In_eq, Option.bind_some]
  by_cases h1 : 1 ≤ a.length ∧ a.length ≤ 6
  · rw [if_pos (by simpa using (by omega : (1 : Int) ≤ a.length ∧ (a.length : Int) ≤ 6)), decide_eq_true h1, Bool.true_and]
    by_cases h2 : b.length = a.length
    · rw [if_pos (by omega), decide_eq_true h2, Bool.true_and, all_run (-5) 5 a (by omega) (by omega), Option.bind_some]
      cases allIn (-5) 5 a with
      | true => rw [if_pos rfl, all_run 1 5 b (by omega) (by omega), Option.bind_some, Bool.true_and]
      | false => rfl
    · rw [if_neg (by omega), decide_eq_false h2, Bool.false_and]
  · rw [if_neg (by simpa using (by omega : ¬ ((1 : Int) ≤ a.length ∧ (a.length : Int) ≤ 6))), decide_eq_false h1, Bool.false_and]
theorem impl_lev (a b : List Int) : impl_IsLevels.f a b = some (levB a b) := by
  unfold impl_IsLevels.f levB
  rw [any_out, any_out]
  by_cases h2 : b.length = a.length
  · rw [if_pos (by omega), decide_eq_true h2, Bool.true_and]
    by_cases h1 : 1 ≤ a.length ∧ a.length ≤ 6
    · rw [if_pos (by omega), decide_eq_true h1, Bool.true_and]
      cases allIn (-5) 5 a <;> simp
    · rw [if_neg (by omega), decide_eq_false h1, Bool.false_and]
  · rw [if_neg (by omega), decide_eq_false h2, Bool.false_and, Bool.and_false]
theorem toL_run (a b : List Int) (ha : a.length ≤ 1048576) (hb : b.length ≤ 1048576) {k : Nat} (hk : 1048576 < k) : laws_toLevels.f k a b = some (a, b) := by
  unfold laws_toLevels.f
  rw [toI_run a ha (by omega), Option.bind_some, toI_run b hb (by omega), Option.bind_some]
theorem eqL_run (a b : List Int) (ha : a.length ≤ 1048576) (hb : b.length ≤ 1048576) {k : Nat} (hk : 1048576 < k) : laws_eqLevels.f k a b a b = some true := by
  unfold laws_eqLevels.f
  rw [eqI_run a ha (by omega), Option.bind_some, if_pos rfl, eqI_run b hb (by omega), Option.bind_some, if_pos rfl]
theorem sz_run (a b : List Int) (ha : a.length ≤ 9223372036854775807) (hb : b.length ≤ 9223372036854775807) : ∃ z, laws_szLevels.f a b 1048576 = some z ∧ (z < 0 ∨ a.length ≤ 1048576 ∧ b.length ≤ 1048576) := by
  unfold laws_szLevels.f laws_szIntS.f
  rw [w64 (n := 1048576 - (a.length : Int)) (by omega) (by omega)]
  by_cases h1 : 1048576 - (a.length : Int) < 0
  · rw [if_pos h1, Option.bind_some, if_pos (by omega)]; exact ⟨_, rfl, .inl (by omega)⟩
  · rw [if_neg h1, Option.bind_some, if_neg h1, w64 (n := 1048576 - (a.length : Int) - (b.length : Int)) (by omega) (by omega)]
    by_cases h2 : 1048576 - (a.length : Int) - (b.length : Int) < 0
    · rw [if_pos h2, Option.bind_some, if_pos (by omega)]; exact ⟨_, rfl, .inl (by omega)⟩
    · rw [if_neg h2, Option.bind_some, if_neg h2]; exact ⟨_, rfl, .inr (by omega)⟩

/- a text of some letters alone -/
theorem dropWhile_nil {α : Type} (p : α → Bool) : ∀ l : List α, l.dropWhile p = [] ↔ ∀ x ∈ l, p x = true
  | [] => by simp
  | a :: l => by
    have ih := dropWhile_nil p l
    by_cases h : p a = true
    · rw [List.dropWhile_cons_of_pos h, ih]; simp [h]
    · rw [List.dropWhile_cons_of_neg h]; simp [h]
theorem dropWhile_all {α : Type} (p : α → Bool) : ∀ l : List α, (∀ x ∈ l.dropWhile p, p x = true) → l.dropWhile p = []
  | [], _ => rfl
  | a :: l, h => by
    by_cases ha : p a = true
    · rw [List.dropWhile_cons_of_pos ha] at h ⊢; exact dropWhile_all p l h
    · rw [List.dropWhile_cons_of_neg ha] at h; exact absurd (h a (by simp)) ha
theorem trimS_nil (l cs : List UInt8) : Lib.trimS l cs = [] ↔ ∀ c ∈ l, cs.contains c = true := by
  unfold Lib.trimS Lib.trimLeftS Lib.trimRightS
  rw [dropWhile_nil]
  constructor
  · intro h
    have h' : ∀ x ∈ l.reverse.dropWhile (cs.contains ·), cs.contains x = true := fun x hx => h x (by simpa using hx)
    have := dropWhile_all _ _ h'
    rw [dropWhile_nil] at this
    exact fun c hc => this c (by simpa using hc)
  · intro h x hx
    have : l.reverse.dropWhile (cs.contains ·) = [] := (dropWhile_nil _ _).2 (fun c hc => h c (by simpa using hc))
    rw [this] at hx; simp at hx
theorem bt_get (s : ByteArray) (i : Nat) (h : i < s.size) : bt s (i : Int) = ((s.data.toList[i]'(by rw [Array.length_toList]; exact h)).toNat : Int) := by
  unfold bt
  rw [dif_pos (by rw [Int.toNat_natCast]; exact h)]
  rfl
/-- All letters of s are among some: told by place. -/
theorem all_at (s : ByteArray) (p : UInt8 → Bool) (q : Int → Bool) (hpq : ∀ c : UInt8, p c = q (c.toNat : Int)) : (∀ c ∈ s.data.toList, p c = true) ↔ ∀ i : Nat, i < s.size → q (bt s (i : Int)) = true := by
  constructor
  · intro h i hi
    rw [bt_get s i hi, ← hpq]
    exact h _ (List.getElem_mem _)
  · intro h c hc
    obtain ⟨i, hi, rfl⟩ := List.getElem_of_mem hc
    have hi' : i < s.size := by rw [Array.length_toList] at hi; exact hi
    have := h i hi'
    rw [bt_get s i hi', ← hpq] at this
    exact this
theorem empty_eq (l : List UInt8) : ((⟨l.toArray⟩ : ByteArray).toList == ([] : List UInt8)) = decide (l = []) := by
  rw [Lib.toList_data]
  simp only [List.toList_toArray]
  cases l <;> rfl
theorem trim_run (s cs : ByteArray) (hs : s.size ≤ 9223372036854775807) (hc : cs.size < 4294967281) (ha : cs.data.toList.all (fun b => decide (b.toNat < 128)) = true) : strings_Trim.f s cs = some ⟨(Lib.trimS s.data.toList cs.data.toList).toArray⟩ := by
  unfold strings_Trim.f
  rw [if_pos (by omega), if_pos hc, if_pos ha]

theorem made_run (s cs : ByteArray) (q : Int → Bool) (hs : s.size ≤ 9223372036854775807) (hc : cs.size < 4294967281) (ha : cs.data.toList.all (fun b => decide (b.toNat < 128)) = true) (hpq : ∀ c : UInt8, cs.data.toList.contains c = q (c.toNat : Int)) :
    ∃ b : Bool, impl_isMade.f s cs = some b ∧ (b = true ↔ ∀ i : Nat, i < s.size → q (bt s (i : Int)) = true) := by
  unfold impl_isMade.f
  rw [trim_run s cs hs hc ha, Option.bind_some, empty_eq]
  refine ⟨_, rfl, ?_⟩
  rw [decide_eq_true_iff, trimS_nil]
  exact all_at s (fun c => cs.data.toList.contains c) q hpq

def q3 (x : Int) : Bool := x == 85 || x == 68 || x == 70
theorem q3_of (c : UInt8) : (⟨#[85, 68, 70]⟩ : ByteArray).data.toList.contains c = q3 (c.toNat : Int) := by
  have h : ∀ n : Fin 256, (⟨#[85, 68, 70]⟩ : ByteArray).data.toList.contains (UInt8.ofNat n.val) = q3 ((UInt8.ofNat n.val).toNat : Int) := by decide +kernel
  have := h ⟨c.toNat, c.toNat_lt⟩
  simpa using this
theorem spec_bad (s : ByteArray) (hs : s.size ≤ 12) (j : Nat) (hj : j < s.size) (hb : q3 (bt s (j : Int)) = false) : ∀ (d i k : Nat) (h : Int), i + d = s.size → i ≤ j → 0 ≤ h → h ≤ i → d < k → spec_kiMixed.l0 k s h (i : Int) = some false := by
  intro d
  induction d with
  | zero => intro i k h hd hij _ _ hk; omega
  | succ d ih =>
    intro i k h hd hij h0 h1 hk
    obtain ⟨k, rfl⟩ : ∃ m, k = m + 1 := ⟨k - 1, by omega⟩
    rw [spec_kiMixed.l0.eq_2, if_pos (by omega), if_pos (by omega)]
    have next : ∀ h' : Int, 0 ≤ h' → h' ≤ i + 1 → i ≠ j → spec_kiMixed.l0 k s h' (wrap64 ((i : Int) + 1)) = some false := fun h' a b ne => by
      rw [w64 (by omega) (by omega)]
      exact ih (i + 1) k h' (by omega) (by omega) a (by omega) (by omega)
    by_cases e : i = j
    · subst e
      unfold q3 at hb
      simp only [Bool.or_eq_false_iff, beq_eq_false_iff_ne, ne_eq] at hb
      rw [if_neg hb.1.1, if_neg hb.1.2, if_neg hb.2]
    · by_cases c1 : bt s (i : Int) = 85
      · rw [if_pos c1, w64 (n := h + 1) (by omega) (by omega), if_neg (by omega)]; exact next _ (by omega) (by omega) e
      · rw [if_neg c1]
        by_cases c2 : bt s (i : Int) = 68
        · rw [if_pos c2, w64 (n := h - 1) (by omega) (by omega)]
          by_cases c : h - 1 < 0
          · rw [if_pos c]
          · rw [if_neg c]; exact next _ (by omega) (by omega) e
        · rw [if_neg c2]
          by_cases c3 : bt s (i : Int) = 70
          · rw [if_pos c3, if_neg (by omega)]; exact next _ (by omega) (by omega) e
          · rw [if_neg c3]
theorem same_good (s : ByteArray) (hs : s.size ≤ 12) (hg : ∀ i : Nat, i < s.size → q3 (bt s (i : Int)) = true) : ∀ (d i k : Nat) (h : Int), i + d = s.size → 0 ≤ h → h ≤ i → d < k → ∃ b, spec_kiMixed.l0 k s h (i : Int) = some b ∧ impl_IsMixed.l0 k s h (s.size : Int) (i : Int) = some b := by
  intro d
  induction d with
  | zero =>
    intro i k h hd _ _ hk
    obtain ⟨k, rfl⟩ : ∃ m, k = m + 1 := ⟨k - 1, by omega⟩
    rw [spec_kiMixed.l0.eq_2, impl_IsMixed.l0.eq_2, if_neg (by omega), if_neg (by omega)]
    exact ⟨_, rfl, rfl⟩
  | succ d ih =>
    intro i k h hd h0 h1 hk
    obtain ⟨k, rfl⟩ : ∃ m, k = m + 1 := ⟨k - 1, by omega⟩
    have next : ∀ h' : Int, 0 ≤ h' → h' ≤ i + 1 → ∃ b, spec_kiMixed.l0 k s h' (wrap64 ((i : Int) + 1)) = some b ∧ impl_IsMixed.l0 k s h' (s.size : Int) (wrap64 ((i : Int) + 1)) = some b := fun h' a b => by
      rw [w64 (by omega) (by omega)]
      exact ih (i + 1) k h' (by omega) a (by omega) (by omega)
    have hq := hg i (by omega)
    unfold q3 at hq
    simp only [Bool.or_eq_true, beq_iff_eq] at hq
    have lhs : ∀ t : Int, impl_rise.f (bt s (i : Int)) = some t → impl_IsMixed.l0 (k + 1) s h (s.size : Int) (i : Int) = if wrap64 (h + t) < 0 then some false else impl_IsMixed.l0 k s (wrap64 (h + t)) (s.size : Int) (wrap64 ((i : Int) + 1)) := fun t ht => by
      rw [impl_IsMixed.l0.eq_2, if_pos (by omega), if_pos (by omega), if_pos (by omega), ht, Option.bind_some]
    rcases hq with (c | c) | c
    · obtain ⟨b, e1, e2⟩ := next (h + 1) (by omega) (by omega)
      refine ⟨b, ?_, ?_⟩
      · rw [spec_kiMixed.l0.eq_2, if_pos (by omega), if_pos (by omega), if_pos c, w64 (n := h + 1) (by omega) (by omega), if_neg (by omega)]; exact e1
      · rw [lhs 1 (by unfold impl_rise.f; rw [if_pos c]), w64 (n := h + 1) (by omega) (by omega), if_neg (by omega)]; exact e2
    · by_cases cn : h - 1 < 0
      · refine ⟨false, ?_, ?_⟩
        · rw [spec_kiMixed.l0.eq_2, if_pos (by omega), if_pos (by omega), if_neg (by omega), if_pos c, w64 (n := h - 1) (by omega) (by omega), if_pos cn]
        · rw [lhs (-1) (by unfold impl_rise.f; rw [if_neg (by omega), if_pos c]), show h + -1 = h - 1 from rfl, w64 (n := h - 1) (by omega) (by omega), if_pos cn]
      · obtain ⟨b, e1, e2⟩ := next (h - 1) (by omega) (by omega)
        refine ⟨b, ?_, ?_⟩
        · rw [spec_kiMixed.l0.eq_2, if_pos (by omega), if_pos (by omega), if_neg (by omega), if_pos c, w64 (n := h - 1) (by omega) (by omega), if_neg cn]; exact e1
        · rw [lhs (-1) (by unfold impl_rise.f; rw [if_neg (by omega), if_pos c]), show h + -1 = h - 1 from rfl, w64 (n := h - 1) (by omega) (by omega), if_neg cn]; exact e2
    · obtain ⟨b, e1, e2⟩ := next h (by omega) (by omega)
      refine ⟨b, ?_, ?_⟩
      · rw [spec_kiMixed.l0.eq_2, if_pos (by omega), if_pos (by omega), if_neg (by omega), if_neg (by omega), if_pos c, if_neg (by omega)]; exact e1
      · rw [lhs 0 (by unfold impl_rise.f; rw [if_neg (by omega), if_neg (by omega)]), Int.add_zero, w64 (n := h) (by omega) (by omega), if_neg (by omega)]; exact e2
theorem mixed_run (s : ByteArray) (hs : s.size ≤ 140737488351232) {k : Nat} (hk : 20 ≤ k) : ∃ b, spec_kiMixed.f k s = some b ∧ impl_IsMixed.f k s = some b := by
  unfold spec_kiMixed.f impl_IsMixed.f
  obtain ⟨k, rfl⟩ : ∃ m, k = m + 1 := ⟨k - 1, by omega⟩
  by_cases h : (s.size : Int) > 12
  · rw [if_pos h, if_pos h, impl_IsMixed.j0.eq_2, if_pos rfl]; exact ⟨_, rfl, rfl⟩
  · rw [if_neg h, if_neg h]
    obtain ⟨b, hb, hb'⟩ := made_run s ⟨#[85, 68, 70]⟩ q3 (by omega) (by decide) (by decide) q3_of
    rw [hb, Option.bind_some, impl_IsMixed.j0.eq_2]
    cases b with
    | true =>
      rw [if_neg (by decide)]
      obtain ⟨r, h1, h2⟩ := same_good s (by omega) (hb'.1 rfl) s.size 0 k 0 (by omega) (by omega) (by omega) (by omega)
      exact ⟨r, (spec_kiMixed.mono_l k _ _ _) _ h1, h2⟩
    | false =>
      rw [if_pos (by decide)]
      have : ¬ ∀ i : Nat, i < s.size → q3 (bt s (i : Int)) = true := fun h => by cases hb'.2 h
      obtain ⟨j, hj⟩ := Classical.not_forall.1 this
      obtain ⟨hj1, hj2⟩ := Classical.not_imp.1 hj
      exact ⟨false, spec_bad s (by omega) j hj1 (by simpa using hj2) s.size 0 (k + 1) 0 (by omega) (by omega) (by omega) (by omega) (by omega), rfl⟩

theorem weigh (s : ByteArray) (hs : s.size ≤ 12) (a b : List Int) (hab : b.length = a.length) (ha : a.length ≤ 6) : ∀ (d i k k' : Nat) (h x : Int), i + d = s.size → 0 ≤ h → h ≤ i → spec_kiMixed.l0 k' s h (i : Int) = some true → d < k →
    ∃ r, spec_WeightOf.l0 k s x h (i : Int) a b = some r ∧ impl_WeightOf.l0 k s x h (s.size : Int) (i : Int) a b = some r := by
  intro d
  induction d with
  | zero =>
    intro i k k' h x hd h0 h1 hm hk
    obtain ⟨k, rfl⟩ : ∃ m, k = m + 1 := ⟨k - 1, by omega⟩
    rw [spec_WeightOf.l0.eq_2, impl_WeightOf.l0.eq_2, if_neg (by omega), if_neg (by omega)]
    exact ⟨_, rfl, rfl⟩
  | succ d ih =>
    intro i k k' h x hd h0 h1 hm hk
    obtain ⟨k, rfl⟩ : ∃ m, k = m + 1 := ⟨k - 1, by omega⟩
    obtain ⟨k', rfl⟩ : ∃ m, k' = m + 1 := by
      cases k' with
      | zero => simp [spec_kiMixed.l0] at hm
      | succ m => exact ⟨m, rfl⟩
    rw [spec_kiMixed.l0.eq_2, if_pos (by omega), if_pos (by omega), wN i (by omega)] at hm
    have es : spec_WeightOf.l0 (k + 1) s x h (i : Int) a b = _ := spec_WeightOf.l0.eq_2 ..
    have em : impl_WeightOf.l0 (k + 1) s x h (s.size : Int) (i : Int) a b = _ := impl_WeightOf.l0.eq_2 ..
    rw [if_pos (by omega), if_pos (by omega), wN i (by omega)] at es
    rw [if_pos (by omega), if_pos (by omega), if_pos (by omega), wN i (by omega)] at em
    unfold impl_rise.f at em
    rw [es, em]
    clear es em
    by_cases c1 : bt s (i : Int) = 85
    · rw [if_pos c1, w64 (n := h + 1) (by omega) (by omega), if_neg (by omega)] at hm
      rw [if_pos c1, if_pos c1, Option.bind_some, if_pos c1, w64 (n := h + 1) (by omega) (by omega)]
      exact ih (i + 1) k k' (h + 1) x (by omega) (by omega) (by omega) hm (by omega)
    · rw [if_neg c1] at hm
      rw [if_neg c1, if_neg c1]
      by_cases c2 : bt s (i : Int) = 68
      · rw [if_pos c2, w64 (n := h - 1) (by omega) (by omega)] at hm
        by_cases cn : h - 1 < 0
        · rw [if_pos cn] at hm; cases hm
        · rw [if_neg cn] at hm
          rw [if_neg (by omega), if_pos c2, Option.bind_some, if_neg c1, show h + -1 = h - 1 from rfl, w64 (n := h - 1) (by omega) (by omega)]
          by_cases cl : h - 1 ≥ (a.length : Int)
          · rw [if_pos (by omega), if_pos (by omega)]; exact ⟨_, rfl, rfl⟩
          · rw [if_neg (by omega), if_pos (by omega), if_pos (by omega), if_neg (by omega), if_neg (by omega), if_pos (by omega), if_pos (by omega)]
            exact ih (i + 1) k k' (h - 1) _ (by omega) (by omega) (by omega) hm (by omega)
      · rw [if_neg c2] at hm
        by_cases c3 : bt s (i : Int) = 70
        · rw [if_pos c3, if_neg (by omega)] at hm
          rw [if_pos c3, if_neg c2, Option.bind_some, if_neg c1, Int.add_zero, w64 (n := h) (by omega) (by omega)]
          by_cases cl : h ≥ (a.length : Int)
          · rw [if_pos cl, if_pos cl]; exact ⟨_, rfl, rfl⟩
          · rw [if_neg cl, if_neg cl, if_pos (by omega), if_pos (by omega), if_pos c3, if_pos (by omega), if_pos (by omega)]
            exact ih (i + 1) k k' h _ (by omega) (by omega) (by omega) hm (by omega)
        · rw [if_neg c3] at hm; cases hm
theorem weights_run (a b : List Int) (s : ByteArray) (hs : s.size ≤ 140737488351232) {k : Nat} (hk : 30 ≤ k) : ∃ r, spec_WeightOf.f k a b s = some r ∧ impl_WeightOf.f k a b s = some r := by
  unfold spec_WeightOf.f impl_WeightOf.f
  obtain ⟨k, rfl⟩ : ∃ m, k = m + 1 := ⟨k - 1, by omega⟩
  rw [spec_lev a b (by omega), impl_lev, Option.bind_some, Option.bind_some]
  by_cases hl : levB a b = true
  · rw [if_pos hl, if_pos hl]
    obtain ⟨m, h1, h2⟩ := mixed_run s hs (k := k + 1) (by omega)
    rw [h1, h2, Option.bind_some, Option.bind_some, spec_WeightOf.j0.eq_2, impl_WeightOf.j0.eq_2]
    cases m with
    | false => exact ⟨(0, false), rfl, rfl⟩
    | true =>
      rw [if_neg (by decide), if_neg (by decide)]
      unfold spec_kiMixed.f at h1
      by_cases hsz : (s.size : Int) > 12
      · rw [if_pos hsz] at h1; cases h1
      · rw [if_neg hsz] at h1
        unfold levB at hl
        rw [Bool.and_eq_true, Bool.and_eq_true] at hl
        exact weigh s (by omega) a b (of_decide_eq_true hl.2.1) (of_decide_eq_true hl.1).2 s.size 0 k (k + 1) 0 1 (by omega) (by omega) (by omega) h1 (by omega)
  · rw [if_neg hl, if_neg hl, spec_WeightOf.j0.eq_2, impl_WeightOf.j0.eq_2, if_pos rfl, if_pos rfl]; exact ⟨_, rfl, rfl⟩
theorem FnExactWeightOf : ∀ (l0_0 : List Int) (l0_1 : List Int) (a1 : ByteArray), (l0_0.length ≤ 9223372036854775807 ∧ ∀ n ∈ l0_0, (Lit.int .i64 n).wf = true) → (l0_1.length ≤ 9223372036854775807 ∧ ∀ n ∈ l0_1, (Lit.int .i64 n).wf = true) → a1.size ≤ 140737488351232 → ∃ k, laws_FnExactWeightOf.f k l0_0 l0_1 a1 = some true := by
  intro a b s ⟨ha, _⟩ ⟨hb, _⟩ hs
  obtain ⟨K, hK⟩ : ∃ K : Nat, 1048600 < K := ⟨1048601, by omega⟩
  refine ⟨K + 1, ?_⟩
  unfold laws_FnExactWeightOf.f
  by_cases hsz : (s.size : Int) > 1048576
  · rw [if_pos hsz]
  obtain ⟨z, hz, hz'⟩ := sz_run a b ha hb
  rw [if_neg hsz, hz, Option.bind_some]
  by_cases h : z < 0
  · rw [if_pos h]
  · obtain ⟨h1, h2⟩ := hz'.resolve_left h
    obtain ⟨r, e1, e2⟩ := weights_run a b s hs (k := K + 1) (by omega)
    rw [if_neg h, toL_run a b h1 h2 (by omega), Option.bind_some]
    rw [e1, Option.bind_some, Option.bind_some, e2, Option.bind_some, if_pos rfl, laws_FnExactWeightOf.j0.eq_2, if_neg (by simp), toL_run a b h1 h2 (by omega), Option.bind_some]
    rw [eqL_run a b h1 h2 (by omega), Option.bind_some, if_pos rfl]
end Go.Proofs.YthlbbngmgioamaaDoor.Pure
