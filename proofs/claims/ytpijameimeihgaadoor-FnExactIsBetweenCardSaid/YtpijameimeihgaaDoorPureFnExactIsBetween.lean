/- A path between walls: the reference looks at each height, the program at the least and the greatest. No condition. -/
import Derived.Test.YtpijameimeihgaaDoorOFnExactIsBetweenx3
namespace Go.Proofs.YtpijameimeihgaaDoor.Pure
open Go.RowKit Go.Proofs.YtpijameimeihgaaDoor.Stub Go.Proofs.YtpijameimeihgaaDoor.OFnExactIsBetween Go.Proofs.YtpijameimeihgaaDoorW.PrintWords Go.Proofs.YtpijameimeihgaaDoorW.PrintLast
set_option linter.unusedVariables false
set_option linter.unusedSimpArgs false
theorem w64 {n : Int} (h0 : -9223372036854775808 ≤ n) (h1 : n ≤ 9223372036854775807) : wrap64 n = n := by unfold wrap64; omega
theorem wf_bd {n : Int} (h : (Lit.int .i64 n).wf = true) : -9223372036854775808 ≤ n ∧ n ≤ 9223372036854775807 := by
  unfold Lit.wf at h
  rw [Bool.and_eq_true] at h
  exact ⟨of_decide_eq_true h.1, of_decide_eq_true h.2⟩

/- a text of some letters alone -/
theorem dropWhile_nil {α : Type} (p : α → Bool) : ∀ l : List α, l.dropWhile p = [] ↔ ∀ x ∈ l, p x = true
  | [] => by simp
  | a :: l => by
    have ih := dropWhile_nil p l
    by_cases h : p a = true
    · rw [List.dropWhile_cons_of_pos h, ih]; simp [h]
    · rw [List.dropWhile_cons_of_neg h]; simp [h]
theorem dropWhile_all {α : Type} (p : α → Bool) : ∀ l : List α, (∀ x ∈ l.dropWhile p, p x = true) → l.dropWhile p = []
  | [], _ => rfl
  | a :: l, h => by
    by_cases ha : p a = true
    · rw [List.dropWhile_cons_of_pos ha] at h ⊢; exact dropWhile_all p l h
    · rw [List.dropWhile_cons_of_neg ha] at h; exact absurd (h a (by simp)) ha
theorem trimS_nil (l cs : List UInt8) : Lib.trimS l cs = [] ↔ ∀ c ∈ l, cs.contains c = true := by
  unfold Lib.trimS Lib.trimLeftS Lib.trimRightS
  rw [dropWhile_nil]
  constructor
  · intro h
    have h' : ∀ x ∈ l.reverse.dropWhile (cs.contains ·), cs.contains x = true := fun x hx => h x (by simpa using hx)
    have := dropWhile_all _ _ h'
    rw [dropWhile_nil] at this
    exact fun c hc => this c (by simpa using hc)
  · intro h x hx
    have : l.reverse.dropWhile (cs.contains ·) = [] := (dropWhile_nil _ _).2 (fun c hc => h c (by simpa using hc))
    rw [this] at hx; simp at hx
theorem bt_get (s : ByteArray) (i : Nat) (h : i < s.size) : bt s (i : Int) = ((s.data.toList[i]'(by rw [Array.length_toList]; exact h)).toNat : Int) := by
  unfold bt
  rw [dif_pos (by rw [Int.toNat_natCast]; exact h)]
  rfl
/-- All letters of s are among some: told by place. -/
theorem all_at (s : ByteArray) (p : UInt8 → Bool) (q : Int → Bool) (hpq : ∀ c : UInt8, p c = q (c.toNat : Int)) : (∀ c ∈ s.data.toList, p c = true) ↔ ∀ i : Nat, i < s.size → q (bt s (i : Int)) = true := by
  constructor
  · intro h i hi
    rw [bt_get s i hi, ← hpq]
    exact h _ (List.getElem_mem _)
  · intro h c hc
    obtain ⟨i, hi, rfl⟩ := List.getElem_of_mem hc
    have hi' : i < s.size := by rw [Array.length_toList] at hi; exact hi
    have := h i hi'
    rw [bt_get s i hi', ← hpq] at this
    exact this
theorem empty_eq (l : List UInt8) : ((⟨l.toArray⟩ : ByteArray).toList == ([] : List UInt8)) = decide (l = []) := by
  rw [Lib.toList_data]
  simp only [List.toList_toArray]
  cases l <;> rfl
theorem trim_run (s cs : ByteArray) (hs : s.size ≤ 9223372036854775807) (hc : cs.size < 4294967281) (ha : cs.data.toList.all (fun b => decide (b.toNat < 128)) = true) : strings_Trim.f s cs = some ⟨(Lib.trimS s.data.toList cs.data.toList).toArray⟩ := by
  unfold strings_Trim.f
  rw [if_pos (by omega), if_pos hc, if_pos ha]

def q2 (x : Int) : Bool := x == 85 || x == 68
theorem q2_of (c : UInt8) : (⟨#[85, 68]⟩ : ByteArray).data.toList.contains c = q2 (c.toNat : Int) := by
  have h : ∀ n : Fin 256, (⟨#[85, 68]⟩ : ByteArray).data.toList.contains (UInt8.ofNat n.val) = q2 ((UInt8.ofNat n.val).toNat : Int) := by decide +kernel
  have := h ⟨c.toNat, c.toNat_lt⟩
  simpa using this
theorem paGood_l0 (s : ByteArray) (hs : s.size ≤ 40) : ∀ (d i k : Nat), i + d = s.size → d < k → ∃ b : Bool, spec_paGood.l0 k s (i : Int) = some b ∧ (b = true ↔ ∀ j : Nat, i ≤ j → j < s.size → q2 (bt s (j : Int)) = true) := by
  intro d
  induction d with
  | zero =>
    intro i k hd hk
    obtain ⟨k, rfl⟩ : ∃ m, k = m + 1 := ⟨k - 1, by omega⟩
    rw [spec_paGood.l0.eq_2, if_neg (by omega)]
    exact ⟨true, rfl, by simp; intro j h1 h2; omega⟩
  | succ d ih =>
    intro i k hd hk
    obtain ⟨k, rfl⟩ : ∃ m, k = m + 1 := ⟨k - 1, by omega⟩
    rw [spec_paGood.l0.eq_2, if_pos (by omega), if_pos (by omega), w64 (n := (i : Int) + 1) (by omega) (by omega)]
    obtain ⟨b, h1, h2⟩ := ih (i + 1) k (by omega) (by omega)
    rw [show ((i + 1 : Nat) : Int) = (i : Int) + 1 by omega] at h1
    by_cases c1 : bt s (i : Int) = 85 ∨ bt s (i : Int) = 68
    · refine ⟨b, ?_, ?_⟩
      · rcases c1 with c | c
        · rw [if_pos c]; exact h1
        · rw [if_neg (by omega), if_pos c]; exact h1
      · rw [h2]
        constructor
        · intro h j hj hj'
          by_cases e : j = i
          · subst e; unfold q2; rcases c1 with c | c <;> simp [c]
          · exact h j (by omega) hj'
        · intro h j hj hj'; exact h j (by omega) hj'
    · refine ⟨false, ?_, ?_⟩
      · rw [if_neg (by omega), if_neg (by omega)]
      · constructor
        · intro h; cases h
        · intro h
          have := h i (by omega) (by omega)
          unfold q2 at this
          simp only [Bool.or_eq_true, beq_iff_eq] at this
          exact absurd this c1
theorem path_run (s : ByteArray) (hs : s.size ≤ 140737488351232) : ∃ b : Bool, (∀ k, 50 ≤ k → spec_paGood.f k s = some b) ∧ impl_IsPath.f s = some b ∧ (b = true → s.size ≤ 40 ∧ ∀ j : Nat, j < s.size → bt s (j : Int) = 85 ∨ bt s (j : Int) = 68) := by
  by_cases h : s.size ≤ 40
  · obtain ⟨b, h1, h2⟩ := paGood_l0 s h s.size 0 50 (by omega) (by omega)
    refine ⟨b, fun k hk => ?_, ?_, fun hb => ⟨h, fun j hj => ?_⟩⟩
    · unfold spec_paGood.f
      rw [if_neg (by omega)]
      exact at_rounds (fun n => spec_paGood.mono_l n s 0) hk h1
    · unfold impl_IsPath.f
      rw [if_pos (by omega), trim_run s ⟨#[85, 68]⟩ (by omega) (by decide) (by decide), Option.bind_some, empty_eq]
      congr 1
      rw [Bool.eq_iff_iff, decide_eq_true_iff, trimS_nil, all_at s (fun c => (⟨#[85, 68]⟩ : ByteArray).data.toList.contains c) q2 q2_of, h2]
      exact ⟨fun h j _ hj => h j hj, fun h j hj => h j (Nat.zero_le _) hj⟩
    · have := h2.1 hb j (Nat.zero_le _) hj
      unfold q2 at this
      simpa using this
  · refine ⟨false, fun k hk => ?_, ?_, fun hb => by cases hb⟩
    · unfold spec_paGood.f; rw [if_pos (by omega)]
    · unfold impl_IsPath.f; rw [if_neg (by omega)]

theorem wn1 (n : Nat) (h : n ≤ 1000000) : wrap64 ((n : Int) + 1) = ((n + 1 : Nat) : Int) := by rw [w64 (by omega) (by omega)]; omega
theorem rd_mem' {L : List Int} {i : Nat} (h : i < L.length) : rd L (i : Int) ∈ L := by
  unfold rd
  rw [Int.toNat_natCast, List.getD_eq_getElem?_getD, List.getElem?_eq_getElem h]
  exact List.getElem_mem h
theorem heights_l0 (s : ByteArray) (hs : s.size ≤ 40) : ∀ (d i : Nat) (H : List Int), i + d = s.size → H.length = i + 1 → (∀ x ∈ H, -(i : Int) ≤ x ∧ x ≤ i) → rd H 0 = 0 →
    ∃ H' : List Int, H'.length = s.size + 1 ∧ (∀ x ∈ H', -40 ≤ x ∧ x ≤ 40) ∧ rd H' 0 = 0 ∧ (∀ k, d < k → spec_paHeights.l0 k s H (i : Int) = some H') ∧ (∀ k, d < k → impl_heights.l0 k s H (s.size : Int) (i : Int) = some H') := by
  intro d
  induction d with
  | zero =>
    intro i H hd hl hb h0
    refine ⟨H, by omega, fun x hx => by have := hb x hx; omega, h0, fun k hk => ?_, fun k hk => ?_⟩
    · obtain ⟨k, rfl⟩ : ∃ m, k = m + 1 := ⟨k - 1, by omega⟩
      rw [spec_paHeights.l0.eq_2, if_neg (by omega)]
    · obtain ⟨k, rfl⟩ : ∃ m, k = m + 1 := ⟨k - 1, by omega⟩
      rw [impl_heights.l0.eq_2, if_neg (by omega)]
  | succ d ih =>
    intro i H hd hl hb h0
    have hx := hb _ (rd_mem' (L := H) (i := i) (by omega))
    obtain ⟨t, ht⟩ : ∃ t : Int, t = if bt s (i : Int) = 68 then rd H (i : Int) - 1 else rd H (i : Int) + 1 := ⟨_, rfl⟩
    have htb : -((i + 1 : Nat) : Int) ≤ t ∧ t ≤ ((i + 1 : Nat) : Int) := by rw [ht]; split <;> omega
    have e0 : rd (H ++ [t]) 0 = 0 := by
      unfold rd at h0 ⊢
      rw [show (0 : Int).toNat = 0 from rfl] at h0 ⊢
      rw [List.getD_eq_getElem?_getD, List.getElem?_append_left (by omega), ← List.getD_eq_getElem?_getD]; exact h0
    obtain ⟨H', a1, a2, a3, a4, a5⟩ := ih (i + 1) (H ++ [t]) (by omega) (by simp; omega) (fun x hx => by
      rcases List.mem_append.1 hx with h | h
      · have := hb x h; omega
      · rw [List.mem_singleton.1 h]; exact htb) e0
    refine ⟨H', a1, a2, a3, fun k hk => ?_, fun k hk => ?_⟩
    · obtain ⟨k, rfl⟩ : ∃ m, k = m + 1 := ⟨k - 1, by omega⟩
      rw [spec_paHeights.l0.eq_2, if_pos (by omega), if_pos (by omega), if_pos (by omega), wn1 i (by omega), w64 (n := rd H (i : Int) - 1) (by omega) (by omega), w64 (n := rd H (i : Int) + 1) (by omega) (by omega), ← a4 k (by omega), ht]
      by_cases c : bt s (i : Int) = 68
      · rw [if_pos c, if_pos (by omega), if_pos c]
      · rw [if_neg c, if_pos (by omega), if_neg c]
    · obtain ⟨k, rfl⟩ : ∃ m, k = m + 1 := ⟨k - 1, by omega⟩
      rw [impl_heights.l0.eq_2, if_pos (by omega), if_pos (by omega), if_pos (by omega), wn1 i (by omega), show rd H (i : Int) + -1 = rd H (i : Int) - 1 from rfl, w64 (n := rd H (i : Int) - 1) (by omega) (by omega), w64 (n := rd H (i : Int) + 1) (by omega) (by omega), ← a5 k (by omega), ht]
      by_cases c : bt s (i : Int) = 68
      · rw [if_pos c, if_pos (by omega), if_pos (by omega), if_pos c]
      · rw [if_neg c, if_pos (by omega), if_pos (by omega), if_neg c]
theorem heights_run (s : ByteArray) (hs : s.size ≤ 40) : ∃ H : List Int, H.length = s.size + 1 ∧ (∀ x ∈ H, -40 ≤ x ∧ x ≤ 40) ∧ rd H 0 = 0 ∧ (∀ k, 50 ≤ k → spec_paHeights.f k s = some H) ∧ (∀ k, 50 ≤ k → impl_heights.f k s = some H) := by
  obtain ⟨H, a1, a2, a3, a4, a5⟩ := heights_l0 s hs s.size 0 [0] (by omega) rfl (by simp) rfl
  exact ⟨H, a1, a2, a3, fun k hk => a4 k (by omega), fun k hk => a5 k (by omega)⟩

theorem in_eq (a b c : Int) : impl_in.f a b c = some (decide (b ≤ a ∧ a ≤ c)) := by
  unfold impl_in.f
  by_cases h1 : b ≤ a <;> by_cases h2 : a ≤ c <;> simp [h1, h2]
theorem l1In_eq (a b c : Int) : spec_l1In.f a b c = some (decide (b ≤ a ∧ a ≤ c)) := by
  unfold spec_l1In.f
  by_cases h1 : b ≤ a <;> by_cases h2 : a ≤ c <;> simp [h1, h2]

theorem spec_all (a c : Int) (H : List Int) (hH : H.length ≤ 50) : ∀ (d i : Nat), i + d = H.length → ∃ b : Bool, (∀ k, d < k → spec_miBetween.l0 k a c H (H.length : Int) (i : Int) = some b) ∧ (b = true ↔ ∀ j : Nat, i ≤ j → j < H.length → a ≤ rd H (j : Int) ∧ rd H (j : Int) ≤ c) := by
  intro d
  induction d with
  | zero =>
    intro i hd
    refine ⟨true, fun k hk => ?_, ⟨fun _ j h1 h2 => by omega, fun _ => rfl⟩⟩
    obtain ⟨k, rfl⟩ : ∃ m, k = m + 1 := ⟨k - 1, by omega⟩
    rw [spec_miBetween.l0.eq_2, if_neg (by omega)]
  | succ d ih =>
    intro i hd
    have hw := wn1 i (by omega)
    obtain ⟨b, h1, h2⟩ := ih (i + 1) (by omega)
    by_cases g : a ≤ rd H (i : Int) ∧ rd H (i : Int) ≤ c
    · refine ⟨b, fun k hk => ?_, ?_⟩
      · obtain ⟨k, rfl⟩ : ∃ m, k = m + 1 := ⟨k - 1, by omega⟩
        rw [spec_miBetween.l0.eq_2, hw, if_pos (by clear hw; omega), if_pos (by clear hw; omega), if_pos (by clear hw; omega), l1In_eq, decide_eq_true g, Option.bind_some, if_pos rfl]
        exact h1 k (by omega)
      · rw [h2]
        constructor
        · intro h j hj hj'
          by_cases e : j = i
          · subst e; exact g
          · exact h j (by omega) hj'
        · intro h j hj hj'; exact h j (by omega) hj'
    · refine ⟨false, fun k hk => ?_, ⟨fun h => (by cases h), fun h => absurd (h i (Nat.le_refl _) (by omega)) g⟩⟩
      obtain ⟨k, rfl⟩ : ∃ m, k = m + 1 := ⟨k - 1, by omega⟩
      rw [spec_miBetween.l0.eq_2, if_pos (by omega), if_pos (by omega), if_pos (by omega), l1In_eq, decide_eq_false g, Option.bind_some, if_neg (by decide)]
theorem min_l0 (a : Int) (H : List Int) (hH : H.length ≤ 50) : ∀ (d i : Nat) (m : Int), i + d = H.length → ∃ r : Int, (∀ k, d < k → slices_Min_int_int.l0 k H m (i : Int) = some r) ∧ (a ≤ r ↔ a ≤ m ∧ ∀ j : Nat, i ≤ j → j < H.length → a ≤ rd H (j : Int)) := by
  intro d
  induction d with
  | zero =>
    intro i m hd
    refine ⟨m, fun k hk => ?_, ⟨fun h => ⟨h, fun j h1 h2 => by omega⟩, fun h => h.1⟩⟩
    obtain ⟨k, rfl⟩ : ∃ m, k = m + 1 := ⟨k - 1, by omega⟩
    rw [slices_Min_int_int.l0.eq_2, if_neg (by omega)]
  | succ d ih =>
    intro i m hd
    have hw := wn1 i (by omega)
    obtain ⟨r, h1, h2⟩ := ih (i + 1) (mn m (rd H (i : Int))) (by omega)
    have hm : a ≤ mn m (rd H (i : Int)) ↔ a ≤ m ∧ a ≤ rd H (i : Int) := by clear hw h1 h2; unfold mn; split <;> omega
    refine ⟨r, fun k hk => ?_, ?_⟩
    · obtain ⟨k, rfl⟩ : ∃ m, k = m + 1 := ⟨k - 1, by omega⟩
      rw [slices_Min_int_int.l0.eq_2, hw, if_pos (by clear hw; omega), if_pos (by clear hw; omega)]
      exact h1 k (by omega)
    · rw [h2, hm]
      constructor
      · rintro ⟨⟨q1, q2⟩, q3⟩
        refine ⟨q1, fun j hj hj' => ?_⟩
        by_cases e : j = i
        · subst e; exact q2
        · exact q3 j (by omega) hj'
      · rintro ⟨q1, q2⟩
        exact ⟨⟨q1, q2 i (Nat.le_refl _) (by omega)⟩, fun j hj hj' => q2 j (by omega) hj'⟩
theorem max_l0 (a : Int) (H : List Int) (hH : H.length ≤ 50) : ∀ (d i : Nat) (m : Int), i + d = H.length → ∃ r : Int, (∀ k, d < k → slices_Max_int_int.l0 k H m (i : Int) = some r) ∧ (r ≤ a ↔ m ≤ a ∧ ∀ j : Nat, i ≤ j → j < H.length → rd H (j : Int) ≤ a) := by
  intro d
  induction d with
  | zero =>
    intro i m hd
    refine ⟨m, fun k hk => ?_, ⟨fun h => ⟨h, fun j h1 h2 => by omega⟩, fun h => h.1⟩⟩
    obtain ⟨k, rfl⟩ : ∃ m, k = m + 1 := ⟨k - 1, by omega⟩
    rw [slices_Max_int_int.l0.eq_2, if_neg (by omega)]
  | succ d ih =>
    intro i m hd
    have hw := wn1 i (by omega)
    obtain ⟨r, h1, h2⟩ := ih (i + 1) (mx m (rd H (i : Int))) (by omega)
    have hm : mx m (rd H (i : Int)) ≤ a ↔ m ≤ a ∧ rd H (i : Int) ≤ a := by clear hw h1 h2; unfold mx; split <;> omega
    refine ⟨r, fun k hk => ?_, ?_⟩
    · obtain ⟨k, rfl⟩ : ∃ m, k = m + 1 := ⟨k - 1, by omega⟩
      rw [slices_Max_int_int.l0.eq_2, hw, if_pos (by clear hw; omega), if_pos (by clear hw; omega)]
      exact h1 k (by omega)
    · rw [h2, hm]
      constructor
      · rintro ⟨⟨q1, q2⟩, q3⟩
        refine ⟨q1, fun j hj hj' => ?_⟩
        by_cases e : j = i
        · subst e; exact q2
        · exact q3 j (by omega) hj'
      · rintro ⟨q1, q2⟩
        exact ⟨⟨q1, q2 i (Nat.le_refl _) (by omega)⟩, fun j hj hj' => q2 j (by omega) hj'⟩
theorem FnExactIsBetween : ∀ (a0 : ByteArray) (a1 : Int) (a2 : Int), a0.size ≤ 140737488351232 → (Lit.int .i64 a1).wf = true → (Lit.int .i64 a2).wf = true → ∃ k, laws_FnExactIsBetween.f k a0 a1 a2 = some true := by
  intro s x y hs _ _
  refine ⟨100, ?_⟩
  unfold laws_FnExactIsBetween.f
  by_cases hbig : (s.size : Int) > 1048576
  · rw [if_pos hbig]
  rw [if_neg hbig]
  obtain ⟨b, p1, p2, p3⟩ := path_run s hs
  have key : ∃ r : Bool × Bool, spec_IsBetween.f 100 s x y = some r ∧ impl_IsBetween.f 100 s x y = some r := by
    unfold spec_IsBetween.f impl_IsBetween.f
    rw [p1 100 (by omega), p2, Option.bind_some, Option.bind_some]
    cases b with
    | false => exact ⟨_, rfl, rfl⟩
    | true =>
      unfold spec_miWalls.f impl_areWalls.f
      rw [if_pos rfl, if_pos rfl]
      rw [l1In_eq, l1In_eq, in_eq, in_eq]
      simp only [Option.bind_some]
      by_cases h1 : -40 ≤ x ∧ x ≤ 0
      · rw [decide_eq_true h1]
        simp only [if_true, Option.bind_some]
        by_cases h2 : 0 ≤ y ∧ y ≤ 40
        · rw [decide_eq_true h2]
          simp only [if_true]
          obtain ⟨H, a1, a2, a3, a4, a5⟩ := heights_run s (p3 rfl).1
          have hl : H.length ≤ 41 := by have := (p3 rfl).1; omega
          obtain ⟨t, e1, e2⟩ := spec_all x y H (by omega) H.length 0 (by omega)
          obtain ⟨m, m1, m2⟩ := min_l0 x H (by omega) (H.length - 1) 1 (rd H 0) (by omega)
          obtain ⟨n, n1, n2⟩ := max_l0 y H (by omega) (H.length - 1) 1 (rd H 0) (by omega)
          have hm : slices_Min_int_int.f 100 H = some m := by
            unfold slices_Min_int_int.f
            rw [if_neg (by omega), if_pos (by omega)]; exact m1 100 (by omega)
          have hn : slices_Max_int_int.f 100 H = some n := by
            unfold slices_Max_int_int.f
            rw [if_neg (by omega), if_pos (by omega)]; exact n1 100 (by omega)
          have hi : impl_isBetween.f 100 s x y = some t := by
            unfold impl_isBetween.f
            rw [a5 100 (by omega), Option.bind_some, hm, Option.bind_some]
            have ht : t = true ↔ x ≤ m ∧ n ≤ y := by
              rw [e2, m2, n2]
              constructor
              · intro h
                exact ⟨⟨(h 0 (Nat.le_refl _) (by omega)).1, fun j _ hj => (h j (Nat.zero_le _) hj).1⟩, (h 0 (Nat.le_refl _) (by omega)).2, fun j _ hj => (h j (Nat.zero_le _) hj).2⟩
              · rintro ⟨⟨q1, q2⟩, q3, q4⟩ j _ hj
                by_cases e : j = 0
                · subst e; exact ⟨q1, q3⟩
                · exact ⟨q2 j (by omega) hj, q4 j (by omega) hj⟩
            by_cases c : m ≥ x
            · rw [if_pos c, Option.bind_some, hn, Option.bind_some]
              congr 1
              rw [Bool.eq_iff_iff, decide_eq_true_iff, ht]
              exact ⟨fun h => ⟨c, h⟩, fun h => h.2⟩
            · rw [if_neg c]
              congr 1
              symm
              rw [← Bool.not_eq_true, ht]
              exact fun h => c h.1
          refine ⟨(t, true), ?_, ?_⟩
          · unfold spec_miBetween.f
            have := e1 100 (by omega)
            rw [show ((0 : Nat) : Int) = 0 from rfl] at this
            rw [a4 100 (by omega), Option.bind_some, this, Option.bind_some]
          · rw [hi, Option.bind_some]
        · rw [decide_eq_false h2]; exact ⟨_, rfl, rfl⟩
      · rw [decide_eq_false h1]; exact ⟨_, rfl, rfl⟩
  obtain ⟨r, e1, e2⟩ := key
  rw [e1, Option.bind_some, e2, Option.bind_some]
  simp
end Go.Proofs.YtpijameimeihgaaDoor.Pure
