/- The bad closed path and the one that is reflected: a closed path that is bad comes to the height -1, for its heights go by ones. No condition. -/
import Derived.Test.YtgdecglakknmpaaGreatDoorOFnExactPairOfx4
namespace Go.Proofs.YtgdecglakknmpaaGreatDoor.Pure
open Go.RowKit Go.Proofs.YtgdecglakknmpaaGreatDoor.Stub Go.Proofs.YtgdecglakknmpaaGreatDoor.OFnExactPairOf Go.Proofs.YtgdecglakknmpaaGreatDoorW.PrintWords Go.Proofs.YtgdecglakknmpaaGreatDoorW.PrintLast
set_option linter.unusedVariables false
set_option linter.unusedSimpArgs false
theorem w64 {n : Int} (h0 : -9223372036854775808 ≤ n) (h1 : n ≤ 9223372036854775807) : wrap64 n = n := by unfold wrap64; omega
theorem wf_bd {n : Int} (h : (Lit.int .i64 n).wf = true) : -9223372036854775808 ≤ n ∧ n ≤ 9223372036854775807 := by
  unfold Lit.wf at h
  rw [Bool.and_eq_true] at h
  exact ⟨of_decide_eq_true h.1, of_decide_eq_true h.2⟩
theorem wN (n : Nat) (h : n ≤ 1000000000000) : wrap64 ((n : Int) + 1) = ((n + 1 : Nat) : Int) := by rw [w64 (by omega) (by omega)]; omega

/- a text of some letters alone -/
theorem dropWhile_nil {α : Type} (p : α → Bool) : ∀ l : List α, l.dropWhile p = [] ↔ ∀ x ∈ l, p x = true
  | [] => by simp
  | a :: l => by
    have ih := dropWhile_nil p l
    by_cases h : p a = true
    · rw [List.dropWhile_cons_of_pos h, ih]; simp [h]
    · rw [List.dropWhile_cons_of_neg h]; simp [h]
theorem dropWhile_all {α : Type} (p : α → Bool) : ∀ l : List α, (∀ x ∈ l.dropWhile p, p x = true) → l.dropWhile p = []
  | [], _ => rfl
  | a :: l, h => by
    by_cases ha : p a = true
    · rw [List.dropWhile_cons_of_pos ha] at h ⊢; exact dropWhile_all p l h
    · rw [List.dropWhile_cons_of_neg ha] at h; exact absurd (h a (by simp)) ha
theorem trimS_nil (l cs : List UInt8) : Lib.trimS l cs = [] ↔ ∀ c ∈ l, cs.contains c = true := by
  unfold Lib.trimS Lib.trimLeftS Lib.trimRightS
  rw [dropWhile_nil]
  constructor
  · intro h
    have h' : ∀ x ∈ l.reverse.dropWhile (cs.contains ·), cs.contains x = true := fun x hx => h x (by simpa using hx)
    have := dropWhile_all _ _ h'
    rw [dropWhile_nil] at this
    exact fun c hc => this c (by simpa using hc)
  · intro h x hx
    have : l.reverse.dropWhile (cs.contains ·) = [] := (dropWhile_nil _ _).2 (fun c hc => h c (by simpa using hc))
    rw [this] at hx; simp at hx
theorem bt_get (s : ByteArray) (i : Nat) (h : i < s.size) : bt s (i : Int) = ((s.data.toList[i]'(by rw [Array.length_toList]; exact h)).toNat : Int) := by
  unfold bt
  rw [dif_pos (by rw [Int.toNat_natCast]; exact h)]
  rfl
/-- All letters of s are among some: told by place. -/
theorem all_at (s : ByteArray) (p : UInt8 → Bool) (q : Int → Bool) (hpq : ∀ c : UInt8, p c = q (c.toNat : Int)) : (∀ c ∈ s.data.toList, p c = true) ↔ ∀ i : Nat, i < s.size → q (bt s (i : Int)) = true := by
  constructor
  · intro h i hi
    rw [bt_get s i hi, ← hpq]
    exact h _ (List.getElem_mem _)
  · intro h c hc
    obtain ⟨i, hi, rfl⟩ := List.getElem_of_mem hc
    have hi' : i < s.size := by rw [Array.length_toList] at hi; exact hi
    have := h i hi'
    rw [bt_get s i hi', ← hpq] at this
    exact this
theorem empty_eq (l : List UInt8) : ((⟨l.toArray⟩ : ByteArray).toList == ([] : List UInt8)) = decide (l = []) := by
  rw [Lib.toList_data]
  simp only [List.toList_toArray]
  cases l <;> rfl
theorem trim_run (s cs : ByteArray) (hs : s.size ≤ 9223372036854775807) (hc : cs.size < 4294967281) (ha : cs.data.toList.all (fun b => decide (b.toNat < 128)) = true) : strings_Trim.f s cs = some ⟨(Lib.trimS s.data.toList cs.data.toList).toArray⟩ := by
  unfold strings_Trim.f
  rw [if_pos (by omega), if_pos hc, if_pos ha]

def q2 (x : Int) : Bool := x == 85 || x == 68
theorem q2_of (c : UInt8) : (⟨#[85, 68]⟩ : ByteArray).data.toList.contains c = q2 (c.toNat : Int) := by
  have h : ∀ n : Fin 256, (⟨#[85, 68]⟩ : ByteArray).data.toList.contains (UInt8.ofNat n.val) = q2 ((UInt8.ofNat n.val).toNat : Int) := by decide +kernel
  have := h ⟨c.toNat, c.toNat_lt⟩
  simpa using this
theorem paGood_l0 (s : ByteArray) (hs : s.size ≤ 40) : ∀ (d i k : Nat), i + d = s.size → d < k → ∃ b : Bool, spec_paGood.l0 k s (i : Int) = some b ∧ (b = true ↔ ∀ j : Nat, i ≤ j → j < s.size → q2 (bt s (j : Int)) = true) := by
  intro d
  induction d with
  | zero =>
    intro i k hd hk
    obtain ⟨k, rfl⟩ : ∃ m, k = m + 1 := ⟨k - 1, by omega⟩
    rw [spec_paGood.l0.eq_2, if_neg (by omega)]
    exact ⟨true, rfl, by simp; intro j h1 h2; omega⟩
  | succ d ih =>
    intro i k hd hk
    obtain ⟨k, rfl⟩ : ∃ m, k = m + 1 := ⟨k - 1, by omega⟩
    rw [spec_paGood.l0.eq_2, if_pos (by omega), if_pos (by omega), w64 (n := (i : Int) + 1) (by omega) (by omega)]
    obtain ⟨b, h1, h2⟩ := ih (i + 1) k (by omega) (by omega)
    rw [show ((i + 1 : Nat) : Int) = (i : Int) + 1 by omega] at h1
    by_cases c1 : bt s (i : Int) = 85 ∨ bt s (i : Int) = 68
    · refine ⟨b, ?_, ?_⟩
      · rcases c1 with c | c
        · rw [if_pos c]; exact h1
        · rw [if_neg (by omega), if_pos c]; exact h1
      · rw [h2]
        constructor
        · intro h j hj hj'
          by_cases e : j = i
          · subst e; unfold q2; rcases c1 with c | c <;> simp [c]
          · exact h j (by omega) hj'
        · intro h j hj hj'; exact h j (by omega) hj'
    · refine ⟨false, ?_, ?_⟩
      · rw [if_neg (by omega), if_neg (by omega)]
      · constructor
        · intro h; cases h
        · intro h
          have := h i (by omega) (by omega)
          unfold q2 at this
          simp only [Bool.or_eq_true, beq_iff_eq] at this
          exact absurd this c1
theorem path_run (s : ByteArray) (hs : s.size ≤ 140737488351232) : ∃ b : Bool, (∀ k, 50 ≤ k → spec_paGood.f k s = some b) ∧ impl_IsPath.f s = some b ∧ (b = true → s.size ≤ 40 ∧ ∀ j : Nat, j < s.size → bt s (j : Int) = 85 ∨ bt s (j : Int) = 68) := by
  by_cases h : s.size ≤ 40
  · obtain ⟨b, h1, h2⟩ := paGood_l0 s h s.size 0 50 (by omega) (by omega)
    refine ⟨b, fun k hk => ?_, ?_, fun hb => ⟨h, fun j hj => ?_⟩⟩
    · unfold spec_paGood.f
      rw [if_neg (by omega)]
      exact at_rounds (fun n => spec_paGood.mono_l n s 0) hk h1
    · unfold impl_IsPath.f
      rw [if_pos (by omega), trim_run s ⟨#[85, 68]⟩ (by omega) (by decide) (by decide), Option.bind_some, empty_eq]
      congr 1
      rw [Bool.eq_iff_iff, decide_eq_true_iff, trimS_nil, all_at s (fun c => (⟨#[85, 68]⟩ : ByteArray).data.toList.contains c) q2 q2_of, h2]
      exact ⟨fun h j _ hj => h j hj, fun h j hj => h j (Nat.zero_le _) hj⟩
    · have := h2.1 hb j (Nat.zero_le _) hj
      unfold q2 at this
      simpa using this
  · refine ⟨false, fun k hk => ?_, ?_, fun hb => by cases hb⟩
    · unfold spec_paGood.f; rw [if_pos (by omega)]
    · unfold impl_IsPath.f; rw [if_neg (by omega)]

theorem wn1 (n : Nat) (h : n ≤ 1000000) : wrap64 ((n : Int) + 1) = ((n + 1 : Nat) : Int) := by rw [w64 (by omega) (by omega)]; omega
theorem rd_mem' {L : List Int} {i : Nat} (h : i < L.length) : rd L (i : Int) ∈ L := by
  unfold rd
  rw [Int.toNat_natCast, List.getD_eq_getElem?_getD, List.getElem?_eq_getElem h]
  exact List.getElem_mem h
theorem heights_l0 (s : ByteArray) (hs : s.size ≤ 40) : ∀ (d i : Nat) (H : List Int), i + d = s.size → H.length = i + 1 → (∀ x ∈ H, -(i : Int) ≤ x ∧ x ≤ i) → rd H 0 = 0 →
    ∃ H' : List Int, H'.length = s.size + 1 ∧ (∀ x ∈ H', -40 ≤ x ∧ x ≤ 40) ∧ rd H' 0 = 0 ∧ (∀ k, d < k → spec_paHeights.l0 k s H (i : Int) = some H') ∧ (∀ k, d < k → impl_heights.l0 k s H (s.size : Int) (i : Int) = some H') := by
  intro d
  induction d with
  | zero =>
    intro i H hd hl hb h0
    refine ⟨H, by omega, fun x hx => by have := hb x hx; omega, h0, fun k hk => ?_, fun k hk => ?_⟩
    · obtain ⟨k, rfl⟩ : ∃ m, k = m + 1 := ⟨k - 1, by omega⟩
      rw [spec_paHeights.l0.eq_2, if_neg (by omega)]
    · obtain ⟨k, rfl⟩ : ∃ m, k = m + 1 := ⟨k - 1, by omega⟩
      rw [impl_heights.l0.eq_2, if_neg (by omega)]
  | succ d ih =>
    intro i H hd hl hb h0
    have hx := hb _ (rd_mem' (L := H) (i := i) (by omega))
    obtain ⟨t, ht⟩ : ∃ t : Int, t = if bt s (i : Int) = 68 then rd H (i : Int) - 1 else rd H (i : Int) + 1 := ⟨_, rfl⟩
    have htb : -((i + 1 : Nat) : Int) ≤ t ∧ t ≤ ((i + 1 : Nat) : Int) := by rw [ht]; split <;> omega
    have e0 : rd (H ++ [t]) 0 = 0 := by
      unfold rd at h0 ⊢
      rw [show (0 : Int).toNat = 0 from rfl] at h0 ⊢
      rw [List.getD_eq_getElem?_getD, List.getElem?_append_left (by omega), ← List.getD_eq_getElem?_getD]; exact h0
    obtain ⟨H', a1, a2, a3, a4, a5⟩ := ih (i + 1) (H ++ [t]) (by omega) (by simp; omega) (fun x hx => by
      rcases List.mem_append.1 hx with h | h
      · have := hb x h; omega
      · rw [List.mem_singleton.1 h]; exact htb) e0
    refine ⟨H', a1, a2, a3, fun k hk => ?_, fun k hk => ?_⟩
    · obtain ⟨k, rfl⟩ : ∃ m, k = m + 1 := ⟨k - 1, by omega⟩
      rw [spec_paHeights.l0.eq_2, if_pos (by omega), if_pos (by omega), if_pos (by omega), wn1 i (by omega), w64 (n := rd H (i : Int) - 1) (by omega) (by omega), w64 (n := rd H (i : Int) + 1) (by omega) (by omega), ← a4 k (by omega), ht]
      by_cases c : bt s (i : Int) = 68
      · rw [if_pos c, if_pos (by omega), if_pos c]
      · rw [if_neg c, if_pos (by omega), if_neg c]
    · obtain ⟨k, rfl⟩ : ∃ m, k = m + 1 := ⟨k - 1, by omega⟩
      rw [impl_heights.l0.eq_2, if_pos (by omega), if_pos (by omega), if_pos (by omega), wn1 i (by omega), show rd H (i : Int) + -1 = rd H (i : Int) - 1 from rfl, w64 (n := rd H (i : Int) - 1) (by omega) (by omega), w64 (n := rd H (i : Int) + 1) (by omega) (by omega), ← a5 k (by omega), ht]
      by_cases c : bt s (i : Int) = 68
      · rw [if_pos c, if_pos (by omega), if_pos (by omega), if_pos c]
      · rw [if_neg c, if_pos (by omega), if_pos (by omega), if_neg c]
theorem heights_run (s : ByteArray) (hs : s.size ≤ 40) : ∃ H : List Int, H.length = s.size + 1 ∧ (∀ x ∈ H, -40 ≤ x ∧ x ≤ 40) ∧ rd H 0 = 0 ∧ (∀ k, 50 ≤ k → spec_paHeights.f k s = some H) ∧ (∀ k, 50 ≤ k → impl_heights.f k s = some H) := by
  obtain ⟨H, a1, a2, a3, a4, a5⟩ := heights_l0 s hs s.size 0 [0] (by omega) rfl (by simp) rfl
  exact ⟨H, a1, a2, a3, fun k hk => a4 k (by omega), fun k hk => a5 k (by omega)⟩

theorem first_same (x : Int) (H : List Int) (hl : H.length ≤ 100) : ∀ (d i : Nat), i + d = H.length → ∃ r : Int, -1 ≤ r ∧ r < (H.length : Int) ∧ (∀ k, d < k → spec_miFirst.l0 k x H (H.length : Int) (i : Int) = some r) ∧ (∀ k, d < k → slices_Index_int_int.l0 k H x (H.length : Int) (i : Int) = some r) := by
  intro d
  induction d with
  | zero =>
    intro i hd
    refine ⟨-1, by omega, by omega, fun k hk => ?_, fun k hk => ?_⟩
    · obtain ⟨k, rfl⟩ : ∃ m, k = m + 1 := ⟨k - 1, by omega⟩
      rw [spec_miFirst.l0.eq_2, if_neg (by omega)]
    · obtain ⟨k, rfl⟩ : ∃ m, k = m + 1 := ⟨k - 1, by omega⟩
      rw [slices_Index_int_int.l0.eq_2, if_neg (by omega)]
  | succ d ih =>
    intro i hd
    obtain ⟨r, h0, h0', h1, h2⟩ := ih (i + 1) (by omega)
    by_cases c : rd H (i : Int) = x
    · refine ⟨(i : Int), by omega, by omega, fun k hk => ?_, fun k hk => ?_⟩
      · obtain ⟨k, rfl⟩ : ∃ m, k = m + 1 := ⟨k - 1, by omega⟩
        rw [spec_miFirst.l0.eq_2, if_pos (by omega), if_pos (by omega), if_pos (by omega), if_pos c]
      · obtain ⟨k, rfl⟩ : ∃ m, k = m + 1 := ⟨k - 1, by omega⟩
        rw [slices_Index_int_int.l0.eq_2, if_pos (by omega), if_pos (by omega), if_pos (by omega), if_pos c.symm]
    · refine ⟨r, h0, h0', fun k hk => ?_, fun k hk => ?_⟩
      · obtain ⟨k, rfl⟩ : ∃ m, k = m + 1 := ⟨k - 1, by omega⟩
        rw [spec_miFirst.l0.eq_2, if_pos (by omega), if_pos (by omega), if_pos (by omega), if_neg c, wn1 i (by omega)]
        exact h1 k (by omega)
      · obtain ⟨k, rfl⟩ : ∃ m, k = m + 1 := ⟨k - 1, by omega⟩
        rw [slices_Index_int_int.l0.eq_2, if_pos (by omega), if_pos (by omega), if_pos (by omega), if_neg (fun e => c e.symm), wn1 i (by omega)]
        exact h2 k (by omega)
theorem is85 (c : UInt8) (h : c.toNat = 85) : c = 85 := UInt8.toNat_inj.1 (by rw [h]; rfl)
/-- Where a text is a path both turn a part of it alike. -/
theorem turn_same (s : ByteArray) (h : ∀ j : Nat, j < s.size → bt s (j : Int) = 85 ∨ bt s (j : Int) = 68) (p q : Nat) : (s.extract p q).data.map Rp.turnB = (s.extract p q).data.map Rp.turnP := by
  apply Array.map_congr_left
  intro c hc
  have hm : c ∈ s.data := by
    rw [ByteArray.data_extract] at hc
    obtain ⟨i, hi, e⟩ := Array.mem_iff_getElem.1 hc
    rw [Array.getElem_extract] at e
    rw [← e]; exact Array.getElem_mem _
  obtain ⟨i, hi, e⟩ := Array.mem_iff_getElem.1 hm
  have hi' : i < s.size := hi
  have b := h i hi'
  unfold bt at b
  rw [dif_pos (by rw [Int.toNat_natCast]; exact hi')] at b
  have e' : s[((i : Int).toNat)]'(by rw [Int.toNat_natCast]; exact hi') = c := e
  rw [e'] at b
  unfold Rp.turnB Rp.turnP
  by_cases c1 : c = 85
  · rw [if_pos c1, if_pos c1]
  · rw [if_neg c1, if_neg c1]
    have c2 : c = 68 := by
      apply UInt8.toNat_inj.1
      rcases b with b | b
      · exact absurd (is85 c (by omega)) c1
      · have : c.toNat = 68 := by omega
        rw [this]; rfl
    rw [if_pos c2]
theorem turn_size (s : ByteArray) (f : UInt8 → UInt8) : (⟨s.data.map f⟩ : ByteArray).size = s.size := by show (s.data.map f).size = s.data.size; simp

theorem in_eq (a b c : Int) : impl_in.f a b c = some (decide (b ≤ a ∧ a ≤ c)) := by
  unfold impl_in.f
  by_cases h1 : b ≤ a <;> by_cases h2 : a ≤ c <;> simp [h1, h2]

def Dip (H : List Int) : Prop := (∀ j : Nat, j < H.length → 0 ≤ rd H (j : Int)) ∨ ∃ j : Nat, j < H.length ∧ rd H (j : Int) = -1
theorem rd_snoc_lt (H : List Int) (t : Int) (j : Nat) (h : j < H.length) : rd (H ++ [t]) (j : Int) = rd H (j : Int) := by
  unfold rd
  rw [Int.toNat_natCast, List.getD_eq_getElem?_getD, List.getElem?_append_left h, ← List.getD_eq_getElem?_getD]
theorem rd_snoc_eq (H : List Int) (t : Int) : rd (H ++ [t]) (H.length : Int) = t := by
  unfold rd
  rw [Int.toNat_natCast, List.getD_eq_getElem?_getD]; simp
theorem dip_snoc (H : List Int) (i : Nat) (hl : H.length = i + 1) (t : Int) (ht : t = rd H (i : Int) - 1 ∨ t = rd H (i : Int) + 1) (h : Dip H) : Dip (H ++ [t]) := by
  rcases h with h | ⟨j, hj, e⟩
  · have hi := h i (by omega)
    by_cases c : 0 ≤ t
    · refine .inl fun j hj => ?_
      by_cases e : j < H.length
      · rw [rd_snoc_lt H t j e]; exact h j e
      · have : j = H.length := by simp at hj; omega
        subst this
        rw [rd_snoc_eq]; exact c
    · exact .inr ⟨H.length, by simp, by rw [rd_snoc_eq]; omega⟩
  · exact .inr ⟨j, by simp; omega, by rw [rd_snoc_lt H t j hj]; exact e⟩
theorem dip_l0 (s : ByteArray) (hs : s.size ≤ 40) : ∀ (d i k : Nat) (H H' : List Int), i + d = s.size → H.length = i + 1 → (∀ x ∈ H, -(i : Int) ≤ x ∧ x ≤ i) → Dip H → d < k → spec_paHeights.l0 k s H (i : Int) = some H' → Dip H' := by
  intro d
  induction d with
  | zero =>
    intro i k H H' hd hl hb h hk e
    obtain ⟨k, rfl⟩ : ∃ m, k = m + 1 := ⟨k - 1, by omega⟩
    rw [spec_paHeights.l0.eq_2, if_neg (by omega)] at e
    cases e; exact h
  | succ d ih =>
    intro i k H H' hd hl hb h hk e
    obtain ⟨k, rfl⟩ : ∃ m, k = m + 1 := ⟨k - 1, by omega⟩
    have hx := hb _ (rd_mem' (L := H) (i := i) (by omega))
    rw [spec_paHeights.l0.eq_2, if_pos (by omega), if_pos (by omega), if_pos (by omega), wn1 i (by omega), w64 (n := rd H (i : Int) - 1) (by omega) (by omega), w64 (n := rd H (i : Int) + 1) (by omega) (by omega)] at e
    have hb' : ∀ t : Int, (t = rd H (i : Int) - 1 ∨ t = rd H (i : Int) + 1) → ∀ x ∈ H ++ [t], -((i + 1 : Nat) : Int) ≤ x ∧ x ≤ ((i + 1 : Nat) : Int) := fun t ht x hx' => by
      rcases List.mem_append.1 hx' with q | q
      · have := hb x q; omega
      · rw [List.mem_singleton.1 q]; omega
    by_cases c : bt s (i : Int) = 68
    · rw [if_pos c, if_pos (by omega)] at e
      exact ih (i + 1) k _ H' (by omega) (by simp; omega) (hb' _ (.inl rfl)) (dip_snoc H i hl _ (.inl rfl) h) (by omega) e
    · rw [if_neg c, if_pos (by omega)] at e
      exact ih (i + 1) k _ H' (by omega) (by simp; omega) (hb' _ (.inr rfl)) (dip_snoc H i hl _ (.inr rfl) h) (by omega) e
theorem first_hit (x : Int) (H : List Int) (hl : H.length ≤ 100) : ∀ (d i k : Nat) (r : Int), i + d = H.length → d < k → spec_miFirst.l0 k x H (H.length : Int) (i : Int) = some r → (∃ j : Nat, i ≤ j ∧ j < H.length ∧ rd H (j : Int) = x) → 0 ≤ r := by
  intro d
  induction d with
  | zero => intro i k r hd hk e ⟨j, h1, h2, _⟩; omega
  | succ d ih =>
    intro i k r hd hk e ⟨j, h1, h2, h3⟩
    obtain ⟨k, rfl⟩ : ∃ m, k = m + 1 := ⟨k - 1, by omega⟩
    rw [spec_miFirst.l0.eq_2, if_pos (by omega), if_pos (by omega), if_pos (by omega), wn1 i (by omega)] at e
    by_cases c : rd H (i : Int) = x
    · rw [if_pos c] at e; cases e; omega
    · rw [if_neg c] at e
      refine ih (i + 1) k r (by omega) (by omega) e ⟨j, ?_, h2, h3⟩
      have : j ≠ i := fun q => c (by rw [← q]; exact h3)
      omega
theorem low_l0 (H : List Int) (hH : H.length ≤ 50) : ∀ (d i : Nat) (m : Int), i + d = H.length → ∃ r : Int, (∀ k, d < k → spec_paLow.l0 k m H (H.length : Int) (i : Int) = some r) ∧ (0 ≤ r ↔ 0 ≤ m ∧ ∀ j : Nat, i ≤ j → j < H.length → 0 ≤ rd H (j : Int)) := by
  intro d
  induction d with
  | zero =>
    intro i m hd
    refine ⟨m, fun k hk => ?_, ⟨fun h => ⟨h, fun j h1 h2 => by omega⟩, fun h => h.1⟩⟩
    obtain ⟨k, rfl⟩ : ∃ m, k = m + 1 := ⟨k - 1, by omega⟩
    rw [spec_paLow.l0.eq_2, if_neg (by omega)]
  | succ d ih =>
    intro i m hd
    have hw := wn1 i (by omega)
    obtain ⟨t, ht, hm⟩ : ∃ t, spec_l1Least.f m (rd H (i : Int)) = some t ∧ (0 ≤ t ↔ 0 ≤ m ∧ 0 ≤ rd H (i : Int)) := by
      unfold spec_l1Least.f
      by_cases c : m < rd H (i : Int)
      · rw [if_pos c]; exact ⟨m, rfl, by clear hw; omega⟩
      · rw [if_neg c]; exact ⟨_, rfl, by clear hw; omega⟩
    obtain ⟨r, h1, h2⟩ := ih (i + 1) t (by omega)
    refine ⟨r, fun k hk => ?_, ?_⟩
    · obtain ⟨k, rfl⟩ : ∃ m, k = m + 1 := ⟨k - 1, by omega⟩
      rw [spec_paLow.l0.eq_2, hw, if_pos (by clear hw; omega), if_pos (by clear hw; omega), if_pos (by clear hw; omega), ht, Option.bind_some]
      exact h1 k (by omega)
    · rw [h2, hm]
      constructor
      · rintro ⟨⟨q1, q2⟩, q3⟩
        refine ⟨q1, fun j hj hj' => ?_⟩
        by_cases e : j = i
        · subst e; exact q2
        · exact q3 j (by omega) hj'
      · rintro ⟨q1, q2⟩
        exact ⟨⟨q1, q2 i (Nat.le_refl _) (by omega)⟩, fun j hj hj' => q2 j (by omega) hj'⟩
theorem min_l0 (H : List Int) (hH : H.length ≤ 50) : ∀ (d i : Nat) (m : Int), i + d = H.length → ∃ r : Int, (∀ k, d < k → slices_Min_int_int.l0 k H m (i : Int) = some r) ∧ ∀ a : Int, (a ≤ r ↔ a ≤ m ∧ ∀ j : Nat, i ≤ j → j < H.length → a ≤ rd H (j : Int)) := by
  intro d
  induction d with
  | zero =>
    intro i m hd
    refine ⟨m, fun k hk => ?_, fun a => ⟨fun h => ⟨h, fun j h1 h2 => by omega⟩, fun h => h.1⟩⟩
    obtain ⟨k, rfl⟩ : ∃ m, k = m + 1 := ⟨k - 1, by omega⟩
    rw [slices_Min_int_int.l0.eq_2, if_neg (by omega)]
  | succ d ih =>
    intro i m hd
    have hw := wn1 i (by omega)
    obtain ⟨r, h1, h2⟩ := ih (i + 1) (mn m (rd H (i : Int))) (by omega)
    have hm : ∀ a : Int, a ≤ mn m (rd H (i : Int)) ↔ a ≤ m ∧ a ≤ rd H (i : Int) := by clear hw h1 h2; intro a; unfold mn; split <;> omega
    refine ⟨r, fun k hk => ?_, fun a => ?_⟩
    · obtain ⟨k, rfl⟩ : ∃ m, k = m + 1 := ⟨k - 1, by omega⟩
      rw [slices_Min_int_int.l0.eq_2, hw, if_pos (by clear hw; omega), if_pos (by clear hw; omega)]
      exact h1 k (by omega)
    · rw [h2 a, hm a]
      constructor
      · rintro ⟨⟨q1, q2⟩, q3⟩
        refine ⟨q1, fun j hj hj' => ?_⟩
        by_cases e : j = i
        · subst e; exact q2
        · exact q3 j (by omega) hj'
      · rintro ⟨q1, q2⟩
        exact ⟨⟨q1, q2 i (Nat.le_refl _) (by omega)⟩, fun j hj hj' => q2 j (by omega) hj'⟩
theorem FnExactPairOf : ∀ (a0 : ByteArray), a0.size ≤ 140737488351232 → ∃ k, laws_FnExactPairOf.f k a0 = some true := by
  intro s hs
  refine ⟨100, ?_⟩
  unfold laws_FnExactPairOf.f
  by_cases hbig : (s.size : Int) > 1048576
  · rw [if_pos hbig]
  rw [if_neg hbig]
  obtain ⟨b, p1, p2, p3⟩ := path_run s hs
  have key : ∃ (r : ByteArray) (t : Bool), spec_PairOf.f 100 s = some (r, t) ∧ impl_PairOf.f 100 s = some (r, t) := by
    cases b with
    | false =>
      refine ⟨⟨#[]⟩, false, ?_, ?_⟩
      · unfold spec_PairOf.f; rw [p1 100 (by omega), Option.bind_some, if_neg (by decide)]; rfl
      · unfold impl_PairOf.f; rw [p2, Option.bind_some, if_neg (by decide)]
    | true =>
      obtain ⟨H, a1, a2, a3, a4, a5⟩ := heights_run s (p3 rfl).1
      have hsz := (p3 rfl).1
      have hdip : Dip H := by
        have e := a4 100 (by omega)
        unfold spec_paHeights.f at e
        exact dip_l0 s hsz s.size 0 100 [0] H (by omega) rfl (by simp) (.inl (fun j hj => by
          have : j = 0 := by simp at hj; omega
          subst this; decide)) (by omega) e
      have es : spec_paEnd.f 100 s = some (rd H (s.size : Int)) := by
        unfold spec_paEnd.f
        rw [a4 100 (by omega), Option.bind_some, if_pos (by omega), if_pos (by omega)]
      have ei : impl_end.f 100 s = some (rd H (s.size : Int)) := by
        unfold impl_end.f
        rw [a5 100 (by omega), Option.bind_some, if_pos (by omega), if_pos (by omega)]
      unfold spec_PairOf.f impl_PairOf.f
      rw [p1 100 (by omega), p2, Option.bind_some, Option.bind_some, if_pos rfl, if_pos rfl, es, ei, Option.bind_some, Option.bind_some]
      by_cases h0 : rd H (s.size : Int) = 0
      · rw [if_pos h0, if_pos h0]
        obtain ⟨lo, l1, l2⟩ := low_l0 H (by omega) H.length 0 0 (by omega)
        obtain ⟨mi, m1, m2⟩ := min_l0 H (by omega) (H.length - 1) 1 (rd H 0) (by omega)
        have el : spec_paLow.f 100 s = some lo := by
          unfold spec_paLow.f
          rw [a4 100 (by omega), Option.bind_some]; exact l1 100 (by omega)
        have eg : impl_isGood.f 100 s = some (mi == 0) := by
          unfold impl_isGood.f slices_Min_int_int.f
          have := m1 100 (by omega)
          rw [show ((1 : Nat) : Int) = 1 from rfl] at this
          rw [a5 100 (by omega), Option.bind_some, if_neg (by omega), if_pos (by omega), this, Option.bind_some]
        rw [el, eg, Option.bind_some, Option.bind_some]
        have hmi : mi ≤ 0 := by have := ((m2 mi).1 (Int.le_refl _)).1; omega
        have hgood : (0 ≤ mi) ↔ (0 ≤ lo) := by
          rw [m2 0, l2]
          constructor
          · rintro ⟨q1, q2⟩
            refine ⟨Int.le_refl _, fun j _ hj => ?_⟩
            by_cases e : j = 0
            · subst e; exact q1
            · exact q2 j (by omega) hj
          · rintro ⟨_, q2⟩
            exact ⟨q2 0 (Nat.le_refl _) (by omega), fun j _ hj => q2 j (by omega) hj⟩
        by_cases hl : 0 ≤ lo
        · have : mi = 0 := by have := hgood.2 hl; omega
          rw [decide_eq_true hl, this]
          exact ⟨_, _, rfl, rfl⟩
        · have hm0 : ¬ mi = 0 := fun e => hl (hgood.1 (by omega))
          rw [decide_eq_false hl, if_neg (show ¬ (mi == 0) = true by simpa using hm0)]
          obtain ⟨r, h0, h0', h1, h2⟩ := first_same (-1) H (by omega) H.length 0 (by omega)
          have hr0 : 0 ≤ r := by
            refine first_hit (-1) H (by omega) H.length 0 100 r (by omega) (by omega) (h1 100 (by omega)) ?_
            rcases hdip with q | ⟨j, q1, q2⟩
            · exact absurd (l2.2 ⟨Int.le_refl _, fun j _ hj => q j hj⟩) hl
            · exact ⟨j, Nat.zero_le _, q1, q2⟩
          have e1 : ∀ k, 60 ≤ k → spec_miFirst.f k s (-1) = some r := fun k hk => by
            unfold spec_miFirst.f
            rw [a4 k (by omega), Option.bind_some]; exact h1 k (by omega)
          have e2 : impl_touch.f 100 s (-1) = some (mx r 0, decide (r ≥ 0)) := by
            unfold impl_touch.f slices_Index_int_int.f
            have := h2 100 (by omega)
            rw [show ((0 : Nat) : Int) = 0 from rfl] at this
            rw [a5 100 (by omega), Option.bind_some, this, Option.bind_some]
          have em : impl_FirstAt.f 100 s (-1) = some (mx r 0, decide (r ≥ 0)) := by
            unfold impl_FirstAt.f impl_isHeight.f
            rw [p2, Option.bind_some, if_pos rfl, in_eq, decide_eq_true (by decide), Option.bind_some, Option.bind_some, if_pos rfl, e2, Option.bind_some]
          unfold impl_ReflectBefore.f
          rw [em, Option.bind_some]
          dsimp only
          rw [show (100 : Nat) = 99 + 1 from rfl, spec_PairOf.j0.eq_2, if_neg (by decide), if_pos (decide_eq_true (by omega)), e1 99 (by omega), Option.bind_some, show mx r 0 = r by unfold mx; rw [if_neg (by omega)]]
          have hr' : r.toNat ≤ s.size := by omega
          have z1 : (s.extract 0 r.toNat).size = r.toNat := by rw [ByteArray.size_extract]; omega
          have z2 : (s.extract r.toNat s.size).size = s.size - r.toNat := by rw [ByteArray.size_extract]; omega
          rw [if_pos (by omega), if_pos (by omega), if_pos (by omega), if_pos (by omega)]
          unfold spec_paTurn.f impl_turned.f
          rw [if_pos (by omega), if_pos (by omega), Option.bind_some, Option.bind_some, turn_same s (p3 rfl).2, if_pos (by rw [turn_size, z1, z2]; omega)]
          exact ⟨_, _, rfl, rfl⟩
      · rw [if_neg h0, if_neg h0]
        exact ⟨_, _, rfl, rfl⟩
  obtain ⟨r, t, e1, e2⟩ := key
  rw [e1, Option.bind_some, e2, Option.bind_some]
  simp
end Go.Proofs.YtgdecglakknmpaaGreatDoor.Pure
