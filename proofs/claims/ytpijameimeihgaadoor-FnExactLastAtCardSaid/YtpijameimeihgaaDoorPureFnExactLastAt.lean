/- The last time at a height: the reference goes through all heights and keeps the last place, the program comes from behind; both over the same heights. No condition. -/
import Derived.Test.YtpijameimeihgaaDoorOFnExactLastAtx2
namespace Go.Proofs.YtpijameimeihgaaDoor.Pure
open Go.RowKit Go.Proofs.YtpijameimeihgaaDoor.Stub Go.Proofs.YtpijameimeihgaaDoor.OFnExactLastAt Go.Proofs.YtpijameimeihgaaDoorW.PrintWords Go.Proofs.YtpijameimeihgaaDoorW.PrintLast
set_option linter.unusedVariables false
set_option linter.unusedSimpArgs false
theorem w64 {n : Int} (h0 : -9223372036854775808 ≤ n) (h1 : n ≤ 9223372036854775807) : wrap64 n = n := by unfold wrap64; omega
theorem wf_bd {n : Int} (h : (Lit.int .i64 n).wf = true) : -9223372036854775808 ≤ n ∧ n ≤ 9223372036854775807 := by
  unfold Lit.wf at h
  rw [Bool.and_eq_true] at h
  exact ⟨of_decide_eq_true h.1, of_decide_eq_true h.2⟩
theorem wN (n : Nat) (h : n ≤ 1000000000000) : wrap64 ((n : Int) + 1) = ((n + 1 : Nat) : Int) := by rw [w64 (by omega) (by omega)]; omega

/- a text of some letters alone -/
theorem dropWhile_nil {α : Type} (p : α → Bool) : ∀ l : List α, l.dropWhile p = [] ↔ ∀ x ∈ l, p x = true
  | [] => by simp
  | a :: l => by
    have ih := dropWhile_nil p l
    by_cases h : p a = true
    · rw [List.dropWhile_cons_of_pos h, ih]; simp [h]
    · rw [List.dropWhile_cons_of_neg h]; simp [h]
theorem dropWhile_all {α : Type} (p : α → Bool) : ∀ l : List α, (∀ x ∈ l.dropWhile p, p x = true) → l.dropWhile p = []
  | [], _ => rfl
  | a :: l, h => by
    by_cases ha : p a = true
    · rw [List.dropWhile_cons_of_pos ha] at h ⊢; exact dropWhile_all p l h
    · rw [List.dropWhile_cons_of_neg ha] at h; exact absurd (h a (by simp)) ha
theorem trimS_nil (l cs : List UInt8) : Lib.trimS l cs = [] ↔ ∀ c ∈ l, cs.contains c = true := by
  unfold Lib.trimS Lib.trimLeftS Lib.trimRightS
  rw [dropWhile_nil]
  constructor
  · intro h
    have h' : ∀ x ∈ l.reverse.dropWhile (cs.contains ·), cs.contains x = true := fun x hx => h x (by simpa using hx)
    have := dropWhile_all _ _ h'
    rw [dropWhile_nil] at this
    exact fun c hc => this c (by simpa using hc)
  · intro h x hx
    have : l.reverse.dropWhile (cs.contains ·) = [] := (dropWhile_nil _ _).2 (fun c hc => h c (by simpa using hc))
    rw [this] at hx; simp at hx
theorem bt_get (s : ByteArray) (i : Nat) (h : i < s.size) : bt s (i : Int) = ((s.data.toList[i]'(by rw [Array.length_toList]; exact h)).toNat : Int) := by
  unfold bt
  rw [dif_pos (by rw [Int.toNat_natCast]; exact h)]
  rfl
/-- All letters of s are among some: told by place. -/
theorem all_at (s : ByteArray) (p : UInt8 → Bool) (q : Int → Bool) (hpq : ∀ c : UInt8, p c = q (c.toNat : Int)) : (∀ c ∈ s.data.toList, p c = true) ↔ ∀ i : Nat, i < s.size → q (bt s (i : Int)) = true := by
  constructor
  · intro h i hi
    rw [bt_get s i hi, ← hpq]
    exact h _ (List.getElem_mem _)
  · intro h c hc
    obtain ⟨i, hi, rfl⟩ := List.getElem_of_mem hc
    have hi' : i < s.size := by rw [Array.length_toList] at hi; exact hi
    have := h i hi'
    rw [bt_get s i hi', ← hpq] at this
    exact this
theorem empty_eq (l : List UInt8) : ((⟨l.toArray⟩ : ByteArray).toList == ([] : List UInt8)) = decide (l = []) := by
  rw [Lib.toList_data]
  simp only [List.toList_toArray]
  cases l <;> rfl
theorem trim_run (s cs : ByteArray) (hs : s.size ≤ 9223372036854775807) (hc : cs.size < 4294967281) (ha : cs.data.toList.all (fun b => decide (b.toNat < 128)) = true) : strings_Trim.f s cs = some ⟨(Lib.trimS s.data.toList cs.data.toList).toArray⟩ := by
  unfold strings_Trim.f
  rw [if_pos (by omega), if_pos hc, if_pos ha]

def q2 (x : Int) : Bool := x == 85 || x == 68
theorem q2_of (c : UInt8) : (⟨#[85, 68]⟩ : ByteArray).data.toList.contains c = q2 (c.toNat : Int) := by
  have h : ∀ n : Fin 256, (⟨#[85, 68]⟩ : ByteArray).data.toList.contains (UInt8.ofNat n.val) = q2 ((UInt8.ofNat n.val).toNat : Int) := by decide +kernel
  have := h ⟨c.toNat, c.toNat_lt⟩
  simpa using this
theorem paGood_l0 (s : ByteArray) (hs : s.size ≤ 40) : ∀ (d i k : Nat), i + d = s.size → d < k → ∃ b : Bool, spec_paGood.l0 k s (i : Int) = some b ∧ (b = true ↔ ∀ j : Nat, i ≤ j → j < s.size → q2 (bt s (j : Int)) = true) := by
  intro d
  induction d with
  | zero =>
    intro i k hd hk
    obtain ⟨k, rfl⟩ : ∃ m, k = m + 1 := ⟨k - 1, by omega⟩
    rw [spec_paGood.l0.eq_2, if_neg (by omega)]
    exact ⟨true, rfl, by simp; intro j h1 h2; omega⟩
  | succ d ih =>
    intro i k hd hk
    obtain ⟨k, rfl⟩ : ∃ m, k = m + 1 := ⟨k - 1, by omega⟩
    rw [spec_paGood.l0.eq_2, if_pos (by omega), if_pos (by omega), w64 (n := (i : Int) + 1) (by omega) (by omega)]
    obtain ⟨b, h1, h2⟩ := ih (i + 1) k (by omega) (by omega)
    rw [show ((i + 1 : Nat) : Int) = (i : Int) + 1 by omega] at h1
    by_cases c1 : bt s (i : Int) = 85 ∨ bt s (i : Int) = 68
    · refine ⟨b, ?_, ?_⟩
      · rcases c1 with c | c
        · rw [if_pos c]; exact h1
        · rw [if_neg (by omega), if_pos c]; exact h1
      · rw [h2]
        constructor
        · intro h j hj hj'
          by_cases e : j = i
          · subst e; unfold q2; rcases c1 with c | c <;> simp [c]
          · exact h j (by omega) hj'
        · intro h j hj hj'; exact h j (by omega) hj'
    · refine ⟨false, ?_, ?_⟩
      · rw [if_neg (by omega), if_neg (by omega)]
      · constructor
        · intro h; cases h
        · intro h
          have := h i (by omega) (by omega)
          unfold q2 at this
          simp only [Bool.or_eq_true, beq_iff_eq] at this
          exact absurd this c1
theorem path_run (s : ByteArray) (hs : s.size ≤ 140737488351232) : ∃ b : Bool, (∀ k, 50 ≤ k → spec_paGood.f k s = some b) ∧ impl_IsPath.f s = some b ∧ (b = true → s.size ≤ 40 ∧ ∀ j : Nat, j < s.size → bt s (j : Int) = 85 ∨ bt s (j : Int) = 68) := by
  by_cases h : s.size ≤ 40
  · obtain ⟨b, h1, h2⟩ := paGood_l0 s h s.size 0 50 (by omega) (by omega)
    refine ⟨b, fun k hk => ?_, ?_, fun hb => ⟨h, fun j hj => ?_⟩⟩
    · unfold spec_paGood.f
      rw [if_neg (by omega)]
      exact at_rounds (fun n => spec_paGood.mono_l n s 0) hk h1
    · unfold impl_IsPath.f
      rw [if_pos (by omega), trim_run s ⟨#[85, 68]⟩ (by omega) (by decide) (by decide), Option.bind_some, empty_eq]
      congr 1
      rw [Bool.eq_iff_iff, decide_eq_true_iff, trimS_nil, all_at s (fun c => (⟨#[85, 68]⟩ : ByteArray).data.toList.contains c) q2 q2_of, h2]
      exact ⟨fun h j _ hj => h j hj, fun h j hj => h j (Nat.zero_le _) hj⟩
    · have := h2.1 hb j (Nat.zero_le _) hj
      unfold q2 at this
      simpa using this
  · refine ⟨false, fun k hk => ?_, ?_, fun hb => by cases hb⟩
    · unfold spec_paGood.f; rw [if_pos (by omega)]
    · unfold impl_IsPath.f; rw [if_neg (by omega)]

theorem wn1 (n : Nat) (h : n ≤ 1000000) : wrap64 ((n : Int) + 1) = ((n + 1 : Nat) : Int) := by rw [w64 (by omega) (by omega)]; omega
theorem rd_mem' {L : List Int} {i : Nat} (h : i < L.length) : rd L (i : Int) ∈ L := by
  unfold rd
  rw [Int.toNat_natCast, List.getD_eq_getElem?_getD, List.getElem?_eq_getElem h]
  exact List.getElem_mem h
theorem heights_l0 (s : ByteArray) (hs : s.size ≤ 40) : ∀ (d i : Nat) (H : List Int), i + d = s.size → H.length = i + 1 → (∀ x ∈ H, -(i : Int) ≤ x ∧ x ≤ i) → rd H 0 = 0 →
    ∃ H' : List Int, H'.length = s.size + 1 ∧ (∀ x ∈ H', -40 ≤ x ∧ x ≤ 40) ∧ rd H' 0 = 0 ∧ (∀ k, d < k → spec_paHeights.l0 k s H (i : Int) = some H') ∧ (∀ k, d < k → impl_heights.l0 k s H (s.size : Int) (i : Int) = some H') := by
  intro d
  induction d with
  | zero =>
    intro i H hd hl hb h0
    refine ⟨H, by omega, fun x hx => by have := hb x hx; omega, h0, fun k hk => ?_, fun k hk => ?_⟩
    · obtain ⟨k, rfl⟩ : ∃ m, k = m + 1 := ⟨k - 1, by omega⟩
      rw [spec_paHeights.l0.eq_2, if_neg (by omega)]
    · obtain ⟨k, rfl⟩ : ∃ m, k = m + 1 := ⟨k - 1, by omega⟩
      rw [impl_heights.l0.eq_2, if_neg (by omega)]
  | succ d ih =>
    intro i H hd hl hb h0
    have hx := hb _ (rd_mem' (L := H) (i := i) (by omega))
    obtain ⟨t, ht⟩ : ∃ t : Int, t = if bt s (i : Int) = 68 then rd H (i : Int) - 1 else rd H (i : Int) + 1 := ⟨_, rfl⟩
    have htb : -((i + 1 : Nat) : Int) ≤ t ∧ t ≤ ((i + 1 : Nat) : Int) := by rw [ht]; split <;> omega
    have e0 : rd (H ++ [t]) 0 = 0 := by
      unfold rd at h0 ⊢
      rw [show (0 : Int).toNat = 0 from rfl] at h0 ⊢
      rw [List.getD_eq_getElem?_getD, List.getElem?_append_left (by omega), ← List.getD_eq_getElem?_getD]; exact h0
    obtain ⟨H', a1, a2, a3, a4, a5⟩ := ih (i + 1) (H ++ [t]) (by omega) (by simp; omega) (fun x hx => by
      rcases List.mem_append.1 hx with h | h
      · have := hb x h; omega
      · rw [List.mem_singleton.1 h]; exact htb) e0
    refine ⟨H', a1, a2, a3, fun k hk => ?_, fun k hk => ?_⟩
    · obtain ⟨k, rfl⟩ : ∃ m, k = m + 1 := ⟨k - 1, by omega⟩
      rw [spec_paHeights.l0.eq_2, if_pos (by omega), if_pos (by omega), if_pos (by omega), wn1 i (by omega), w64 (n := rd H (i : Int) - 1) (by omega) (by omega), w64 (n := rd H (i : Int) + 1) (by omega) (by omega), ← a4 k (by omega), ht]
      by_cases c : bt s (i : Int) = 68
      · rw [if_pos c, if_pos (by omega), if_pos c]
      · rw [if_neg c, if_pos (by omega), if_neg c]
    · obtain ⟨k, rfl⟩ : ∃ m, k = m + 1 := ⟨k - 1, by omega⟩
      rw [impl_heights.l0.eq_2, if_pos (by omega), if_pos (by omega), if_pos (by omega), wn1 i (by omega), show rd H (i : Int) + -1 = rd H (i : Int) - 1 from rfl, w64 (n := rd H (i : Int) - 1) (by omega) (by omega), w64 (n := rd H (i : Int) + 1) (by omega) (by omega), ← a5 k (by omega), ht]
      by_cases c : bt s (i : Int) = 68
      · rw [if_pos c, if_pos (by omega), if_pos (by omega), if_pos c]
      · rw [if_neg c, if_pos (by omega), if_pos (by omega), if_neg c]
theorem heights_run (s : ByteArray) (hs : s.size ≤ 40) : ∃ H : List Int, H.length = s.size + 1 ∧ (∀ x ∈ H, -40 ≤ x ∧ x ≤ 40) ∧ rd H 0 = 0 ∧ (∀ k, 50 ≤ k → spec_paHeights.f k s = some H) ∧ (∀ k, 50 ≤ k → impl_heights.f k s = some H) := by
  obtain ⟨H, a1, a2, a3, a4, a5⟩ := heights_l0 s hs s.size 0 [0] (by omega) rfl (by simp) rfl
  exact ⟨H, a1, a2, a3, fun k hk => a4 k (by omega), fun k hk => a5 k (by omega)⟩

theorem in_eq (a b c : Int) : impl_in.f a b c = some (decide (b ≤ a ∧ a ≤ c)) := by
  unfold impl_in.f
  by_cases h1 : b ≤ a <;> by_cases h2 : a ≤ c <;> simp [h1, h2]
theorem l1In_eq (a b c : Int) : spec_l1In.f a b c = some (decide (b ≤ a ∧ a ≤ c)) := by
  unfold spec_l1In.f
  by_cases h1 : b ≤ a <;> by_cases h2 : a ≤ c <;> simp [h1, h2]

theorem rd_get (H : List Int) (i : Nat) : rd H (i : Int) = H[i]?.getD 0 := by
  unfold rd
  rw [Int.toNat_natCast, List.getD_eq_getElem?_getD]
theorem last_loop (x : Int) (H : List Int) (hl : H.length ≤ 100) : ∀ (d i : Nat) (y : Int), i + d = H.length → (if y < 0 then ((0 : Int), false) else (y, true)) = Bk.lastBelow H x i → ∀ k, d < k → spec_LastAt.l0 k x y H (H.length : Int) (i : Int) = some (Bk.lastBelow H x H.length) := by
  intro d
  induction d with
  | zero =>
    intro i y hd he k hk
    obtain ⟨k, rfl⟩ : ∃ m, k = m + 1 := ⟨k - 1, by omega⟩
    obtain rfl : i = H.length := by omega
    rw [spec_LastAt.l0.eq_2, if_neg (by omega), ← he]
    by_cases c : y < 0
    · rw [if_pos c, if_pos c]
    · rw [if_neg c, if_neg c]
  | succ d ih =>
    intro i y hd he k hk
    obtain ⟨k, rfl⟩ : ∃ m, k = m + 1 := ⟨k - 1, by omega⟩
    rw [spec_LastAt.l0.eq_2, if_pos (by omega), if_pos (by omega), if_pos (by omega), wn1 i (by omega)]
    by_cases c : rd H (i : Int) = x
    · rw [if_pos c]
      refine ih (i + 1) (i : Int) (by omega) ?_ k (by omega)
      rw [if_neg (by omega), Bk.lastBelow, if_pos (by rw [← rd_get]; exact c)]
    · rw [if_neg c]
      refine ih (i + 1) y (by omega) ?_ k (by omega)
      rw [he, Bk.lastBelow, if_neg (by rw [← rd_get]; exact c)]
theorem FnExactLastAt : ∀ (a0 : ByteArray) (a1 : Int), a0.size ≤ 140737488351232 → (Lit.int .i64 a1).wf = true → ∃ k, laws_FnExactLastAt.f k a0 a1 = some true := by
  intro s x hs _
  refine ⟨100, ?_⟩
  unfold laws_FnExactLastAt.f
  by_cases hbig : (s.size : Int) > 1048576
  · rw [if_pos hbig]
  rw [if_neg hbig]
  obtain ⟨b, p1, p2, p3⟩ := path_run s hs
  have key : ∃ (r : Int × Bool), spec_LastAt.f 100 s x = some r ∧ impl_LastAt.f 100 s x = some r := by
    cases b with
    | false =>
      refine ⟨(0, false), ?_, ?_⟩
      · unfold spec_LastAt.f; rw [p1 100 (by omega), Option.bind_some, if_neg (by decide)]; rfl
      · unfold impl_LastAt.f; rw [p2, Option.bind_some, if_neg (by decide)]
    | true =>
      by_cases hx : -40 ≤ x ∧ x ≤ 40
      · obtain ⟨H, a1, a2, a3, a4, a5⟩ := heights_run s (p3 rfl).1
        have hl : H.length ≤ 41 := by have := (p3 rfl).1; omega
        have e1 := last_loop x H (by omega) H.length 0 (-1) (by omega) rfl
        refine ⟨Bk.lastBelow H x H.length, ?_, ?_⟩
        · unfold spec_LastAt.f spec_miHeight.f
          rw [p1 100 (by omega), Option.bind_some, if_pos rfl, l1In_eq, decide_eq_true hx, Option.bind_some, Option.bind_some, Bool.not_true, show (100 : Nat) = 99 + 1 from rfl, spec_LastAt.j0.eq_2, if_neg (by decide), a4 99 (by omega), Option.bind_some]
          exact e1 99 (by omega)
        · unfold impl_LastAt.f impl_isHeight.f
          rw [p2, Option.bind_some, if_pos rfl, in_eq, decide_eq_true hx, Option.bind_some, Option.bind_some, if_pos rfl, a5 100 (by omega), Option.bind_some, if_pos (by omega)]
      · refine ⟨(0, false), ?_, ?_⟩
        · unfold spec_LastAt.f spec_miHeight.f
          rw [p1 100 (by omega), Option.bind_some, if_pos rfl, l1In_eq, decide_eq_false hx, Option.bind_some, Option.bind_some]
          rfl
        · unfold impl_LastAt.f impl_isHeight.f
          rw [p2, Option.bind_some, if_pos rfl, in_eq, decide_eq_false hx, Option.bind_some, Option.bind_some, if_neg (by decide)]
  obtain ⟨r, e1, e2⟩ := key
  rw [e1, Option.bind_some, e2, Option.bind_some]
  simp
end Go.Proofs.YtpijameimeihgaaDoor.Pure
