/- The path of a mixed path: the reference writes two letters for each, the program's replacer lays the same two. No condition. -/
import Derived.Test.YtgdecglakknmpaaDoorOFnExactPathOfMixedx2
namespace Go.Proofs.YtgdecglakknmpaaDoor.Pure
open Go.RowKit Go.Proofs.YtgdecglakknmpaaDoor.Stub Go.Proofs.YtgdecglakknmpaaDoor.OFnExactPathOfMixed Go.Proofs.YtgdecglakknmpaaDoorW.PrintWords Go.Proofs.YtgdecglakknmpaaDoorW.PrintLast
set_option linter.unusedVariables false
set_option linter.unusedSimpArgs false
theorem w64 {n : Int} (h0 : -9223372036854775808 ≤ n) (h1 : n ≤ 9223372036854775807) : wrap64 n = n := by unfold wrap64; omega
theorem wf_bd {n : Int} (h : (Lit.int .i64 n).wf = true) : -9223372036854775808 ≤ n ∧ n ≤ 9223372036854775807 := by
  unfold Lit.wf at h
  rw [Bool.and_eq_true] at h
  exact ⟨of_decide_eq_true h.1, of_decide_eq_true h.2⟩
theorem wN (n : Nat) (h : n ≤ 1000000000000) : wrap64 ((n : Int) + 1) = ((n + 1 : Nat) : Int) := by rw [w64 (by omega) (by omega)]; omega

/- a text of some letters alone -/
theorem dropWhile_nil {α : Type} (p : α → Bool) : ∀ l : List α, l.dropWhile p = [] ↔ ∀ x ∈ l, p x = true
  | [] => by simp
  | a :: l => by
    have ih := dropWhile_nil p l
    by_cases h : p a = true
    · rw [List.dropWhile_cons_of_pos h, ih]; simp [h]
    · rw [List.dropWhile_cons_of_neg h]; simp [h]
theorem dropWhile_all {α : Type} (p : α → Bool) : ∀ l : List α, (∀ x ∈ l.dropWhile p, p x = true) → l.dropWhile p = []
  | [], _ => rfl
  | a :: l, h => by
    by_cases ha : p a = true
    · rw [List.dropWhile_cons_of_pos ha] at h ⊢; exact dropWhile_all p l h
    · rw [List.dropWhile_cons_of_neg ha] at h; exact absurd (h a (by simp)) ha
theorem trimS_nil (l cs : List UInt8) : Lib.trimS l cs = [] ↔ ∀ c ∈ l, cs.contains c = true := by
  unfold Lib.trimS Lib.trimLeftS Lib.trimRightS
  rw [dropWhile_nil]
  constructor
  · intro h
    have h' : ∀ x ∈ l.reverse.dropWhile (cs.contains ·), cs.contains x = true := fun x hx => h x (by simpa using hx)
    have := dropWhile_all _ _ h'
    rw [dropWhile_nil] at this
    exact fun c hc => this c (by simpa using hc)
  · intro h x hx
    have : l.reverse.dropWhile (cs.contains ·) = [] := (dropWhile_nil _ _).2 (fun c hc => h c (by simpa using hc))
    rw [this] at hx; simp at hx
theorem bt_get (s : ByteArray) (i : Nat) (h : i < s.size) : bt s (i : Int) = ((s.data.toList[i]'(by rw [Array.length_toList]; exact h)).toNat : Int) := by
  unfold bt
  rw [dif_pos (by rw [Int.toNat_natCast]; exact h)]
  rfl
/-- All letters of s are among some: told by place. -/
theorem all_at (s : ByteArray) (p : UInt8 → Bool) (q : Int → Bool) (hpq : ∀ c : UInt8, p c = q (c.toNat : Int)) : (∀ c ∈ s.data.toList, p c = true) ↔ ∀ i : Nat, i < s.size → q (bt s (i : Int)) = true := by
  constructor
  · intro h i hi
    rw [bt_get s i hi, ← hpq]
    exact h _ (List.getElem_mem _)
  · intro h c hc
    obtain ⟨i, hi, rfl⟩ := List.getElem_of_mem hc
    have hi' : i < s.size := by rw [Array.length_toList] at hi; exact hi
    have := h i hi'
    rw [bt_get s i hi', ← hpq] at this
    exact this
theorem empty_eq (l : List UInt8) : ((⟨l.toArray⟩ : ByteArray).toList == ([] : List UInt8)) = decide (l = []) := by
  rw [Lib.toList_data]
  simp only [List.toList_toArray]
  cases l <;> rfl
theorem trim_run (s cs : ByteArray) (hs : s.size ≤ 9223372036854775807) (hc : cs.size < 4294967281) (ha : cs.data.toList.all (fun b => decide (b.toNat < 128)) = true) : strings_Trim.f s cs = some ⟨(Lib.trimS s.data.toList cs.data.toList).toArray⟩ := by
  unfold strings_Trim.f
  rw [if_pos (by omega), if_pos hc, if_pos ha]

theorem made_run (s cs : ByteArray) (q : Int → Bool) (hs : s.size ≤ 9223372036854775807) (hc : cs.size < 4294967281) (ha : cs.data.toList.all (fun b => decide (b.toNat < 128)) = true) (hpq : ∀ c : UInt8, cs.data.toList.contains c = q (c.toNat : Int)) :
    ∃ b : Bool, impl_isMade.f s cs = some b ∧ (b = true ↔ ∀ i : Nat, i < s.size → q (bt s (i : Int)) = true) := by
  unfold impl_isMade.f
  rw [trim_run s cs hs hc ha, Option.bind_some, empty_eq]
  refine ⟨_, rfl, ?_⟩
  rw [decide_eq_true_iff, trimS_nil]
  exact all_at s (fun c => cs.data.toList.contains c) q hpq

def q3 (x : Int) : Bool := x == 85 || x == 68 || x == 70
theorem q3_of (c : UInt8) : (⟨#[85, 68, 70]⟩ : ByteArray).data.toList.contains c = q3 (c.toNat : Int) := by
  have h : ∀ n : Fin 256, (⟨#[85, 68, 70]⟩ : ByteArray).data.toList.contains (UInt8.ofNat n.val) = q3 ((UInt8.ofNat n.val).toNat : Int) := by decide +kernel
  have := h ⟨c.toNat, c.toNat_lt⟩
  simpa using this
theorem spec_bad (s : ByteArray) (hs : s.size ≤ 12) (j : Nat) (hj : j < s.size) (hb : q3 (bt s (j : Int)) = false) : ∀ (d i k : Nat) (h : Int), i + d = s.size → i ≤ j → 0 ≤ h → h ≤ i → d < k → spec_kiMixed.l0 k s h (i : Int) = some false := by
  intro d
  induction d with
  | zero => intro i k h hd hij _ _ hk; omega
  | succ d ih =>
    intro i k h hd hij h0 h1 hk
    obtain ⟨k, rfl⟩ : ∃ m, k = m + 1 := ⟨k - 1, by omega⟩
    rw [spec_kiMixed.l0.eq_2, if_pos (by omega), if_pos (by omega)]
    have next : ∀ h' : Int, 0 ≤ h' → h' ≤ i + 1 → i ≠ j → spec_kiMixed.l0 k s h' (wrap64 ((i : Int) + 1)) = some false := fun h' a b ne => by
      rw [w64 (by omega) (by omega)]
      exact ih (i + 1) k h' (by omega) (by omega) a (by omega) (by omega)
    by_cases e : i = j
    · subst e
      unfold q3 at hb
      simp only [Bool.or_eq_false_iff, beq_eq_false_iff_ne, ne_eq] at hb
      rw [if_neg hb.1.1, if_neg hb.1.2, if_neg hb.2]
    · by_cases c1 : bt s (i : Int) = 85
      · rw [if_pos c1, w64 (n := h + 1) (by omega) (by omega), if_neg (by omega)]; exact next _ (by omega) (by omega) e
      · rw [if_neg c1]
        by_cases c2 : bt s (i : Int) = 68
        · rw [if_pos c2, w64 (n := h - 1) (by omega) (by omega)]
          by_cases c : h - 1 < 0
          · rw [if_pos c]
          · rw [if_neg c]; exact next _ (by omega) (by omega) e
        · rw [if_neg c2]
          by_cases c3 : bt s (i : Int) = 70
          · rw [if_pos c3, if_neg (by omega)]; exact next _ (by omega) (by omega) e
          · rw [if_neg c3]
theorem same_good (s : ByteArray) (hs : s.size ≤ 12) (hg : ∀ i : Nat, i < s.size → q3 (bt s (i : Int)) = true) : ∀ (d i k : Nat) (h : Int), i + d = s.size → 0 ≤ h → h ≤ i → d < k → ∃ b, spec_kiMixed.l0 k s h (i : Int) = some b ∧ impl_IsMixed.l0 k s h (s.size : Int) (i : Int) = some b := by
  intro d
  induction d with
  | zero =>
    intro i k h hd _ _ hk
    obtain ⟨k, rfl⟩ : ∃ m, k = m + 1 := ⟨k - 1, by omega⟩
    rw [spec_kiMixed.l0.eq_2, impl_IsMixed.l0.eq_2, if_neg (by omega), if_neg (by omega)]
    exact ⟨_, rfl, rfl⟩
  | succ d ih =>
    intro i k h hd h0 h1 hk
    obtain ⟨k, rfl⟩ : ∃ m, k = m + 1 := ⟨k - 1, by omega⟩
    have next : ∀ h' : Int, 0 ≤ h' → h' ≤ i + 1 → ∃ b, spec_kiMixed.l0 k s h' (wrap64 ((i : Int) + 1)) = some b ∧ impl_IsMixed.l0 k s h' (s.size : Int) (wrap64 ((i : Int) + 1)) = some b := fun h' a b => by
      rw [w64 (by omega) (by omega)]
      exact ih (i + 1) k h' (by omega) a (by omega) (by omega)
    have hq := hg i (by omega)
    unfold q3 at hq
    simp only [Bool.or_eq_true, beq_iff_eq] at hq
    have lhs : ∀ t : Int, impl_rise.f (bt s (i : Int)) = some t → impl_IsMixed.l0 (k + 1) s h (s.size : Int) (i : Int) = if wrap64 (h + t) < 0 then some false else impl_IsMixed.l0 k s (wrap64 (h + t)) (s.size : Int) (wrap64 ((i : Int) + 1)) := fun t ht => by
      rw [impl_IsMixed.l0.eq_2, if_pos (by omega), if_pos (by omega), if_pos (by omega), ht, Option.bind_some]
    rcases hq with (c | c) | c
    · obtain ⟨b, e1, e2⟩ := next (h + 1) (by omega) (by omega)
      refine ⟨b, ?_, ?_⟩
      · rw [spec_kiMixed.l0.eq_2, if_pos (by omega), if_pos (by omega), if_pos c, w64 (n := h + 1) (by omega) (by omega), if_neg (by omega)]; exact e1
      · rw [lhs 1 (by unfold impl_rise.f; rw [if_pos c]), w64 (n := h + 1) (by omega) (by omega), if_neg (by omega)]; exact e2
    · by_cases cn : h - 1 < 0
      · refine ⟨false, ?_, ?_⟩
        · rw [spec_kiMixed.l0.eq_2, if_pos (by omega), if_pos (by omega), if_neg (by omega), if_pos c, w64 (n := h - 1) (by omega) (by omega), if_pos cn]
        · rw [lhs (-1) (by unfold impl_rise.f; rw [if_neg (by omega), if_pos c]), show h + -1 = h - 1 from rfl, w64 (n := h - 1) (by omega) (by omega), if_pos cn]
      · obtain ⟨b, e1, e2⟩ := next (h - 1) (by omega) (by omega)
        refine ⟨b, ?_, ?_⟩
        · rw [spec_kiMixed.l0.eq_2, if_pos (by omega), if_pos (by omega), if_neg (by omega), if_pos c, w64 (n := h - 1) (by omega) (by omega), if_neg cn]; exact e1
        · rw [lhs (-1) (by unfold impl_rise.f; rw [if_neg (by omega), if_pos c]), show h + -1 = h - 1 from rfl, w64 (n := h - 1) (by omega) (by omega), if_neg cn]; exact e2
    · obtain ⟨b, e1, e2⟩ := next h (by omega) (by omega)
      refine ⟨b, ?_, ?_⟩
      · rw [spec_kiMixed.l0.eq_2, if_pos (by omega), if_pos (by omega), if_neg (by omega), if_neg (by omega), if_pos c, if_neg (by omega)]; exact e1
      · rw [lhs 0 (by unfold impl_rise.f; rw [if_neg (by omega), if_neg (by omega)]), Int.add_zero, w64 (n := h) (by omega) (by omega), if_neg (by omega)]; exact e2
theorem mixed_run (s : ByteArray) (hs : s.size ≤ 140737488351232) {k : Nat} (hk : 20 ≤ k) : ∃ b, spec_kiMixed.f k s = some b ∧ impl_IsMixed.f k s = some b := by
  unfold spec_kiMixed.f impl_IsMixed.f
  obtain ⟨k, rfl⟩ : ∃ m, k = m + 1 := ⟨k - 1, by omega⟩
  by_cases h : (s.size : Int) > 12
  · rw [if_pos h, if_pos h, impl_IsMixed.j0.eq_2, if_pos rfl]; exact ⟨_, rfl, rfl⟩
  · rw [if_neg h, if_neg h]
    obtain ⟨b, hb, hb'⟩ := made_run s ⟨#[85, 68, 70]⟩ q3 (by omega) (by decide) (by decide) q3_of
    rw [hb, Option.bind_some, impl_IsMixed.j0.eq_2]
    cases b with
    | true =>
      rw [if_neg (by decide)]
      obtain ⟨r, h1, h2⟩ := same_good s (by omega) (hb'.1 rfl) s.size 0 k 0 (by omega) (by omega) (by omega) (by omega)
      exact ⟨r, (spec_kiMixed.mono_l k _ _ _) _ h1, h2⟩
    | false =>
      rw [if_pos (by decide)]
      have : ¬ ∀ i : Nat, i < s.size → q3 (bt s (i : Int)) = true := fun h => by cases hb'.2 h
      obtain ⟨j, hj⟩ := Classical.not_forall.1 this
      obtain ⟨hj1, hj2⟩ := Classical.not_imp.1 hj
      exact ⟨false, spec_bad s (by omega) j hj1 (by simpa using hj2) s.size 0 (k + 1) 0 (by omega) (by omega) (by omega) (by omega) (by omega), rfl⟩

theorem good_all (s : ByteArray) (hs : s.size ≤ 12) : ∀ (d i k : Nat) (h : Int), i + d = s.size → 0 ≤ h → h ≤ i → d < k → spec_kiMixed.l0 k s h (i : Int) = some true → ∀ j : Nat, i ≤ j → j < s.size → q3 (bt s (j : Int)) = true := by
  intro d i k h hd h0 h1 hk e j hij hj
  cases c : q3 (bt s (j : Int)) with
  | true => rfl
  | false =>
    rw [spec_bad s hs j hj c d i k h hd hij h0 h1 hk] at e
    cases e
theorem bt_q (s : ByteArray) (m : Nat) (h : m < s.size) : bt s (m : Int) = ((s[m]).toNat : Int) := by
  unfold bt
  rw [dif_pos (by rw [Int.toNat_natCast]; exact h)]
  rfl
theorem ok_of (s : ByteArray) (m : Nat) (h : m < s.size) (hq : q3 (bt s (m : Int)) = true) : Rp.okB s[m] := by
  rw [bt_q s m h] at hq
  unfold q3 at hq
  simp only [Bool.or_eq_true, beq_iff_eq] at hq
  rcases hq with (c | c) | c
  · exact .inl (UInt8.toNat_inj.1 (by rw [show (85 : UInt8).toNat = 85 from rfl]; omega))
  · exact .inr (.inl (UInt8.toNat_inj.1 (by rw [show (68 : UInt8).toNat = 68 from rfl]; omega)))
  · exact .inr (.inr (UInt8.toNat_inj.1 (by rw [show (70 : UInt8).toNat = 70 from rfl]; omega)))
theorem goodB_of (s : ByteArray) (h : ∀ j : Nat, j < s.size → q3 (bt s (j : Int)) = true) : goodB s = true := by
  unfold goodB
  rw [Array.all_eq_true]
  intro m hm
  have := ok_of s m hm (h m hm)
  rcases this with c | c | c <;> (have c' : s.data[m] = _ := c; rw [c']; rfl)
theorem cat_run (s : ByteArray) (hs : s.size ≤ 12) (hg : ∀ j (h : j < s.size), Rp.okB s[j]) : ∀ (d i k : Nat), i + d = s.size → d < k → spec_PathOfMixed.l0 k s ⟨(Rp.exp s i).toArray⟩ (i : Int) = some (⟨(Rp.exp s s.size).toArray⟩, true) := by
  intro d
  induction d with
  | zero =>
    intro i k hd hk
    obtain ⟨k, rfl⟩ : ∃ m, k = m + 1 := ⟨k - 1, by omega⟩
    obtain rfl : i = s.size := by omega
    rw [spec_PathOfMixed.l0.eq_2, if_neg (by omega)]
  | succ d ih =>
    intro i k hd hk
    obtain ⟨k, rfl⟩ : ∃ m, k = m + 1 := ⟨k - 1, by omega⟩
    have hlt : i < s.size := by omega
    have hz : (⟨(Rp.exp s i).toArray⟩ : ByteArray).size = 2 * i := by
      show (Rp.exp s i).toArray.size = 2 * i
      rw [List.size_toArray, Rp.exp_length s i (by omega)]
    have hnext : ∀ x y : UInt8, x = Rp.two1 s[i] → y = Rp.two2 s[i] → (⟨(Rp.exp s i).toArray⟩ : ByteArray) ++ (⟨#[x, y]⟩ : ByteArray) = ⟨(Rp.exp s (i + 1)).toArray⟩ := fun x y hx hy => by
      rw [Rp.exp_succ s i hlt, ← hx, ← hy]
      apply ByteArray.ext
      rw [ByteArray.data_append]
      simp
    rw [spec_PathOfMixed.l0.eq_2, if_pos (by omega), if_pos (by omega), hz, bt_q s i hlt, w64 (n := (i : Int) + 1) (by omega) (by omega)]
    have e := ih (i + 1) k (by omega) (by omega)
    rw [show ((i + 1 : Nat) : Int) = (i : Int) + 1 by omega] at e
    rcases hg i hlt with c | c | c
    · rw [c, if_pos (by decide), if_pos (by omega), hnext 85 85 (by rw [c]; rfl) (by rw [c]; rfl)]; exact e
    · rw [c, if_neg (by decide), if_pos (by decide), if_pos (by omega), hnext 68 68 (by rw [c]; rfl) (by rw [c]; rfl)]; exact e
    · rw [c, if_neg (by decide), if_neg (by decide), if_pos (by omega), hnext 85 68 (by rw [c]; rfl) (by rw [c]; rfl)]; exact e
theorem FnExactPathOfMixed : ∀ (a0 : ByteArray), a0.size ≤ 140737488351232 → ∃ k, laws_FnExactPathOfMixed.f k a0 = some true := by
  intro s hs
  refine ⟨20, ?_⟩
  unfold laws_FnExactPathOfMixed.f spec_PathOfMixed.f impl_PathOfMixed.f
  obtain ⟨b, h1, h2⟩ := mixed_run s hs (k := 20) (by omega)
  by_cases h : (s.size : Int) > 1048576
  · rw [if_pos h]
  · rw [if_neg h, h1, h2, Option.bind_some, Option.bind_some]
    cases b with
    | false => rw [if_neg (by decide), if_neg (by decide), Option.bind_some, Option.bind_some]; simp
    | true =>
      rw [if_pos rfl, if_pos rfl]
      have h12 : s.size ≤ 12 := by
        unfold spec_kiMixed.f at h1
        by_cases c : (s.size : Int) > 12
        · rw [if_pos c] at h1; cases h1
        · omega
      have hq : ∀ j : Nat, j < s.size → q3 (bt s (j : Int)) = true := fun j hj => by
        unfold spec_kiMixed.f at h1
        rw [if_neg (by omega)] at h1
        exact good_all s h12 s.size 0 20 0 (by omega) (by omega) (by omega) (by omega) h1 j (by omega) hj
      have e := cat_run s h12 (fun j hj => ok_of s j hj (hq j hj)) s.size 0 20 (by omega) (by omega)
      have e0 : (⟨(Rp.exp s 0).toArray⟩ : ByteArray) = ⟨#[]⟩ := by unfold Rp.exp; simp
      rw [e0] at e
      have e' : spec_PathOfMixed.l0 20 s (⟨#[]⟩ : ByteArray) 0 = some (⟨(Rp.exp s s.size).toArray⟩, true) := e
      rw [e', if_pos ⟨h12, goodB_of s hq⟩, Option.bind_some, Option.bind_some]
      simp
end Go.Proofs.YtgdecglakknmpaaDoor.Pure
