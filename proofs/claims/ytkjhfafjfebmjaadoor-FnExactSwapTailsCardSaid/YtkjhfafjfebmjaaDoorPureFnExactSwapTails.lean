/- The tails of two ways swapped behind the first cell at which they meet: both sides cut the texts at the same places. No condition. -/
import Derived.Test.YtkjhfafjfebmjaaDoorOFnExactSwapTailsx8
namespace Go.Proofs.YtkjhfafjfebmjaaDoor.Pure
open Go.RowKit Go.Proofs.YtkjhfafjfebmjaaDoor.Stub Go.Proofs.YtkjhfafjfebmjaaDoor.OFnExactSwapTails Go.Proofs.YtkjhfafjfebmjaaDoorW.PrintWords Go.Proofs.YtkjhfafjfebmjaaDoorW.PrintLast
set_option linter.unusedVariables false
set_option linter.unusedSimpArgs false
theorem w64 {n : Int} (h0 : -9223372036854775808 ≤ n) (h1 : n ≤ 9223372036854775807) : wrap64 n = n := by unfold wrap64; omega
theorem wf_bd {n : Int} (h : (Lit.int .i64 n).wf = true) : -9223372036854775808 ≤ n ∧ n ≤ 9223372036854775807 := by
  unfold Lit.wf at h
  rw [Bool.and_eq_true] at h
  exact ⟨of_decide_eq_true h.1, of_decide_eq_true h.2⟩
theorem wN (n : Nat) (h : n ≤ 1000000000000) : wrap64 ((n : Int) + 1) = ((n + 1 : Nat) : Int) := by rw [w64 (by omega) (by omega)]; omega

/- a text of some letters alone -/
theorem dropWhile_nil {α : Type} (p : α → Bool) : ∀ l : List α, l.dropWhile p = [] ↔ ∀ x ∈ l, p x = true
  | [] => by simp
  | a :: l => by
    have ih := dropWhile_nil p l
    by_cases h : p a = true
    · rw [List.dropWhile_cons_of_pos h, ih]; simp [h]
    · rw [List.dropWhile_cons_of_neg h]; simp [h]
theorem dropWhile_all {α : Type} (p : α → Bool) : ∀ l : List α, (∀ x ∈ l.dropWhile p, p x = true) → l.dropWhile p = []
  | [], _ => rfl
  | a :: l, h => by
    by_cases ha : p a = true
    · rw [List.dropWhile_cons_of_pos ha] at h ⊢; exact dropWhile_all p l h
    · rw [List.dropWhile_cons_of_neg ha] at h; exact absurd (h a (by simp)) ha
theorem trimS_nil (l cs : List UInt8) : Lib.trimS l cs = [] ↔ ∀ c ∈ l, cs.contains c = true := by
  unfold Lib.trimS Lib.trimLeftS Lib.trimRightS
  rw [dropWhile_nil]
  constructor
  · intro h
    have h' : ∀ x ∈ l.reverse.dropWhile (cs.contains ·), cs.contains x = true := fun x hx => h x (by simpa using hx)
    have := dropWhile_all _ _ h'
    rw [dropWhile_nil] at this
    exact fun c hc => this c (by simpa using hc)
  · intro h x hx
    have : l.reverse.dropWhile (cs.contains ·) = [] := (dropWhile_nil _ _).2 (fun c hc => h c (by simpa using hc))
    rw [this] at hx; simp at hx
theorem bt_get (s : ByteArray) (i : Nat) (h : i < s.size) : bt s (i : Int) = ((s.data.toList[i]'(by rw [Array.length_toList]; exact h)).toNat : Int) := by
  unfold bt
  rw [dif_pos (by rw [Int.toNat_natCast]; exact h)]
  rfl
/-- All letters of s are among some: told by place. -/
theorem all_at (s : ByteArray) (p : UInt8 → Bool) (q : Int → Bool) (hpq : ∀ c : UInt8, p c = q (c.toNat : Int)) : (∀ c ∈ s.data.toList, p c = true) ↔ ∀ i : Nat, i < s.size → q (bt s (i : Int)) = true := by
  constructor
  · intro h i hi
    rw [bt_get s i hi, ← hpq]
    exact h _ (List.getElem_mem _)
  · intro h c hc
    obtain ⟨i, hi, rfl⟩ := List.getElem_of_mem hc
    have hi' : i < s.size := by rw [Array.length_toList] at hi; exact hi
    have := h i hi'
    rw [bt_get s i hi', ← hpq] at this
    exact this
theorem empty_eq (l : List UInt8) : ((⟨l.toArray⟩ : ByteArray).toList == ([] : List UInt8)) = decide (l = []) := by
  rw [Lib.toList_data]
  simp only [List.toList_toArray]
  cases l <;> rfl
theorem trim_run (s cs : ByteArray) (hs : s.size ≤ 9223372036854775807) (hc : cs.size < 4294967281) (ha : cs.data.toList.all (fun b => decide (b.toNat < 128)) = true) : strings_Trim.f s cs = some ⟨(Lib.trimS s.data.toList cs.data.toList).toArray⟩ := by
  unfold strings_Trim.f
  rw [if_pos (by omega), if_pos hc, if_pos ha]

theorem in_eq (a b c : Int) : impl_in.f a b c = some (decide (b ≤ a ∧ a ≤ c)) := by
  unfold impl_in.f
  by_cases h1 : b ≤ a <;> by_cases h2 : a ≤ c <;> simp [h1, h2]
theorem l1In_eq (a b c : Int) : spec_l1In.f a b c = some (decide (b ≤ a ∧ a ≤ c)) := by
  unfold spec_l1In.f
  by_cases h1 : b ≤ a <;> by_cases h2 : a ≤ c <;> simp [h1, h2]

theorem made_run (s cs : ByteArray) (q : Int → Bool) (hs : s.size ≤ 9223372036854775807) (hc : cs.size < 4294967281) (ha : cs.data.toList.all (fun b => decide (b.toNat < 128)) = true) (hpq : ∀ c : UInt8, cs.data.toList.contains c = q (c.toNat : Int)) :
    ∃ b : Bool, impl_isMade.f s cs = some b ∧ (b = true ↔ ∀ i : Nat, i < s.size → q (bt s (i : Int)) = true) := by
  unfold impl_isMade.f
  rw [trim_run s cs hs hc ha, Option.bind_some, empty_eq]
  refine ⟨_, rfl, ?_⟩
  rw [decide_eq_true_iff, trimS_nil]
  exact all_at s (fun c => cs.data.toList.contains c) q hpq
def qw (x : Int) : Bool := x == 69 || x == 78
theorem qw_of (c : UInt8) : (⟨#[69, 78]⟩ : ByteArray).data.toList.contains c = qw (c.toNat : Int) := by
  have h : ∀ n : Fin 256, (⟨#[69, 78]⟩ : ByteArray).data.toList.contains (UInt8.ofNat n.val) = qw ((UInt8.ofNat n.val).toNat : Int) := by decide +kernel
  have := h ⟨c.toNat, c.toNat_lt⟩
  simpa using this
/-- How many steps to the east there are among the first ones. -/
def es (s : ByteArray) : Nat → Nat
  | 0 => 0
  | i + 1 => es s i + (if bt s (i : Int) = 69 then 1 else 0)
theorem es_le (s : ByteArray) : ∀ i, es s i ≤ i
  | 0 => by simp [es]
  | i + 1 => by have := es_le s i; unfold es; split <;> omega
theorem es_mono (s : ByteArray) (i : Nat) : ∀ d, es s i ≤ es s (i + d) ∧ es s (i + d) ≤ es s i + d
  | 0 => by simp
  | d + 1 => by
    have := es_mono s i d
    have e : es s (i + (d + 1)) = es s (i + d) + (if bt s ((i + d : Nat) : Int) = 69 then 1 else 0) := rfl
    rw [e]; split <;> omega
def cl (x y : Int) (s : ByteArray) (i : Nat) : S28 := ⟨x + es s i, y + ((i - es s i : Nat) : Int)⟩
def cls (x y : Int) (s : ByteArray) (n : Nat) : List S28 := (List.range (n + 1)).map (cl x y s)
theorem cls_len (x y : Int) (s : ByteArray) (n : Nat) : (cls x y s n).length = n + 1 := by simp [cls]
theorem cls_get (x y : Int) (s : ByteArray) {n i : Nat} (h : i ≤ n) : rd_T28 (cls x y s n) (i : Int) = cl x y s i := by
  unfold rd_T28 cls
  rw [Int.toNat_natCast, List.getD_eq_getElem?_getD, List.getElem?_map, List.getElem?_range (by omega)]
  rfl
theorem cls_snoc (x y : Int) (s : ByteArray) (n : Nat) : cls x y s n ++ [cl x y s (n + 1)] = cls x y s (n + 1) := by
  unfold cls; rw [List.range_succ (n := n + 1), List.map_append]; rfl
theorem cl_E {x y : Int} {s : ByteArray} {i : Nat} (h : bt s (i : Int) = 69) : cl x y s (i + 1) = ⟨(cl x y s i).f0 + 1, (cl x y s i).f1⟩ := by
  have := es_le s i
  have e : es s (i + 1) = es s i + 1 := by show es s i + (if bt s (i : Int) = 69 then 1 else 0) = _; rw [if_pos h]
  unfold cl
  rw [e]; simp only [S28.mk.injEq]; constructor <;> omega
theorem cl_N {x y : Int} {s : ByteArray} {i : Nat} (h : ¬ bt s (i : Int) = 69) : cl x y s (i + 1) = ⟨(cl x y s i).f0, (cl x y s i).f1 + 1⟩ := by
  have := es_le s i
  have e : es s (i + 1) = es s i := by show es s i + (if bt s (i : Int) = 69 then 1 else 0) = _; rw [if_neg h, Nat.add_zero]
  unfold cl
  rw [e]; simp only [S28.mk.injEq, true_and]; omega
def ing (c : S28) : Prop := (0 ≤ c.f0 ∧ c.f0 ≤ 12) ∧ 0 ≤ c.f1 ∧ c.f1 ≤ 12
instance (c : S28) : Decidable (ing c) := by unfold ing; infer_instance
theorem spec_cell (a b : Int) : spec_ncCell.f a b = some (decide (ing ⟨a, b⟩)) := by
  have hi : ing ⟨a, b⟩ ↔ ((0 ≤ a ∧ a ≤ 12) ∧ (0 ≤ b ∧ b ≤ 12)) := Iff.rfl
  unfold spec_ncCell.f
  rw [l1In_eq, l1In_eq, Option.bind_some, Option.bind_some]
  by_cases h1 : 0 ≤ a ∧ a ≤ 12
  · rw [decide_eq_true h1, if_pos rfl]; congr 1; rw [decide_eq_decide, hi]; exact ⟨fun h => ⟨h1, h⟩, fun h => h.2⟩
  · rw [decide_eq_false h1, if_neg (by decide)]; congr 1; symm; apply decide_eq_false; rw [hi]; exact fun h => h1 h.1
theorem impl_cell (a b : Int) : impl_IsCell.f a b = some (decide (ing ⟨a, b⟩)) := by
  have hi : ing ⟨a, b⟩ ↔ ((0 ≤ a ∧ a ≤ 12) ∧ (0 ≤ b ∧ b ≤ 12)) := Iff.rfl
  unfold impl_IsCell.f
  rw [in_eq, in_eq, Option.bind_some, Option.bind_some]
  by_cases h1 : 0 ≤ a ∧ a ≤ 12
  · rw [decide_eq_true h1, if_pos rfl]; congr 1; rw [decide_eq_decide, hi]; exact ⟨fun h => ⟨h1, h⟩, fun h => h.2⟩
  · rw [decide_eq_false h1, if_neg (by decide)]; congr 1; symm; apply decide_eq_false; rw [hi]; exact fun h => h1 h.1
theorem impl_cells_l0 {x y : Int} (hx : 0 ≤ x) (hx' : x ≤ 12) (hy : 0 ≤ y) (hy' : y ≤ 12) {s : ByteArray} (hs : s.size ≤ 24) (a b : Int) : ∀ (d i k : Nat), i + d = s.size → d < k → impl_Way_cells.l0 k (cls x y s i) (s.size : Int) (i : Int) a b s = some (cls x y s s.size) := by
  intro d
  induction d with
  | zero =>
    intro i k hd hk
    obtain ⟨k, rfl⟩ : ∃ m, k = m + 1 := ⟨k - 1, by omega⟩
    rw [impl_Way_cells.l0.eq_2, if_neg (by omega), show i = s.size by omega]
  | succ d ih =>
    intro i k hd hk
    obtain ⟨k, rfl⟩ : ∃ m, k = m + 1 := ⟨k - 1, by omega⟩
    have hl := cls_len x y s i
    have he := es_le s i
    have hn : impl_Cell_next.f (cl x y s i).f0 (cl x y s i).f1 (bt s (i : Int)) = some ((cl x y s (i + 1)).f0, (cl x y s (i + 1)).f1) := by
      unfold impl_Cell_next.f
      by_cases h : bt s (i : Int) = 69
      · rw [if_pos h, cl_E h]
        have : wrap64 ((cl x y s i).f0 + 1) = (cl x y s i).f0 + 1 := by unfold cl; exact w64 (by show _ ≤ x + (es s i : Int) + 1; omega) (by show x + (es s i : Int) + 1 ≤ _; omega)
        rw [this]
      · rw [if_neg h, cl_N h]
        have : wrap64 ((cl x y s i).f1 + 1) = (cl x y s i).f1 + 1 := by unfold cl; exact w64 (by show _ ≤ y + ((i - es s i : Nat) : Int) + 1; omega) (by show y + ((i - es s i : Nat) : Int) + 1 ≤ _; omega)
        rw [this]
    rw [impl_Way_cells.l0.eq_2, if_pos (by omega), if_pos (by omega), if_pos (by omega), if_pos (by omega), cls_get _ _ _ (Nat.le_refl _), hn, Option.bind_some, if_pos (by omega), w64 (n := (i : Int) + 1) (by omega) (by omega)]
    have := ih (i + 1) k (by omega) (by omega)
    rw [← cls_snoc] at this
    rw [show ((i + 1 : Nat) : Int) = (i : Int) + 1 by omega] at this
    exact this
theorem spec_cells_l0 {x y : Int} (hx : 0 ≤ x) (hx' : x ≤ 12) (hy : 0 ≤ y) (hy' : y ≤ 12) {s : ByteArray} (hs : s.size ≤ 24) (a b : Int) : ∀ (d i : Nat), i + d = s.size → ing (cl x y s i) →
    ∃ t : Bool, (∀ k, d < k → spec_ncCells.l0 k (cls x y s i) (i : Int) a b s (cl x y s i).f0 (cl x y s i).f1 = some (if t = true then cls x y s s.size else [], t)) ∧ (t = true ↔ (∀ j : Nat, i ≤ j → j < s.size → qw (bt s (j : Int)) = true) ∧ ing (cl x y s s.size)) := by
  intro d
  induction d with
  | zero =>
    intro i hd hg
    refine ⟨true, fun k hk => ?_, ?_⟩
    · obtain ⟨k, rfl⟩ : ∃ m, k = m + 1 := ⟨k - 1, by omega⟩
      rw [spec_ncCells.l0.eq_2, if_neg (by omega), show i = s.size by omega]; rfl
    · obtain rfl : i = s.size := by omega
      exact ⟨fun _ => ⟨fun j h1 h2 => by omega, hg⟩, fun _ => rfl⟩
  | succ d ih =>
    intro i hd hg
    have hl := cls_len x y s i
    have he := es_le s i
    have far : ¬ ing (cl x y s (i + 1)) → ¬ ing (cl x y s s.size) := by
      intro h hc
      apply h
      have hm := es_mono s (i + 1) d
      rw [show i + 1 + d = s.size by omega] at hm
      have he1 := es_le s (i + 1)
      unfold ing cl at hc ⊢
      simp only at hc ⊢
      omega
    by_cases hq : qw (bt s (i : Int)) = true
    · have hq' := hq
      unfold qw at hq'
      simp only [Bool.or_eq_true, beq_iff_eq] at hq'
      have stepv : ∀ k, spec_ncCells.l0 (k + 1) (cls x y s i) (i : Int) a b s (cl x y s i).f0 (cl x y s i).f1 = if ing (cl x y s (i + 1)) then spec_ncCells.l0 k (cls x y s (i + 1)) ((i + 1 : Nat) : Int) a b s (cl x y s (i + 1)).f0 (cl x y s (i + 1)).f1 else some ([], false) := by
        intro k
        have hw : wrap64 ((i : Int) + 1) = ((i + 1 : Nat) : Int) := by rw [w64 (by omega) (by omega)]; omega
        by_cases h : bt s (i : Int) = 69
        · have hv : wrap64 ((cl x y s i).f0 + 1) = (cl x y s i).f0 + 1 := by unfold cl; exact w64 (by show _ ≤ x + (es s i : Int) + 1; omega) (by show x + (es s i : Int) + 1 ≤ _; omega)
          rw [spec_ncCells.l0.eq_2, if_pos (by clear hw hv; omega), if_pos (by clear hw hv; omega), if_pos h, hv, spec_cell, Option.bind_some, ← cls_snoc, cl_E h]
          by_cases g : ing ⟨(cl x y s i).f0 + 1, (cl x y s i).f1⟩
          · rw [decide_eq_true g, if_pos rfl, if_pos (by clear hw hv; omega), if_pos g, hw]
          · rw [decide_eq_false g, if_neg (by decide), if_neg g]
        · have hN : bt s (i : Int) = 78 := by rcases hq' with h' | h'; exact absurd h' h; exact h'
          have hv : wrap64 ((cl x y s i).f1 + 1) = (cl x y s i).f1 + 1 := by unfold cl; exact w64 (by show _ ≤ y + ((i - es s i : Nat) : Int) + 1; omega) (by show y + ((i - es s i : Nat) : Int) + 1 ≤ _; omega)
          rw [spec_ncCells.l0.eq_2, if_pos (by clear hw hv; omega), if_pos (by clear hw hv; omega), if_neg h, if_pos hN, hv, spec_cell, Option.bind_some, ← cls_snoc, cl_N h]
          by_cases g : ing ⟨(cl x y s i).f0, (cl x y s i).f1 + 1⟩
          · rw [decide_eq_true g, if_pos rfl, if_pos (by clear hw hv; omega), if_pos g, hw]
          · rw [decide_eq_false g, if_neg (by decide), if_neg g]
      by_cases g : ing (cl x y s (i + 1))
      · obtain ⟨t, t1, t2⟩ := ih (i + 1) (by omega) g
        refine ⟨t, fun k hk => ?_, ?_⟩
        · obtain ⟨k, rfl⟩ : ∃ m, k = m + 1 := ⟨k - 1, by omega⟩
          rw [stepv, if_pos g]; exact t1 k (by omega)
        · rw [t2]
          constructor
          · rintro ⟨h1, h2⟩
            refine ⟨fun j hj hj' => ?_, h2⟩
            by_cases e : j = i
            · subst e; exact hq
            · exact h1 j (by omega) hj'
          · rintro ⟨h1, h2⟩; exact ⟨fun j hj hj' => h1 j (by omega) hj', h2⟩
      · refine ⟨false, fun k hk => ?_, ⟨fun h => (by cases h), fun h => absurd h.2 (far g)⟩⟩
        obtain ⟨k, rfl⟩ : ∃ m, k = m + 1 := ⟨k - 1, by omega⟩
        rw [stepv, if_neg g]; rfl
    · refine ⟨false, fun k hk => ?_, ⟨fun h => (by cases h), fun h => absurd (h.1 i (Nat.le_refl _) (by omega)) hq⟩⟩
      obtain ⟨k, rfl⟩ : ∃ m, k = m + 1 := ⟨k - 1, by omega⟩
      unfold qw at hq
      simp only [Bool.or_eq_true, beq_iff_eq] at hq
      rw [spec_ncCells.l0.eq_2, if_pos (by omega), if_pos (by omega), if_neg (fun h => hq (.inl h)), if_neg (fun h => hq (.inr h))]; rfl
/-- A way: both sides' looks, and its cells. -/
theorem way_run (x y : Int) (s : ByteArray) (hs : s.size ≤ 9223372036854775807) : ∃ t : Bool, (∀ k, 30 ≤ k → spec_ncCells.f k x y s = some (if t = true then cls x y s s.size else [], t)) ∧ (∀ k, 30 ≤ k → impl_IsWay.f k x y s = some t) ∧
    (t = true → s.size ≤ 24 ∧ (0 ≤ x ∧ x ≤ 12) ∧ (0 ≤ y ∧ y ≤ 12) ∧ ∀ k, 30 ≤ k → impl_Way_cells.f k x y s = some (cls x y s s.size)) := by
  by_cases hg : ing ⟨x, y⟩
  · by_cases hl : s.size ≤ 24
    · have hb : (0 ≤ x ∧ x ≤ 12) ∧ 0 ≤ y ∧ y ≤ 12 := hg
      obtain ⟨⟨hx, hx'⟩, hy, hy'⟩ := hb
      have c0 : cl x y s 0 = ⟨x, y⟩ := by unfold cl es; simp
      have l0 : cls x y s 0 = [⟨x, y⟩] := by unfold cls; simp [c0]
      obtain ⟨t, t1, t2⟩ := spec_cells_l0 hx hx' hy hy' hl x y s.size 0 (by omega) (by rw [c0]; exact hg)
      have hcells : ∀ k, 30 ≤ k → impl_Way_cells.f k x y s = some (cls x y s s.size) := fun k hk => by
        have := impl_cells_l0 hx hx' hy hy' hl x y s.size 0 k (by omega) (by omega)
        rw [l0] at this
        exact this
      obtain ⟨m, m1, m2⟩ := made_run s ⟨#[69, 78]⟩ qw hs (by decide) (by decide) qw_of
      refine ⟨t, fun k hk => ?_, fun k hk => ?_, fun _ => ⟨hl, ⟨hx, hx'⟩, ⟨hy, hy'⟩, hcells⟩⟩
      · obtain ⟨k, rfl⟩ : ∃ q, k = q + 1 := ⟨k - 1, by omega⟩
        unfold spec_ncCells.f
        rw [spec_cell, decide_eq_true hg, Option.bind_some, if_pos rfl, decide_eq_false (by omega), spec_ncCells.j0.eq_2, if_neg (by decide)]
        have := t1 k (by omega)
        rw [l0, c0] at this
        exact this
      · unfold impl_IsWay.f
        have hcl := cls_len x y s s.size
        rw [impl_cell, decide_eq_true hg, Option.bind_some, if_pos rfl, if_pos (by omega), m1, Option.bind_some]
        cases m with
        | true =>
          rw [if_pos rfl, hcells k hk, Option.bind_some, if_pos (by omega), if_pos (by omega), cls_get _ _ _ (Nat.le_refl _), impl_cell, Option.bind_some]
          congr 1
          rw [Bool.eq_iff_iff, decide_eq_true_iff, t2]
          exact ⟨fun h => ⟨fun j _ hj => m2.1 rfl j hj, h⟩, fun h => h.2⟩
        | false =>
          rw [if_neg (by decide)]
          congr 1
          symm
          rw [← Bool.not_eq_true, t2]
          intro h
          have := m2.2 (fun j hj => h.1 j (Nat.zero_le _) hj)
          cases this
    · refine ⟨false, fun k hk => ?_, fun k hk => ?_, fun h => by cases h⟩
      · obtain ⟨k, rfl⟩ : ∃ q, k = q + 1 := ⟨k - 1, by omega⟩
        unfold spec_ncCells.f
        rw [spec_cell, decide_eq_true hg, Option.bind_some, if_pos rfl, decide_eq_true (by omega), spec_ncCells.j0.eq_2, if_pos rfl]; rfl
      · unfold impl_IsWay.f
        rw [impl_cell, decide_eq_true hg, Option.bind_some, if_pos rfl, if_neg (by omega)]
  · refine ⟨false, fun k hk => ?_, fun k hk => ?_, fun h => by cases h⟩
    · obtain ⟨k, rfl⟩ : ∃ q, k = q + 1 := ⟨k - 1, by omega⟩
      unfold spec_ncCells.f
      rw [spec_cell, decide_eq_false hg, Option.bind_some, if_neg (by decide), spec_ncCells.j0.eq_2, if_pos rfl]; rfl
    · unfold impl_IsWay.f
      rw [impl_cell, decide_eq_false hg, Option.bind_some, if_neg (by decide)]

/-- The place of a cell in a list, told from a place on. -/
def fi (bs : List S28) (cx cy : Int) : Nat → Nat → Int
  | 0, _ => -1
  | d + 1, j => if (cx == (rd_T28 bs (j : Int)).f0 && (cy == (rd_T28 bs (j : Int)).f1)) = true then (j : Int) else fi bs cx cy d (j + 1)
theorem fi_rng (bs : List S28) (cx cy : Int) : ∀ d j, fi bs cx cy d j = -1 ∨ ((j : Int) ≤ fi bs cx cy d j ∧ fi bs cx cy d j < (j + d : Nat))
  | 0, j => .inl rfl
  | d + 1, j => by
    unfold fi
    split
    · right; omega
    · rcases fi_rng bs cx cy d (j + 1) with h | h
      · exact .inl h
      · right; omega
/-- The first place at which two lists meet. -/
def mi (ac bs : List S28) : Nat → Nat → Option (Int × Int)
  | 0, _ => none
  | d + 1, i => if fi bs (rd_T28 ac (i : Int)).f0 (rd_T28 ac (i : Int)).f1 bs.length 0 < 0 then mi ac bs d (i + 1) else some ((i : Int), fi bs (rd_T28 ac (i : Int)).f0 (rd_T28 ac (i : Int)).f1 bs.length 0)
theorem mi_rng (ac bs : List S28) : ∀ d i p, mi ac bs d i = some p → (i : Int) ≤ p.1 ∧ p.1 < ((i + d : Nat) : Int) ∧ 0 ≤ p.2 ∧ p.2 < (bs.length : Int)
  | 0, i, p, h => by cases h
  | d + 1, i, p, h => by
    unfold mi at h
    have := fi_rng bs (rd_T28 ac (i : Int)).f0 (rd_T28 ac (i : Int)).f1 bs.length 0
    split at h
    · have := mi_rng ac bs d (i + 1) p h; omega
    · injection h with h; subst h; simp only; omega
theorem impl_index (bs : List S28) (cx cy : Int) (hb : bs.length < 1000) : ∀ (d j k : Nat), j + d = bs.length → d < k → impl_Cell.l0 k bs (bs.length : Int) (j : Int) cx cy = some (fi bs cx cy d j) := by
  intro d
  induction d with
  | zero =>
    intro j k hd hk
    obtain ⟨k, rfl⟩ : ∃ m, k = m + 1 := ⟨k - 1, by omega⟩
    rw [impl_Cell.l0.eq_2, if_neg (by omega)]; rfl
  | succ d ih =>
    intro j k hd hk
    obtain ⟨k, rfl⟩ : ∃ m, k = m + 1 := ⟨k - 1, by omega⟩
    have hw : wrap64 ((j : Int) + 1) = ((j + 1 : Nat) : Int) := by rw [w64 (by omega) (by omega)]; omega
    rw [impl_Cell.l0.eq_2, if_pos (by clear hw; omega), if_pos (by clear hw; omega), if_pos (by clear hw; omega), hw, ih (j + 1) k (by omega) (by omega)]
    have e : fi bs cx cy (d + 1) j = if (cx == (rd_T28 bs (j : Int)).f0 && (cy == (rd_T28 bs (j : Int)).f1)) = true then (j : Int) else fi bs cx cy d (j + 1) := rfl
    rw [e]
    split <;> rfl
theorem spec_inner (ac bs : List S28) (la i cx cy : Int) (hb : bs.length < 1000) : ∀ (d j k : Nat), j + d = bs.length → spec_ncMeet.l1 (k + d + 1) bs i ac la i bs (bs.length : Int) (j : Int) cx cy = if fi bs cx cy d j < 0 then spec_ncMeet.l0 k bs ac la (wrap64 (i + 1)) else some (i, fi bs cx cy d j, true) := by
  intro d
  induction d with
  | zero =>
    intro j k hd
    rw [spec_ncMeet.l1.eq_2, if_neg (by omega), show fi bs cx cy 0 j = -1 from rfl, if_pos (by omega)]
  | succ d ih =>
    intro j k hd
    have hw : wrap64 ((j : Int) + 1) = ((j + 1 : Nat) : Int) := by rw [w64 (by omega) (by omega)]; omega
    rw [spec_ncMeet.l1.eq_2, if_pos (by clear hw; omega), if_pos (by clear hw; omega), if_pos (by clear hw; omega), hw]
    rw [show fi bs cx cy (d + 1) j = if (cx == (rd_T28 bs (j : Int)).f0 && (cy == (rd_T28 bs (j : Int)).f1)) = true then (j : Int) else fi bs cx cy d (j + 1) from rfl]
    by_cases h : (cx == (rd_T28 bs (j : Int)).f0 && (cy == (rd_T28 bs (j : Int)).f1)) = true
    · rw [if_pos h, if_pos h, if_neg (by clear hw; omega)]
    · rw [if_neg h, if_neg h, show k + (d + 1) = k + d + 1 by omega]
      exact ih (j + 1) k (by omega)
theorem spec_outer (ac bs : List S28) (ha : ac.length < 1000) (hb : bs.length < 1000) : ∀ (d i k : Nat), i + d = ac.length → (bs.length + 2) * d < k → spec_ncMeet.l0 k bs ac (ac.length : Int) (i : Int) = some (match mi ac bs d i with | none => (0, 0, false) | some p => (p.1, p.2, true)) := by
  intro d
  induction d with
  | zero =>
    intro i k hd hk
    obtain ⟨k, rfl⟩ : ∃ m, k = m + 1 := ⟨k - 1, by omega⟩
    rw [spec_ncMeet.l0.eq_2, if_neg (by omega)]; rfl
  | succ d ih =>
    intro i k hd hk
    rw [Nat.mul_succ] at hk
    obtain ⟨k, rfl⟩ : ∃ m, k = m + bs.length + 1 + 1 := ⟨k - bs.length - 2, by omega⟩
    have hw : wrap64 ((i : Int) + 1) = ((i + 1 : Nat) : Int) := by rw [w64 (by omega) (by omega)]; omega
    have := spec_inner ac bs (ac.length : Int) (i : Int) (rd_T28 ac (i : Int)).f0 (rd_T28 ac (i : Int)).f1 hb bs.length 0 k (by omega)
    rw [show ((0 : Nat) : Int) = 0 from rfl] at this
    rw [spec_ncMeet.l0.eq_2, if_pos (by clear hw; omega), if_pos (by clear hw; omega), if_pos (by clear hw; omega), this, hw]
    rw [show mi ac bs (d + 1) i = if fi bs (rd_T28 ac (i : Int)).f0 (rd_T28 ac (i : Int)).f1 bs.length 0 < 0 then mi ac bs d (i + 1) else some ((i : Int), fi bs (rd_T28 ac (i : Int)).f0 (rd_T28 ac (i : Int)).f1 bs.length 0) from rfl]
    by_cases h : fi bs (rd_T28 ac (i : Int)).f0 (rd_T28 ac (i : Int)).f1 bs.length 0 < 0
    · rw [if_pos h, if_pos h]; exact ih (i + 1) k (by omega) (by omega)
    · rw [if_neg h, if_neg h]
theorem impl_outer (ac bs : List S28) (ha : ac.length < 1000) (hb : bs.length < 1000) : ∀ (d i k : Nat), i + d = ac.length → bs.length + d < k → impl_meeting.l0 k bs ac (ac.length : Int) (i : Int) = some (match mi ac bs d i with | none => (-1, -1) | some p => p) := by
  intro d
  induction d with
  | zero =>
    intro i k hd hk
    obtain ⟨k, rfl⟩ : ∃ m, k = m + 1 := ⟨k - 1, by omega⟩
    rw [impl_meeting.l0.eq_2, if_neg (by omega)]; rfl
  | succ d ih =>
    intro i k hd hk
    obtain ⟨k, rfl⟩ : ∃ m, k = m + 1 := ⟨k - 1, by omega⟩
    have hw : wrap64 ((i : Int) + 1) = ((i + 1 : Nat) : Int) := by rw [w64 (by omega) (by omega)]; omega
    have := impl_index bs (rd_T28 ac (i : Int)).f0 (rd_T28 ac (i : Int)).f1 hb bs.length 0 k (by omega) (by omega)
    rw [show ((0 : Nat) : Int) = 0 from rfl] at this
    rw [impl_meeting.l0.eq_2, if_pos (by clear hw; omega), if_pos (by clear hw; omega), if_pos (by clear hw; omega)]
    unfold impl_Cell.f
    rw [this, Option.bind_some, hw]
    rw [show mi ac bs (d + 1) i = if fi bs (rd_T28 ac (i : Int)).f0 (rd_T28 ac (i : Int)).f1 bs.length 0 < 0 then mi ac bs d (i + 1) else some ((i : Int), fi bs (rd_T28 ac (i : Int)).f0 (rd_T28 ac (i : Int)).f1 bs.length 0) from rfl]
    by_cases h : fi bs (rd_T28 ac (i : Int)).f0 (rd_T28 ac (i : Int)).f1 bs.length 0 < 0
    · rw [if_neg (by clear hw; omega), if_pos h]; exact ih (i + 1) k (by omega) (by omega)
    · rw [if_pos (by clear hw; omega), if_neg h]
theorem meet_run {x y x' y' : Int} {s s' : ByteArray} (h1 : s.size ≤ 24) (h2 : s'.size ≤ 24)
    (s1 : ∀ k, 30 ≤ k → spec_ncCells.f k x y s = some (cls x y s s.size, true)) (s2 : ∀ k, 30 ≤ k → spec_ncCells.f k x' y' s' = some (cls x' y' s' s'.size, true))
    (i1 : ∀ k, 30 ≤ k → impl_Way_cells.f k x y s = some (cls x y s s.size)) (i2 : ∀ k, 30 ≤ k → impl_Way_cells.f k x' y' s' = some (cls x' y' s' s'.size)) :
    ∃ m : Option (Int × Int), (∀ p, m = some p → 0 ≤ p.1 ∧ p.1 ≤ (s.size : Int) ∧ 0 ≤ p.2 ∧ p.2 ≤ (s'.size : Int)) ∧ (∀ k, 1000 ≤ k → spec_ncMeet.f k x y s x' y' s' = some (match m with | none => (0, 0, false) | some p => (p.1, p.2, true))) ∧
      (∀ k, 1000 ≤ k → impl_meeting.f k x y s x' y' s' = some (match m with | none => (-1, -1) | some p => p)) := by
  have l1 := cls_len x y s s.size
  have l2 := cls_len x' y' s' s'.size
  refine ⟨mi (cls x y s s.size) (cls x' y' s' s'.size) (cls x y s s.size).length 0, fun p hp => ?_, fun k hk => ?_, fun k hk => ?_⟩
  · have := mi_rng _ _ _ _ _ hp
    omega
  · unfold spec_ncMeet.f
    rw [s1 k (by omega), Option.bind_some, s2 k (by omega), Option.bind_some]
    refine spec_outer (cls x y s s.size) (cls x' y' s' s'.size) (by omega) (by omega) _ 0 k (by omega) ?_
    rw [l1, l2]
    have := Nat.mul_le_mul (show s'.size + 1 + 2 ≤ 27 by omega) (show s.size + 1 ≤ 25 by omega)
    omega
  · unfold impl_meeting.f
    rw [i2 k (by omega), Option.bind_some, i1 k (by omega), Option.bind_some]
    exact impl_outer _ _ (by omega) (by omega) _ 0 k (by omega) (by omega)

theorem sz_cut (s : ByteArray) (i j : Nat) : (s.extract i j).size ≤ s.size := by rw [ByteArray.size_extract]; omega
theorem FnExactSwapTails : ∀ (a0_0 : Int) (a0_1 : Int) (a0_2 : ByteArray) (a1_0 : Int) (a1_1 : Int) (a1_2 : ByteArray), (Lit.int .i64 a0_0).wf = true → (Lit.int .i64 a0_1).wf = true → a0_2.size ≤ 9223372036854775807 → (Lit.int .i64 a1_0).wf = true → (Lit.int .i64 a1_1).wf = true → a1_2.size ≤ 9223372036854775807 → ∃ k, laws_FnExactSwapTails.f k a0_0 a0_1 a0_2 a1_0 a1_1 a1_2 = some true := by
  intro x y s x' y' s' _ _ hs _ _ hs'
  obtain ⟨t, h1, h2, h3⟩ := way_run x y s hs
  obtain ⟨t', h1', h2', h3'⟩ := way_run x' y' s' hs'
  have key : ∃ r : Int × Int × ByteArray × Int × Int × ByteArray × Bool, spec_SwapTails.f 1001 x y s x' y' s' = some r ∧ impl_SwapTails.f 1001 x y s x' y' s' = some r := by
    have sb : spec_SwapTails.j0 1001 true x y s x' y' s' = some (0, 0, (⟨#[]⟩ : ByteArray), 0, 0, (⟨#[]⟩ : ByteArray), false) := by rw [spec_SwapTails.j0.eq_2, if_pos rfl]
    have ib : impl_SwapTails.j0 1001 true x y s x' y' s' = some (0, 0, (⟨#[]⟩ : ByteArray), 0, 0, (⟨#[]⟩ : ByteArray), false) := by rw [impl_SwapTails.j0.eq_2, if_pos rfl]
    unfold spec_SwapTails.f impl_SwapTails.f spec_IsWay.f
    rw [h1 1001 (by omega), h2 1001 (by omega), h1' 1001 (by omega), h2' 1001 (by omega)]
    cases t with
    | false => exact ⟨_, sb, ib⟩
    | true =>
      cases t' with
      | false => exact ⟨_, sb, ib⟩
      | true =>
        obtain ⟨h4, _, _, h5⟩ := h3 rfl
        obtain ⟨h4', _, _, h5'⟩ := h3' rfl
        obtain ⟨m, m1, m2, m3⟩ := meet_run h4 h4' h1 h1' h5 h5'
        show ∃ r : Int × Int × ByteArray × Int × Int × ByteArray × Bool, spec_SwapTails.j0 1001 false x y s x' y' s' = some r ∧ impl_SwapTails.j0 1001 false x y s x' y' s' = some r
        rw [spec_SwapTails.j0.eq_2, impl_SwapTails.j0.eq_2, if_neg (by decide), if_neg (by decide), m2 1000 (Nat.le_refl _), m3 1000 (Nat.le_refl _), Option.bind_some, Option.bind_some]
        cases m with
        | none => exact ⟨(0, 0, (⟨#[]⟩ : ByteArray), 0, 0, (⟨#[]⟩ : ByteArray), false), rfl, rfl⟩
        | some p =>
          obtain ⟨p1, p2⟩ := p
          have := m1 (p1, p2) rfl
          have b1 := sz_cut s 0 p1.toNat
          have b2 := sz_cut s' p2.toNat s'.size
          have b3 := sz_cut s' 0 p2.toNat
          have b4 := sz_cut s p1.toNat s.size
          simp only at this
          refine ⟨(x, y, (s.extract 0 p1.toNat) ++ (s'.extract p2.toNat s'.size), x', y', (s'.extract 0 p2.toNat) ++ (s.extract p1.toNat s.size), true), ?_, ?_⟩
          · show (if true = true then _ else _) = _
            rw [if_pos rfl]
            show (if 0 ≤ p1 then (if p1 ≤ (s.size : Int) then (if 0 ≤ p2 then (if p2 ≤ (s'.size : Int) then (if (s.extract 0 p1.toNat).size + (s'.extract p2.toNat s'.size).size ≤ 9223372036854775807 then (if (s'.extract 0 p2.toNat).size + (s.extract p1.toNat s.size).size ≤ 9223372036854775807 then _ else _) else _) else _) else _) else _) else _) = _
            rw [if_pos (by omega), if_pos (by omega), if_pos (by omega), if_pos (by omega), if_pos (by omega), if_pos (by omega)]
          · show (if p1 < 0 then _ else if 0 ≤ p1 then (if p1 ≤ (s.size : Int) then (if 0 ≤ p2 then (if p2 ≤ (s'.size : Int) then (if (s.extract 0 p1.toNat).size + (s'.extract p2.toNat s'.size).size ≤ 9223372036854775807 then (if (s'.extract 0 p2.toNat).size + (s.extract p1.toNat s.size).size ≤ 9223372036854775807 then _ else _) else _) else _) else _) else _) else _) = _
            rw [if_neg (by omega), if_pos (by omega), if_pos (by omega), if_pos (by omega), if_pos (by omega), if_pos (by omega), if_pos (by omega)]
  obtain ⟨⟨a, b, c, d, e, f, g⟩, e1, e2⟩ := key
  refine ⟨1001, ?_⟩
  unfold laws_FnExactSwapTails.f laws_szWay.f laws_toWay.f laws_toCell.f laws_eqWay.f laws_eqCell.f
  by_cases hb : wrap64 (1048576 - (s.size : Int)) < 0
  · rw [if_pos hb, Option.bind_some, if_pos (by omega)]
  rw [if_neg hb, Option.bind_some, if_neg hb]
  by_cases hb' : wrap64 (wrap64 (1048576 - (s.size : Int)) - (s'.size : Int)) < 0
  · rw [if_pos hb', Option.bind_some, if_pos (by omega)]
  rw [if_neg hb', Option.bind_some, if_neg hb']
  simp only [Option.bind_some]
  rw [e1, Option.bind_some, e2, Option.bind_some]
  simp
end Go.Proofs.YtkjhfafjfebmjaaDoor.Pure
