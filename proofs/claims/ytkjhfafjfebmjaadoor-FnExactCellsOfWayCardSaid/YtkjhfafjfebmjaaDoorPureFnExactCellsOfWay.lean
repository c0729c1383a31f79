/- The cells of a way: the reference looks at each cell as it goes, the program at the last one; steps never go back. What is returned is memory of its own. No condition. -/
import Derived.Test.YtkjhfafjfebmjaaDoorOFnExactCellsOfWayx5
namespace Go.Proofs.YtkjhfafjfebmjaaDoor.Pure
open Go.RowKit Go.Proofs.YtkjhfafjfebmjaaDoor.Stub Go.Proofs.YtkjhfafjfebmjaaDoor.OFnExactCellsOfWay Go.Proofs.YtkjhfafjfebmjaaDoorW.PrintWords Go.Proofs.YtkjhfafjfebmjaaDoorW.PrintLast
set_option linter.unusedVariables false
set_option linter.unusedSimpArgs false
theorem w64 {n : Int} (h0 : -9223372036854775808 ≤ n) (h1 : n ≤ 9223372036854775807) : wrap64 n = n := by unfold wrap64; omega
theorem wf_bd {n : Int} (h : (Lit.int .i64 n).wf = true) : -9223372036854775808 ≤ n ∧ n ≤ 9223372036854775807 := by
  unfold Lit.wf at h
  rw [Bool.and_eq_true] at h
  exact ⟨of_decide_eq_true h.1, of_decide_eq_true h.2⟩

/- a text of some letters alone -/
theorem dropWhile_nil {α : Type} (p : α → Bool) : ∀ l : List α, l.dropWhile p = [] ↔ ∀ x ∈ l, p x = true
  | [] => by simp
  | a :: l => by
    have ih := dropWhile_nil p l
    by_cases h : p a = true
    · rw [List.dropWhile_cons_of_pos h, ih]; simp [h]
    · rw [List.dropWhile_cons_of_neg h]; simp [h]
theorem dropWhile_all {α : Type} (p : α → Bool) : ∀ l : List α, (∀ x ∈ l.dropWhile p, p x = true) → l.dropWhile p = []
  | [], _ => rfl
  | a :: l, h => by
    by_cases ha : p a = true
    · rw [List.dropWhile_cons_of_pos ha] at h ⊢; exact dropWhile_all p l h
    · rw [List.dropWhile_cons_of_neg ha] at h; exact absurd (h a (by simp)) ha
theorem trimS_nil (l cs : List UInt8) : Lib.trimS l cs = [] ↔ ∀ c ∈ l, cs.contains c = true := by
  unfold Lib.trimS Lib.trimLeftS Lib.trimRightS
  rw [dropWhile_nil]
  constructor
  · intro h
    have h' : ∀ x ∈ l.reverse.dropWhile (cs.contains ·), cs.contains x = true := fun x hx => h x (by simpa using hx)
    have := dropWhile_all _ _ h'
    rw [dropWhile_nil] at this
    exact fun c hc => this c (by simpa using hc)
  · intro h x hx
    have : l.reverse.dropWhile (cs.contains ·) = [] := (dropWhile_nil _ _).2 (fun c hc => h c (by simpa using hc))
    rw [this] at hx; simp at hx
theorem bt_get (s : ByteArray) (i : Nat) (h : i < s.size) : bt s (i : Int) = ((s.data.toList[i]'(by rw [Array.length_toList]; exact h)).toNat : Int) := by
  unfold bt
  rw [dif_pos (by rw [Int.toNat_natCast]; exact h)]
  rfl
/-- All letters of s are among some: told by place. -/
theorem all_at (s : ByteArray) (p : UInt8 → Bool) (q : Int → Bool) (hpq : ∀ c : UInt8, p c = q (c.toNat : Int)) : (∀ c ∈ s.data.toList, p c = true) ↔ ∀ i : Nat, i < s.size → q (bt s (i : Int)) = true := by
  constructor
  · intro h i hi
    rw [bt_get s i hi, ← hpq]
    exact h _ (List.getElem_mem _)
  · intro h c hc
    obtain ⟨i, hi, rfl⟩ := List.getElem_of_mem hc
    have hi' : i < s.size := by rw [Array.length_toList] at hi; exact hi
    have := h i hi'
    rw [bt_get s i hi', ← hpq] at this
    exact this
theorem empty_eq (l : List UInt8) : ((⟨l.toArray⟩ : ByteArray).toList == ([] : List UInt8)) = decide (l = []) := by
  rw [Lib.toList_data]
  simp only [List.toList_toArray]
  cases l <;> rfl
theorem trim_run (s cs : ByteArray) (hs : s.size ≤ 9223372036854775807) (hc : cs.size < 4294967281) (ha : cs.data.toList.all (fun b => decide (b.toNat < 128)) = true) : strings_Trim.f s cs = some ⟨(Lib.trimS s.data.toList cs.data.toList).toArray⟩ := by
  unfold strings_Trim.f
  rw [if_pos (by omega), if_pos hc, if_pos ha]

theorem in_eq (a b c : Int) : impl_in.f a b c = some (decide (b ≤ a ∧ a ≤ c)) := by
  unfold impl_in.f
  by_cases h1 : b ≤ a <;> by_cases h2 : a ≤ c <;> simp [h1, h2]
theorem l1In_eq (a b c : Int) : spec_l1In.f a b c = some (decide (b ≤ a ∧ a ≤ c)) := by
  unfold spec_l1In.f
  by_cases h1 : b ≤ a <;> by_cases h2 : a ≤ c <;> simp [h1, h2]

theorem made_run (s cs : ByteArray) (q : Int → Bool) (hs : s.size ≤ 9223372036854775807) (hc : cs.size < 4294967281) (ha : cs.data.toList.all (fun b => decide (b.toNat < 128)) = true) (hpq : ∀ c : UInt8, cs.data.toList.contains c = q (c.toNat : Int)) :
    ∃ b : Bool, impl_isMade.f s cs = some b ∧ (b = true ↔ ∀ i : Nat, i < s.size → q (bt s (i : Int)) = true) := by
  unfold impl_isMade.f
  rw [trim_run s cs hs hc ha, Option.bind_some, empty_eq]
  refine ⟨_, rfl, ?_⟩
  rw [decide_eq_true_iff, trimS_nil]
  exact all_at s (fun c => cs.data.toList.contains c) q hpq
def qw (x : Int) : Bool := x == 69 || x == 78
theorem qw_of (c : UInt8) : (⟨#[69, 78]⟩ : ByteArray).data.toList.contains c = qw (c.toNat : Int) := by
  have h : ∀ n : Fin 256, (⟨#[69, 78]⟩ : ByteArray).data.toList.contains (UInt8.ofNat n.val) = qw ((UInt8.ofNat n.val).toNat : Int) := by decide +kernel
  have := h ⟨c.toNat, c.toNat_lt⟩
  simpa using this
/-- How many steps to the east there are among the first ones. -/
def es (s : ByteArray) : Nat → Nat
  | 0 => 0
  | i + 1 => es s i + (if bt s (i : Int) = 69 then 1 else 0)
theorem es_le (s : ByteArray) : ∀ i, es s i ≤ i
  | 0 => by simp [es]
  | i + 1 => by have := es_le s i; unfold es; split <;> omega
theorem es_mono (s : ByteArray) (i : Nat) : ∀ d, es s i ≤ es s (i + d) ∧ es s (i + d) ≤ es s i + d
  | 0 => by simp
  | d + 1 => by
    have := es_mono s i d
    have e : es s (i + (d + 1)) = es s (i + d) + (if bt s ((i + d : Nat) : Int) = 69 then 1 else 0) := rfl
    rw [e]; split <;> omega
def cl (x y : Int) (s : ByteArray) (i : Nat) : S28 := ⟨x + es s i, y + ((i - es s i : Nat) : Int)⟩
def cls (x y : Int) (s : ByteArray) (n : Nat) : List S28 := (List.range (n + 1)).map (cl x y s)
theorem cls_len (x y : Int) (s : ByteArray) (n : Nat) : (cls x y s n).length = n + 1 := by simp [cls]
theorem cls_get (x y : Int) (s : ByteArray) {n i : Nat} (h : i ≤ n) : rd_T28 (cls x y s n) (i : Int) = cl x y s i := by
  unfold rd_T28 cls
  rw [Int.toNat_natCast, List.getD_eq_getElem?_getD, List.getElem?_map, List.getElem?_range (by omega)]
  rfl
theorem cls_snoc (x y : Int) (s : ByteArray) (n : Nat) : cls x y s n ++ [cl x y s (n + 1)] = cls x y s (n + 1) := by
  unfold cls; rw [List.range_succ (n := n + 1), List.map_append]; rfl
theorem cl_E {x y : Int} {s : ByteArray} {i : Nat} (h : bt s (i : Int) = 69) : cl x y s (i + 1) = ⟨(cl x y s i).f0 + 1, (cl x y s i).f1⟩ := by
  have := es_le s i
  have e : es s (i + 1) = es s i + 1 := by show es s i + (if bt s (i : Int) = 69 then 1 else 0) = _; rw [if_pos h]
  unfold cl
  rw [e]; simp only [S28.mk.injEq]; constructor <;> omega
theorem cl_N {x y : Int} {s : ByteArray} {i : Nat} (h : ¬ bt s (i : Int) = 69) : cl x y s (i + 1) = ⟨(cl x y s i).f0, (cl x y s i).f1 + 1⟩ := by
  have := es_le s i
  have e : es s (i + 1) = es s i := by show es s i + (if bt s (i : Int) = 69 then 1 else 0) = _; rw [if_neg h, Nat.add_zero]
  unfold cl
  rw [e]; simp only [S28.mk.injEq, true_and]; omega
def ing (c : S28) : Prop := (0 ≤ c.f0 ∧ c.f0 ≤ 12) ∧ 0 ≤ c.f1 ∧ c.f1 ≤ 12
instance (c : S28) : Decidable (ing c) := by unfold ing; infer_instance
theorem spec_cell (a b : Int) : spec_ncCell.f a b = some (decide (ing ⟨a, b⟩)) := by
  have hi : ing ⟨a, b⟩ ↔ ((0 ≤ a ∧ a ≤ 12) ∧ (0 ≤ b ∧ b ≤ 12)) := Iff.rfl
  unfold spec_ncCell.f
  rw [l1In_eq, l1In_eq, Option.bind_some, Option.bind_some]
  by_cases h1 : 0 ≤ a ∧ a ≤ 12
  · rw [decide_eq_true h1, if_pos rfl]; congr 1; rw [decide_eq_decide, hi]; exact ⟨fun h => ⟨h1, h⟩, fun h => h.2⟩
  · rw [decide_eq_false h1, if_neg (by decide)]; congr 1; symm; apply decide_eq_false; rw [hi]; exact fun h => h1 h.1
theorem impl_cell (a b : Int) : impl_IsCell.f a b = some (decide (ing ⟨a, b⟩)) := by
  have hi : ing ⟨a, b⟩ ↔ ((0 ≤ a ∧ a ≤ 12) ∧ (0 ≤ b ∧ b ≤ 12)) := Iff.rfl
  unfold impl_IsCell.f
  rw [in_eq, in_eq, Option.bind_some, Option.bind_some]
  by_cases h1 : 0 ≤ a ∧ a ≤ 12
  · rw [decide_eq_true h1, if_pos rfl]; congr 1; rw [decide_eq_decide, hi]; exact ⟨fun h => ⟨h1, h⟩, fun h => h.2⟩
  · rw [decide_eq_false h1, if_neg (by decide)]; congr 1; symm; apply decide_eq_false; rw [hi]; exact fun h => h1 h.1
theorem impl_cells_l0 {x y : Int} (hx : 0 ≤ x) (hx' : x ≤ 12) (hy : 0 ≤ y) (hy' : y ≤ 12) {s : ByteArray} (hs : s.size ≤ 24) (a b : Int) : ∀ (d i k : Nat), i + d = s.size → d < k → impl_Way_cells.l0 k (cls x y s i) (s.size : Int) (i : Int) a b s = some (cls x y s s.size) := by
  intro d
  induction d with
  | zero =>
    intro i k hd hk
    obtain ⟨k, rfl⟩ : ∃ m, k = m + 1 := ⟨k - 1, by omega⟩
    rw [impl_Way_cells.l0.eq_2, if_neg (by omega), show i = s.size by omega]
  | succ d ih =>
    intro i k hd hk
    obtain ⟨k, rfl⟩ : ∃ m, k = m + 1 := ⟨k - 1, by omega⟩
    have hl := cls_len x y s i
    have he := es_le s i
    have hn : impl_Cell_next.f (cl x y s i).f0 (cl x y s i).f1 (bt s (i : Int)) = some ((cl x y s (i + 1)).f0, (cl x y s (i + 1)).f1) := by
      unfold impl_Cell_next.f
      by_cases h : bt s (i : Int) = 69
      · rw [if_pos h, cl_E h]
        have : wrap64 ((cl x y s i).f0 + 1) = (cl x y s i).f0 + 1 := by unfold cl; exact w64 (by show _ ≤ x + (es s i : Int) + 1; omega) (by show x + (es s i : Int) + 1 ≤ _; omega)
        rw [this]
      · rw [if_neg h, cl_N h]
        have : wrap64 ((cl x y s i).f1 + 1) = (cl x y s i).f1 + 1 := by unfold cl; exact w64 (by show _ ≤ y + ((i - es s i : Nat) : Int) + 1; omega) (by show y + ((i - es s i : Nat) : Int) + 1 ≤ _; omega)
        rw [this]
    rw [impl_Way_cells.l0.eq_2, if_pos (by omega), if_pos (by omega), if_pos (by omega), if_pos (by omega), cls_get _ _ _ (Nat.le_refl _), hn, Option.bind_some, if_pos (by omega), w64 (n := (i : Int) + 1) (by omega) (by omega)]
    have := ih (i + 1) k (by omega) (by omega)
    rw [← cls_snoc] at this
    rw [show ((i + 1 : Nat) : Int) = (i : Int) + 1 by omega] at this
    exact this
theorem spec_cells_l0 {x y : Int} (hx : 0 ≤ x) (hx' : x ≤ 12) (hy : 0 ≤ y) (hy' : y ≤ 12) {s : ByteArray} (hs : s.size ≤ 24) (a b : Int) : ∀ (d i : Nat), i + d = s.size → ing (cl x y s i) →
    ∃ t : Bool, (∀ k, d < k → spec_ncCells.l0 k (cls x y s i) (i : Int) a b s (cl x y s i).f0 (cl x y s i).f1 = some (if t = true then cls x y s s.size else [], t)) ∧ (t = true ↔ (∀ j : Nat, i ≤ j → j < s.size → qw (bt s (j : Int)) = true) ∧ ing (cl x y s s.size)) := by
  intro d
  induction d with
  | zero =>
    intro i hd hg
    refine ⟨true, fun k hk => ?_, ?_⟩
    · obtain ⟨k, rfl⟩ : ∃ m, k = m + 1 := ⟨k - 1, by omega⟩
      rw [spec_ncCells.l0.eq_2, if_neg (by omega), show i = s.size by omega]; rfl
    · obtain rfl : i = s.size := by omega
      exact ⟨fun _ => ⟨fun j h1 h2 => by omega, hg⟩, fun _ => rfl⟩
  | succ d ih =>
    intro i hd hg
    have hl := cls_len x y s i
    have he := es_le s i
    have far : ¬ ing (cl x y s (i + 1)) → ¬ ing (cl x y s s.size) := by
      intro h hc
      apply h
      have hm := es_mono s (i + 1) d
      rw [show i + 1 + d = s.size by omega] at hm
      have he1 := es_le s (i + 1)
      unfold ing cl at hc ⊢
      simp only at hc ⊢
      omega
    by_cases hq : qw (bt s (i : Int)) = true
    · have hq' := hq
      unfold qw at hq'
      simp only [Bool.or_eq_true, beq_iff_eq] at hq'
      have stepv : ∀ k, spec_ncCells.l0 (k + 1) (cls x y s i) (i : Int) a b s (cl x y s i).f0 (cl x y s i).f1 = if ing (cl x y s (i + 1)) then spec_ncCells.l0 k (cls x y s (i + 1)) ((i + 1 : Nat) : Int) a b s (cl x y s (i + 1)).f0 (cl x y s (i + 1)).f1 else some ([], false) := by
        intro k
        have hw : wrap64 ((i : Int) + 1) = ((i + 1 : Nat) : Int) := by rw [w64 (by omega) (by omega)]; omega
        by_cases h : bt s (i : Int) = 69
        · have hv : wrap64 ((cl x y s i).f0 + 1) = (cl x y s i).f0 + 1 := by unfold cl; exact w64 (by show _ ≤ x + (es s i : Int) + 1; omega) (by show x + (es s i : Int) + 1 ≤ _; omega)
          rw [spec_ncCells.l0.eq_2, if_pos (by clear hw hv; omega), if_pos (by clear hw hv; omega), if_pos h, hv, spec_cell, Option.bind_some, ← cls_snoc, cl_E h]
          by_cases g : ing ⟨(cl x y s i).f0 + 1, (cl x y s i).f1⟩
          · rw [decide_eq_true g, if_pos rfl, if_pos (by clear hw hv; omega), if_pos g, hw]
          · rw [decide_eq_false g, if_neg (by decide), if_neg g]
        · have hN : bt s (i : Int) = 78 := by rcases hq' with h' | h'; exact absurd h' h; exact h'
          have hv : wrap64 ((cl x y s i).f1 + 1) = (cl x y s i).f1 + 1 := by unfold cl; exact w64 (by show _ ≤ y + ((i - es s i : Nat) : Int) + 1; omega) (by show y + ((i - es s i : Nat) : Int) + 1 ≤ _; omega)
          rw [spec_ncCells.l0.eq_2, if_pos (by clear hw hv; omega), if_pos (by clear hw hv; omega), if_neg h, if_pos hN, hv, spec_cell, Option.bind_some, ← cls_snoc, cl_N h]
          by_cases g : ing ⟨(cl x y s i).f0, (cl x y s i).f1 + 1⟩
          · rw [decide_eq_true g, if_pos rfl, if_pos (by clear hw hv; omega), if_pos g, hw]
          · rw [decide_eq_false g, if_neg (by decide), if_neg g]
      by_cases g : ing (cl x y s (i + 1))
      · obtain ⟨t, t1, t2⟩ := ih (i + 1) (by omega) g
        refine ⟨t, fun k hk => ?_, ?_⟩
        · obtain ⟨k, rfl⟩ : ∃ m, k = m + 1 := ⟨k - 1, by omega⟩
          rw [stepv, if_pos g]; exact t1 k (by omega)
        · rw [t2]
          constructor
          · rintro ⟨h1, h2⟩
            refine ⟨fun j hj hj' => ?_, h2⟩
            by_cases e : j = i
            · subst e; exact hq
            · exact h1 j (by omega) hj'
          · rintro ⟨h1, h2⟩; exact ⟨fun j hj hj' => h1 j (by omega) hj', h2⟩
      · refine ⟨false, fun k hk => ?_, ⟨fun h => (by cases h), fun h => absurd h.2 (far g)⟩⟩
        obtain ⟨k, rfl⟩ : ∃ m, k = m + 1 := ⟨k - 1, by omega⟩
        rw [stepv, if_neg g]; rfl
    · refine ⟨false, fun k hk => ?_, ⟨fun h => (by cases h), fun h => absurd (h.1 i (Nat.le_refl _) (by omega)) hq⟩⟩
      obtain ⟨k, rfl⟩ : ∃ m, k = m + 1 := ⟨k - 1, by omega⟩
      unfold qw at hq
      simp only [Bool.or_eq_true, beq_iff_eq] at hq
      rw [spec_ncCells.l0.eq_2, if_pos (by omega), if_pos (by omega), if_neg (fun h => hq (.inl h)), if_neg (fun h => hq (.inr h))]; rfl
/-- A way: both sides' looks, and its cells. -/
theorem way_run (x y : Int) (s : ByteArray) (hs : s.size ≤ 9223372036854775807) : ∃ t : Bool, (∀ k, 30 ≤ k → spec_ncCells.f k x y s = some (if t = true then cls x y s s.size else [], t)) ∧ (∀ k, 30 ≤ k → impl_IsWay.f k x y s = some t) ∧
    (t = true → s.size ≤ 24 ∧ (0 ≤ x ∧ x ≤ 12) ∧ (0 ≤ y ∧ y ≤ 12) ∧ ∀ k, 30 ≤ k → impl_Way_cells.f k x y s = some (cls x y s s.size)) := by
  by_cases hg : ing ⟨x, y⟩
  · by_cases hl : s.size ≤ 24
    · have hb : (0 ≤ x ∧ x ≤ 12) ∧ 0 ≤ y ∧ y ≤ 12 := hg
      obtain ⟨⟨hx, hx'⟩, hy, hy'⟩ := hb
      have c0 : cl x y s 0 = ⟨x, y⟩ := by unfold cl es; simp
      have l0 : cls x y s 0 = [⟨x, y⟩] := by unfold cls; simp [c0]
      obtain ⟨t, t1, t2⟩ := spec_cells_l0 hx hx' hy hy' hl x y s.size 0 (by omega) (by rw [c0]; exact hg)
      have hcells : ∀ k, 30 ≤ k → impl_Way_cells.f k x y s = some (cls x y s s.size) := fun k hk => by
        have := impl_cells_l0 hx hx' hy hy' hl x y s.size 0 k (by omega) (by omega)
        rw [l0] at this
        exact this
      obtain ⟨m, m1, m2⟩ := made_run s ⟨#[69, 78]⟩ qw hs (by decide) (by decide) qw_of
      refine ⟨t, fun k hk => ?_, fun k hk => ?_, fun _ => ⟨hl, ⟨hx, hx'⟩, ⟨hy, hy'⟩, hcells⟩⟩
      · obtain ⟨k, rfl⟩ : ∃ q, k = q + 1 := ⟨k - 1, by omega⟩
        unfold spec_ncCells.f
        rw [spec_cell, decide_eq_true hg, Option.bind_some, if_pos rfl, decide_eq_false (by omega), spec_ncCells.j0.eq_2, if_neg (by decide)]
        have := t1 k (by omega)
        rw [l0, c0] at this
        exact this
      · unfold impl_IsWay.f
        have hcl := cls_len x y s s.size
        rw [impl_cell, decide_eq_true hg, Option.bind_some, if_pos rfl, if_pos (by omega), m1, Option.bind_some]
        cases m with
        | true =>
          rw [if_pos rfl, hcells k hk, Option.bind_some, if_pos (by omega), if_pos (by omega), cls_get _ _ _ (Nat.le_refl _), impl_cell, Option.bind_some]
          congr 1
          rw [Bool.eq_iff_iff, decide_eq_true_iff, t2]
          exact ⟨fun h => ⟨fun j _ hj => m2.1 rfl j hj, h⟩, fun h => h.2⟩
        | false =>
          rw [if_neg (by decide)]
          congr 1
          symm
          rw [← Bool.not_eq_true, t2]
          intro h
          have := m2.2 (fun j hj => h.1 j (Nat.zero_le _) hj)
          cases this
    · refine ⟨false, fun k hk => ?_, fun k hk => ?_, fun h => by cases h⟩
      · obtain ⟨k, rfl⟩ : ∃ q, k = q + 1 := ⟨k - 1, by omega⟩
        unfold spec_ncCells.f
        rw [spec_cell, decide_eq_true hg, Option.bind_some, if_pos rfl, decide_eq_true (by omega), spec_ncCells.j0.eq_2, if_pos rfl]; rfl
      · unfold impl_IsWay.f
        rw [impl_cell, decide_eq_true hg, Option.bind_some, if_pos rfl, if_neg (by omega)]
  · refine ⟨false, fun k hk => ?_, fun k hk => ?_, fun h => by cases h⟩
    · obtain ⟨k, rfl⟩ : ∃ q, k = q + 1 := ⟨k - 1, by omega⟩
      unfold spec_ncCells.f
      rw [spec_cell, decide_eq_false hg, Option.bind_some, if_neg (by decide), spec_ncCells.j0.eq_2, if_pos rfl]; rfl
    · unfold impl_IsWay.f
      rw [impl_cell, decide_eq_false hg, Option.bind_some, if_neg (by decide)]

/- lists of ratios: marked, told anew, compared with themselves -/
theorem w1 (n : Nat) (h : n ≤ 100000) : wrap64 ((n : Int) + 1) = ((n + 1 : Nat) : Int) := by rw [w64 (by omega) (by omega)]; omega
theorem eqR_self (L : List (S28)) (hl : L.length ≤ 1000) : ∀ (d i k : Nat), i + d = L.length → d < k → laws_eqCellS.l0 k L L (i : Int) = some true := by
  intro d
  induction d with
  | zero =>
    intro i k hd hk
    obtain ⟨k, rfl⟩ : ∃ m, k = m + 1 := ⟨k - 1, by omega⟩
    rw [laws_eqCellS.l0.eq_2, if_neg (by omega)]
  | succ d ih =>
    intro i k hd hk
    obtain ⟨k, rfl⟩ : ∃ m, k = m + 1 := ⟨k - 1, by omega⟩
    rw [laws_eqCellS.l0.eq_2, if_pos (by omega), if_pos (by omega), if_pos (by omega)]
    unfold laws_eqCell.f
    rw [if_pos rfl, if_pos rfl, Option.bind_some, if_pos rfl, w1 i (by omega)]
    exact ih (i + 1) k (by omega) (by omega)
theorem eqR_run (L : List (S28)) (hl : L.length ≤ 1000) {k : Nat} (hk : 1000 < k) : laws_eqCellS.f k L L = some true := by
  unfold laws_eqCellS.f
  rw [if_pos rfl]
  have := eqR_self L hl L.length 0 k (by omega) (by omega)
  exact this
theorem rd28_get {L : List (S28)} {i : Nat} (h : i < L.length) : rd_T28 L (i : Int) = L[i] := by
  unfold rd_T28
  rw [Int.toNat_natCast, List.getD_eq_getElem?_getD, List.getElem?_eq_getElem h]; rfl
def mk28 (m i : Nat) : S28 := ⟨((m + 2 * i : Nat) : Int), ((m + 2 * i + 1 : Nat) : Int)⟩
theorem markR_run (m : Nat) (hm : m ≤ 1000) : ∀ (d i k : Nat) (L : List (S28)), i + d = L.length → L.length ≤ 1000 → d < k →
    ∃ L', laws_markCellS.l0 k L ((m + 2 * i : Nat) : Int) (i : Int) = some (((m + 2 * L.length : Nat) : Int), L') ∧ L'.length = L.length ∧ (∀ j, j < i → L'[j]? = L[j]?) ∧ (∀ j, i ≤ j → j < L.length → L'[j]? = some (mk28 m j)) := by
  intro d
  induction d with
  | zero =>
    intro i k L hd hl hk
    obtain ⟨k, rfl⟩ : ∃ m, k = m + 1 := ⟨k - 1, by omega⟩
    refine ⟨L, ?_, rfl, fun _ _ => rfl, fun j h1 h2 => by omega⟩
    rw [laws_markCellS.l0.eq_2, if_neg (by omega), show i = L.length by omega]
  | succ d ih =>
    intro i k L hd hl hk
    obtain ⟨k, rfl⟩ : ∃ m, k = m + 1 := ⟨k - 1, by omega⟩
    obtain ⟨L', h1, h2, h3, h4⟩ := ih (i + 1) k ((L.set i ⟨((m + 2 * i : Nat) : Int), (rd_T28 L (i : Int)).f1⟩).set i (mk28 m i)) (by simp; omega) (by simpa using hl) (by omega)
    refine ⟨L', ?_, by simpa using h2, fun j hj => ?_, fun j hj hj' => ?_⟩
    · rw [laws_markCellS.l0.eq_2, if_pos (by omega), if_pos (by omega), Option.bind_some, Int.toNat_natCast, w1 (m + 2 * i) (by omega), w1 (m + 2 * i + 1) (by omega), w1 i (by omega), rd28_get (L := L.set i _) (by simp; omega)]
      simp only [List.getElem_set_self]
      rw [show m + 2 * i + 1 + 1 = m + 2 * (i + 1) by omega]
      rw [show (L.set i ⟨((m + 2 * i : Nat) : Int), (rd_T28 L (i : Int)).f1⟩).set i (⟨((m + 2 * i : Nat) : Int), ((m + 2 * i + 1 : Nat) : Int)⟩ : S28) = (L.set i ⟨((m + 2 * i : Nat) : Int), (rd_T28 L (i : Int)).f1⟩).set i (mk28 m i) from rfl, h1]
      simp
    · rw [h3 j (by omega)]
      rw [List.getElem?_set_ne (by omega), List.getElem?_set_ne (by omega)]
    · by_cases e : j = i
      · subst e
        rw [h3 j (by omega), List.getElem?_set_self (by simp; omega)]
      · exact h4 j (by omega) (by simpa using hj')
theorem heldR_run (m : Nat) (hm : m ≤ 1000) (L : List (S28)) (hl : L.length ≤ 1000) (hL : ∀ j, j < L.length → L[j]? = some (mk28 m j)) : ∀ (d i k : Nat), i + d = L.length → d < k →
    laws_heldCellS.l0 k L ((m + 2 * i : Nat) : Int) (i : Int) = some ((m + 2 * L.length : Nat) : Int) := by
  intro d
  induction d with
  | zero =>
    intro i k hd hk
    obtain ⟨k, rfl⟩ : ∃ m, k = m + 1 := ⟨k - 1, by omega⟩
    rw [laws_heldCellS.l0.eq_2, if_neg (by omega), show i = L.length by omega]
  | succ d ih =>
    intro i k hd hk
    obtain ⟨k, rfl⟩ : ∃ m, k = m + 1 := ⟨k - 1, by omega⟩
    have e : rd_T28 L (i : Int) = mk28 m i := by
      rw [rd28_get (by omega)]
      have := hL i (by omega)
      rw [List.getElem?_eq_getElem (by omega)] at this
      exact Option.some.inj this
    rw [laws_heldCellS.l0.eq_2, if_pos (by omega), if_pos (by omega), e, w1 (m + 2 * i) (by omega), if_pos (show (mk28 m i).f0 = ((m + 2 * i : Nat) : Int) from rfl), if_pos (show (mk28 m i).f1 = ((m + 2 * i + 1 : Nat) : Int) from rfl), w1 (m + 2 * i + 1) (by omega), w1 i (by omega), show m + 2 * i + 1 + 1 = m + 2 * (i + 1) by omega]
    exact ih (i + 1) k (by omega) (by omega)
/-- Marked from 1 on, and read: the same number. -/
theorem marksR (L : List (S28)) (hl : L.length ≤ 1000) {k : Nat} (hk : 1000 < k) : ∃ (L' : List (S28)) (n : Int), laws_markCellS.f k L 1 = some (n, L') ∧ (0 ≤ n) ∧ (∀ k', 1000 < k' → laws_heldCellS.f k' L' 1 = some n) := by
  obtain ⟨L', h1, h2, h3, h4⟩ := markR_run 1 (by omega) L.length 0 k L (by omega) hl (by omega)
  refine ⟨L', ((1 + 2 * L.length : Nat) : Int), h1, by omega, fun k' hk' => ?_⟩
  have := heldR_run 1 (by omega) L' (by omega) (fun j hj => h4 j (by omega) (by omega)) L'.length 0 k' (by omega) (by omega)
  rw [h2] at this
  exact this

theorem FnExactCellsOfWay : ∀ (a0_0 : Int) (a0_1 : Int) (a0_2 : ByteArray), (Lit.int .i64 a0_0).wf = true → (Lit.int .i64 a0_1).wf = true → a0_2.size ≤ 9223372036854775807 → ∃ k, laws_FnExactCellsOfWay.f k a0_0 a0_1 a0_2 = some true := by
  intro x y s _ _ hs
  obtain ⟨t, h1, h2, h3⟩ := way_run x y s hs
  obtain ⟨R, hR⟩ : ∃ R, R = (if t = true then cls x y s s.size else []) := ⟨_, rfl⟩
  have hRl : R.length ≤ 1000 := by
    rw [hR]; cases t with
    | true => have := (h3 rfl).1; rw [if_pos rfl, cls_len]; omega
    | false => simp
  have es : ∀ k, 30 ≤ k → spec_CellsOfWay.f k x y s = some (R, t) := fun k hk => by
    unfold spec_CellsOfWay.f; rw [h1 k hk, Option.bind_some, hR]
  have em : ∀ k, 30 ≤ k → impl_CellsOfWay.f k x y s = some (R, t) := fun k hk => by
    unfold impl_CellsOfWay.f
    rw [h2 k hk, Option.bind_some, hR]
    cases t with
    | true => rw [if_pos rfl, (h3 rfl).2.2.2 k hk, Option.bind_some, if_pos rfl]
    | false => rw [if_neg (by decide), if_neg (by decide)]
  obtain ⟨R', m, m1, m2, m3⟩ := marksR R hRl (k := 2001) (by omega)
  refine ⟨2002, ?_⟩
  unfold laws_FnExactCellsOfWay.f laws_szWay.f laws_toWay.f laws_toCell.f
  by_cases hb : wrap64 (1048576 - (s.size : Int)) < 0
  · rw [if_pos hb, Option.bind_some, if_pos (by omega)]
  rw [if_neg hb, Option.bind_some, if_neg hb, Option.bind_some, Option.bind_some, es _ (by omega), Option.bind_some, Option.bind_some, em _ (by omega), Option.bind_some, eqR_run R hRl (by omega), Option.bind_some, if_pos rfl, show (2002 : Nat) = 2001 + 1 from rfl, laws_FnExactCellsOfWay.j0.eq_2]
  rw [if_neg (by simp), m1, Option.bind_some, m3 _ (by omega), Option.bind_some, if_neg (by omega), if_pos rfl]
  unfold laws_toWay.f laws_toCell.f
  rw [Option.bind_some, Option.bind_some, em _ (by omega), Option.bind_some, eqR_run R hRl (by omega), Option.bind_some, if_pos rfl, laws_FnExactCellsOfWay.j1.eq_2, if_neg (by simp), m3 _ (by omega), Option.bind_some, if_neg (by omega), if_pos rfl]
end Go.Proofs.YtkjhfafjfebmjaaDoor.Pure
