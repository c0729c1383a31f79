/- The chances, means and winners that add up: the draws come to finitely many arguments; at each of them each part of the law is reckoned. No condition. -/
import Derived.Test.YtfembmnagkdnhaaOFnRuinAddsUpx12
import Derived.Laws.Bits64b
namespace Go.Proofs.Ytfembmnagkdnhaa.Pure
open Go.RowKit Go.Proofs.Ytfembmnagkdnhaa.OFnRuinAddsUp Go.Proofs.YtfembmnagkdnhaaW.PrintWords Go.Proofs.YtfembmnagkdnhaaW.PrintLast
set_option linter.unusedVariables false
set_option linter.unusedSimpArgs false
theorem w64 {n : Int} (h0 : -9223372036854775808 ≤ n) (h1 : n ≤ 9223372036854775807) : wrap64 n = n := by unfold wrap64; omega
theorem wf_bd {n : Int} (h : (Lit.int .i64 n).wf = true) : -9223372036854775808 ≤ n ∧ n ≤ 9223372036854775807 := by
  unfold Lit.wf at h
  rw [Bool.and_eq_true] at h
  exact ⟨of_decide_eq_true h.1, of_decide_eq_true h.2⟩
theorem wN (n : Nat) (h : n ≤ 1000000000000) : wrap64 ((n : Int) + 1) = ((n + 1 : Nat) : Int) := by rw [w64 (by omega) (by omega)]; omega

theorem and255 (x : Int) (h0 : 0 ≤ x) (h1 : x < 18446744073709551616) : 0 ≤ Go.bits .and .u64 x 255 ∧ Go.bits .and .u64 x 255 ≤ 255 := by
  obtain ⟨n, rfl⟩ : ∃ n : Nat, x = n := ⟨x.toNat, by omega⟩
  have h := Go.bits_and_u64_nat n 255 (by omega) (by omega)
  rw [show ((255 : Nat) : Int) = 255 from rfl] at h
  rw [h]
  have := Nat.and_le_right (n := n) (m := 255)
  omega
theorem u64_rng (n : Int) : 0 ≤ IntKind.u64.wrap n ∧ IntKind.u64.wrap n < 18446744073709551616 := by
  have h : IntKind.u64.wrap n = n % 18446744073709551616 := by simp [IntKind.wrap, IntKind.bits, IntKind.signed]
  rw [h]; omega
theorem tail_ok (n : Int) : 0 ≤ wrap64 (Go.bits .and .u64 (IntKind.u64.wrap n / 1099511627776) 255) := by
  have h := u64_rng n
  have h2 := and255 (IntKind.u64.wrap n / 1099511627776) (by omega) (by omega)
  rw [w64 (by omega) (by omega)]; exact h2.1
/-- A draw of one number: some number that is no less than 0. -/
theorem next_run (l : List Int) (hl : l.length ≤ 1048576) (hb : ∀ x ∈ l, (Lit.int .u8 x).wf = true) (i : Nat) (hi : i ≤ 100) (s : Int) : ∃ v s', spec_l1Cur_next.f l (i : Int) s = some (v, ((i + 1 : Nat) : Int), s') ∧ 0 ≤ v := by
  unfold spec_l1Cur_next.f
  rw [wN i (by omega)]
  by_cases h : (i : Int) < (l.length : Int)
  · have hi2 : i < l.length := by omega
    have hx : 0 ≤ rd l (i : Int) ∧ rd l (i : Int) ≤ 255 := by
      have e : rd l (i : Int) = l[i] := by
        unfold rd
        rw [Int.toNat_natCast, List.getD_eq_getElem?_getD, List.getElem?_eq_getElem hi2]; rfl
      have w := hb l[i] (List.getElem_mem hi2)
      unfold Lit.wf at w
      rw [Bool.and_eq_true] at w
      have w1 := of_decide_eq_true w.1
      have w2 := of_decide_eq_true w.2
      have k1 : IntKind.u8.min = 0 := rfl
      have k2 : IntKind.u8.max = 255 := rfl
      rw [e]; omega
    rw [if_pos h, if_pos (by omega)]
    by_cases h2 : ((i + 1 : Nat) : Int) ≤ (l.length : Int)
    · rw [if_pos h2]; exact ⟨_, _, rfl, by rw [w64 (by omega) (by omega)]; exact hx.1⟩
    · omega
  · rw [if_neg h]
    rw [if_neg (by omega)]
    exact ⟨_, _, rfl, tail_ok _⟩
/-- A choice among n, n at most 200. -/
theorem pick_run (l : List Int) (hl : l.length ≤ 1048576) (hb : ∀ x ∈ l, (Lit.int .u8 x).wf = true) (i : Nat) (hi : i ≤ 100) (s : Int) (n : Int) (hn : n ≤ 200) :
    ∃ (r : Nat) (i' : Nat) (s' : Int), i' ≤ i + 1 ∧ ((r : Int) < n ∨ r = 0) ∧ spec_l1Cur_pick.f l (i : Int) s n = some ((r : Int), (i' : Int), s') := by
  unfold spec_l1Cur_pick.f
  by_cases h1 : n ≤ 1
  · rw [if_pos h1]; exact ⟨0, i, s, by omega, .inr rfl, rfl⟩
  · obtain ⟨v, s', h, hv⟩ := next_run l hl hb i hi s
    obtain ⟨m, rfl⟩ : ∃ m : Nat, v = m := ⟨v.toNat, by omega⟩
    obtain ⟨q, rfl⟩ : ∃ q : Nat, n = q := ⟨n.toNat, by omega⟩
    have ht : Int.tmod (m : Int) (q : Int) = ((m % q : Nat) : Int) := rfl
    have hlt : m % q < q := Nat.mod_lt _ (by omega)
    rw [if_neg h1, h, Option.bind_some]
    dsimp only
    rw [if_neg (by omega), if_neg (by omega), ht]
    exact ⟨m % q, i + 1, s', Nat.le_refl _, .inl (by omega), rfl⟩
theorem among_run (l : List Int) (hl : l.length ≤ 1048576) (hb : ∀ x ∈ l, (Lit.int .u8 x).wf = true) (i : Nat) (hi : i ≤ 100) (s : Int) (L : List Int) (hL : 0 < L.length) (hL' : L.length ≤ 200) :
    ∃ (x : Int) (i' : Nat) (s' : Int), i' ≤ i + 1 ∧ x ∈ L ∧ spec_l1Cur_among.f l (i : Int) s L = some (x, (i' : Int), s') := by
  obtain ⟨r, i', s', h1, h2, h⟩ := pick_run l hl hb i hi s (L.length : Int) (by omega)
  have hr : r < L.length := by omega
  unfold spec_l1Cur_among.f
  rw [h, Option.bind_some]
  dsimp only
  rw [if_pos (by omega), if_pos (by omega)]
  refine ⟨rd L (r : Int), i', s', h1, ?_, rfl⟩
  have e : rd L (r : Int) = L[r] := by
    unfold rd
    rw [Int.toNat_natCast, List.getD_eq_getElem?_getD, List.getElem?_eq_getElem hr]; rfl
  rw [e]; exact List.getElem_mem hr
theorem big_no (l0 l1 : List Int) (h0 : l0.length ≤ maxLen) (h1 : l1.length ≤ maxLen) : laws_big.f l0 l1 = some true ∨ (laws_big.f l0 l1 = some false ∧ l0.length ≤ 1048576 ∧ l1.length ≤ 1048576) := by
  unfold laws_big.f
  by_cases g1 : (l0.length : Int) > 1048576
  · rw [if_pos g1]; exact .inl rfl
  · have hw : wrap64 (1048576 - (l0.length : Int)) = 1048576 - (l0.length : Int) := w64 (by omega) (by omega)
    rw [if_neg g1, hw]
    by_cases g2 : (l1.length : Int) > 1048576 - (l0.length : Int)
    · rw [decide_eq_true g2]; exact .inl rfl
    · rw [decide_eq_false g2]; exact .inr ⟨rfl, by omega, by omega⟩
theorem all_of {α : Type} {p : α → Bool} {L : List α} (h : L.all p = true) {x : α} (hx : x ∈ L) : p x = true := List.all_eq_true.1 h x hx

theorem one_run (l : List Int) (hl : l.length ≤ 1048576) (hb : ∀ x ∈ l, (Lit.int .u8 x).wf = true) (i : Nat) (hi : i ≤ 100) (s : Int) (n : Int) (hn : n ≤ 200) :
    ∃ (b : Bool) (i' : Nat) (s' : Int), i' ≤ i + 1 ∧ spec_l1Cur_one.f l (i : Int) s n = some (b, (i' : Int), s') := by
  obtain ⟨r, i', s', h1, _, h⟩ := pick_run l hl hb i hi s n hn
  unfold spec_l1Cur_one.f
  rw [h, Option.bind_some]
  exact ⟨_, i', s', h1, rfl⟩

/-- The chances that are drawn. -/
def CH : List (Int × Int) := ([0, 1, 2, 3, (-1), 4611686018427387904] : List Int).flatMap (fun a => ([0, 1, 2, 4, 7, (-1)] : List Int).map fun b => (a, b)) ++ [(1, 2), (1, 3), (2, 3), (1, 4), (3, 4), (1, 5), (2, 5), (3, 5), (4, 5), (1, 6), (5, 6)]
theorem ch_tab : (List.range 5).all (fun x => (List.range (x + 1)).all fun y => match spec_ruRatio.f 60 (wrap64 (1 + (y : Int))) (wrap64 (2 + (x : Int))) with | some p => CH.contains p | none => false) = true := by decide +kernel
theorem chance_run (l : List Int) (hl : l.length ≤ 1048576) (hb : ∀ x ∈ l, (Lit.int .u8 x).wf = true) (i : Nat) (hi : i ≤ 90) (s : Int) :
    ∃ (p : Int × Int) (i' : Nat) (s' : Int), i' ≤ i + 3 ∧ p ∈ CH ∧ spec_l1Cur_chance.f 60 l (i : Int) s = some (p.1, p.2, (i' : Int), s') := by
  unfold spec_l1Cur_chance.f
  obtain ⟨b, i1, s1, g1, h1⟩ := one_run l hl hb i (by omega) s 14 (by omega)
  rw [h1, Option.bind_some]
  dsimp only
  cases b with
  | true =>
    rw [if_pos rfl]
    obtain ⟨x, i2, s2, g2, m2, h2⟩ := among_run l hl hb i1 (by omega) s1 [0, 1, 2, 3, (-1), 4611686018427387904] (by decide) (by decide)
    obtain ⟨y, i3, s3, g3, m3, h3⟩ := among_run l hl hb i2 (by omega) s2 [0, 1, 2, 4, 7, (-1)] (by decide) (by decide)
    rw [h2, Option.bind_some]
    dsimp only
    rw [h3, Option.bind_some]
    exact ⟨(x, y), i3, s3, by omega, List.mem_append_left _ (List.mem_flatMap.2 ⟨x, m2, List.mem_map.2 ⟨y, m3, rfl⟩⟩), rfl⟩
  | false =>
    rw [if_neg (by decide)]
    obtain ⟨x, i2, s2, g2, m2, h2⟩ := pick_run l hl hb i1 (by omega) s1 5 (by omega)
    rw [h2, Option.bind_some]
    dsimp only
    rw [w64 (n := 2 + (x : Int)) (by omega) (by omega), w64 (n := 2 + (x : Int) - 1) (by omega) (by omega)]
    obtain ⟨y, i3, s3, g3, m3, h3⟩ := pick_run l hl hb i2 (by omega) s2 (2 + (x : Int) - 1) (by omega)
    rw [h3, Option.bind_some]
    dsimp only
    have t := all_of (all_of ch_tab (List.mem_range.2 (show x < 5 by omega))) (List.mem_range.2 (show y < x + 1 by omega))
    rw [w64 (n := 2 + (x : Int)) (by omega) (by omega)] at t
    rcases e : spec_ruRatio.f 60 (wrap64 (1 + (y : Int))) (2 + (x : Int)) with _ | p
    · rw [e] at t; exact absurd t Bool.false_ne_true
    · rw [e] at t
      rw [Option.bind_some]
      exact ⟨p, i3, s3, by omega, by simpa using t, rfl⟩

/-- What is held and the goals that are drawn. -/
def HE : List (Int × Int) := ([(-1), 0, 1, 12, 13] : List Int).flatMap (fun a => ([0, 1, 12, 13, (-1)] : List Int).map fun b => (a, b)) ++ (List.range 8).flatMap (fun (g : Nat) => (List.range (g + 2)).map fun (i : Nat) => ((i : Int), (g : Int) + 1))
theorem held_run (l : List Int) (hl : l.length ≤ 1048576) (hb : ∀ x ∈ l, (Lit.int .u8 x).wf = true) (i : Nat) (hi : i ≤ 90) (s : Int) :
    ∃ (p : Int × Int) (i' : Nat) (s' : Int), i' ≤ i + 3 ∧ p ∈ HE ∧ spec_l1Cur_held.f l (i : Int) s = some (p.1, p.2, (i' : Int), s') := by
  unfold spec_l1Cur_held.f
  obtain ⟨b, i1, s1, g1, h1⟩ := one_run l hl hb i (by omega) s 14 (by omega)
  rw [h1, Option.bind_some]
  dsimp only
  cases b with
  | true =>
    rw [if_pos rfl]
    obtain ⟨x, i2, s2, g2, m2, h2⟩ := among_run l hl hb i1 (by omega) s1 [(-1), 0, 1, 12, 13] (by decide) (by decide)
    obtain ⟨y, i3, s3, g3, m3, h3⟩ := among_run l hl hb i2 (by omega) s2 [0, 1, 12, 13, (-1)] (by decide) (by decide)
    rw [h2, Option.bind_some]
    dsimp only
    rw [h3, Option.bind_some]
    exact ⟨(x, y), i3, s3, by omega, List.mem_append_left _ (List.mem_flatMap.2 ⟨x, m2, List.mem_map.2 ⟨y, m3, rfl⟩⟩), rfl⟩
  | false =>
    rw [if_neg (by decide)]
    obtain ⟨x, i2, s2, g2, m2, h2⟩ := pick_run l hl hb i1 (by omega) s1 8 (by omega)
    rw [h2, Option.bind_some]
    dsimp only
    rw [w64 (n := 1 + (x : Int)) (by omega) (by omega), w64 (n := 1 + (x : Int) + 1) (by omega) (by omega)]
    obtain ⟨y, i3, s3, g3, m3, h3⟩ := pick_run l hl hb i2 (by omega) s2 (1 + (x : Int) + 1) (by omega)
    rw [h3, Option.bind_some]
    exact ⟨((y : Int), 1 + (x : Int)), i3, s3, by omega, List.mem_append_right _ (List.mem_flatMap.2 ⟨(x : Nat), List.mem_range.2 (by omega), List.mem_map.2 ⟨(y : Nat), List.mem_range.2 (by omega), by rw [Int.add_comm 1]⟩⟩), rfl⟩

mutual
def H.j0 (C : Nat → Option (Bool)) : Nat → Int → Int → Bool → Bool → Int → Int → Int → Int → Int → Int → Int → Int → Int → Int → Int → Int → Option (Bool)
  | 0, _, _, _, _, _, _, _, _, _, _, _, _, _, _, _, _ => none
  | k + 1, x5, x6, x9, x218, x405000, x405001, x409000, x409001, x417000, x417001, x425000, x425001, x433000, x433001, x441000, x441001 => if x218 = true then (none) else (if x9 = true then (if x409001 = x417001 then (if (wrap64 (x409000 + x417000)) = x409001 then (if x409000 < 0 then (H.j1 C k x5 x6 true x405000 x405001 x409000 x409001 x417000 x417001 x425000 x425001 x441000 x441001) else (if x417000 < 0 then (H.j1 C k x5 x6 true x405000 x405001 x409000 x409001 x417000 x417001 x425000 x425001 x441000 x441001) else (if (wrap64 (x433000 * x409001)) = (wrap64 ((wrap64 (x6 * x409000)) * x433001)) then (if x425000 < 0 then (H.j1 C k x5 x6 true x405000 x405001 x409000 x409001 x417000 x417001 x425000 x425001 x441000 x441001) else (if x5 = 0 then (H.j1 C k x5 x6 ((x425000 == 0) != true) x405000 x405001 x409000 x409001 x417000 x417001 x425000 x425001 x441000 x441001) else (H.j1 C k x5 x6 ((x425000 == 0) != (x5 == x6)) x405000 x405001 x409000 x409001 x417000 x417001 x425000 x425001 x441000 x441001))) else (H.j1 C k x5 x6 true x405000 x405001 x409000 x409001 x417000 x417001 x425000 x425001 x441000 x441001)))) else (H.j1 C k x5 x6 true x405000 x405001 x409000 x409001 x417000 x417001 x425000 x425001 x441000 x441001)) else (H.j1 C k x5 x6 true x405000 x405001 x409000 x409001 x417000 x417001 x425000 x425001 x441000 x441001)) else (C k))
def H.j1 (C : Nat → Option (Bool)) : Nat → Int → Int → Bool → Int → Int → Int → Int → Int → Int → Int → Int → Int → Int → Option (Bool)
  | 0, _, _, _, _, _, _, _, _, _, _, _, _, _ => none
  | k + 1, x5, x6, x277, x405000, x405001, x409000, x409001, x417000, x417001, x425000, x425001, x441000, x441001 => if x277 = true then (none) else (if x5 > 0 then (H.j2 C k x5 x6 (decide (x5 < x6)) x405000 x405001 x409000 x409001 x417000 x417001 x425000 x425001 x441000 x441001) else (H.j2 C k x5 x6 false x405000 x405001 x409000 x409001 x417000 x417001 x425000 x425001 x441000 x441001))
def H.j2 (C : Nat → Option (Bool)) : Nat → Int → Int → Bool → Int → Int → Int → Int → Int → Int → Int → Int → Int → Int → Option (Bool)
  | 0, _, _, _, _, _, _, _, _, _, _, _, _, _ => none
  | k + 1, x5, x6, x284, x405000, x405001, x409000, x409001, x417000, x417001, x425000, x425001, x441000, x441001 => if x284 = true then ((impl_WinChance.f k (wrap64 (x5 + 1)) x6 x405000 x405001).bind fun bt447 => ((impl_WinChance.f k (wrap64 (x5 - 1)) x6 x405000 x405001).bind fun bt451 => ((impl_WinChance.f k 1 x6 x405000 x405001).bind fun bt455 => (if bt447.2.2 = true then (if bt451.2.2 = true then (if bt455.2.2 = true then (if bt455.1 < 1 then (H.j3 C k x5 x6 true x405000 x405001 x409000 x409001 x417000 x417001 x425000 x425001 x441000 x441001 bt447.1 bt447.2.1 bt451.1 bt451.2.1) else (if (wrap64 (bt447.1 * x409001)) ≤ (wrap64 (x409000 * bt447.2.1)) then (H.j3 C k x5 x6 true x405000 x405001 x409000 x409001 x417000 x417001 x425000 x425001 x441000 x441001 bt447.1 bt447.2.1 bt451.1 bt451.2.1) else (H.j3 C k x5 x6 (decide ((wrap64 (x409000 * bt451.2.1)) ≤ (wrap64 (bt451.1 * x409001)))) x405000 x405001 x409000 x409001 x417000 x417001 x425000 x425001 x441000 x441001 bt447.1 bt447.2.1 bt451.1 bt451.2.1))) else (H.j3 C k x5 x6 true x405000 x405001 x409000 x409001 x417000 x417001 x425000 x425001 x441000 x441001 bt447.1 bt447.2.1 bt451.1 bt451.2.1)) else (H.j3 C k x5 x6 true x405000 x405001 x409000 x409001 x417000 x417001 x425000 x425001 x441000 x441001 bt447.1 bt447.2.1 bt451.1 bt451.2.1)) else (H.j3 C k x5 x6 true x405000 x405001 x409000 x409001 x417000 x417001 x425000 x425001 x441000 x441001 bt447.1 bt447.2.1 bt451.1 bt451.2.1))))) else ((impl_WinChance.f k (wrap64 (x6 - x5)) x6 (wrap64 (x405001 - x405000)) x405001).bind fun bt463 => (if bt463.2.2 = true then (if (!(bt463.1 == x417000) || (!(bt463.2.1 == x417001))) = true then (none) else (C k)) else (none)))
def H.j3 (C : Nat → Option (Bool)) : Nat → Int → Int → Bool → Int → Int → Int → Int → Int → Int → Int → Int → Int → Int → Int → Int → Int → Int → Option (Bool)
  | 0, _, _, _, _, _, _, _, _, _, _, _, _, _, _, _, _, _ => none
  | k + 1, x5, x6, x347, x405000, x405001, x409000, x409001, x417000, x417001, x425000, x425001, x441000, x441001, x451000, x451001, x455000, x455001 => if x347 = true then (none) else (if x6 ≤ 6 then (H.j4 C k x5 x6 ((wrap64 ((wrap64 ((wrap64 (x405001 * x409000)) * x451001)) * x455001)) != (wrap64 ((wrap64 ((wrap64 ((wrap64 (x405000 * x451000)) * x409001)) * x455001)) + (wrap64 ((wrap64 ((wrap64 ((wrap64 (x405001 - x405000)) * x455000)) * x409001)) * x451001))))) x405000 x405001 x409000 x409001 x417000 x417001 x425000 x425001 x441000 x441001) else (H.j4 C k x5 x6 false x405000 x405001 x409000 x409001 x417000 x417001 x425000 x425001 x441000 x441001))
def H.j4 (C : Nat → Option (Bool)) : Nat → Int → Int → Bool → Int → Int → Int → Int → Int → Int → Int → Int → Int → Int → Option (Bool)
  | 0, _, _, _, _, _, _, _, _, _, _, _, _, _ => none
  | k + 1, x5, x6, x389, x405000, x405001, x409000, x409001, x417000, x417001, x425000, x425001, x441000, x441001 => if x389 = true then (none) else (if x441000 < 1 then (H.j5 C k x5 x6 true x405000 x405001 x409000 x409001 x417000 x417001 x425000 x425001) else (if x441000 > x441001 then (H.j5 C k x5 x6 true x405000 x405001 x409000 x409001 x417000 x417001 x425000 x425001) else (if (wrap64 (x5 + 1)) = x6 then (H.j5 C k x5 x6 ((wrap64 ((wrap64 (x441000 * x409000)) * x405001)) != (wrap64 ((wrap64 (x441001 * x405000)) * x409001))) x405000 x405001 x409000 x409001 x417000 x417001 x425000 x425001) else (H.j5 C k x5 x6 false x405000 x405001 x409000 x409001 x417000 x417001 x425000 x425001))))
def H.j5 (C : Nat → Option (Bool)) : Nat → Int → Int → Bool → Int → Int → Int → Int → Int → Int → Int → Int → Option (Bool)
  | 0, _, _, _, _, _, _, _, _, _, _, _ => none
  | k + 1, x5, x6, x424, x405000, x405001, x409000, x409001, x417000, x417001, x425000, x425001 => if x424 = true then (none) else (if (wrap64 (2 * x405000)) = x405001 then (if (wrap64 (x409000 * x6)) = (wrap64 (x5 * x409001)) then (H.j6 C k x5 x6 (!(x425000 == (wrap64 (x5 * (wrap64 (x6 - x5))))) || (!(x425001 == 1))) x405000 x405001 x417000 x417001) else (H.j6 C k x5 x6 true x405000 x405001 x417000 x417001)) else (H.j6 C k x5 x6 false x405000 x405001 x417000 x417001))
def H.j6 (C : Nat → Option (Bool)) : Nat → Int → Int → Bool → Int → Int → Int → Int → Option (Bool)
  | 0, _, _, _, _, _, _, _ => none
  | k + 1, x5, x6, x451, x405000, x405001, x417000, x417001 => if x451 = true then (none) else ((impl_WinChance.f k (wrap64 (x6 - x5)) x6 (wrap64 (x405001 - x405000)) x405001).bind fun bt459 => (if bt459.2.2 = true then (if (!(bt459.1 == x417000) || (!(bt459.2.1 == x417001))) = true then (none) else (C k)) else (none)))
end
theorem H.link (l1 : List Int) (C : Nat → Option (Bool)) (hC : ∀ k, LeO (C k) (laws_FnRuinAddsUp.j7 k l1)) : ∀ k, (∀ y1 y2 y3 y4 y5 y6 y7 y8 y9 y10 y11 y12 y13 y14 y15 y16, LeO (H.j0 C k y1 y2 y3 y4 y5 y6 y7 y8 y9 y10 y11 y12 y13 y14 y15 y16) (laws_FnRuinAddsUp.j0 k l1 y1 y2 y3 y4 y5 y6 y7 y8 y9 y10 y11 y12 y13 y14 y15 y16)) ∧ (∀ y1 y2 y3 y4 y5 y6 y7 y8 y9 y10 y11 y12 y13, LeO (H.j1 C k y1 y2 y3 y4 y5 y6 y7 y8 y9 y10 y11 y12 y13) (laws_FnRuinAddsUp.j1 k l1 y1 y2 y3 y4 y5 y6 y7 y8 y9 y10 y11 y12 y13)) ∧ (∀ y1 y2 y3 y4 y5 y6 y7 y8 y9 y10 y11 y12 y13, LeO (H.j2 C k y1 y2 y3 y4 y5 y6 y7 y8 y9 y10 y11 y12 y13) (laws_FnRuinAddsUp.j2 k l1 y1 y2 y3 y4 y5 y6 y7 y8 y9 y10 y11 y12 y13)) ∧ (∀ y1 y2 y3 y4 y5 y6 y7 y8 y9 y10 y11 y12 y13 y14 y15 y16 y17, LeO (H.j3 C k y1 y2 y3 y4 y5 y6 y7 y8 y9 y10 y11 y12 y13 y14 y15 y16 y17) (laws_FnRuinAddsUp.j3 k l1 y1 y2 y3 y4 y5 y6 y7 y8 y9 y10 y11 y12 y13 y14 y15 y16 y17)) ∧ (∀ y1 y2 y3 y4 y5 y6 y7 y8 y9 y10 y11 y12 y13, LeO (H.j4 C k y1 y2 y3 y4 y5 y6 y7 y8 y9 y10 y11 y12 y13) (laws_FnRuinAddsUp.j4 k l1 y1 y2 y3 y4 y5 y6 y7 y8 y9 y10 y11 y12 y13)) ∧ (∀ y1 y2 y3 y4 y5 y6 y7 y8 y9 y10 y11, LeO (H.j5 C k y1 y2 y3 y4 y5 y6 y7 y8 y9 y10 y11) (laws_FnRuinAddsUp.j5 k l1 y1 y2 y3 y4 y5 y6 y7 y8 y9 y10 y11)) ∧ (∀ y1 y2 y3 y4 y5 y6 y7, LeO (H.j6 C k y1 y2 y3 y4 y5 y6 y7) (laws_FnRuinAddsUp.j6 k l1 y1 y2 y3 y4 y5 y6 y7))
  | 0 => by refine ⟨?_, ?_, ?_, ?_, ?_, ?_, ?_⟩ <;> intros <;> (first | (intro r h; simp [H.j0, H.j1, H.j2, H.j3, H.j4, H.j5, H.j6] at h))
  | k + 1 => by
    obtain ⟨ih0, ih1, ih2, ih3, ih4, ih5, ih6⟩ := H.link l1 C hC k
    refine ⟨?_, ?_, ?_, ?_, ?_, ?_, ?_⟩
    · intro y0 y1 y2 y3 y4 y5 y6 y7 y8 y9 y10 y11 y12 y13 y14 y15
      unfold H.j0 laws_FnRuinAddsUp.j0
      repeat' first
      | (with_reducible exact ih0 _ _ _ _ _ _ _ _ _ _ _ _ _ _ _ _)
      | (with_reducible exact ih1 _ _ _ _ _ _ _ _ _ _ _ _ _)
      | (with_reducible exact ih2 _ _ _ _ _ _ _ _ _ _ _ _ _)
      | (with_reducible exact ih3 _ _ _ _ _ _ _ _ _ _ _ _ _ _ _ _ _)
      | (with_reducible exact ih4 _ _ _ _ _ _ _ _ _ _ _ _ _)
      | (with_reducible exact ih5 _ _ _ _ _ _ _ _ _ _ _)
      | (with_reducible exact ih6 _ _ _ _ _ _ _)
      | (with_reducible exact hC _)
      | (with_reducible exact LeO.refl _)
      | (with_reducible exact LeO.none _)
      | (with_reducible refine LeO.ite ?_ ?_)
      | (with_reducible refine LeO.bind ?_ (fun _ => ?_))
      | exact ih0 _ _ _ _ _ _ _ _ _ _ _ _ _ _ _ _
      | exact ih1 _ _ _ _ _ _ _ _ _ _ _ _ _
      | exact ih2 _ _ _ _ _ _ _ _ _ _ _ _ _
      | exact ih3 _ _ _ _ _ _ _ _ _ _ _ _ _ _ _ _ _
      | exact ih4 _ _ _ _ _ _ _ _ _ _ _ _ _
      | exact ih5 _ _ _ _ _ _ _ _ _ _ _
      | exact ih6 _ _ _ _ _ _ _
      | exact hC _
      | refine LeO.ite ?_ ?_
      | refine LeO.bind ?_ (fun _ => ?_)
    · intro y0 y1 y2 y3 y4 y5 y6 y7 y8 y9 y10 y11 y12
      unfold H.j1 laws_FnRuinAddsUp.j1
      repeat' first
      | (with_reducible exact ih0 _ _ _ _ _ _ _ _ _ _ _ _ _ _ _ _)
      | (with_reducible exact ih1 _ _ _ _ _ _ _ _ _ _ _ _ _)
      | (with_reducible exact ih2 _ _ _ _ _ _ _ _ _ _ _ _ _)
      | (with_reducible exact ih3 _ _ _ _ _ _ _ _ _ _ _ _ _ _ _ _ _)
      | (with_reducible exact ih4 _ _ _ _ _ _ _ _ _ _ _ _ _)
      | (with_reducible exact ih5 _ _ _ _ _ _ _ _ _ _ _)
      | (with_reducible exact ih6 _ _ _ _ _ _ _)
      | (with_reducible exact hC _)
      | (with_reducible exact LeO.refl _)
      | (with_reducible exact LeO.none _)
      | (with_reducible refine LeO.ite ?_ ?_)
      | (with_reducible refine LeO.bind ?_ (fun _ => ?_))
      | exact ih0 _ _ _ _ _ _ _ _ _ _ _ _ _ _ _ _
      | exact ih1 _ _ _ _ _ _ _ _ _ _ _ _ _
      | exact ih2 _ _ _ _ _ _ _ _ _ _ _ _ _
      | exact ih3 _ _ _ _ _ _ _ _ _ _ _ _ _ _ _ _ _
      | exact ih4 _ _ _ _ _ _ _ _ _ _ _ _ _
      | exact ih5 _ _ _ _ _ _ _ _ _ _ _
      | exact ih6 _ _ _ _ _ _ _
      | exact hC _
      | refine LeO.ite ?_ ?_
      | refine LeO.bind ?_ (fun _ => ?_)
    · intro y0 y1 y2 y3 y4 y5 y6 y7 y8 y9 y10 y11 y12
      unfold H.j2 laws_FnRuinAddsUp.j2
      repeat' first
      | (with_reducible exact ih0 _ _ _ _ _ _ _ _ _ _ _ _ _ _ _ _)
      | (with_reducible exact ih1 _ _ _ _ _ _ _ _ _ _ _ _ _)
      | (with_reducible exact ih2 _ _ _ _ _ _ _ _ _ _ _ _ _)
      | (with_reducible exact ih3 _ _ _ _ _ _ _ _ _ _ _ _ _ _ _ _ _)
      | (with_reducible exact ih4 _ _ _ _ _ _ _ _ _ _ _ _ _)
      | (with_reducible exact ih5 _ _ _ _ _ _ _ _ _ _ _)
      | (with_reducible exact ih6 _ _ _ _ _ _ _)
      | (with_reducible exact hC _)
      | (with_reducible exact LeO.refl _)
      | (with_reducible exact LeO.none _)
      | (with_reducible refine LeO.ite ?_ ?_)
      | (with_reducible refine LeO.bind ?_ (fun _ => ?_))
      | exact ih0 _ _ _ _ _ _ _ _ _ _ _ _ _ _ _ _
      | exact ih1 _ _ _ _ _ _ _ _ _ _ _ _ _
      | exact ih2 _ _ _ _ _ _ _ _ _ _ _ _ _
      | exact ih3 _ _ _ _ _ _ _ _ _ _ _ _ _ _ _ _ _
      | exact ih4 _ _ _ _ _ _ _ _ _ _ _ _ _
      | exact ih5 _ _ _ _ _ _ _ _ _ _ _
      | exact ih6 _ _ _ _ _ _ _
      | exact hC _
      | refine LeO.ite ?_ ?_
      | refine LeO.bind ?_ (fun _ => ?_)
    · intro y0 y1 y2 y3 y4 y5 y6 y7 y8 y9 y10 y11 y12 y13 y14 y15 y16
      unfold H.j3 laws_FnRuinAddsUp.j3
      repeat' first
      | (with_reducible exact ih0 _ _ _ _ _ _ _ _ _ _ _ _ _ _ _ _)
      | (with_reducible exact ih1 _ _ _ _ _ _ _ _ _ _ _ _ _)
      | (with_reducible exact ih2 _ _ _ _ _ _ _ _ _ _ _ _ _)
      | (with_reducible exact ih3 _ _ _ _ _ _ _ _ _ _ _ _ _ _ _ _ _)
      | (with_reducible exact ih4 _ _ _ _ _ _ _ _ _ _ _ _ _)
      | (with_reducible exact ih5 _ _ _ _ _ _ _ _ _ _ _)
      | (with_reducible exact ih6 _ _ _ _ _ _ _)
      | (with_reducible exact hC _)
      | (with_reducible exact LeO.refl _)
      | (with_reducible exact LeO.none _)
      | (with_reducible refine LeO.ite ?_ ?_)
      | (with_reducible refine LeO.bind ?_ (fun _ => ?_))
      | exact ih0 _ _ _ _ _ _ _ _ _ _ _ _ _ _ _ _
      | exact ih1 _ _ _ _ _ _ _ _ _ _ _ _ _
      | exact ih2 _ _ _ _ _ _ _ _ _ _ _ _ _
      | exact ih3 _ _ _ _ _ _ _ _ _ _ _ _ _ _ _ _ _
      | exact ih4 _ _ _ _ _ _ _ _ _ _ _ _ _
      | exact ih5 _ _ _ _ _ _ _ _ _ _ _
      | exact ih6 _ _ _ _ _ _ _
      | exact hC _
      | refine LeO.ite ?_ ?_
      | refine LeO.bind ?_ (fun _ => ?_)
    · intro y0 y1 y2 y3 y4 y5 y6 y7 y8 y9 y10 y11 y12
      unfold H.j4 laws_FnRuinAddsUp.j4
      repeat' first
      | (with_reducible exact ih0 _ _ _ _ _ _ _ _ _ _ _ _ _ _ _ _)
      | (with_reducible exact ih1 _ _ _ _ _ _ _ _ _ _ _ _ _)
      | (with_reducible exact ih2 _ _ _ _ _ _ _ _ _ _ _ _ _)
      | (with_reducible exact ih3 _ _ _ _ _ _ _ _ _ _ _ _ _ _ _ _ _)
      | (with_reducible exact ih4 _ _ _ _ _ _ _ _ _ _ _ _ _)
      | (with_reducible exact ih5 _ _ _ _ _ _ _ _ _ _ _)
      | (with_reducible exact ih6 _ _ _ _ _ _ _)
      | (with_reducible exact hC _)
      | (with_reducible exact LeO.refl _)
      | (with_reducible exact LeO.none _)
      | (with_reducible refine LeO.ite ?_ ?_)
      | (with_reducible refine LeO.bind ?_ (fun _ => ?_))
      | exact ih0 _ _ _ _ _ _ _ _ _ _ _ _ _ _ _ _
      | exact ih1 _ _ _ _ _ _ _ _ _ _ _ _ _
      | exact ih2 _ _ _ _ _ _ _ _ _ _ _ _ _
      | exact ih3 _ _ _ _ _ _ _ _ _ _ _ _ _ _ _ _ _
      | exact ih4 _ _ _ _ _ _ _ _ _ _ _ _ _
      | exact ih5 _ _ _ _ _ _ _ _ _ _ _
      | exact ih6 _ _ _ _ _ _ _
      | exact hC _
      | refine LeO.ite ?_ ?_
      | refine LeO.bind ?_ (fun _ => ?_)
    · intro y0 y1 y2 y3 y4 y5 y6 y7 y8 y9 y10
      unfold H.j5 laws_FnRuinAddsUp.j5
      repeat' first
      | (with_reducible exact ih0 _ _ _ _ _ _ _ _ _ _ _ _ _ _ _ _)
      | (with_reducible exact ih1 _ _ _ _ _ _ _ _ _ _ _ _ _)
      | (with_reducible exact ih2 _ _ _ _ _ _ _ _ _ _ _ _ _)
      | (with_reducible exact ih3 _ _ _ _ _ _ _ _ _ _ _ _ _ _ _ _ _)
      | (with_reducible exact ih4 _ _ _ _ _ _ _ _ _ _ _ _ _)
      | (with_reducible exact ih5 _ _ _ _ _ _ _ _ _ _ _)
      | (with_reducible exact ih6 _ _ _ _ _ _ _)
      | (with_reducible exact hC _)
      | (with_reducible exact LeO.refl _)
      | (with_reducible exact LeO.none _)
      | (with_reducible refine LeO.ite ?_ ?_)
      | (with_reducible refine LeO.bind ?_ (fun _ => ?_))
      | exact ih0 _ _ _ _ _ _ _ _ _ _ _ _ _ _ _ _
      | exact ih1 _ _ _ _ _ _ _ _ _ _ _ _ _
      | exact ih2 _ _ _ _ _ _ _ _ _ _ _ _ _
      | exact ih3 _ _ _ _ _ _ _ _ _ _ _ _ _ _ _ _ _
      | exact ih4 _ _ _ _ _ _ _ _ _ _ _ _ _
      | exact ih5 _ _ _ _ _ _ _ _ _ _ _
      | exact ih6 _ _ _ _ _ _ _
      | exact hC _
      | refine LeO.ite ?_ ?_
      | refine LeO.bind ?_ (fun _ => ?_)
    · intro y0 y1 y2 y3 y4 y5 y6
      unfold H.j6 laws_FnRuinAddsUp.j6
      repeat' first
      | (with_reducible exact ih0 _ _ _ _ _ _ _ _ _ _ _ _ _ _ _ _)
      | (with_reducible exact ih1 _ _ _ _ _ _ _ _ _ _ _ _ _)
      | (with_reducible exact ih2 _ _ _ _ _ _ _ _ _ _ _ _ _)
      | (with_reducible exact ih3 _ _ _ _ _ _ _ _ _ _ _ _ _ _ _ _ _)
      | (with_reducible exact ih4 _ _ _ _ _ _ _ _ _ _ _ _ _)
      | (with_reducible exact ih5 _ _ _ _ _ _ _ _ _ _ _)
      | (with_reducible exact ih6 _ _ _ _ _ _ _)
      | (with_reducible exact hC _)
      | (with_reducible exact LeO.refl _)
      | (with_reducible exact LeO.none _)
      | (with_reducible refine LeO.ite ?_ ?_)
      | (with_reducible refine LeO.bind ?_ (fun _ => ?_))
      | exact ih0 _ _ _ _ _ _ _ _ _ _ _ _ _ _ _ _
      | exact ih1 _ _ _ _ _ _ _ _ _ _ _ _ _
      | exact ih2 _ _ _ _ _ _ _ _ _ _ _ _ _
      | exact ih3 _ _ _ _ _ _ _ _ _ _ _ _ _ _ _ _ _
      | exact ih4 _ _ _ _ _ _ _ _ _ _ _ _ _
      | exact ih5 _ _ _ _ _ _ _ _ _ _ _
      | exact ih6 _ _ _ _ _ _ _
      | exact hC _
      | refine LeO.ite ?_ ?_
      | refine LeO.bind ?_ (fun _ => ?_)
def H.f (C : Nat → Option (Bool)) (k : Nat) (bt400 : Int × Int × Int × Int) : Option (Bool) := ((impl_WinChance.f k bt400.1 bt400.2.1 bt400.2.2.1 bt400.2.2.2).bind fun bt405 => ((spec_WinChance.f k bt400.1 bt400.2.1 bt400.2.2.1 bt400.2.2.2).bind fun bt409 => ((impl_RuinChance.f k bt400.1 bt400.2.1 bt400.2.2.1 bt400.2.2.2).bind fun bt413 => ((spec_RuinChance.f k bt400.1 bt400.2.1 bt400.2.2.1 bt400.2.2.2).bind fun bt417 => ((impl_MeanGames.f k bt400.1 bt400.2.1 bt400.2.2.1 bt400.2.2.2).bind fun bt421 => ((spec_MeanGames.f k bt400.1 bt400.2.1 bt400.2.2.1 bt400.2.2.2).bind fun bt425 => ((impl_MeanHeld.f k bt400.1 bt400.2.1 bt400.2.2.1 bt400.2.2.2).bind fun bt429 => ((spec_MeanHeld.f k bt400.1 bt400.2.1 bt400.2.2.1 bt400.2.2.2).bind fun bt433 => ((impl_FirstWonOfWinners.f k bt400.1 bt400.2.1 bt400.2.2.1 bt400.2.2.2).bind fun bt437 => ((spec_FirstWonOfWinners.f k bt400.1 bt400.2.1 bt400.2.2.1 bt400.2.2.2).bind fun bt441 => (if (bt405.2.2 != bt409.2.2) = true then (H.j0 C k bt400.1 bt400.2.1 bt405.2.2 true bt400.2.2.1 bt400.2.2.2 bt405.1 bt405.2.1 bt413.1 bt413.2.1 bt421.1 bt421.2.1 bt429.1 bt429.2.1 bt437.1 bt437.2.1) else (if (!(bt405.1 == bt409.1) || (!(bt405.2.1 == bt409.2.1))) = true then (H.j0 C k bt400.1 bt400.2.1 bt405.2.2 true bt400.2.2.1 bt400.2.2.2 bt405.1 bt405.2.1 bt413.1 bt413.2.1 bt421.1 bt421.2.1 bt429.1 bt429.2.1 bt437.1 bt437.2.1) else (if (bt413.2.2 != bt417.2.2) = true then (H.j0 C k bt400.1 bt400.2.1 bt405.2.2 true bt400.2.2.1 bt400.2.2.2 bt405.1 bt405.2.1 bt413.1 bt413.2.1 bt421.1 bt421.2.1 bt429.1 bt429.2.1 bt437.1 bt437.2.1) else (if (!(bt413.1 == bt417.1) || (!(bt413.2.1 == bt417.2.1))) = true then (H.j0 C k bt400.1 bt400.2.1 bt405.2.2 true bt400.2.2.1 bt400.2.2.2 bt405.1 bt405.2.1 bt413.1 bt413.2.1 bt421.1 bt421.2.1 bt429.1 bt429.2.1 bt437.1 bt437.2.1) else (if (bt421.2.2 != bt425.2.2) = true then (H.j0 C k bt400.1 bt400.2.1 bt405.2.2 true bt400.2.2.1 bt400.2.2.2 bt405.1 bt405.2.1 bt413.1 bt413.2.1 bt421.1 bt421.2.1 bt429.1 bt429.2.1 bt437.1 bt437.2.1) else (if (!(bt421.1 == bt425.1) || (!(bt421.2.1 == bt425.2.1))) = true then (H.j0 C k bt400.1 bt400.2.1 bt405.2.2 true bt400.2.2.1 bt400.2.2.2 bt405.1 bt405.2.1 bt413.1 bt413.2.1 bt421.1 bt421.2.1 bt429.1 bt429.2.1 bt437.1 bt437.2.1) else (if (bt429.2.2 != bt433.2.2) = true then (H.j0 C k bt400.1 bt400.2.1 bt405.2.2 true bt400.2.2.1 bt400.2.2.2 bt405.1 bt405.2.1 bt413.1 bt413.2.1 bt421.1 bt421.2.1 bt429.1 bt429.2.1 bt437.1 bt437.2.1) else (if (!(bt429.1 == bt433.1) || (!(bt429.2.1 == bt433.2.1))) = true then (H.j0 C k bt400.1 bt400.2.1 bt405.2.2 true bt400.2.2.1 bt400.2.2.2 bt405.1 bt405.2.1 bt413.1 bt413.2.1 bt421.1 bt421.2.1 bt429.1 bt429.2.1 bt437.1 bt437.2.1) else (if (bt437.2.2 != bt441.2.2) = true then (H.j0 C k bt400.1 bt400.2.1 bt405.2.2 true bt400.2.2.1 bt400.2.2.2 bt405.1 bt405.2.1 bt413.1 bt413.2.1 bt421.1 bt421.2.1 bt429.1 bt429.2.1 bt437.1 bt437.2.1) else (if (!(bt437.1 == bt441.1) || (!(bt437.2.1 == bt441.2.1))) = true then (H.j0 C k bt400.1 bt400.2.1 bt405.2.2 true bt400.2.2.1 bt400.2.2.2 bt405.1 bt405.2.1 bt413.1 bt413.2.1 bt421.1 bt421.2.1 bt429.1 bt429.2.1 bt437.1 bt437.2.1) else (if (bt413.2.2 != bt405.2.2) = true then (H.j0 C k bt400.1 bt400.2.1 bt405.2.2 true bt400.2.2.1 bt400.2.2.2 bt405.1 bt405.2.1 bt413.1 bt413.2.1 bt421.1 bt421.2.1 bt429.1 bt429.2.1 bt437.1 bt437.2.1) else (if (bt421.2.2 != bt405.2.2) = true then (H.j0 C k bt400.1 bt400.2.1 bt405.2.2 true bt400.2.2.1 bt400.2.2.2 bt405.1 bt405.2.1 bt413.1 bt413.2.1 bt421.1 bt421.2.1 bt429.1 bt429.2.1 bt437.1 bt437.2.1) else (if (bt429.2.2 != bt405.2.2) = true then (H.j0 C k bt400.1 bt400.2.1 bt405.2.2 true bt400.2.2.1 bt400.2.2.2 bt405.1 bt405.2.1 bt413.1 bt413.2.1 bt421.1 bt421.2.1 bt429.1 bt429.2.1 bt437.1 bt437.2.1) else (if bt405.2.2 = true then (if bt400.1 > 0 then (if (bt437.2.2 != (decide (bt400.1 < bt400.2.1))) = true then (H.j0 C k bt400.1 bt400.2.1 bt405.2.2 true bt400.2.2.1 bt400.2.2.2 bt405.1 bt405.2.1 bt413.1 bt413.2.1 bt421.1 bt421.2.1 bt429.1 bt429.2.1 bt437.1 bt437.2.1) else ((impl_IsChance.f k bt400.2.2.1 bt400.2.2.2).bind fun t445 => (H.j0 C k bt400.1 bt400.2.1 bt405.2.2 (!t445) bt400.2.2.1 bt400.2.2.2 bt405.1 bt405.2.1 bt413.1 bt413.2.1 bt421.1 bt421.2.1 bt429.1 bt429.2.1 bt437.1 bt437.2.1))) else (if (bt437.2.2 != false) = true then (H.j0 C k bt400.1 bt400.2.1 bt405.2.2 true bt400.2.2.1 bt400.2.2.2 bt405.1 bt405.2.1 bt413.1 bt413.2.1 bt421.1 bt421.2.1 bt429.1 bt429.2.1 bt437.1 bt437.2.1) else ((impl_IsChance.f k bt400.2.2.1 bt400.2.2.2).bind fun t446 => (H.j0 C k bt400.1 bt400.2.1 bt405.2.2 (!t446) bt400.2.2.1 bt400.2.2.2 bt405.1 bt405.2.1 bt413.1 bt413.2.1 bt421.1 bt421.2.1 bt429.1 bt429.2.1 bt437.1 bt437.2.1)))) else (if (bt437.2.2 != false) = true then (H.j0 C k bt400.1 bt400.2.1 bt405.2.2 true bt400.2.2.1 bt400.2.2.2 bt405.1 bt405.2.1 bt413.1 bt413.2.1 bt421.1 bt421.2.1 bt429.1 bt429.2.1 bt437.1 bt437.2.1) else (H.j0 C k bt400.1 bt400.2.1 bt405.2.2 false bt400.2.2.1 bt400.2.2.2 bt405.1 bt405.2.1 bt413.1 bt413.2.1 bt421.1 bt421.2.1 bt429.1 bt429.2.1 bt437.1 bt437.2.1))))))))))))))))))))))))))
theorem H.start (l0 l1 : List Int) (C : Nat → Option (Bool)) (hC : ∀ k, LeO (C k) (laws_FnRuinAddsUp.j7 k l1)) (k : Nat) (bt : Int × Int × Int × Int) (hd : spec_DrawMeanGames.f k l0 = some bt) (hg : laws_big.f l0 l1 = some false) : LeO (H.f C k bt) (laws_FnRuinAddsUp.f k l0 l1) := by
  unfold laws_FnRuinAddsUp.f H.f
  rw [hg, Option.bind_some, if_neg (by decide), hd, Option.bind_some]
  obtain ⟨ih0, ih1, ih2, ih3, ih4, ih5, ih6⟩ := H.link l1 C hC k
  repeat' first
    | (with_reducible exact ih0 _ _ _ _ _ _ _ _ _ _ _ _ _ _ _ _)
    | (with_reducible exact ih1 _ _ _ _ _ _ _ _ _ _ _ _ _)
    | (with_reducible exact ih2 _ _ _ _ _ _ _ _ _ _ _ _ _)
    | (with_reducible exact ih3 _ _ _ _ _ _ _ _ _ _ _ _ _ _ _ _ _)
    | (with_reducible exact ih4 _ _ _ _ _ _ _ _ _ _ _ _ _)
    | (with_reducible exact ih5 _ _ _ _ _ _ _ _ _ _ _)
    | (with_reducible exact ih6 _ _ _ _ _ _ _)
    | (with_reducible exact hC _)
    | (with_reducible exact LeO.refl _)
    | (with_reducible exact LeO.none _)
    | (with_reducible refine LeO.ite ?_ ?_)
    | (with_reducible refine LeO.bind ?_ (fun _ => ?_))
    | exact ih0 _ _ _ _ _ _ _ _ _ _ _ _ _ _ _ _
    | exact ih1 _ _ _ _ _ _ _ _ _ _ _ _ _
    | exact ih2 _ _ _ _ _ _ _ _ _ _ _ _ _
    | exact ih3 _ _ _ _ _ _ _ _ _ _ _ _ _ _ _ _ _
    | exact ih4 _ _ _ _ _ _ _ _ _ _ _ _ _
    | exact ih5 _ _ _ _ _ _ _ _ _ _ _
    | exact ih6 _ _ _ _ _ _ _
    | exact hC _
    | refine LeO.ite ?_ ?_
    | refine LeO.bind ?_ (fun _ => ?_)
theorem H.up (l1 : List Int) (n : Nat) (r : Bool) (h : laws_FnRuinAddsUp.j7 n l1 = some r) : ∀ d, laws_FnRuinAddsUp.j7 (n + d) l1 = some r
  | 0 => h
  | d + 1 => by have h_ := laws_FnRuinAddsUp.mono_l (n + d); exact h_.2.1 _ _ (H.up l1 n r h d)
/-- What the second half is known to answer: from n rounds on, yes. -/
def Cn (n k : Nat) : Option (Bool) := if n ≤ k then some true else none
theorem Cn.ok (l1 : List Int) (n : Nat) (h : laws_FnRuinAddsUp.j7 n l1 = some true) : ∀ k, LeO (Cn n k) (laws_FnRuinAddsUp.j7 k l1) := by
  intro k; unfold Cn; split
  · rename_i hk; obtain ⟨d, rfl⟩ := Nat.le.dest hk; rw [H.up l1 n true h d]; exact LeO.refl _
  · exact LeO.none _

mutual
def G.j8 (C : Nat → Option (Bool)) : Nat → Int → Bool → Bool → Int → Int → Int → Int → Option (Bool)
  | 0, _, _, _, _, _, _, _ => none
  | k + 1, x36, x39, x499, x471000, x471001, x475000, x475001 => if x499 = true then (none) else (if x39 = true then (if (wrap64 (2 * x471000)) ≤ x471001 then (if (!(x475000 == 1) || (!(x475001 == 1))) = true then (G.j9 C k x36 true x471000 x471001 x475000 x475001) else (if x475000 < 1 then (G.j9 C k x36 true x471000 x471001 x475000 x475001) else (G.j9 C k x36 (decide (x475000 > x475001)) x471000 x471001 x475000 x475001))) else (if x475000 < 1 then (G.j9 C k x36 true x471000 x471001 x475000 x475001) else (G.j9 C k x36 (decide (x475000 > x475001)) x471000 x471001 x475000 x475001))) else (C k))
def G.j9 (C : Nat → Option (Bool)) : Nat → Int → Bool → Int → Int → Int → Int → Option (Bool)
  | 0, _, _, _, _, _, _ => none
  | k + 1, x36, x523, x471000, x471001, x475000, x475001 => if x523 = true then (none) else (if x36 > 0 then ((impl_EverRuined.f k (wrap64 (x36 - 1)) x471000 x471001).bind fun bt479 => ((impl_EverRuined.f k 1 x471000 x471001).bind fun bt483 => (if bt479.2.2 = true then (if bt483.2.2 = true then (if (wrap64 ((wrap64 (x475000 * bt479.2.1)) * bt483.2.1)) = (wrap64 ((wrap64 (bt479.1 * bt483.1)) * x475001)) then (C k) else (none)) else (none)) else (none)))) else (C k))
end
theorem G.link (l1 : List Int) (C : Nat → Option (Bool)) (hC : ∀ k, LeO (C k) (laws_FnRuinAddsUp.j10 k l1)) : ∀ k, (∀ y1 y2 y3 y4 y5 y6 y7, LeO (G.j8 C k y1 y2 y3 y4 y5 y6 y7) (laws_FnRuinAddsUp.j8 k l1 y1 y2 y3 y4 y5 y6 y7)) ∧ (∀ y1 y2 y3 y4 y5 y6, LeO (G.j9 C k y1 y2 y3 y4 y5 y6) (laws_FnRuinAddsUp.j9 k l1 y1 y2 y3 y4 y5 y6))
  | 0 => by refine ⟨?_, ?_⟩ <;> intros <;> (first | (intro r h; simp [G.j8, G.j9] at h))
  | k + 1 => by
    obtain ⟨ih0, ih1⟩ := G.link l1 C hC k
    refine ⟨?_, ?_⟩
    · intro y0 y1 y2 y3 y4 y5 y6
      unfold G.j8 laws_FnRuinAddsUp.j8
      repeat' first
      | (with_reducible exact ih0 _ _ _ _ _ _ _)
      | (with_reducible exact ih1 _ _ _ _ _ _)
      | (with_reducible exact hC _)
      | (with_reducible exact LeO.refl _)
      | (with_reducible exact LeO.none _)
      | (with_reducible refine LeO.ite ?_ ?_)
      | (with_reducible refine LeO.bind ?_ (fun _ => ?_))
      | exact ih0 _ _ _ _ _ _ _
      | exact ih1 _ _ _ _ _ _
      | exact hC _
      | refine LeO.ite ?_ ?_
      | refine LeO.bind ?_ (fun _ => ?_)
    · intro y0 y1 y2 y3 y4 y5
      unfold G.j9 laws_FnRuinAddsUp.j9
      repeat' first
      | (with_reducible exact ih0 _ _ _ _ _ _ _)
      | (with_reducible exact ih1 _ _ _ _ _ _)
      | (with_reducible exact hC _)
      | (with_reducible exact LeO.refl _)
      | (with_reducible exact LeO.none _)
      | (with_reducible refine LeO.ite ?_ ?_)
      | (with_reducible refine LeO.bind ?_ (fun _ => ?_))
      | exact ih0 _ _ _ _ _ _ _
      | exact ih1 _ _ _ _ _ _
      | exact hC _
      | refine LeO.ite ?_ ?_
      | refine LeO.bind ?_ (fun _ => ?_)
def G.f (C : Nat → Option (Bool)) (k : Nat) (bt467 : Int × Int × Int) : Option (Bool) := ((impl_EverRuined.f k bt467.1 bt467.2.1 bt467.2.2).bind fun bt471 => ((spec_EverRuined.f k bt467.1 bt467.2.1 bt467.2.2).bind fun bt475 => (if (bt471.2.2 != bt475.2.2) = true then (G.j8 C k bt467.1 bt471.2.2 true bt467.2.1 bt467.2.2 bt471.1 bt471.2.1) else (G.j8 C k bt467.1 bt471.2.2 (!(bt471.1 == bt475.1) || (!(bt471.2.1 == bt475.2.1))) bt467.2.1 bt467.2.2 bt471.1 bt471.2.1))))
theorem G.start (l1 : List Int) (C : Nat → Option (Bool)) (hC : ∀ k, LeO (C k) (laws_FnRuinAddsUp.j10 k l1)) (k : Nat) (bt : Int × Int × Int) (hd : spec_DrawEverRuined.f k l1 = some bt) : LeO (G.f C k bt) (laws_FnRuinAddsUp.j7 (k + 1) l1) := by
  rw [laws_FnRuinAddsUp.j7.eq_2, hd, Option.bind_some]; unfold G.f
  obtain ⟨ih0, ih1⟩ := G.link l1 C hC k
  repeat' first
    | (with_reducible exact ih0 _ _ _ _ _ _ _)
    | (with_reducible exact ih1 _ _ _ _ _ _)
    | (with_reducible exact hC _)
    | (with_reducible exact LeO.refl _)
    | (with_reducible exact LeO.none _)
    | (with_reducible refine LeO.ite ?_ ?_)
    | (with_reducible refine LeO.bind ?_ (fun _ => ?_))
    | exact ih0 _ _ _ _ _ _ _
    | exact ih1 _ _ _ _ _ _
    | exact hC _
    | refine LeO.ite ?_ ?_
    | refine LeO.bind ?_ (fun _ => ?_)
theorem G.up (l1 : List Int) (n : Nat) (r : Bool) (h : laws_FnRuinAddsUp.j10 n l1 = some r) : ∀ d, laws_FnRuinAddsUp.j10 (n + d) l1 = some r
  | 0 => h
  | d + 1 => by have h_ := laws_FnRuinAddsUp.mono_l (n + d); exact h_.2.2.2.1 _ _ (G.up l1 n r h d)
/-- What the second half is known to answer: from n rounds on, yes. -/
def Dn (n k : Nat) : Option (Bool) := if n ≤ k then some true else none
theorem Dn.ok (l1 : List Int) (n : Nat) (h : laws_FnRuinAddsUp.j10 n l1 = some true) : ∀ k, LeO (Dn n k) (laws_FnRuinAddsUp.j10 k l1) := by
  intro k; unfold Dn; split
  · rename_i hk; obtain ⟨d, rfl⟩ := Nat.le.dest hk; rw [G.up l1 n true h d]; exact LeO.refl _
  · exact LeO.none _

def T.f (k : Nat) (bt487 : Int × Int) (bt490 : Int × Int × Int × Int) : Option (Bool) := ((impl_CompareChances.f k bt490.1 bt490.2.1 bt490.2.2.1 bt490.2.2.2).bind fun bt496 => ((spec_CompareChances.f k bt490.1 bt490.2.1 bt490.2.2.1 bt490.2.2.2).bind fun bt498 => ((impl_CompareChances.f k bt490.2.2.1 bt490.2.2.2 bt490.1 bt490.2.1).bind fun bt500 => ((impl_IsChance.f k bt487.1 bt487.2).bind fun t502 => ((spec_IsChance.f k bt487.1 bt487.2).bind fun t503 => (if (t502 == t503) = true then (if (bt496.2 == bt498.2) = true then (if bt496.1 = bt498.1 then (if (bt500.2 == bt496.2) = true then (if bt500.1 = (wrap64 (-bt496.1)) then (if bt496.2 = true then (some ((bt496.1 == 0) == (bt490.1 == bt490.2.2.1 && (bt490.2.1 == bt490.2.2.2)))) else (some true)) else (none)) else (none)) else (none)) else (none)) else (none)))))))
theorem T.start (l1 : List Int) (k : Nat) (p : Int × Int) (q : Int × Int × Int × Int) (hp : spec_DrawIsChance.f k l1 = some p) (hq : spec_DrawCompareChances.f k l1 = some q) : laws_FnRuinAddsUp.j10 (k + 1) l1 = T.f k p q := by
  rw [laws_FnRuinAddsUp.j10.eq_2, hp, Option.bind_some, hq, Option.bind_some]; rfl

theorem up60 {α : Type} (f : Nat → Option α) (h : ∀ k, LeO (f k) (f (k + 1))) (v : α) (e : f 60 = some v) : ∀ d, f (60 + d) = some v
  | 0 => e
  | d + 1 => h (60 + d) v (up60 f h v e d)
theorem draw1 (l : List Int) (hl : l.length ≤ 1048576) (hb : ∀ x ∈ l, (Lit.int .u8 x).wf = true) :
    ∃ (p q : Int × Int), p ∈ HE ∧ q ∈ CH ∧ spec_DrawMeanGames.f 72 l = some (p.1, p.2, q.1, q.2) := by
  obtain ⟨p, i1, s1, g1, m1, h1⟩ := held_run l hl hb 0 (by omega) 0
  obtain ⟨q, i2, s2, g2, m2, h2⟩ := chance_run l hl hb i1 (by omega) s1
  refine ⟨p, q, m1, m2, up60 (fun k => spec_DrawMeanGames.f k l) (fun k => spec_DrawMeanGames.mono l k) _ ?_ 12⟩
  show spec_DrawMeanGames.f 60 l = _
  unfold spec_DrawMeanGames.f spec_DrawWinChance.f
  show (((spec_l1Cur_held.f l ((0 : Nat) : Int) 0).bind _).bind _) = _
  rw [h1, Option.bind_some]
  dsimp only
  rw [h2, Option.bind_some, Option.bind_some]
theorem draw2 (l : List Int) (hl : l.length ≤ 1048576) (hb : ∀ x ∈ l, (Lit.int .u8 x).wf = true) :
    ∃ (p q : Int × Int), p ∈ HE ∧ q ∈ CH ∧ spec_DrawEverRuined.f 63 l = some (p.1, q.1, q.2) := by
  obtain ⟨p, i1, s1, g1, m1, h1⟩ := held_run l hl hb 0 (by omega) 0
  obtain ⟨q, i2, s2, g2, m2, h2⟩ := chance_run l hl hb i1 (by omega) s1
  refine ⟨p, q, m1, m2, up60 (fun k => spec_DrawEverRuined.f k l) (fun k => spec_DrawEverRuined.mono l k) _ ?_ 3⟩
  show spec_DrawEverRuined.f 60 l = _
  unfold spec_DrawEverRuined.f
  show ((spec_l1Cur_held.f l ((0 : Nat) : Int) 0).bind _) = _
  rw [h1, Option.bind_some]
  dsimp only
  rw [h2, Option.bind_some]
def Q2 : List (Int × Int) := CH ++ ([0, 1000000000, 1000000001, 7] : List Int).flatMap (fun a => ([1, 999999999, 1000000000] : List Int).map fun b => (a, b))
theorem fork (l : List Int) (hl : l.length ≤ 1048576) (hb : ∀ x ∈ l, (Lit.int .u8 x).wf = true) (i : Nat) (hi : i ≤ 60) (s : Int) (p q : Int × Int) (hq : q ∈ CH) :
    ∃ r : Int × Int, r ∈ Q2 ∧ spec_DrawCompareChances.j0 60 l (i : Int) s p.1 p.2 q.1 q.2 = some (p.1, p.2, r.1, r.2) := by
  rw [spec_DrawCompareChances.j0.eq_2]
  obtain ⟨b, i1, s1, g1, h1⟩ := one_run l hl hb i (by omega) s 8 (by omega)
  rw [h1, Option.bind_some]
  dsimp only
  cases b with
  | true =>
    rw [if_pos rfl]
    obtain ⟨x, i2, s2, g2, m2, h2⟩ := among_run l hl hb i1 (by omega) s1 [0, 1000000000, 1000000001, 7] (by decide) (by decide)
    obtain ⟨y, i3, s3, g3, m3, h3⟩ := among_run l hl hb i2 (by omega) s2 [1, 999999999, 1000000000] (by decide) (by decide)
    rw [h2, Option.bind_some]
    dsimp only
    rw [h3, Option.bind_some]
    exact ⟨(x, y), List.mem_append_right _ (List.mem_flatMap.2 ⟨x, m2, List.mem_map.2 ⟨y, m3, rfl⟩⟩), rfl⟩
  | false =>
    rw [if_neg (by decide)]
    exact ⟨q, List.mem_append_left _ hq, rfl⟩
theorem draw3 (l : List Int) (hl : l.length ≤ 1048576) (hb : ∀ x ∈ l, (Lit.int .u8 x).wf = true) :
    ∃ (p r : Int × Int), p ∈ CH ∧ r ∈ Q2 ∧ spec_DrawIsChance.f 60 l = some p ∧ spec_DrawCompareChances.f 60 l = some (p.1, p.2, r.1, r.2) := by
  obtain ⟨p, i1, s1, g1, m1, h1⟩ := chance_run l hl hb 0 (by omega) 0
  obtain ⟨q, i2, s2, g2, m2, h2⟩ := chance_run l hl hb i1 (by omega) s1
  obtain ⟨b, i3, s3, g3, h3⟩ := one_run l hl hb i2 (by omega) s2 4 (by omega)
  have e1 : spec_DrawIsChance.f 60 l = some p := by
    unfold spec_DrawIsChance.f
    show ((spec_l1Cur_chance.f 60 l ((0 : Nat) : Int) 0).bind _) = _
    rw [h1, Option.bind_some]
  have e2 : spec_DrawCompareChances.f 60 l = if b = true then spec_DrawCompareChances.j0 60 l (i3 : Int) s3 p.1 p.2 p.1 p.2 else spec_DrawCompareChances.j0 60 l (i3 : Int) s3 p.1 p.2 q.1 q.2 := by
    unfold spec_DrawCompareChances.f
    show ((spec_l1Cur_chance.f 60 l ((0 : Nat) : Int) 0).bind _) = _
    rw [h1, Option.bind_some]
    dsimp only
    rw [h2, Option.bind_some]
    dsimp only
    rw [h3, Option.bind_some]
  rw [e2]
  cases b with
  | true => obtain ⟨r, mr, hr⟩ := fork l hl hb i3 (by omega) s3 p p m1; exact ⟨p, r, m1, mr, e1, hr⟩
  | false => obtain ⟨r, mr, hr⟩ := fork l hl hb i3 (by omega) s3 p q m2; exact ⟨p, r, m1, mr, e1, hr⟩
--TAB
set_option maxRecDepth 100000 in
theorem tabT : CH.all (fun p => Q2.all fun r => T.f 60 p (p.1, p.2, r.1, r.2) == some true) = true := by decide +kernel
set_option maxRecDepth 100000 in
theorem tabG : HE.all (fun p => CH.all fun q => G.f (Dn 61) 63 (p.1, q.1, q.2) == some true) = true := by decide +kernel
set_option maxRecDepth 100000 in
theorem tabH : HE.all (fun p => CH.all fun q => H.f (Cn 64) 72 (p.1, p.2, q.1, q.2) == some true) = true := by decide +kernel
theorem FnRuinAddsUp : laws_FnRuinAddsUp.Pure := by
  intro l0 l1 a1 a2 hb0 b1 b2 hb1
  refine ⟨72, ?_⟩
  rcases big_no l0 l1 a1 b1 with g | ⟨g, g0, g1⟩
  · unfold laws_FnRuinAddsUp.f; rw [g, Option.bind_some, if_pos rfl]
  · obtain ⟨p3, r3, mp3, mr3, e3, e4⟩ := draw3 l1 g1 hb1
    have s3 : laws_FnRuinAddsUp.j10 61 l1 = some true := by
      rw [T.start l1 60 _ _ e3 e4]
      exact eq_of_beq (all_of (all_of tabT mp3) mr3)
    obtain ⟨p2, q2, mp2, mq2, e2⟩ := draw2 l1 g1 hb1
    have s2 : laws_FnRuinAddsUp.j7 64 l1 = some true :=
      G.start l1 (Dn 61) (Dn.ok l1 61 s3) 63 _ e2 _ (eq_of_beq (all_of (all_of tabG mp2) mq2))
    obtain ⟨p1, q1, mp1, mq1, e1⟩ := draw1 l0 g0 hb0
    exact H.start l0 l1 (Cn 64) (Cn.ok l1 64 s2) 72 _ e1 g _ (eq_of_beq (all_of (all_of tabH mp1) mq1))
end Go.Proofs.Ytfembmnagkdnhaa.Pure
