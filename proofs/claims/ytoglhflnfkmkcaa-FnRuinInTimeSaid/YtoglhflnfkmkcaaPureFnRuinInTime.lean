/- What is held at each time: the draws come to finitely many arguments; at each of them each half of the law is reckoned. No condition. -/
import Derived.Test.YtoglhflnfkmkcaaOFnRuinInTimex14
import Derived.Test.YtoglhflnfkmkcaaTab0
import Derived.Test.YtoglhflnfkmkcaaTab1
import Derived.Test.YtoglhflnfkmkcaaTab2
import Derived.Test.YtoglhflnfkmkcaaTab3
namespace Go.Proofs.Ytoglhflnfkmkcaa.Pure
open Go.RowKit Go.Proofs.Ytoglhflnfkmkcaa.Stub Go.Proofs.Ytoglhflnfkmkcaa.OFnRuinInTime Go.Proofs.YtoglhflnfkmkcaaW.PrintWords Go.Proofs.YtoglhflnfkmkcaaW.PrintLast
set_option linter.unusedVariables false
set_option linter.unusedSimpArgs false
theorem w64 {n : Int} (h0 : -9223372036854775808 ≤ n) (h1 : n ≤ 9223372036854775807) : wrap64 n = n := by unfold wrap64; omega
theorem wf_bd {n : Int} (h : (Lit.int .i64 n).wf = true) : -9223372036854775808 ≤ n ∧ n ≤ 9223372036854775807 := by
  unfold Lit.wf at h
  rw [Bool.and_eq_true] at h
  exact ⟨of_decide_eq_true h.1, of_decide_eq_true h.2⟩
theorem wN (n : Nat) (h : n ≤ 1000000000000) : wrap64 ((n : Int) + 1) = ((n + 1 : Nat) : Int) := by rw [w64 (by omega) (by omega)]; omega

theorem and255 (x : Int) (h0 : 0 ≤ x) (h1 : x < 18446744073709551616) : 0 ≤ Go.bits .and .u64 x 255 ∧ Go.bits .and .u64 x 255 ≤ 255 := by
  obtain ⟨n, rfl⟩ : ∃ n : Nat, x = n := ⟨x.toNat, by omega⟩
  have h := Go.bits_and_u64_nat n 255 (by omega) (by omega)
  rw [show ((255 : Nat) : Int) = 255 from rfl] at h
  rw [h]
  have := Nat.and_le_right (n := n) (m := 255)
  omega
theorem u64_rng (n : Int) : 0 ≤ IntKind.u64.wrap n ∧ IntKind.u64.wrap n < 18446744073709551616 := by
  have h : IntKind.u64.wrap n = n % 18446744073709551616 := by simp [IntKind.wrap, IntKind.bits, IntKind.signed]
  rw [h]; omega
theorem tail_ok (n : Int) : 0 ≤ wrap64 (Go.bits .and .u64 (IntKind.u64.wrap n / 1099511627776) 255) := by
  have h := u64_rng n
  have h2 := and255 (IntKind.u64.wrap n / 1099511627776) (by omega) (by omega)
  rw [w64 (by omega) (by omega)]; exact h2.1
/-- A draw of one number: some number that is no less than 0. -/
theorem next_run (l : List Int) (hl : l.length ≤ 1048576) (hb : ∀ x ∈ l, (Lit.int .u8 x).wf = true) (i : Nat) (hi : i ≤ 100) (s : Int) : ∃ v s', spec_l1Cur_next.f l (i : Int) s = some (v, ((i + 1 : Nat) : Int), s') ∧ 0 ≤ v := by
  unfold spec_l1Cur_next.f
  rw [wN i (by omega)]
  by_cases h : (i : Int) < (l.length : Int)
  · have hi2 : i < l.length := by omega
    have hx : 0 ≤ rd l (i : Int) ∧ rd l (i : Int) ≤ 255 := by
      have e : rd l (i : Int) = l[i] := by
        unfold rd
        rw [Int.toNat_natCast, List.getD_eq_getElem?_getD, List.getElem?_eq_getElem hi2]; rfl
      have w := hb l[i] (List.getElem_mem hi2)
      unfold Lit.wf at w
      rw [Bool.and_eq_true] at w
      have w1 := of_decide_eq_true w.1
      have w2 := of_decide_eq_true w.2
      have k1 : IntKind.u8.min = 0 := rfl
      have k2 : IntKind.u8.max = 255 := rfl
      rw [e]; omega
    rw [if_pos h, if_pos (by omega)]
    by_cases h2 : ((i + 1 : Nat) : Int) ≤ (l.length : Int)
    · rw [if_pos h2]; exact ⟨_, _, rfl, by rw [w64 (by omega) (by omega)]; exact hx.1⟩
    · omega
  · rw [if_neg h]
    rw [if_neg (by omega)]
    exact ⟨_, _, rfl, tail_ok _⟩
/-- A choice among n, n at most 200. -/
theorem pick_run (l : List Int) (hl : l.length ≤ 1048576) (hb : ∀ x ∈ l, (Lit.int .u8 x).wf = true) (i : Nat) (hi : i ≤ 100) (s : Int) (n : Int) (hn : n ≤ 200) :
    ∃ (r : Nat) (i' : Nat) (s' : Int), i' ≤ i + 1 ∧ ((r : Int) < n ∨ r = 0) ∧ spec_l1Cur_pick.f l (i : Int) s n = some ((r : Int), (i' : Int), s') := by
  unfold spec_l1Cur_pick.f
  by_cases h1 : n ≤ 1
  · rw [if_pos h1]; exact ⟨0, i, s, by omega, .inr rfl, rfl⟩
  · obtain ⟨v, s', h, hv⟩ := next_run l hl hb i hi s
    obtain ⟨m, rfl⟩ : ∃ m : Nat, v = m := ⟨v.toNat, by omega⟩
    obtain ⟨q, rfl⟩ : ∃ q : Nat, n = q := ⟨n.toNat, by omega⟩
    have ht : Int.tmod (m : Int) (q : Int) = ((m % q : Nat) : Int) := rfl
    have hlt : m % q < q := Nat.mod_lt _ (by omega)
    rw [if_neg h1, h, Option.bind_some]
    dsimp only
    rw [if_neg (by omega), if_neg (by omega), ht]
    exact ⟨m % q, i + 1, s', Nat.le_refl _, .inl (by omega), rfl⟩
theorem among_run (l : List Int) (hl : l.length ≤ 1048576) (hb : ∀ x ∈ l, (Lit.int .u8 x).wf = true) (i : Nat) (hi : i ≤ 100) (s : Int) (L : List Int) (hL : 0 < L.length) (hL' : L.length ≤ 200) :
    ∃ (x : Int) (i' : Nat) (s' : Int), i' ≤ i + 1 ∧ x ∈ L ∧ spec_l1Cur_among.f l (i : Int) s L = some (x, (i' : Int), s') := by
  obtain ⟨r, i', s', h1, h2, h⟩ := pick_run l hl hb i hi s (L.length : Int) (by omega)
  have hr : r < L.length := by omega
  unfold spec_l1Cur_among.f
  rw [h, Option.bind_some]
  dsimp only
  rw [if_pos (by omega), if_pos (by omega)]
  refine ⟨rd L (r : Int), i', s', h1, ?_, rfl⟩
  have e : rd L (r : Int) = L[r] := by
    unfold rd
    rw [Int.toNat_natCast, List.getD_eq_getElem?_getD, List.getElem?_eq_getElem hr]; rfl
  rw [e]; exact List.getElem_mem hr
theorem big_no (l0 l1 : List Int) (h0 : l0.length ≤ maxLen) (h1 : l1.length ≤ maxLen) : laws_big.f l0 l1 = some true ∨ (laws_big.f l0 l1 = some false ∧ l0.length ≤ 1048576 ∧ l1.length ≤ 1048576) := by
  unfold laws_big.f
  by_cases g1 : (l0.length : Int) > 1048576
  · rw [if_pos g1]; exact .inl rfl
  · have hw : wrap64 (1048576 - (l0.length : Int)) = 1048576 - (l0.length : Int) := w64 (by omega) (by omega)
    rw [if_neg g1, hw]
    by_cases g2 : (l1.length : Int) > 1048576 - (l0.length : Int)
    · rw [decide_eq_true g2]; exact .inl rfl
    · rw [decide_eq_false g2]; exact .inr ⟨rfl, by omega, by omega⟩
theorem all_of {α : Type} {p : α → Bool} {L : List α} (h : L.all p = true) {x : α} (hx : x ∈ L) : p x = true := List.all_eq_true.1 h x hx

theorem one_run (l : List Int) (hl : l.length ≤ 1048576) (hb : ∀ x ∈ l, (Lit.int .u8 x).wf = true) (i : Nat) (hi : i ≤ 100) (s : Int) (n : Int) (hn : n ≤ 200) :
    ∃ (b : Bool) (i' : Nat) (s' : Int), i' ≤ i + 1 ∧ spec_l1Cur_one.f l (i : Int) s n = some (b, (i' : Int), s') := by
  obtain ⟨r, i', s', h1, _, h⟩ := pick_run l hl hb i hi s n hn
  unfold spec_l1Cur_one.f
  rw [h, Option.bind_some]
  exact ⟨_, i', s', h1, rfl⟩

/-- The chances that are drawn. -/
def CH : List (Int × Int) := ([0, 1, 2, 3, (-1), 4611686018427387904] : List Int).flatMap (fun a => ([0, 1, 2, 4, 7, (-1)] : List Int).map fun b => (a, b)) ++ [(1, 2), (1, 3), (2, 3), (1, 4), (3, 4), (1, 5), (2, 5), (3, 5), (4, 5), (1, 6), (5, 6)]
theorem ch_tab : (List.range 5).all (fun x => (List.range (x + 1)).all fun y => match spec_ruRatio.f 60 (wrap64 (1 + (y : Int))) (wrap64 (2 + (x : Int))) with | some p => CH.contains p | none => false) = true := by decide +kernel
theorem chance_run (l : List Int) (hl : l.length ≤ 1048576) (hb : ∀ x ∈ l, (Lit.int .u8 x).wf = true) (i : Nat) (hi : i ≤ 90) (s : Int) :
    ∃ (p : Int × Int) (i' : Nat) (s' : Int), i' ≤ i + 3 ∧ p ∈ CH ∧ spec_l1Cur_chance.f 60 l (i : Int) s = some (p.1, p.2, (i' : Int), s') := by
  unfold spec_l1Cur_chance.f
  obtain ⟨b, i1, s1, g1, h1⟩ := one_run l hl hb i (by omega) s 14 (by omega)
  rw [h1, Option.bind_some]
  dsimp only
  cases b with
  | true =>
    rw [if_pos rfl]
    obtain ⟨x, i2, s2, g2, m2, h2⟩ := among_run l hl hb i1 (by omega) s1 [0, 1, 2, 3, (-1), 4611686018427387904] (by decide) (by decide)
    obtain ⟨y, i3, s3, g3, m3, h3⟩ := among_run l hl hb i2 (by omega) s2 [0, 1, 2, 4, 7, (-1)] (by decide) (by decide)
    rw [h2, Option.bind_some]
    dsimp only
    rw [h3, Option.bind_some]
    exact ⟨(x, y), i3, s3, by omega, List.mem_append_left _ (List.mem_flatMap.2 ⟨x, m2, List.mem_map.2 ⟨y, m3, rfl⟩⟩), rfl⟩
  | false =>
    rw [if_neg (by decide)]
    obtain ⟨x, i2, s2, g2, m2, h2⟩ := pick_run l hl hb i1 (by omega) s1 5 (by omega)
    rw [h2, Option.bind_some]
    dsimp only
    rw [w64 (n := 2 + (x : Int)) (by omega) (by omega), w64 (n := 2 + (x : Int) - 1) (by omega) (by omega)]
    obtain ⟨y, i3, s3, g3, m3, h3⟩ := pick_run l hl hb i2 (by omega) s2 (2 + (x : Int) - 1) (by omega)
    rw [h3, Option.bind_some]
    dsimp only
    have t := all_of (all_of ch_tab (List.mem_range.2 (show x < 5 by omega))) (List.mem_range.2 (show y < x + 1 by omega))
    rw [w64 (n := 2 + (x : Int)) (by omega) (by omega)] at t
    rcases e : spec_ruRatio.f 60 (wrap64 (1 + (y : Int))) (2 + (x : Int)) with _ | p
    · rw [e] at t; exact absurd t Bool.false_ne_true
    · rw [e] at t
      rw [Option.bind_some]
      exact ⟨p, i3, s3, by omega, by simpa using t, rfl⟩

/-- What is held and the goals that are drawn. -/
def HE : List (Int × Int) := ([(-1), 0, 1, 12, 13] : List Int).flatMap (fun a => ([0, 1, 12, 13, (-1)] : List Int).map fun b => (a, b)) ++ (List.range 8).flatMap (fun (g : Nat) => (List.range (g + 2)).map fun (i : Nat) => ((i : Int), (g : Int) + 1))
theorem held_run (l : List Int) (hl : l.length ≤ 1048576) (hb : ∀ x ∈ l, (Lit.int .u8 x).wf = true) (i : Nat) (hi : i ≤ 90) (s : Int) :
    ∃ (p : Int × Int) (i' : Nat) (s' : Int), i' ≤ i + 3 ∧ p ∈ HE ∧ spec_l1Cur_held.f l (i : Int) s = some (p.1, p.2, (i' : Int), s') := by
  unfold spec_l1Cur_held.f
  obtain ⟨b, i1, s1, g1, h1⟩ := one_run l hl hb i (by omega) s 14 (by omega)
  rw [h1, Option.bind_some]
  dsimp only
  cases b with
  | true =>
    rw [if_pos rfl]
    obtain ⟨x, i2, s2, g2, m2, h2⟩ := among_run l hl hb i1 (by omega) s1 [(-1), 0, 1, 12, 13] (by decide) (by decide)
    obtain ⟨y, i3, s3, g3, m3, h3⟩ := among_run l hl hb i2 (by omega) s2 [0, 1, 12, 13, (-1)] (by decide) (by decide)
    rw [h2, Option.bind_some]
    dsimp only
    rw [h3, Option.bind_some]
    exact ⟨(x, y), i3, s3, by omega, List.mem_append_left _ (List.mem_flatMap.2 ⟨x, m2, List.mem_map.2 ⟨y, m3, rfl⟩⟩), rfl⟩
  | false =>
    rw [if_neg (by decide)]
    obtain ⟨x, i2, s2, g2, m2, h2⟩ := pick_run l hl hb i1 (by omega) s1 8 (by omega)
    rw [h2, Option.bind_some]
    dsimp only
    rw [w64 (n := 1 + (x : Int)) (by omega) (by omega), w64 (n := 1 + (x : Int) + 1) (by omega) (by omega)]
    obtain ⟨y, i3, s3, g3, m3, h3⟩ := pick_run l hl hb i2 (by omega) s2 (1 + (x : Int) + 1) (by omega)
    rw [h3, Option.bind_some]
    exact ⟨((y : Int), 1 + (x : Int)), i3, s3, by omega, List.mem_append_right _ (List.mem_flatMap.2 ⟨(x : Nat), List.mem_range.2 (by omega), List.mem_map.2 ⟨(y : Nat), List.mem_range.2 (by omega), by rw [Int.add_comm 1]⟩⟩), rfl⟩

/-- The numbers of games that are drawn. -/
def GA : List Int := [(-1), 0, 18, 19] ++ (List.range 13).map fun (n : Nat) => (n : Int)
theorem gm_run (l : List Int) (hl : l.length ≤ 1048576) (hb : ∀ x ∈ l, (Lit.int .u8 x).wf = true) (i : Nat) (hi : i ≤ 90) (s : Int) :
    ∃ (n : Int) (i' : Nat) (s' : Int), i' ≤ i + 2 ∧ n ∈ GA ∧ spec_l1Cur_games.f l (i : Int) s = some (n, (i' : Int), s') := by
  unfold spec_l1Cur_games.f
  obtain ⟨b, i1, s1, g1, h1⟩ := one_run l hl hb i (by omega) s 14 (by omega)
  rw [h1, Option.bind_some]
  dsimp only
  cases b with
  | true =>
    rw [if_pos rfl]
    obtain ⟨x, i2, s2, g2, m2, h2⟩ := among_run l hl hb i1 (by omega) s1 [(-1), 0, 18, 19] (by decide) (by decide)
    rw [h2, Option.bind_some]
    exact ⟨x, i2, s2, by omega, List.mem_append_left _ m2, rfl⟩
  | false =>
    rw [if_neg (by decide)]
    obtain ⟨x, i2, s2, g2, m2, h2⟩ := pick_run l hl hb i1 (by omega) s1 13 (by omega)
    rw [h2, Option.bind_some]
    exact ⟨(x : Int), i2, s2, by omega, List.mem_append_right _ (List.mem_map.2 ⟨x, List.mem_range.2 (by omega), rfl⟩), rfl⟩
theorem drawS (l : List Int) (hl : l.length ≤ 1048576) (hb : ∀ x ∈ l, (Lit.int .u8 x).wf = true) : ∃ (p : Int × Int) (n : Int), p ∈ HE ∧ n ∈ GA ∧ spec_DrawCountWins.f l = some (p.1, p.2, n) := by
  obtain ⟨p, i1, s1, g1, m1, h1⟩ := held_run l hl hb 0 (by omega) 0
  obtain ⟨n, i2, s2, g2, m2, h2⟩ := gm_run l hl hb i1 (by omega) s1
  refine ⟨p, n, m1, m2, ?_⟩
  unfold spec_DrawCountWins.f
  show ((spec_l1Cur_held.f l ((0 : Nat) : Int) 0).bind _) = _
  rw [h1, Option.bind_some]
  dsimp only
  rw [h2, Option.bind_some]
theorem up60 {α : Type} (f : Nat → Option α) (h : ∀ k, LeO (f k) (f (k + 1))) (v : α) (e : f 60 = some v) : ∀ d, f (60 + d) = some v
  | 0 => e
  | d + 1 => h (60 + d) v (up60 f h v e d)
theorem drawH (l : List Int) (hl : l.length ≤ 1048576) (hb : ∀ x ∈ l, (Lit.int .u8 x).wf = true) :
    ∃ (p q : Int × Int) (n : Int), p ∈ HE ∧ q ∈ CH ∧ n ∈ GA ∧ spec_DrawHeldAfter.f 1400 l = some (p.1, p.2, q.1, q.2, n) := by
  obtain ⟨p, i1, s1, g1, m1, h1⟩ := held_run l hl hb 0 (by omega) 0
  obtain ⟨q, i2, s2, g2, m2, h2⟩ := chance_run l hl hb i1 (by omega) s1
  obtain ⟨n, i3, s3, g3, m3, h3⟩ := gm_run l hl hb i2 (by omega) s2
  refine ⟨p, q, n, m1, m2, m3, up60 (fun k => spec_DrawHeldAfter.f k l) (fun k => spec_DrawHeldAfter.mono l k) _ ?_ 1340⟩
  show spec_DrawHeldAfter.f 60 l = _
  unfold spec_DrawHeldAfter.f spec_DrawWinWithin.f
  show (((spec_l1Cur_held.f l ((0 : Nat) : Int) 0).bind _).bind _) = _
  rw [h1, Option.bind_some]
  dsimp only
  rw [h2, Option.bind_some]
  dsimp only
  rw [h3, Option.bind_some, Option.bind_some]
theorem ch_parts : ∀ q ∈ CH, q ∈ OX ∨ q = (1, 2) ∨ q = (1, 3) ∨ q = (2, 3) ∨ q = (1, 4) ∨ q = (3, 4) ∨ q = (1, 5) ∨ q = (2, 5) ∨ q = (3, 5) ∨ q = (4, 5) ∨ q = (1, 6) ∨ q = (5, 6) := by decide +kernel
theorem tabAll {p q : Int × Int} {n : Int} (hp : p ∈ HX) (hq : q ∈ CH) (hn : n ∈ GX) : H.f (Cn 601) 1400 (p.1, p.2, q.1, q.2, n) = some true := by
  rcases ch_parts q hq with h | rfl | rfl | rfl | rfl | rfl | rfl | rfl | rfl | rfl | rfl | rfl
  · exact eq_of_beq (all_of (all_of (all_of tabO h) hp) hn)
  · exact eq_of_beq (all_of (all_of tabH_1_2 hp) hn)
  · exact eq_of_beq (all_of (all_of tabH_1_3 hp) hn)
  · exact eq_of_beq (all_of (all_of tabH_2_3 hp) hn)
  · exact eq_of_beq (all_of (all_of tabH_1_4 hp) hn)
  · exact eq_of_beq (all_of (all_of tabH_3_4 hp) hn)
  · exact eq_of_beq (all_of (all_of tabH_1_5 hp) hn)
  · exact eq_of_beq (all_of (all_of tabH_2_5 hp) hn)
  · exact eq_of_beq (all_of (all_of tabH_3_5 hp) hn)
  · exact eq_of_beq (all_of (all_of tabH_4_5 hp) hn)
  · exact eq_of_beq (all_of (all_of tabH_1_6 hp) hn)
  · exact eq_of_beq (all_of (all_of tabH_5_6 hp) hn)
theorem FnRuinInTime : laws_FnRuinInTime.Pure := by
  intro l0 l1 a1 a2 hb0 b1 b2 hb1
  refine ⟨1400, ?_⟩
  rcases big_no l0 l1 a1 b1 with g | ⟨g, g0, g1⟩
  · unfold laws_FnRuinInTime.f; rw [g, Option.bind_some, if_pos rfl]
  · obtain ⟨p2, n2, mp2, mn2, e2⟩ := drawS l1 g1 hb1
    have s2 : laws_FnRuinInTime.j8 601 l1 = some true := (S.start l1 600 _ e2).trans (eq_of_beq (all_of (all_of tabS (show n2 ∈ GX from mn2)) (show p2 ∈ HX from mp2)))
    obtain ⟨p1, q1, n1, mp1, mq1, mn1, e1⟩ := drawH l0 g0 hb0
    exact H.start l0 l1 (Cn 601) (Cn.ok l1 601 s2) 1400 _ e1 g _ (tabAll (show p1 ∈ HX from mp1) mq1 (show n1 ∈ GX from mn1))
end Go.Proofs.Ytoglhflnfkmkcaa.Pure
