/- Bold play and visits: the draws come to finitely many arguments; at each of them both halves of the law are reckoned. No condition. -/
import Derived.Test.YtfembmnagkdnhaaOFnBoldPlayx8
import Derived.Laws.Bits64b
namespace Go.Proofs.Ytfembmnagkdnhaa.Pure
open Go.RowKit Go.Proofs.Ytfembmnagkdnhaa.OFnBoldPlay Go.Proofs.YtfembmnagkdnhaaW.PrintWords Go.Proofs.YtfembmnagkdnhaaW.PrintLast
set_option linter.unusedVariables false
set_option linter.unusedSimpArgs false
theorem w64 {n : Int} (h0 : -9223372036854775808 ≤ n) (h1 : n ≤ 9223372036854775807) : wrap64 n = n := by unfold wrap64; omega
theorem wf_bd {n : Int} (h : (Lit.int .i64 n).wf = true) : -9223372036854775808 ≤ n ∧ n ≤ 9223372036854775807 := by
  unfold Lit.wf at h
  rw [Bool.and_eq_true] at h
  exact ⟨of_decide_eq_true h.1, of_decide_eq_true h.2⟩
theorem wN (n : Nat) (h : n ≤ 1000000000000) : wrap64 ((n : Int) + 1) = ((n + 1 : Nat) : Int) := by rw [w64 (by omega) (by omega)]; omega

theorem and255 (x : Int) (h0 : 0 ≤ x) (h1 : x < 18446744073709551616) : 0 ≤ Go.bits .and .u64 x 255 ∧ Go.bits .and .u64 x 255 ≤ 255 := by
  obtain ⟨n, rfl⟩ : ∃ n : Nat, x = n := ⟨x.toNat, by omega⟩
  have h := Go.bits_and_u64_nat n 255 (by omega) (by omega)
  rw [show ((255 : Nat) : Int) = 255 from rfl] at h
  rw [h]
  have := Nat.and_le_right (n := n) (m := 255)
  omega
theorem u64_rng (n : Int) : 0 ≤ IntKind.u64.wrap n ∧ IntKind.u64.wrap n < 18446744073709551616 := by
  have h : IntKind.u64.wrap n = n % 18446744073709551616 := by simp [IntKind.wrap, IntKind.bits, IntKind.signed]
  rw [h]; omega
theorem tail_ok (n : Int) : 0 ≤ wrap64 (Go.bits .and .u64 (IntKind.u64.wrap n / 1099511627776) 255) := by
  have h := u64_rng n
  have h2 := and255 (IntKind.u64.wrap n / 1099511627776) (by omega) (by omega)
  rw [w64 (by omega) (by omega)]; exact h2.1
/-- A draw of one number: some number that is no less than 0. -/
theorem next_run (l : List Int) (hl : l.length ≤ 1048576) (hb : ∀ x ∈ l, (Lit.int .u8 x).wf = true) (i : Nat) (hi : i ≤ 100) (s : Int) : ∃ v s', spec_l1Cur_next.f l (i : Int) s = some (v, ((i + 1 : Nat) : Int), s') ∧ 0 ≤ v := by
  unfold spec_l1Cur_next.f
  rw [wN i (by omega)]
  by_cases h : (i : Int) < (l.length : Int)
  · have hi2 : i < l.length := by omega
    have hx : 0 ≤ rd l (i : Int) ∧ rd l (i : Int) ≤ 255 := by
      have e : rd l (i : Int) = l[i] := by
        unfold rd
        rw [Int.toNat_natCast, List.getD_eq_getElem?_getD, List.getElem?_eq_getElem hi2]; rfl
      have w := hb l[i] (List.getElem_mem hi2)
      unfold Lit.wf at w
      rw [Bool.and_eq_true] at w
      have w1 := of_decide_eq_true w.1
      have w2 := of_decide_eq_true w.2
      have k1 : IntKind.u8.min = 0 := rfl
      have k2 : IntKind.u8.max = 255 := rfl
      rw [e]; omega
    rw [if_pos h, if_pos (by omega)]
    by_cases h2 : ((i + 1 : Nat) : Int) ≤ (l.length : Int)
    · rw [if_pos h2]; exact ⟨_, _, rfl, by rw [w64 (by omega) (by omega)]; exact hx.1⟩
    · omega
  · rw [if_neg h]
    rw [if_neg (by omega)]
    exact ⟨_, _, rfl, tail_ok _⟩
/-- A choice among n, n at most 200. -/
theorem pick_run (l : List Int) (hl : l.length ≤ 1048576) (hb : ∀ x ∈ l, (Lit.int .u8 x).wf = true) (i : Nat) (hi : i ≤ 100) (s : Int) (n : Int) (hn : n ≤ 200) :
    ∃ (r : Nat) (i' : Nat) (s' : Int), i' ≤ i + 1 ∧ ((r : Int) < n ∨ r = 0) ∧ spec_l1Cur_pick.f l (i : Int) s n = some ((r : Int), (i' : Int), s') := by
  unfold spec_l1Cur_pick.f
  by_cases h1 : n ≤ 1
  · rw [if_pos h1]; exact ⟨0, i, s, by omega, .inr rfl, rfl⟩
  · obtain ⟨v, s', h, hv⟩ := next_run l hl hb i hi s
    obtain ⟨m, rfl⟩ : ∃ m : Nat, v = m := ⟨v.toNat, by omega⟩
    obtain ⟨q, rfl⟩ : ∃ q : Nat, n = q := ⟨n.toNat, by omega⟩
    have ht : Int.tmod (m : Int) (q : Int) = ((m % q : Nat) : Int) := rfl
    have hlt : m % q < q := Nat.mod_lt _ (by omega)
    rw [if_neg h1, h, Option.bind_some]
    dsimp only
    rw [if_neg (by omega), if_neg (by omega), ht]
    exact ⟨m % q, i + 1, s', Nat.le_refl _, .inl (by omega), rfl⟩
theorem one_run (l : List Int) (hl : l.length ≤ 1048576) (hb : ∀ x ∈ l, (Lit.int .u8 x).wf = true) (i : Nat) (hi : i ≤ 100) (s : Int) (n : Int) (hn : n ≤ 200) :
    ∃ (b : Bool) (i' : Nat) (s' : Int), i' ≤ i + 1 ∧ spec_l1Cur_one.f l (i : Int) s n = some (b, (i' : Int), s') := by
  obtain ⟨r, i', s', h1, _, h⟩ := pick_run l hl hb i hi s n hn
  unfold spec_l1Cur_one.f
  rw [h, Option.bind_some]
  exact ⟨_, i', s', h1, rfl⟩
theorem among_run (l : List Int) (hl : l.length ≤ 1048576) (hb : ∀ x ∈ l, (Lit.int .u8 x).wf = true) (i : Nat) (hi : i ≤ 100) (s : Int) (L : List Int) (hL : 0 < L.length) (hL' : L.length ≤ 200) :
    ∃ (x : Int) (i' : Nat) (s' : Int), i' ≤ i + 1 ∧ x ∈ L ∧ spec_l1Cur_among.f l (i : Int) s L = some (x, (i' : Int), s') := by
  obtain ⟨r, i', s', h1, h2, h⟩ := pick_run l hl hb i hi s (L.length : Int) (by omega)
  have hr : r < L.length := by omega
  unfold spec_l1Cur_among.f
  rw [h, Option.bind_some]
  dsimp only
  rw [if_pos (by omega), if_pos (by omega)]
  refine ⟨rd L (r : Int), i', s', h1, ?_, rfl⟩
  have e : rd L (r : Int) = L[r] := by
    unfold rd
    rw [Int.toNat_natCast, List.getD_eq_getElem?_getD, List.getElem?_eq_getElem hr]; rfl
  rw [e]; exact List.getElem_mem hr
theorem big_no (l0 l1 : List Int) (h0 : l0.length ≤ maxLen) (h1 : l1.length ≤ maxLen) : laws_big.f l0 l1 = some true ∨ (laws_big.f l0 l1 = some false ∧ l0.length ≤ 1048576 ∧ l1.length ≤ 1048576) := by
  unfold laws_big.f
  by_cases g1 : (l0.length : Int) > 1048576
  · rw [if_pos g1]; exact .inl rfl
  · have hw : wrap64 (1048576 - (l0.length : Int)) = 1048576 - (l0.length : Int) := w64 (by omega) (by omega)
    rw [if_neg g1, hw]
    by_cases g2 : (l1.length : Int) > 1048576 - (l0.length : Int)
    · rw [decide_eq_true g2]; exact .inl rfl
    · rw [decide_eq_false g2]; exact .inr ⟨rfl, by omega, by omega⟩
theorem all_of {α : Type} {p : α → Bool} {L : List α} (h : L.all p = true) {x : α} (hx : x ∈ L) : p x = true := List.all_eq_true.1 h x hx

/-- The chances that are drawn. -/
def CH : List (Int × Int) := ([0, 1, 2, 3, (-1), 4611686018427387904] : List Int).flatMap (fun a => ([0, 1, 2, 4, 7, (-1)] : List Int).map fun b => (a, b)) ++ [(1, 2), (1, 3), (2, 3), (1, 4), (3, 4), (1, 5), (2, 5), (3, 5), (4, 5), (1, 6), (5, 6)]
theorem ch_tab : (List.range 5).all (fun x => (List.range (x + 1)).all fun y => match spec_ruRatio.f 60 (wrap64 (1 + (y : Int))) (wrap64 (2 + (x : Int))) with | some p => CH.contains p | none => false) = true := by decide +kernel
theorem chance_run (l : List Int) (hl : l.length ≤ 1048576) (hb : ∀ x ∈ l, (Lit.int .u8 x).wf = true) (i : Nat) (hi : i ≤ 90) (s : Int) :
    ∃ (p : Int × Int) (i' : Nat) (s' : Int), i' ≤ i + 3 ∧ p ∈ CH ∧ spec_l1Cur_chance.f 60 l (i : Int) s = some (p.1, p.2, (i' : Int), s') := by
  unfold spec_l1Cur_chance.f
  obtain ⟨b, i1, s1, g1, h1⟩ := one_run l hl hb i (by omega) s 14 (by omega)
  rw [h1, Option.bind_some]
  dsimp only
  cases b with
  | true =>
    rw [if_pos rfl]
    obtain ⟨x, i2, s2, g2, m2, h2⟩ := among_run l hl hb i1 (by omega) s1 [0, 1, 2, 3, (-1), 4611686018427387904] (by decide) (by decide)
    obtain ⟨y, i3, s3, g3, m3, h3⟩ := among_run l hl hb i2 (by omega) s2 [0, 1, 2, 4, 7, (-1)] (by decide) (by decide)
    rw [h2, Option.bind_some]
    dsimp only
    rw [h3, Option.bind_some]
    exact ⟨(x, y), i3, s3, by omega, List.mem_append_left _ (List.mem_flatMap.2 ⟨x, m2, List.mem_map.2 ⟨y, m3, rfl⟩⟩), rfl⟩
  | false =>
    rw [if_neg (by decide)]
    obtain ⟨x, i2, s2, g2, m2, h2⟩ := pick_run l hl hb i1 (by omega) s1 5 (by omega)
    rw [h2, Option.bind_some]
    dsimp only
    rw [w64 (n := 2 + (x : Int)) (by omega) (by omega), w64 (n := 2 + (x : Int) - 1) (by omega) (by omega)]
    obtain ⟨y, i3, s3, g3, m3, h3⟩ := pick_run l hl hb i2 (by omega) s2 (2 + (x : Int) - 1) (by omega)
    rw [h3, Option.bind_some]
    dsimp only
    have t := all_of (all_of ch_tab (List.mem_range.2 (show x < 5 by omega))) (List.mem_range.2 (show y < x + 1 by omega))
    rw [w64 (n := 2 + (x : Int)) (by omega) (by omega)] at t
    rcases e : spec_ruRatio.f 60 (wrap64 (1 + (y : Int))) (2 + (x : Int)) with _ | p
    · rw [e] at t; exact absurd t Bool.false_ne_true
    · rw [e] at t
      rw [Option.bind_some]
      exact ⟨p, i3, s3, by omega, by simpa using t, rfl⟩

/-- What is held and the goals that are drawn. -/
def HE : List (Int × Int) := ([(-1), 0, 1, 12, 13] : List Int).flatMap (fun a => ([0, 1, 12, 13, (-1)] : List Int).map fun b => (a, b)) ++ (List.range 8).flatMap (fun (g : Nat) => (List.range (g + 2)).map fun (i : Nat) => ((i : Int), (g : Int) + 1))
theorem held_run (l : List Int) (hl : l.length ≤ 1048576) (hb : ∀ x ∈ l, (Lit.int .u8 x).wf = true) (i : Nat) (hi : i ≤ 90) (s : Int) :
    ∃ (p : Int × Int) (i' : Nat) (s' : Int), i' ≤ i + 3 ∧ p ∈ HE ∧ spec_l1Cur_held.f l (i : Int) s = some (p.1, p.2, (i' : Int), s') := by
  unfold spec_l1Cur_held.f
  obtain ⟨b, i1, s1, g1, h1⟩ := one_run l hl hb i (by omega) s 14 (by omega)
  rw [h1, Option.bind_some]
  dsimp only
  cases b with
  | true =>
    rw [if_pos rfl]
    obtain ⟨x, i2, s2, g2, m2, h2⟩ := among_run l hl hb i1 (by omega) s1 [(-1), 0, 1, 12, 13] (by decide) (by decide)
    obtain ⟨y, i3, s3, g3, m3, h3⟩ := among_run l hl hb i2 (by omega) s2 [0, 1, 12, 13, (-1)] (by decide) (by decide)
    rw [h2, Option.bind_some]
    dsimp only
    rw [h3, Option.bind_some]
    exact ⟨(x, y), i3, s3, by omega, List.mem_append_left _ (List.mem_flatMap.2 ⟨x, m2, List.mem_map.2 ⟨y, m3, rfl⟩⟩), rfl⟩
  | false =>
    rw [if_neg (by decide)]
    obtain ⟨x, i2, s2, g2, m2, h2⟩ := pick_run l hl hb i1 (by omega) s1 8 (by omega)
    rw [h2, Option.bind_some]
    dsimp only
    rw [w64 (n := 1 + (x : Int)) (by omega) (by omega), w64 (n := 1 + (x : Int) + 1) (by omega) (by omega)]
    obtain ⟨y, i3, s3, g3, m3, h3⟩ := pick_run l hl hb i2 (by omega) s2 (1 + (x : Int) + 1) (by omega)
    rw [h3, Option.bind_some]
    exact ⟨((y : Int), 1 + (x : Int)), i3, s3, by omega, List.mem_append_right _ (List.mem_flatMap.2 ⟨(x : Nat), List.mem_range.2 (by omega), List.mem_map.2 ⟨(y : Nat), List.mem_range.2 (by omega), by rw [Int.add_comm 1]⟩⟩), rfl⟩

mutual
def H.j0 (C : Nat → Option (Bool)) : Nat → Int → Int → Bool → Bool → Int → Int → Int → Int → Option (Bool)
  | 0, _, _, _, _, _, _, _, _ => none
  | k + 1, x5, x6, x9, x59, x282000, x282001, x286000, x286001 => if x59 = true then (none) else (if x9 = true then ((impl_WinChance.f k x5 x6 x282000 x282001).bind fun bt290 => (if bt290.2.2 = true then (if x286000 < 0 then (H.j1 C k x5 x6 true x282000 x282001 x286000 x286001 bt290.1 bt290.2.1) else (H.j1 C k x5 x6 (decide (x286000 > x286001)) x282000 x282001 x286000 x286001 bt290.1 bt290.2.1)) else (H.j1 C k x5 x6 true x282000 x282001 x286000 x286001 bt290.1 bt290.2.1))) else (C k))
def H.j1 (C : Nat → Option (Bool)) : Nat → Int → Int → Bool → Int → Int → Int → Int → Int → Int → Option (Bool)
  | 0, _, _, _, _, _, _, _, _, _ => none
  | k + 1, x5, x6, x81, x282000, x282001, x286000, x286001, x294000, x294001 => if x81 = true then (none) else (if (wrap64 (2 * x282000)) = x282001 then (if (!(x286000 == x294000) || (!(x286001 == x294001))) = true then (none) else (if (wrap64 (2 * x5)) = x6 then (if (!(x286000 == x282000) || (!(x286001 == x282001))) = true then (none) else (if x5 = x6 then (if (!(x286000 == 1) || (!(x286001 == 1))) = true then (none) else (if x5 = 0 then (if x286000 = 0 then (C k) else (none)) else (C k))) else (if x5 = 0 then (if x286000 = 0 then (C k) else (none)) else (C k)))) else (if x5 = x6 then (if (!(x286000 == 1) || (!(x286001 == 1))) = true then (none) else (if x5 = 0 then (if x286000 = 0 then (C k) else (none)) else (C k))) else (if x5 = 0 then (if x286000 = 0 then (C k) else (none)) else (C k))))) else (if (wrap64 (2 * x282000)) < x282001 then (if (wrap64 (x286000 * x294001)) < (wrap64 (x294000 * x286001)) then (none) else (if (wrap64 (2 * x5)) = x6 then (if (!(x286000 == x282000) || (!(x286001 == x282001))) = true then (none) else (if x5 = x6 then (if (!(x286000 == 1) || (!(x286001 == 1))) = true then (none) else (if x5 = 0 then (if x286000 = 0 then (C k) else (none)) else (C k))) else (if x5 = 0 then (if x286000 = 0 then (C k) else (none)) else (C k)))) else (if x5 = x6 then (if (!(x286000 == 1) || (!(x286001 == 1))) = true then (none) else (if x5 = 0 then (if x286000 = 0 then (C k) else (none)) else (C k))) else (if x5 = 0 then (if x286000 = 0 then (C k) else (none)) else (C k))))) else (if (wrap64 (x286000 * x294001)) > (wrap64 (x294000 * x286001)) then (none) else (if (wrap64 (2 * x5)) = x6 then (if (!(x286000 == x282000) || (!(x286001 == x282001))) = true then (none) else (if x5 = x6 then (if (!(x286000 == 1) || (!(x286001 == 1))) = true then (none) else (if x5 = 0 then (if x286000 = 0 then (C k) else (none)) else (C k))) else (if x5 = 0 then (if x286000 = 0 then (C k) else (none)) else (C k)))) else (if x5 = x6 then (if (!(x286000 == 1) || (!(x286001 == 1))) = true then (none) else (if x5 = 0 then (if x286000 = 0 then (C k) else (none)) else (C k))) else (if x5 = 0 then (if x286000 = 0 then (C k) else (none)) else (C k)))))))
end
theorem H.link (l1 : List Int) (C : Nat → Option (Bool)) (hC : ∀ k, LeO (C k) (laws_FnBoldPlay.j2 k l1)) : ∀ k, (∀ y1 y2 y3 y4 y5 y6 y7 y8, LeO (H.j0 C k y1 y2 y3 y4 y5 y6 y7 y8) (laws_FnBoldPlay.j0 k l1 y1 y2 y3 y4 y5 y6 y7 y8)) ∧ (∀ y1 y2 y3 y4 y5 y6 y7 y8 y9, LeO (H.j1 C k y1 y2 y3 y4 y5 y6 y7 y8 y9) (laws_FnBoldPlay.j1 k l1 y1 y2 y3 y4 y5 y6 y7 y8 y9))
  | 0 => by refine ⟨?_, ?_⟩ <;> intros <;> (first | (intro r h; simp [H.j0, H.j1] at h))
  | k + 1 => by
    obtain ⟨ih0, ih1⟩ := H.link l1 C hC k
    refine ⟨?_, ?_⟩
    · intro y0 y1 y2 y3 y4 y5 y6 y7
      unfold H.j0 laws_FnBoldPlay.j0
      repeat' first
      | (with_reducible exact ih0 _ _ _ _ _ _ _ _)
      | (with_reducible exact ih1 _ _ _ _ _ _ _ _ _)
      | (with_reducible exact hC _)
      | (with_reducible exact LeO.refl _)
      | (with_reducible exact LeO.none _)
      | (with_reducible refine LeO.ite ?_ ?_)
      | (with_reducible refine LeO.bind ?_ (fun _ => ?_))
      | exact ih0 _ _ _ _ _ _ _ _
      | exact ih1 _ _ _ _ _ _ _ _ _
      | exact hC _
      | refine LeO.ite ?_ ?_
      | refine LeO.bind ?_ (fun _ => ?_)
    · intro y0 y1 y2 y3 y4 y5 y6 y7 y8
      unfold H.j1 laws_FnBoldPlay.j1
      repeat' first
      | (with_reducible exact ih0 _ _ _ _ _ _ _ _)
      | (with_reducible exact ih1 _ _ _ _ _ _ _ _ _)
      | (with_reducible exact hC _)
      | (with_reducible exact LeO.refl _)
      | (with_reducible exact LeO.none _)
      | (with_reducible refine LeO.ite ?_ ?_)
      | (with_reducible refine LeO.bind ?_ (fun _ => ?_))
      | exact ih0 _ _ _ _ _ _ _ _
      | exact ih1 _ _ _ _ _ _ _ _ _
      | exact hC _
      | refine LeO.ite ?_ ?_
      | refine LeO.bind ?_ (fun _ => ?_)
def H.f (C : Nat → Option (Bool)) (k : Nat) (bt277 : Int × Int × Int × Int) : Option (Bool) := ((impl_BoldChance.f k bt277.1 bt277.2.1 bt277.2.2.1 bt277.2.2.2).bind fun bt282 => ((spec_BoldChance.f k bt277.1 bt277.2.1 bt277.2.2.1 bt277.2.2.2).bind fun bt286 => (if (bt282.2.2 != bt286.2.2) = true then (H.j0 C k bt277.1 bt277.2.1 bt282.2.2 true bt277.2.2.1 bt277.2.2.2 bt282.1 bt282.2.1) else (H.j0 C k bt277.1 bt277.2.1 bt282.2.2 (!(bt282.1 == bt286.1) || (!(bt282.2.1 == bt286.2.1))) bt277.2.2.1 bt277.2.2.2 bt282.1 bt282.2.1))))
theorem H.start (l0 l1 : List Int) (C : Nat → Option (Bool)) (hC : ∀ k, LeO (C k) (laws_FnBoldPlay.j2 k l1)) (k : Nat) (bt : Int × Int × Int × Int) (hd : spec_DrawBoldChance.f k l0 = some bt) (hg : laws_big.f l0 l1 = some false) : LeO (H.f C k bt) (laws_FnBoldPlay.f k l0 l1) := by
  unfold laws_FnBoldPlay.f H.f
  rw [hg, Option.bind_some, if_neg (by decide), hd, Option.bind_some]
  obtain ⟨ih0, ih1⟩ := H.link l1 C hC k
  repeat' first
    | (with_reducible exact ih0 _ _ _ _ _ _ _ _)
    | (with_reducible exact ih1 _ _ _ _ _ _ _ _ _)
    | (with_reducible exact hC _)
    | (with_reducible exact LeO.refl _)
    | (with_reducible exact LeO.none _)
    | (with_reducible refine LeO.ite ?_ ?_)
    | (with_reducible refine LeO.bind ?_ (fun _ => ?_))
    | exact ih0 _ _ _ _ _ _ _ _
    | exact ih1 _ _ _ _ _ _ _ _ _
    | exact hC _
    | refine LeO.ite ?_ ?_
    | refine LeO.bind ?_ (fun _ => ?_)
def S.f (k : Nat) (bt294 : Int × Int × Int) : Option (Bool) := ((impl_FairVisits.f k bt294.1 bt294.2.1 bt294.2.2).bind fun bt297 => ((spec_FairVisits.f k bt294.1 bt294.2.1 bt294.2.2).bind fun bt301 => (if (bt297.2.2 != bt301.2.2) = true then (laws_FnBoldPlay.j3 k bt294.1 bt294.2.1 bt294.2.2 bt297.2.2 true bt297.1 bt297.2.1) else (laws_FnBoldPlay.j3 k bt294.1 bt294.2.1 bt294.2.2 bt297.2.2 (!(bt297.1 == bt301.1) || (!(bt297.2.1 == bt301.2.1))) bt297.1 bt297.2.1))))
theorem S.start (l1 : List Int) (k : Nat) (bt : Int × Int × Int) (hd : spec_DrawFairVisits.f l1 = some bt) : laws_FnBoldPlay.j2 (k + 1) l1 = S.f k bt := by
  rw [laws_FnBoldPlay.j2.eq_2, hd, Option.bind_some]; rfl
theorem S.up (l1 : List Int) (n : Nat) (r : Bool) (h : laws_FnBoldPlay.j2 n l1 = some r) : ∀ d, laws_FnBoldPlay.j2 (n + d) l1 = some r
  | 0 => h
  | d + 1 => by have h_ := laws_FnBoldPlay.mono_l (n + d); exact h_.2.1 _ _ (S.up l1 n r h d)
/-- What the second half is known to answer: from n rounds on, yes. -/
def Cn (n k : Nat) : Option (Bool) := if n ≤ k then some true else none
theorem Cn.ok (l1 : List Int) (n : Nat) (h : laws_FnBoldPlay.j2 n l1 = some true) : ∀ k, LeO (Cn n k) (laws_FnBoldPlay.j2 k l1) := by
  intro k; unfold Cn; split
  · rename_i hk; obtain ⟨d, rfl⟩ := Nat.le.dest hk; rw [S.up l1 n true h d]; exact LeO.refl _
  · exact LeO.none _

def GS : List Int := [1, 2, 4, 8, 8, 4, 3, 0]
theorem draw1 (l : List Int) (hl : l.length ≤ 1048576) (hb : ∀ x ∈ l, (Lit.int .u8 x).wf = true) :
    ∃ (g : Int) (x : Nat) (p : Int × Int), g ∈ GS ∧ x < 10 ∧ p ∈ CH ∧ spec_DrawBoldChance.f 60 l = some ((x : Int) - 1, g, p.1, p.2) := by
  unfold spec_DrawBoldChance.f
  obtain ⟨g, i1, s1, g1, m1, h1⟩ := among_run l hl hb 0 (by omega) 0 GS (by decide) (by decide)
  have hg : 0 ≤ g ∧ g ≤ 8 := by
    have : GS.all (fun g => decide (0 ≤ g ∧ g ≤ 8)) = true := by decide
    exact of_decide_eq_true (all_of this m1)
  show ∃ (g : Int) (x : Nat) (p : Int × Int), g ∈ GS ∧ x < 10 ∧ p ∈ CH ∧ ((spec_l1Cur_among.f l ((0 : Nat) : Int) 0 GS).bind _) = _
  rw [h1, Option.bind_some]
  dsimp only
  obtain ⟨m, hm, em⟩ : ∃ m : Int, (1 ≤ m ∧ m ≤ 8) ∧ spec_l1Most.f 1 g = some m := by
    unfold spec_l1Most.f
    by_cases h : 1 > g
    · rw [if_pos h]; exact ⟨1, by omega, rfl⟩
    · rw [if_neg h]; exact ⟨g, by omega, rfl⟩
  rw [em, Option.bind_some, w64 (n := m + 1) (by omega) (by omega)]
  obtain ⟨x, i2, s2, g2, m2, h2⟩ := pick_run l hl hb i1 (by omega) s1 (m + 1) (by omega)
  rw [h2, Option.bind_some]
  dsimp only
  obtain ⟨y, i3, s3, g3, m3, h3⟩ := pick_run l hl hb i2 (by omega) s2 9 (by omega)
  rw [h3, Option.bind_some]
  dsimp only
  obtain ⟨p, i4, s4, g4, m4, h4⟩ := chance_run l hl hb i3 (by omega) s3
  rw [h4, Option.bind_some]
  dsimp only
  have e : Int.tdiv (y : Int) 8 = ((y / 8 : Nat) : Int) := rfl
  have : y / 8 ≤ 1 := by omega
  rw [e, w64 (n := ((y / 8 : Nat) : Int)) (by omega) (by omega), w64 (by omega) (by omega)]
  refine ⟨g, (1 + x - y / 8), p, m1, by omega, m4, ?_⟩
  congr 2; omega
theorem draw2 (l : List Int) (hl : l.length ≤ 1048576) (hb : ∀ x ∈ l, (Lit.int .u8 x).wf = true) :
    ∃ (p : Int × Int) (r : Nat), p ∈ HE ∧ r < 13 ∧ spec_DrawFairVisits.f l = some (p.1, (r : Int), p.2) := by
  unfold spec_DrawFairVisits.f
  obtain ⟨p, i1, s1, g1, m1, h1⟩ := held_run l hl hb 0 (by omega) 0
  show ∃ (p : Int × Int) (r : Nat), p ∈ HE ∧ r < 13 ∧ ((spec_l1Cur_held.f l ((0 : Nat) : Int) 0).bind _) = _
  rw [h1, Option.bind_some]
  dsimp only
  obtain ⟨m, hm, em⟩ : ∃ m : Int, (1 ≤ m ∧ m ≤ 13) ∧ ((spec_l1Least.f 13 p.2).bind fun t248 => spec_l1Most.f 1 t248) = some m := by
    unfold spec_l1Least.f spec_l1Most.f
    by_cases h : 13 < p.2
    · rw [if_pos h]; exact ⟨13, by omega, rfl⟩
    · rw [if_neg h, Option.bind_some]
      by_cases h' : 1 > p.2
      · rw [if_pos h']; exact ⟨1, by omega, rfl⟩
      · rw [if_neg h']; exact ⟨p.2, by omega, rfl⟩
  obtain ⟨u, eu, em⟩ := Option.bind_eq_some_iff.1 em
  rw [eu, Option.bind_some, em, Option.bind_some]
  obtain ⟨x, i2, s2, g2, m2, h2⟩ := pick_run l hl hb i1 (by omega) s1 m (by omega)
  rw [h2, Option.bind_some]
  exact ⟨p, x, m1, by omega, rfl⟩
set_option maxRecDepth 100000 in
theorem tabS : HE.all (fun p => (List.range 13).all fun r => S.f 49 (p.1, (r : Int), p.2) == some true) = true := by decide +kernel
set_option maxRecDepth 100000 in
theorem tabH : GS.all (fun g => (List.range 10).all fun x => CH.all fun p => H.f (Cn 50) 60 ((x : Int) - 1, g, p.1, p.2) == some true) = true := by decide +kernel
theorem FnBoldPlay : laws_FnBoldPlay.Pure := by
  intro l0 l1 a1 a2 hb0 b1 b2 hb1
  refine ⟨60, ?_⟩
  rcases big_no l0 l1 a1 b1 with g | ⟨g, g0, g1⟩
  · unfold laws_FnBoldPlay.f; rw [g, Option.bind_some, if_pos rfl]
  · obtain ⟨q, r, mq, mr, e2⟩ := draw2 l1 g1 hb1
    have s : laws_FnBoldPlay.j2 50 l1 = some true := by
      rw [S.start l1 49 _ e2]
      exact eq_of_beq (all_of (all_of tabS mq) (List.mem_range.2 mr))
    obtain ⟨gg, x, p, mg, mx, mp, e1⟩ := draw1 l0 g0 hb0
    exact H.start l0 l1 (Cn 50) (Cn.ok l1 50 s) 60 _ e1 g _ (eq_of_beq (all_of (all_of (all_of tabH mg) (List.mem_range.2 mx)) mp))
end Go.Proofs.Ytfembmnagkdnhaa.Pure
