/- Ways in three directions and those below the line: the draws come to one of eight numbers each; for each of them the counts are reckoned. No condition. -/
import Derived.Test.YtobdaglkdnfnlaaOFnGridsCountedx4
import Derived.Test.YtobdaglkdnfnlaaStubs
import Derived.Laws.Bits64b
namespace Go.Proofs.Ytobdaglkdnfnlaa.Pure
open Go.RowKit Go.Proofs.Ytobdaglkdnfnlaa.Stub Go.Proofs.Ytobdaglkdnfnlaa.OFnGridsCounted Go.Proofs.YtobdaglkdnfnlaaW.PrintWords Go.Proofs.YtobdaglkdnfnlaaW.PrintLast
set_option linter.unusedVariables false
set_option linter.unusedSimpArgs false
theorem w64 {n : Int} (h0 : -9223372036854775808 ≤ n) (h1 : n ≤ 9223372036854775807) : wrap64 n = n := by unfold wrap64; omega
theorem wf_bd {n : Int} (h : (Lit.int .i64 n).wf = true) : -9223372036854775808 ≤ n ∧ n ≤ 9223372036854775807 := by
  unfold Lit.wf at h
  rw [Bool.and_eq_true] at h
  exact ⟨of_decide_eq_true h.1, of_decide_eq_true h.2⟩
theorem wN (n : Nat) (h : n ≤ 1000000000000) : wrap64 ((n : Int) + 1) = ((n + 1 : Nat) : Int) := by rw [w64 (by omega) (by omega)]; omega

theorem in_eq (a b c : Int) : impl_in.f a b c = some (decide (b ≤ a ∧ a ≤ c)) := by
  unfold impl_in.f
  by_cases h1 : b ≤ a <;> by_cases h2 : a ≤ c <;> simp [h1, h2]
theorem l1In_eq (a b c : Int) : spec_l1In.f a b c = some (decide (b ≤ a ∧ a ≤ c)) := by
  unfold spec_l1In.f
  by_cases h1 : b ≤ a <;> by_cases h2 : a ≤ c <;> simp [h1, h2]

theorem and255 (x : Int) (h0 : 0 ≤ x) (h1 : x < 18446744073709551616) : 0 ≤ Go.bits .and .u64 x 255 ∧ Go.bits .and .u64 x 255 ≤ 255 := by
  obtain ⟨n, rfl⟩ : ∃ n : Nat, x = n := ⟨x.toNat, by omega⟩
  have h := Go.bits_and_u64_nat n 255 (by omega) (by omega)
  rw [show ((255 : Nat) : Int) = 255 from rfl] at h
  rw [h]
  have := Nat.and_le_right (n := n) (m := 255)
  omega
theorem u64_rng (n : Int) : 0 ≤ IntKind.u64.wrap n ∧ IntKind.u64.wrap n < 18446744073709551616 := by
  have h : IntKind.u64.wrap n = n % 18446744073709551616 := by simp [IntKind.wrap, IntKind.bits, IntKind.signed]
  rw [h]; omega
theorem tail_ok (n : Int) : 0 ≤ wrap64 (Go.bits .and .u64 (IntKind.u64.wrap n / 1099511627776) 255) := by
  have h := u64_rng n
  have h2 := and255 (IntKind.u64.wrap n / 1099511627776) (by omega) (by omega)
  rw [w64 (by omega) (by omega)]; exact h2.1
theorem next_run (l : List Int) (hl : l.length ≤ 1048576) (hb : ∀ x ∈ l, (Lit.int .u8 x).wf = true) (i : Nat) (hi : i ≤ 100) (s : Int) : ∃ v s', spec_l1Cur_next.f l (i : Int) s = some (v, ((i + 1 : Nat) : Int), s') ∧ 0 ≤ v := by
  unfold spec_l1Cur_next.f
  rw [wN i (by omega)]
  by_cases h : (i : Int) < (l.length : Int)
  · have hi2 : i < l.length := by omega
    have hx : 0 ≤ rd l (i : Int) ∧ rd l (i : Int) ≤ 255 := by
      have e : rd l (i : Int) = l[i] := by
        unfold rd
        rw [Int.toNat_natCast, List.getD_eq_getElem?_getD, List.getElem?_eq_getElem hi2]; rfl
      have w := hb l[i] (List.getElem_mem hi2)
      unfold Lit.wf at w
      rw [Bool.and_eq_true] at w
      have w1 := of_decide_eq_true w.1
      have w2 := of_decide_eq_true w.2
      have k1 : IntKind.u8.min = 0 := rfl
      have k2 : IntKind.u8.max = 255 := rfl
      rw [e]; omega
    rw [if_pos h, if_pos (by omega)]
    by_cases h2 : ((i + 1 : Nat) : Int) ≤ (l.length : Int)
    · rw [if_pos h2]; exact ⟨_, _, rfl, by rw [w64 (by omega) (by omega)]; exact hx.1⟩
    · omega
  · rw [if_neg h]
    rw [if_neg (by omega)]
    exact ⟨_, _, rfl, tail_ok _⟩
theorem among_run (l : List Int) (hl : l.length ≤ 1048576) (hb : ∀ x ∈ l, (Lit.int .u8 x).wf = true) (i : Nat) (hi : i ≤ 100) (s : Int) (L : List Int) (hL : L.length = 8) : ∃ (j : Nat) (s' : Int), j < 8 ∧ spec_l1Cur_among.f l (i : Int) s L = some (rd L (j : Int), ((i + 1 : Nat) : Int), s') := by
  obtain ⟨v, s', h, hv⟩ := next_run l hl hb i hi s
  obtain ⟨n, rfl⟩ : ∃ n : Nat, v = n := ⟨v.toNat, by omega⟩
  have ht : Int.tmod (n : Int) 8 = ((n % 8 : Nat) : Int) := rfl
  refine ⟨n % 8, s', Nat.mod_lt _ (by omega), ?_⟩
  unfold spec_l1Cur_among.f spec_l1Cur_pick.f
  rw [hL, if_neg (by decide), h, Option.bind_some]
  dsimp only
  rw [if_neg (by decide), if_neg (by decide), Option.bind_some]
  dsimp only
  rw [show ((8 : Nat) : Int) = 8 from rfl, ht, if_pos (by omega), if_pos (by omega)]
/-- The eight numbers. -/
def LA : List Int := [0, 1, 2, 3, 5, 12, 13, (-1)]
def LB : List Int := [0, 1, 2, 4, 6, 12, 13, (-1)]
theorem draw_run (l : List Int) (hl : l.length ≤ 1048576) (hb : ∀ x ∈ l, (Lit.int .u8 x).wf = true) : ∃ i j : Nat, i < 8 ∧ j < 8 ∧ spec_DrawCountDelannoy.f l = some (rd LA (i : Int), rd LB (j : Int)) := by
  obtain ⟨i, s, hi, h1⟩ := among_run l hl hb 0 (by omega) 0 LA rfl
  obtain ⟨j, s2, hj, h2⟩ := among_run l hl hb 1 (by omega) s LB rfl
  refine ⟨i, j, hi, hj, ?_⟩
  unfold spec_DrawCountDelannoy.f
  show (spec_l1Cur_among.f l ((0 : Nat) : Int) 0 LA).bind _ = _
  rw [h1, Option.bind_some]
  show (spec_l1Cur_among.f l ((1 : Nat) : Int) s LB).bind _ = _
  rw [h2, Option.bind_some]
/-- The second half, once the draw is known. -/
def half (k : Nat) (v : Int) : Option Bool := (impl_CountSchroder.f k v).bind fun bt169 => ((spec_CountSchroder.f k v).bind fun bt171 => (if (bt169.2 != bt171.2) = true then (laws_FnGridsCounted.j4 k v bt169.1 bt169.2 true) else (laws_FnGridsCounted.j4 k v bt169.1 bt169.2 (bt169.1 != bt171.1))))
set_option maxRecDepth 100000 in
theorem halves1 : (List.range 8).all (fun i => half 1501 (rd LA (i : Int)) == some true) = true := by decide +kernel
set_option maxRecDepth 100000 in
theorem halves2 : (List.range 8).all (fun i => half 1503 (rd LA (i : Int)) == some true) = true := by decide +kernel
theorem rest_run (k : Nat) (hk : (List.range 8).all (fun i => half k (rd LA (i : Int)) == some true) = true) (l : List Int) (hl : l.length ≤ 1048576) (hb : ∀ x ∈ l, (Lit.int .u8 x).wf = true) : laws_FnGridsCounted.j3 (k + 1) l = some true := by
  obtain ⟨i, j, hi, hj, h⟩ := draw_run l hl hb
  have hd : spec_DrawCountSchroder.f l = some (rd LA (i : Int)) := by
    unfold spec_DrawCountSchroder.f
    rw [h, Option.bind_some]
  rw [laws_FnGridsCounted.j3.eq_2, hd, Option.bind_some]
  rw [List.all_eq_true] at hk
  exact eq_of_beq (hk i (List.mem_range.2 hi))
/-- The first half for one pair: what it comes to with the second half taken as right. -/
def firstOk (m n : Int) : Bool :=
  match impl_CountDelannoy.f 1505 m n, spec_CountDelannoy.f 1505 m n with
  | some (c, a), some (c', a') => (a == a') && ((c == c') && (!a || (match impl_CountDelannoy.f 1504 n m with
    | some (d, b) => b && ((d == c) && ((!(decide ((wrap64 (m * n)) = 0)) || (c == 1)) && (!(decide (m > 0) && decide (n > 0)) || (match impl_CountDelannoy.f 1502 (wrap64 (m - 1)) n, impl_CountDelannoy.f 1502 m (wrap64 (n - 1)), impl_CountDelannoy.f 1502 (wrap64 (m - 1)) (wrap64 (n - 1)) with
      | some (x, p), some (y, q), some (z, r) => p && (q && (r && decide ((wrap64 ((wrap64 (x + y)) + z)) = c)))
      | _, _, _ => false))))
    | none => false)))
  | _, _ => false
set_option maxRecDepth 100000 in
theorem firsts : (List.range 8).all (fun i => (List.range 8).all fun j => firstOk (rd LA (i : Int)) (rd LB (j : Int))) = true := by decide +kernel
theorem FnGridsCounted : laws_FnGridsCounted.Pure := by
  intro l0 l1 a1 a2 hb0 b1 b2 hb1
  refine ⟨1505, ?_⟩
  unfold laws_FnGridsCounted.f laws_big.f
  by_cases g1 : (l0.length : Int) > 1048576
  · rw [if_pos g1, Option.bind_some, if_pos rfl]
  have hl0 : l0.length ≤ 1048576 := by omega
  have hw : wrap64 (1048576 - (l0.length : Int)) = 1048576 - (l0.length : Int) := w64 (by omega) (by omega)
  rw [if_neg g1, Option.bind_some, hw]
  clear hw
  by_cases g2 : (l1.length : Int) > 1048576 - (l0.length : Int)
  · rw [if_pos (decide_eq_true g2)]
  have hl1 : l1.length ≤ 1048576 := by omega
  rw [if_neg (by rw [decide_eq_false g2]; decide)]
  obtain ⟨i, j, hi, hj, h⟩ := draw_run l0 hl0 hb0
  have t := firsts
  rw [List.all_eq_true] at t
  have t := t i (List.mem_range.2 hi)
  rw [List.all_eq_true] at t
  have t := t j (List.mem_range.2 hj)
  rw [h, Option.bind_some]
  dsimp only
  generalize rd LA (i : Int) = m at t
  generalize rd LB (j : Int) = n at t
  clear h g1 g2
  unfold firstOk at t
  rcases e1 : impl_CountDelannoy.f 1505 m n with _ | ⟨c, a⟩
  · rw [e1] at t; exact absurd t Bool.false_ne_true
  rcases e2 : spec_CountDelannoy.f 1505 m n with _ | ⟨c', a'⟩
  · rw [e1, e2] at t; exact absurd t Bool.false_ne_true
  rw [e1, e2] at t
  dsimp only at t
  rw [Bool.and_eq_true, Bool.and_eq_true] at t
  obtain ⟨ta, tc, tr⟩ := t
  obtain rfl := eq_of_beq ta
  obtain rfl := eq_of_beq tc
  rw [Option.bind_some, Option.bind_some]
  dsimp only
  rw [bne_self_eq_false, if_neg (by decide), bne_self_eq_false]
  cases a with
  | false =>
    rw [show (1505 : Nat) = 1504 + 1 from rfl, laws_FnGridsCounted.j0.eq_2, if_neg (by decide), if_neg (by decide)]
    exact rest_run 1503 halves2 l1 hl1 hb1
  | true =>
    rw [Bool.not_true, Bool.false_or] at tr
    rcases e3 : impl_CountDelannoy.f 1504 n m with _ | ⟨d, b⟩
    · rw [e3] at tr; exact absurd tr Bool.false_ne_true
    rw [e3] at tr
    dsimp only at tr
    rw [Bool.and_eq_true, Bool.and_eq_true, Bool.and_eq_true] at tr
    obtain ⟨tb, td, tz, tl⟩ := tr
    obtain rfl := eq_of_beq td
    have one : laws_FnGridsCounted.j1 1504 l1 m n d false = some true := by
      rw [show (1504 : Nat) = 1503 + 1 from rfl, laws_FnGridsCounted.j1.eq_2, if_neg (by decide)]
      by_cases hm : m > 0
      · rw [if_pos hm]
        by_cases hn : n > 0
        · rw [decide_eq_true hn, show (1503 : Nat) = 1502 + 1 from rfl, laws_FnGridsCounted.j2.eq_2, if_pos rfl]
          rw [decide_eq_true hm, decide_eq_true hn, Bool.and_self, Bool.not_true, Bool.false_or] at tl
          rcases e4 : impl_CountDelannoy.f 1502 (wrap64 (m - 1)) n with _ | ⟨x, p⟩
          · rw [e4] at tl; exact absurd tl Bool.false_ne_true
          rcases e5 : impl_CountDelannoy.f 1502 m (wrap64 (n - 1)) with _ | ⟨y, q⟩
          · rw [e4, e5] at tl; exact absurd tl Bool.false_ne_true
          rcases e6 : impl_CountDelannoy.f 1502 (wrap64 (m - 1)) (wrap64 (n - 1)) with _ | ⟨z, r⟩
          · rw [e4, e5, e6] at tl; exact absurd tl Bool.false_ne_true
          rw [e4, e5, e6] at tl
          dsimp only at tl
          rw [Bool.and_eq_true, Bool.and_eq_true, Bool.and_eq_true] at tl
          obtain ⟨tp, tq, tr2, ts⟩ := tl
          rw [Option.bind_some, Option.bind_some, Option.bind_some]
          dsimp only
          rw [if_pos tp, if_pos tq, if_pos tr2, if_pos (of_decide_eq_true ts)]
          exact rest_run 1501 halves1 l1 hl1 hb1
        · rw [decide_eq_false hn, show (1503 : Nat) = 1502 + 1 from rfl, laws_FnGridsCounted.j2.eq_2, if_neg (by decide)]
          exact rest_run 1501 halves1 l1 hl1 hb1
      · rw [if_neg hm, show (1503 : Nat) = 1502 + 1 from rfl, laws_FnGridsCounted.j2.eq_2, if_neg (by decide)]
        exact rest_run 1501 halves1 l1 hl1 hb1
    rw [show (1505 : Nat) = 1504 + 1 from rfl, laws_FnGridsCounted.j0.eq_2, if_neg (by decide), if_pos rfl, e3, Option.bind_some]
    dsimp only
    rw [if_pos tb, if_pos rfl]
    by_cases z : wrap64 (m * n) = 0
    · rw [if_pos z]
      rw [decide_eq_true z, Bool.not_true, Bool.false_or] at tz
      obtain rfl := eq_of_beq tz
      exact one
    · rw [if_neg z]; exact one
end Go.Proofs.Ytobdaglkdnfnlaa.Pure
