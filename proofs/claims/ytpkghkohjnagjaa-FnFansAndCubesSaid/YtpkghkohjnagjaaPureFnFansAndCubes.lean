/- Fans and cubes: the draws come to finitely many arguments; at each of them both halves of the law are reckoned. No condition. -/
import Derived.Test.YtpkghkohjnagjaaOFnFansAndCubesx10
import Derived.Laws.Bits64b
namespace Go.Proofs.Ytpkghkohjnagjaa.Pure
open Go.RowKit Go.Proofs.Ytpkghkohjnagjaa.Stub Go.Proofs.Ytpkghkohjnagjaa.OFnFansAndCubes Go.Proofs.YtpkghkohjnagjaaW.PrintWords Go.Proofs.YtpkghkohjnagjaaW.PrintLast
set_option linter.unusedVariables false
set_option linter.unusedSimpArgs false
theorem w64 {n : Int} (h0 : -9223372036854775808 ≤ n) (h1 : n ≤ 9223372036854775807) : wrap64 n = n := by unfold wrap64; omega
theorem wf_bd {n : Int} (h : (Lit.int .i64 n).wf = true) : -9223372036854775808 ≤ n ∧ n ≤ 9223372036854775807 := by
  unfold Lit.wf at h
  rw [Bool.and_eq_true] at h
  exact ⟨of_decide_eq_true h.1, of_decide_eq_true h.2⟩
theorem wN (n : Nat) (h : n ≤ 1000000000000) : wrap64 ((n : Int) + 1) = ((n + 1 : Nat) : Int) := by rw [w64 (by omega) (by omega)]; omega

theorem and255 (x : Int) (h0 : 0 ≤ x) (h1 : x < 18446744073709551616) : 0 ≤ Go.bits .and .u64 x 255 ∧ Go.bits .and .u64 x 255 ≤ 255 := by
  obtain ⟨n, rfl⟩ : ∃ n : Nat, x = n := ⟨x.toNat, by omega⟩
  have h := Go.bits_and_u64_nat n 255 (by omega) (by omega)
  rw [show ((255 : Nat) : Int) = 255 from rfl] at h
  rw [h]
  have := Nat.and_le_right (n := n) (m := 255)
  omega
theorem u64_rng (n : Int) : 0 ≤ IntKind.u64.wrap n ∧ IntKind.u64.wrap n < 18446744073709551616 := by
  have h : IntKind.u64.wrap n = n % 18446744073709551616 := by simp [IntKind.wrap, IntKind.bits, IntKind.signed]
  rw [h]; omega
theorem tail_ok (n : Int) : 0 ≤ wrap64 (Go.bits .and .u64 (IntKind.u64.wrap n / 1099511627776) 255) := by
  have h := u64_rng n
  have h2 := and255 (IntKind.u64.wrap n / 1099511627776) (by omega) (by omega)
  rw [w64 (by omega) (by omega)]; exact h2.1
/-- A draw of one number: some number that is no less than 0. -/
theorem next_run (l : List Int) (hl : l.length ≤ 1048576) (hb : ∀ x ∈ l, (Lit.int .u8 x).wf = true) (i : Nat) (hi : i ≤ 100) (s : Int) : ∃ v s', spec_l1Cur_next.f l (i : Int) s = some (v, ((i + 1 : Nat) : Int), s') ∧ 0 ≤ v := by
  unfold spec_l1Cur_next.f
  rw [wN i (by omega)]
  by_cases h : (i : Int) < (l.length : Int)
  · have hi2 : i < l.length := by omega
    have hx : 0 ≤ rd l (i : Int) ∧ rd l (i : Int) ≤ 255 := by
      have e : rd l (i : Int) = l[i] := by
        unfold rd
        rw [Int.toNat_natCast, List.getD_eq_getElem?_getD, List.getElem?_eq_getElem hi2]; rfl
      have w := hb l[i] (List.getElem_mem hi2)
      unfold Lit.wf at w
      rw [Bool.and_eq_true] at w
      have w1 := of_decide_eq_true w.1
      have w2 := of_decide_eq_true w.2
      have k1 : IntKind.u8.min = 0 := rfl
      have k2 : IntKind.u8.max = 255 := rfl
      rw [e]; omega
    rw [if_pos h, if_pos (by omega)]
    by_cases h2 : ((i + 1 : Nat) : Int) ≤ (l.length : Int)
    · rw [if_pos h2]; exact ⟨_, _, rfl, by rw [w64 (by omega) (by omega)]; exact hx.1⟩
    · omega
  · rw [if_neg h]
    rw [if_neg (by omega)]
    exact ⟨_, _, rfl, tail_ok _⟩
/-- A choice among n, n at most 200. -/
theorem pick_run (l : List Int) (hl : l.length ≤ 1048576) (hb : ∀ x ∈ l, (Lit.int .u8 x).wf = true) (i : Nat) (hi : i ≤ 100) (s : Int) (n : Int) (hn : n ≤ 200) :
    ∃ (r : Nat) (i' : Nat) (s' : Int), i' ≤ i + 1 ∧ ((r : Int) < n ∨ r = 0) ∧ spec_l1Cur_pick.f l (i : Int) s n = some ((r : Int), (i' : Int), s') := by
  unfold spec_l1Cur_pick.f
  by_cases h1 : n ≤ 1
  · rw [if_pos h1]; exact ⟨0, i, s, by omega, .inr rfl, rfl⟩
  · obtain ⟨v, s', h, hv⟩ := next_run l hl hb i hi s
    obtain ⟨m, rfl⟩ : ∃ m : Nat, v = m := ⟨v.toNat, by omega⟩
    obtain ⟨q, rfl⟩ : ∃ q : Nat, n = q := ⟨n.toNat, by omega⟩
    have ht : Int.tmod (m : Int) (q : Int) = ((m % q : Nat) : Int) := rfl
    have hlt : m % q < q := Nat.mod_lt _ (by omega)
    rw [if_neg h1, h, Option.bind_some]
    dsimp only
    rw [if_neg (by omega), if_neg (by omega), ht]
    exact ⟨m % q, i + 1, s', Nat.le_refl _, .inl (by omega), rfl⟩
theorem among_run (l : List Int) (hl : l.length ≤ 1048576) (hb : ∀ x ∈ l, (Lit.int .u8 x).wf = true) (i : Nat) (hi : i ≤ 100) (s : Int) (L : List Int) (hL : 0 < L.length) (hL' : L.length ≤ 200) :
    ∃ (x : Int) (i' : Nat) (s' : Int), i' ≤ i + 1 ∧ x ∈ L ∧ spec_l1Cur_among.f l (i : Int) s L = some (x, (i' : Int), s') := by
  obtain ⟨r, i', s', h1, h2, h⟩ := pick_run l hl hb i hi s (L.length : Int) (by omega)
  have hr : r < L.length := by omega
  unfold spec_l1Cur_among.f
  rw [h, Option.bind_some]
  dsimp only
  rw [if_pos (by omega), if_pos (by omega)]
  refine ⟨rd L (r : Int), i', s', h1, ?_, rfl⟩
  have e : rd L (r : Int) = L[r] := by
    unfold rd
    rw [Int.toNat_natCast, List.getD_eq_getElem?_getD, List.getElem?_eq_getElem hr]; rfl
  rw [e]; exact List.getElem_mem hr
theorem big_no (l0 l1 : List Int) (h0 : l0.length ≤ maxLen) (h1 : l1.length ≤ maxLen) : laws_big.f l0 l1 = some true ∨ (laws_big.f l0 l1 = some false ∧ l0.length ≤ 1048576 ∧ l1.length ≤ 1048576) := by
  unfold laws_big.f
  by_cases g1 : (l0.length : Int) > 1048576
  · rw [if_pos g1]; exact .inl rfl
  · have hw : wrap64 (1048576 - (l0.length : Int)) = 1048576 - (l0.length : Int) := w64 (by omega) (by omega)
    rw [if_neg g1, hw]
    by_cases g2 : (l1.length : Int) > 1048576 - (l0.length : Int)
    · rw [decide_eq_true g2]; exact .inl rfl
    · rw [decide_eq_false g2]; exact .inr ⟨rfl, by omega, by omega⟩
theorem all_of {α : Type} {p : α → Bool} {L : List α} (h : L.all p = true) {x : α} (hx : x ∈ L) : p x = true := List.all_eq_true.1 h x hx

mutual
def H.j0 (C : Nat → Option (Bool)) : Nat → Int → Int → Int → Bool → Bool → Option (Bool)
  | 0, _, _, _, _, _ => none
  | k + 1, x5, x6, x7, x8, x81 => if x81 = true then (none) else (if x8 = true then (if x6 = 1 then (H.j1 C k x5 x6 x7 x8 (decide (x5 ≤ 6))) else (H.j1 C k x5 x6 x7 x8 false)) else (H.j1 C k x5 x6 x7 x8 false))
def H.j1 (C : Nat → Option (Bool)) : Nat → Int → Int → Int → Bool → Bool → Option (Bool)
  | 0, _, _, _, _, _ => none
  | k + 1, x5, x6, x7, x8, x90 => if x90 = true then ((impl_AllTrees.f k (wrap64 (x5 + 1))).bind fun bt279 => (if bt279.2 = true then (if (bt279.1.length : Int) = x7 then (H.j2 C k x5 x6 x7 x8) else (none)) else (none))) else (H.j2 C k x5 x6 x7 x8)
def H.j2 (C : Nat → Option (Bool)) : Nat → Int → Int → Int → Bool → Option (Bool)
  | 0, _, _, _, _ => none
  | k + 1, x5, x6, x7, x8 => if x8 = true then (if x6 = 2 then (if x5 ≥ 1 then (H.j3 C k x5 x7 (decide (x5 ≤ 5))) else (H.j3 C k x5 x7 false)) else (H.j3 C k x5 x7 false)) else (H.j3 C k x5 x7 false)
def H.j3 (C : Nat → Option (Bool)) : Nat → Int → Int → Bool → Option (Bool)
  | 0, _, _, _ => none
  | k + 1, x5, x7, x117 => if x117 = true then ((impl_CountFans.f k x5 1).bind fun bt283 => ((impl_CountFans.f k (wrap64 (x5 + 1)) 1).bind fun bt285 => ((impl_CountFans.f k (wrap64 (x5 + 2)) 1).bind fun bt287 => (if bt283.2 = true then (if bt285.2 = true then (if bt287.2 = true then (if (wrap64 ((wrap64 (bt283.1 * bt287.1)) - (wrap64 (bt285.1 * bt285.1)))) = x7 then (C k) else (none)) else (none)) else (none)) else (none))))) else (C k)
end
theorem H.link (l1 : List Int) (C : Nat → Option (Bool)) (hC : ∀ k, LeO (C k) (laws_FnFansAndCubes.j4 k l1)) : ∀ k, (∀ y1 y2 y3 y4 y5, LeO (H.j0 C k y1 y2 y3 y4 y5) (laws_FnFansAndCubes.j0 k l1 y1 y2 y3 y4 y5)) ∧ (∀ y1 y2 y3 y4 y5, LeO (H.j1 C k y1 y2 y3 y4 y5) (laws_FnFansAndCubes.j1 k l1 y1 y2 y3 y4 y5)) ∧ (∀ y1 y2 y3 y4, LeO (H.j2 C k y1 y2 y3 y4) (laws_FnFansAndCubes.j2 k l1 y1 y2 y3 y4)) ∧ (∀ y1 y2 y3, LeO (H.j3 C k y1 y2 y3) (laws_FnFansAndCubes.j3 k l1 y1 y2 y3))
  | 0 => by refine ⟨?_, ?_, ?_, ?_⟩ <;> intros <;> (first | (intro r h; simp [H.j0, H.j1, H.j2, H.j3] at h))
  | k + 1 => by
    obtain ⟨ih0, ih1, ih2, ih3⟩ := H.link l1 C hC k
    refine ⟨?_, ?_, ?_, ?_⟩
    · intro y0 y1 y2 y3 y4
      unfold H.j0 laws_FnFansAndCubes.j0
      repeat' first
      | (with_reducible exact ih0 _ _ _ _ _)
      | (with_reducible exact ih1 _ _ _ _ _)
      | (with_reducible exact ih2 _ _ _ _)
      | (with_reducible exact ih3 _ _ _)
      | (with_reducible exact hC _)
      | (with_reducible exact LeO.refl _)
      | (with_reducible exact LeO.none _)
      | (with_reducible refine LeO.ite ?_ ?_)
      | (with_reducible refine LeO.bind ?_ (fun _ => ?_))
      | exact ih0 _ _ _ _ _
      | exact ih1 _ _ _ _ _
      | exact ih2 _ _ _ _
      | exact ih3 _ _ _
      | exact hC _
      | refine LeO.ite ?_ ?_
      | refine LeO.bind ?_ (fun _ => ?_)
    · intro y0 y1 y2 y3 y4
      unfold H.j1 laws_FnFansAndCubes.j1
      repeat' first
      | (with_reducible exact ih0 _ _ _ _ _)
      | (with_reducible exact ih1 _ _ _ _ _)
      | (with_reducible exact ih2 _ _ _ _)
      | (with_reducible exact ih3 _ _ _)
      | (with_reducible exact hC _)
      | (with_reducible exact LeO.refl _)
      | (with_reducible exact LeO.none _)
      | (with_reducible refine LeO.ite ?_ ?_)
      | (with_reducible refine LeO.bind ?_ (fun _ => ?_))
      | exact ih0 _ _ _ _ _
      | exact ih1 _ _ _ _ _
      | exact ih2 _ _ _ _
      | exact ih3 _ _ _
      | exact hC _
      | refine LeO.ite ?_ ?_
      | refine LeO.bind ?_ (fun _ => ?_)
    · intro y0 y1 y2 y3
      unfold H.j2 laws_FnFansAndCubes.j2
      repeat' first
      | (with_reducible exact ih0 _ _ _ _ _)
      | (with_reducible exact ih1 _ _ _ _ _)
      | (with_reducible exact ih2 _ _ _ _)
      | (with_reducible exact ih3 _ _ _)
      | (with_reducible exact hC _)
      | (with_reducible exact LeO.refl _)
      | (with_reducible exact LeO.none _)
      | (with_reducible refine LeO.ite ?_ ?_)
      | (with_reducible refine LeO.bind ?_ (fun _ => ?_))
      | exact ih0 _ _ _ _ _
      | exact ih1 _ _ _ _ _
      | exact ih2 _ _ _ _
      | exact ih3 _ _ _
      | exact hC _
      | refine LeO.ite ?_ ?_
      | refine LeO.bind ?_ (fun _ => ?_)
    · intro y0 y1 y2
      unfold H.j3 laws_FnFansAndCubes.j3
      repeat' first
      | (with_reducible exact ih0 _ _ _ _ _)
      | (with_reducible exact ih1 _ _ _ _ _)
      | (with_reducible exact ih2 _ _ _ _)
      | (with_reducible exact ih3 _ _ _)
      | (with_reducible exact hC _)
      | (with_reducible exact LeO.refl _)
      | (with_reducible exact LeO.none _)
      | (with_reducible refine LeO.ite ?_ ?_)
      | (with_reducible refine LeO.bind ?_ (fun _ => ?_))
      | exact ih0 _ _ _ _ _
      | exact ih1 _ _ _ _ _
      | exact ih2 _ _ _ _
      | exact ih3 _ _ _
      | exact hC _
      | refine LeO.ite ?_ ?_
      | refine LeO.bind ?_ (fun _ => ?_)
def H.f (C : Nat → Option (Bool)) (k : Nat) (bt273 : Int × Int) : Option (Bool) := ((impl_CountFans.f k bt273.1 bt273.2).bind fun bt275 => ((spec_CountFans.f k bt273.1 bt273.2).bind fun bt277 => (if (bt275.2 != bt277.2) = true then (H.j0 C k bt273.1 bt273.2 bt275.1 bt275.2 true) else (if bt275.1 = bt277.1 then (if bt275.2 = true then (if bt273.2 = 0 then (if bt275.1 = 1 then (if bt273.1 ≤ 1 then (H.j0 C k bt273.1 bt273.2 bt275.1 bt275.2 (bt275.1 != 1)) else (H.j0 C k bt273.1 bt273.2 bt275.1 bt275.2 false)) else (H.j0 C k bt273.1 bt273.2 bt275.1 bt275.2 true)) else (if bt273.1 ≤ 1 then (H.j0 C k bt273.1 bt273.2 bt275.1 bt275.2 (bt275.1 != 1)) else (H.j0 C k bt273.1 bt273.2 bt275.1 bt275.2 false))) else (H.j0 C k bt273.1 bt273.2 bt275.1 bt275.2 false)) else (H.j0 C k bt273.1 bt273.2 bt275.1 bt275.2 true)))))
theorem H.start (l0 l1 : List Int) (C : Nat → Option (Bool)) (hC : ∀ k, LeO (C k) (laws_FnFansAndCubes.j4 k l1)) (k : Nat) (bt : Int × Int) (hd : spec_DrawCountFans.f l0 = some bt) (hg : laws_big.f l0 l1 = some false) : LeO (H.f C k bt) (laws_FnFansAndCubes.f k l0 l1) := by
  unfold laws_FnFansAndCubes.f H.f
  rw [hg, Option.bind_some, if_neg (by decide), hd, Option.bind_some]
  obtain ⟨ih0, ih1, ih2, ih3⟩ := H.link l1 C hC k
  repeat' first
    | (with_reducible exact ih0 _ _ _ _ _)
    | (with_reducible exact ih1 _ _ _ _ _)
    | (with_reducible exact ih2 _ _ _ _)
    | (with_reducible exact ih3 _ _ _)
    | (with_reducible exact hC _)
    | (with_reducible exact LeO.refl _)
    | (with_reducible exact LeO.none _)
    | (with_reducible refine LeO.ite ?_ ?_)
    | (with_reducible refine LeO.bind ?_ (fun _ => ?_))
    | exact ih0 _ _ _ _ _
    | exact ih1 _ _ _ _ _
    | exact ih2 _ _ _ _
    | exact ih3 _ _ _
    | exact hC _
    | refine LeO.ite ?_ ?_
    | refine LeO.bind ?_ (fun _ => ?_)
def S.f (k : Nat) (bt289 : Int × Int × Int) : Option (Bool) := ((impl_CountCubes.f k bt289.1 bt289.2.1 bt289.2.2).bind fun bt292 => ((spec_CountCubes.f k bt289.1 bt289.2.1 bt289.2.2).bind fun bt294 => (if (bt292.2 != bt294.2) = true then (laws_FnFansAndCubes.j5 k bt289.1 bt289.2.1 bt289.2.2 bt292.1 bt292.2 true) else (laws_FnFansAndCubes.j5 k bt289.1 bt289.2.1 bt289.2.2 bt292.1 bt292.2 (bt292.1 != bt294.1)))))
theorem S.start (l1 : List Int) (k : Nat) (bt : Int × Int × Int) (hd : spec_DrawCountCubes.f l1 = some bt) : laws_FnFansAndCubes.j4 (k + 1) l1 = S.f k bt := by
  rw [laws_FnFansAndCubes.j4.eq_2, hd, Option.bind_some]; rfl
theorem S.up (l1 : List Int) (n : Nat) (r : Bool) (h : laws_FnFansAndCubes.j4 n l1 = some r) : ∀ d, laws_FnFansAndCubes.j4 (n + d) l1 = some r
  | 0 => h
  | d + 1 => by have h_ := laws_FnFansAndCubes.mono_l (n + d); exact h_.2.2.2.2.1 _ _ (S.up l1 n r h d)
/-- What the second half is known to answer: from n rounds on, yes. -/
def Cn (n k : Nat) : Option (Bool) := if n ≤ k then some true else none
theorem Cn.ok (l1 : List Int) (n : Nat) (h : laws_FnFansAndCubes.j4 n l1 = some true) : ∀ k, LeO (Cn n k) (laws_FnFansAndCubes.j4 k l1) := by
  intro k; unfold Cn; split
  · rename_i hk; obtain ⟨d, rfl⟩ := Nat.le.dest hk; rw [S.up l1 n true h d]; exact LeO.refl _
  · exact LeO.none _

def F1 : List Int := [0, 1, 2, 3, 4, 5, 8, 9, (-1)]
def F2 : List Int := [0, 1, 2, 3, 4, 5, (-1)]
def C1 : List Int := [0, 1, 2, 3, 4, 5]
def C2 : List Int := [0, 1, 2, 3, 4, (-1)]
def C3 : List Int := [0, 1, 2, 3, 4, 2]
theorem draw1 (l : List Int) (hl : l.length ≤ 1048576) (hb : ∀ x ∈ l, (Lit.int .u8 x).wf = true) :
    ∃ x y : Int, x ∈ F1 ∧ y ∈ F2 ∧ spec_DrawCountFans.f l = some (x, y) := by
  unfold spec_DrawCountFans.f
  obtain ⟨x, i1, s1, g1, m1, h1⟩ := among_run l hl hb 0 (by omega) 0 F1 (by decide) (by decide)
  show ∃ x y : Int, x ∈ F1 ∧ y ∈ F2 ∧ ((spec_l1Cur_among.f l ((0 : Nat) : Int) 0 F1).bind _) = _
  rw [h1, Option.bind_some]
  obtain ⟨y, i2, s2, g2, m2, h2⟩ := among_run l hl hb i1 (by omega) s1 F2 (by decide) (by decide)
  show ∃ x y : Int, x ∈ F1 ∧ y ∈ F2 ∧ ((spec_l1Cur_among.f l (i1 : Int) s1 F2).bind _) = _
  rw [h2, Option.bind_some]
  exact ⟨x, y, m1, m2, rfl⟩
theorem draw2 (l : List Int) (hl : l.length ≤ 1048576) (hb : ∀ x ∈ l, (Lit.int .u8 x).wf = true) :
    ∃ x y z : Int, x ∈ C1 ∧ y ∈ C2 ∧ z ∈ C3 ∧ spec_DrawCountCubes.f l = some (x, y, z) := by
  unfold spec_DrawCountCubes.f
  obtain ⟨x, i1, s1, g1, m1, h1⟩ := among_run l hl hb 0 (by omega) 0 C1 (by decide) (by decide)
  show ∃ x y z : Int, x ∈ C1 ∧ y ∈ C2 ∧ z ∈ C3 ∧ ((spec_l1Cur_among.f l ((0 : Nat) : Int) 0 C1).bind _) = _
  rw [h1, Option.bind_some]
  obtain ⟨y, i2, s2, g2, m2, h2⟩ := among_run l hl hb i1 (by omega) s1 C2 (by decide) (by decide)
  show ∃ x y z : Int, x ∈ C1 ∧ y ∈ C2 ∧ z ∈ C3 ∧ ((spec_l1Cur_among.f l (i1 : Int) s1 C2).bind _) = _
  rw [h2, Option.bind_some]
  obtain ⟨z, i3, s3, g3, m3, h3⟩ := among_run l hl hb i2 (by omega) s2 C3 (by decide) (by decide)
  show ∃ x y z : Int, x ∈ C1 ∧ y ∈ C2 ∧ z ∈ C3 ∧ ((spec_l1Cur_among.f l (i2 : Int) s2 C3).bind _) = _
  rw [h3, Option.bind_some]
  exact ⟨x, y, z, m1, m2, m3, rfl⟩
set_option maxRecDepth 100000 in
theorem tabS : C1.all (fun x => C2.all fun y => C3.all fun z => S.f 149 (x, y, z) == some true) = true := by decide +kernel
set_option maxRecDepth 100000 in
theorem tabH : F1.all (fun x => F2.all fun y => H.f (Cn 150) 160 (x, y) == some true) = true := by decide +kernel
theorem FnFansAndCubes : laws_FnFansAndCubes.Pure := by
  intro l0 l1 a1 a2 hb0 b1 b2 hb1
  refine ⟨160, ?_⟩
  rcases big_no l0 l1 a1 b1 with g | ⟨g, g0, g1⟩
  · unfold laws_FnFansAndCubes.f; rw [g, Option.bind_some, if_pos rfl]
  · obtain ⟨x, y, z, mx, my, mz, e2⟩ := draw2 l1 g1 hb1
    have s : laws_FnFansAndCubes.j4 150 l1 = some true := by
      rw [S.start l1 149 _ e2]
      exact eq_of_beq (all_of (all_of (all_of tabS mx) my) mz)
    obtain ⟨u, v, mu, mv, e1⟩ := draw1 l0 g0 hb0
    exact H.start l0 l1 (Cn 150) (Cn.ok l1 150 s) 160 _ e1 g _ (eq_of_beq (all_of (all_of tabH mu) mv))
end Go.Proofs.Ytpkghkohjnagjaa.Pure
