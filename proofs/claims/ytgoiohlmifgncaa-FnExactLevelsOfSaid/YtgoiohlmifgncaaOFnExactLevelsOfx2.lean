/- The functions that 'FnExactLevelsOf' runs, each as a function over numbers and lists, with the proof that the Go text comes to its answers. No condition. -/
import Derived.Test.YtgoiohlmifgncaaOFnExactLevelsOfx0
namespace Go.Proofs.Ytgoiohlmifgncaa.OFnExactLevelsOf
open Go.Proofs.Ytgoiohlmifgncaa.Stub
open Go.RowKit Go.Proofs.YtgoiohlmifgncaaW.PrintWords Go.Proofs.YtgoiohlmifgncaaW.PrintLast Go.Proofs.YtgoiohlmifgncaaW.PrintMore
attribute [local go_sem] max2_int min2_int max_two min_two max_three min_three max_four min_four   -- for this text's walks alone
set_option linter.unusedVariables false
set_option linter.unusedSimpArgs false

/-! ### spec_kiMoments: function 13 -/
theorem y1a2 {α : Type} (l : List α) (i : Nat) (a : α) : l.toArray.setIfInBounds i a = (l.set i a).toArray := List.setIfInBounds_toArray l i a
theorem y2a2 {α : Type} {x : α} {xs : List α} {b : α} : (x :: xs).set 0 b = b :: xs := List.set_cons_zero
theorem y3a2 {α : Type} {x : α} {xs : List α} {n : Nat} {b : α} : (x :: xs).set (n + 1) b = x :: xs.set n b := List.set_cons_succ
theorem Aa2q {p : Prop} (h : p) : Aside0 p := Aside0.mk h
theorem Za21 {p : Prop} (h : p := by repeat (first | (with_reducible first | exact HB.out | apply below_alloc | apply pw_below_drewN | apply below_drew1 | refine below_set ?_ GE105.out) | exact HB.out)) : p := h
theorem Za22 {p : Prop} (h : p := by have h_ := Kd.R_ne HO_8.out BK105.out (by decide); intro e_; exact h_ (by rw [e_]; rfl)) : p := h
theorem Za23 {p : Prop} (h : p := by first | (with_reducible assumption) | assumption) : p := h
theorem Za24 {p : Prop} (h : p := by kernel_rfl) : p := h
mutual
def spec_kiMoments.l0 : Nat → Int → Int → List Int → List Int → List Int → List Int → Option (List Int)
  | 0, _, _, _, _, _, _ => none
  | k + 1, x1, x5, x6, x7, x106000, x106001 => if (x7.length : Int) < x1 then (if 0 ≤ (wrap64 (x5 + 1)) then (if (wrap64 (x5 + 1) : Int).toNat ≤ 35184372088832 then (spec_kiMoments.l1 k x1 x5 x6 x7 (List.replicate (wrap64 (x5 + 1) : Int).toNat 0) 0 x106000 x106001) else (none)) else (none)) else (some x7)
def spec_kiMoments.l1 : Nat → Int → Int → List Int → List Int → List Int → Int → List Int → List Int → Option (List Int)
  | 0, _, _, _, _, _, _, _, _ => none
  | k + 1, x1, x5, x6, x7, x8, x9, x106000, x106001 => if x9 < x5 then (if 0 ≤ x9 then (if x9 < (x8.length : Int) then (if x9 < (x106000.length : Int) then (if x9 < (x6.length : Int) then ((some (x8.set (x9 : Int).toNat (wrap64 ((rd x8 x9) + (wrap64 ((rd x106000 x9) * (rd x6 x9))))) : List Int)).bind fun y119 => (if 0 ≤ (wrap64 (x9 + 1)) then (if (wrap64 (x9 + 1)) < (x8.length : Int) then ((some (y119.set ((wrap64 (x9 + 1)) : Int).toNat (wrap64 ((rd y119 (wrap64 (x9 + 1))) + (rd x6 x9))) : List Int)).bind fun y122 => (if x9 > 0 then (if 0 ≤ (wrap64 (x9 - 1)) then (if (wrap64 (x9 - 1)) < (x8.length : Int) then (if (wrap64 (x9 - 1)) < (x106001.length : Int) then (spec_kiMoments.l1 k x1 x5 x6 x7 (y122.set ((wrap64 (x9 - 1)) : Int).toNat (wrap64 ((rd y122 (wrap64 (x9 - 1))) + (wrap64 ((rd x106001 (wrap64 (x9 - 1))) * (rd x6 x9)))))) (wrap64 (x9 + 1)) x106000 x106001) else (none)) else (none)) else (none)) else (spec_kiMoments.l1 k x1 x5 x6 x7 y122 (wrap64 (x9 + 1)) x106000 x106001))) else (none)) else (none))) else (none)) else (none)) else (none)) else (none)) else (if 0 ≤ (wrap64 (x5 - 1)) then (if (wrap64 (x5 - 1)) < (x8.length : Int) then (if (wrap64 (x5 - 1)) < (x106001.length : Int) then (if 0 ≤ x5 then (if x5 < (x6.length : Int) then ((some (x8.set ((wrap64 (x5 - 1)) : Int).toNat (wrap64 ((rd x8 (wrap64 (x5 - 1))) + (wrap64 ((rd x106001 (wrap64 (x5 - 1))) * (rd x6 x5))))) : List Int)).bind fun y130 => (if 0 < (x8.length : Int) then (if x7.length < 17592186044416 then (spec_kiMoments.l0 k x1 x5 y130 (x7 ++ [rd y130 0]) x106000 x106001) else (none)) else (none))) else (none)) else (none)) else (none)) else (none)) else (none))
end
def spec_kiMoments.f (k : Nat) (l0_0 : List Int) (l0_1 : List Int) (a1 : Int) : Option (List Int) := if 0 ≤ (wrap64 ((l0_0.length : Int) + 1)) then (if (wrap64 ((l0_0.length : Int) + 1) : Int).toNat ≤ 35184372088832 then ((some (List.replicate (wrap64 ((l0_0.length : Int) + 1) : Int).toNat 0 : List Int)).bind fun y106 => (if 0 < (y106.length : Int) then (spec_kiMoments.l0 k a1 (l0_0.length : Int) (y106.set (0 : Int).toNat 1) (([1] : List Int)) l0_0 l0_1) else (none))) else (none)) else (none)
theorem spec_kiMoments.mono_l : ∀ k, (∀ y0 y1 y2 y3 y4 y5, LeO (spec_kiMoments.l0 k y0 y1 y2 y3 y4 y5) (spec_kiMoments.l0 (k + 1) y0 y1 y2 y3 y4 y5)) ∧ (∀ y0 y1 y2 y3 y4 y5 y6 y7, LeO (spec_kiMoments.l1 k y0 y1 y2 y3 y4 y5 y6 y7) (spec_kiMoments.l1 (k + 1) y0 y1 y2 y3 y4 y5 y6 y7))
  | 0 => ⟨fun _ _ _ _ _ _ r h => by simp [spec_kiMoments.l0] at h, fun _ _ _ _ _ _ _ _ r h => by simp [spec_kiMoments.l1] at h⟩
  | k + 1 => by
    obtain ⟨ih0, ih1⟩ := spec_kiMoments.mono_l k
    refine ⟨?_, ?_⟩
    · intro y0 y1 y2 y3 y4 y5
      unfold spec_kiMoments.l0
      repeat' first
      | (with_reducible exact ih0 _ _ _ _ _ _)
      | (with_reducible exact ih1 _ _ _ _ _ _ _ _)
      | (with_reducible exact LeO.refl _)
      | (with_reducible exact LeO.none _)
      | (with_reducible refine LeO.ite ?_ ?_)
      | (with_reducible refine LeO.bind ?_ (fun _ => ?_))
      | exact ih0 _ _ _ _ _ _
      | exact ih1 _ _ _ _ _ _ _ _
      | exact LeO.none _
      | refine LeO.ite ?_ ?_
      | refine LeO.bind ?_ (fun _ => ?_)
    · intro y0 y1 y2 y3 y4 y5 y6 y7
      unfold spec_kiMoments.l1
      repeat' first
      | (with_reducible exact ih0 _ _ _ _ _ _)
      | (with_reducible exact ih1 _ _ _ _ _ _ _ _)
      | (with_reducible exact LeO.refl _)
      | (with_reducible exact LeO.none _)
      | (with_reducible refine LeO.ite ?_ ?_)
      | (with_reducible refine LeO.bind ?_ (fun _ => ?_))
      | exact ih0 _ _ _ _ _ _
      | exact ih1 _ _ _ _ _ _ _ _
      | exact LeO.none _
      | refine LeO.ite ?_ ?_
      | refine LeO.bind ?_ (fun _ => ?_)
theorem spec_kiMoments.mono : ∀ a0 a1 a2 k, LeO (spec_kiMoments.f k a0 a1 a2) (spec_kiMoments.f (k + 1) a0 a1 a2) := by
  intro a0 a1 a2 k
  obtain ⟨ih0, ih1⟩ := spec_kiMoments.mono_l k
  unfold spec_kiMoments.f
  repeat' first
      | (with_reducible exact ih0 _ _ _ _ _ _)
      | (with_reducible exact ih1 _ _ _ _ _ _ _ _)
      | (with_reducible exact LeO.refl _)
      | (with_reducible exact LeO.none _)
      | (with_reducible refine LeO.ite ?_ ?_)
      | (with_reducible refine LeO.bind ?_ (fun _ => ?_))
      | exact ih0 _ _ _ _ _ _
      | exact ih1 _ _ _ _ _ _ _ _
      | exact LeO.none _
      | refine LeO.ite ?_ ?_
      | refine LeO.bind ?_ (fun _ => ?_)
def spec_kiMoments.T10 : Bool × List (List Nat × List Nat) := (true, [([], []), ([], []), ([0, 1], [0, 1]), ([2], [2]), ([], []), ([4], [4]), ([], []), ([5, 6], [5, 6]), ([7], [7]), ([], []), ([], []), ([9, 10], [9, 10]), ([11], [11]), ([8, 12], [8, 12]), ([3, 13], [3, 13]), ([0, 1, 0, 1, 2, 3, 4, 5, 6, 7, 8, 9, 10, 11, 12, 13, 14], [0, 1]), ([15, 14, 0, 1, 2, 3, 4, 5, 6, 7, 8, 9, 10, 11, 12, 13, 14], [14, 15])])
def spec_kiMoments.B10 : List Nat := [0, 0, 3, 7, 0, 16, 0, 112, 240, 0, 0, 1536, 3584, 8176, 16383, 32767, 65535]
theorem spec_kiMoments.tab10 : rtab .any (opsOf Try.f13 10) = spec_kiMoments.T10 := by kernel_rfl
theorem spec_kiMoments.bits10 : waitsOk spec_kiMoments.T10.2 spec_kiMoments.B10 = true := by kernel_rfl
def spec_kiMoments.T11 : Bool × List (List Nat × List Nat) := (true, [([], []), ([], []), ([1], [1]), ([0, 2], [0, 2]), ([3], [3]), ([], []), ([], []), ([5, 6], [5, 6]), ([7], [7]), ([4, 8], [4, 8]), ([0, 2, 0, 1, 2, 3, 4, 5, 6, 7, 8, 9], [0, 2]), ([10, 9, 0, 1, 2, 3, 4, 5, 6, 7, 8, 9], [9, 10])])
def spec_kiMoments.B11 : List Nat := [0, 0, 2, 7, 15, 0, 0, 96, 224, 511, 1023, 2047]
theorem spec_kiMoments.tab11 : rtab .any (opsOf Try.f13 11) = spec_kiMoments.T11 := by kernel_rfl
theorem spec_kiMoments.bits11 : waitsOk spec_kiMoments.T11.2 spec_kiMoments.B11 = true := by kernel_rfl
def spec_kiMoments.T13 : Bool × List (List Nat × List Nat) := (true, [([], []), ([], []), ([1], [1]), ([0, 2], [0, 2]), ([3], [3]), ([], []), ([5], [5]), ([], []), ([7], [7]), ([6, 8], [6, 8]), ([9], [9]), ([], []), ([], []), ([11, 12], [11, 12]), ([13], [13]), ([10, 14], [10, 14]), ([4, 15], [4, 15]), ([0, 2, 0, 1, 2, 3, 4, 5, 6, 7, 8, 9, 10, 11, 12, 13, 14, 15, 16], [0, 2]), ([17, 16, 0, 1, 2, 3, 4, 5, 6, 7, 8, 9, 10, 11, 12, 13, 14, 15, 16], [16, 17])])
def spec_kiMoments.B13 : List Nat := [0, 0, 2, 7, 15, 0, 32, 0, 128, 480, 992, 0, 0, 6144, 14336, 32736, 65535, 131071, 262143]
theorem spec_kiMoments.tab13 : rtab .any (opsOf Try.f13 13) = spec_kiMoments.T13 := by kernel_rfl
theorem spec_kiMoments.bits13 : waitsOk spec_kiMoments.T13.2 spec_kiMoments.B13 = true := by kernel_rfl
def spec_kiMoments.T14 : Bool × List (List Nat × List Nat) := (true, [([], []), ([], []), ([1], [1]), ([0, 2], [0, 2]), ([3], [3]), ([], []), ([5], [5]), ([], []), ([7], [7]), ([6, 8], [6, 8]), ([9], [9]), ([], []), ([], []), ([11, 12], [11, 12]), ([13], [13]), ([10, 14], [10, 14]), ([4, 15], [4, 15]), ([0, 2, 0, 1, 2, 3, 4, 5, 6, 7, 8, 9, 10, 11, 12, 13, 14, 15, 16], [0, 2]), ([17, 16, 0, 1, 2, 3, 4, 5, 6, 7, 8, 9, 10, 11, 12, 13, 14, 15, 16], [16, 17])])
def spec_kiMoments.B14 : List Nat := [0, 0, 2, 7, 15, 0, 32, 0, 128, 480, 992, 0, 0, 6144, 14336, 32736, 65535, 131071, 262143]
theorem spec_kiMoments.tab14 : rtab .any (opsOf Try.f13 14) = spec_kiMoments.T14 := by kernel_rfl
theorem spec_kiMoments.bits14 : waitsOk spec_kiMoments.T14.2 spec_kiMoments.B14 = true := by kernel_rfl
set_option maxHeartbeats 8000000 in
set_option maxRecDepth 100000 in
theorem spec_kiMoments.calls (k : Nat) (A0_0 : Option Addr) (c0_0 : Nat) (l0_0 : List Int) (A0_1 : Option Addr) (c0_1 : Nat) (l0_1 : List Int) (a1 : Int) (r : List Int) (w : World) (hr0_0 : Kd.C (Kd.int .i64) w A0_0 l0_0.length l0_0) (hc0_0 : l0_0.length ≤ c0_0) (hr0_1 : Kd.C (Kd.int .i64) w A0_1 l0_1.length l0_1) (hc0_1 : l0_1.length ≤ c0_1) (h : spec_kiMoments.f k l0_0 l0_1 a1 = some r) :
  Calls Try.prog 13 #[.agg #[.slice A0_0 l0_0.length c0_0, .slice A0_1 l0_1.length c0_1], .int .i64 a1] w fun e w' => ∃ v0_ : Value, e = .returned (v0_) ∧ Kd.R (Kd.int .i64) 3 w' w.heap.size (fun _ => True) v0_ r ∧ Below w.heap.size w w' := by
 have hu24 := Try.underlying24
 have HR0_0 := Aa2q hr0_0
 have HC0_0 := Aa2q hc0_0
 clear hr0_0 hc0_0
 have HR0_1 := Aa2q hr0_1
 have HC0_1 := Aa2q hc0_1
 clear hr0_1 hc0_1
 have HB := Aa2q (Below.refl w.heap.size w)
 have H : (if 0 ≤ (wrap64 ((l0_0.length : Int) + 1)) then (if (wrap64 ((l0_0.length : Int) + 1) : Int).toNat ≤ 35184372088832 then ((some (List.replicate (wrap64 ((l0_0.length : Int) + 1) : Int).toNat 0 : List Int)).bind fun y106 => (if 0 < (y106.length : Int) then (spec_kiMoments.l0 k a1 (l0_0.length : Int) (y106.set (0 : Int).toNat 1) (([1] : List Int)) l0_0 l0_1) else (none))) else (none)) else (none)) = some r := h
 clear h
 obtain ⟨ji3, hji3⟩ : ∃ j_ : Int, (wrap64 ((l0_0.length : Int) + 1)) = j_ := ⟨_, rfl⟩
 replace H : (if 0 ≤ (ji3) then (if (ji3 : Int).toNat ≤ 35184372088832 then ((some (List.replicate (ji3 : Int).toNat 0 : List Int)).bind fun y106 => (if 0 < (y106.length : Int) then (spec_kiMoments.l0 k a1 (l0_0.length : Int) (y106.set (0 : Int).toNat 1) (([1] : List Int)) l0_0 l0_1) else (none))) else (none)) else (none)) = some r := by first | (rw [hji3] at H; exact H) | (simp only [hji3] at H ⊢; exact H)
 have hji3w : (IntKind.i64.wrap ((l0_0.length : Int) + 1)) = ji3 := (i64_w _).trans hji3
 by_cases c4 : 0 ≤ (ji3)
 rotate_left
 ·
  rw [if_neg c4] at H
  exact absurd H (by simp)
 rw [if_pos c4] at H
 have c4b0 := eq_true c4
 have c4b1 : decide (0 ≤ (ji3)) = true := decide_eq_true c4
 clear c4
 by_cases c5 : (ji3 : Int).toNat ≤ 35184372088832
 rotate_left
 ·
  rw [if_neg c5] at H
  exact absurd H (by simp)
 rw [if_pos c5] at H
 have c5b0 := eq_true c5
 have c5b1 : decide ((ji3 : Int).toNat ≤ 35184372088832) = true := decide_eq_true c5
 clear c5
 obtain ⟨y106, hy106⟩ : ∃ y_ : List Int, y_ = (List.replicate (ji3 : Int).toNat 0) := ⟨_, rfl⟩
 replace H : (if 0 < (y106.length : Int) then (spec_kiMoments.l0 k a1 (l0_0.length : Int) (y106.set (0 : Int).toNat 1) (([1] : List Int)) l0_0 l0_1) else (none)) = some r := by first | (rw [hy106]; with_reducible exact H) | (have H2_ := (Option.bind_some _ _).symm.trans H; rw [hy106]; with_reducible exact H2_) | (have H2_ := (Option.bind_some _ _).symm.trans H; with_reducible exact H2_) | with_reducible exact H | (rw [hy106]; exact H) | exact H
 have Ny106 := Aa2q hy106
 clear hy106
 by_cases c6 : 0 < (y106.length : Int)
 rotate_left
 ·
  rw [if_neg c6] at H
  exact absurd H (by simp)
 rw [if_pos c6] at H
 have c6b0 : decide (0 < (y106.length : Int)) = true := decide_eq_true c6
 have c6b1 : decide (0 < y106.length) = true := decide_eq_true (by omega)
 clear c6
 obtain ⟨y109, hy109⟩ : ∃ y_ : List Int, y_ = (y106.set (0 : Int).toNat 1) := ⟨_, rfl⟩
 replace H : (spec_kiMoments.l0 k a1 (l0_0.length : Int) y109 (([1] : List Int)) l0_0 l0_1) = some r := by first | (rw [hy109]; with_reducible exact H) | (have H2_ := (Option.bind_some _ _).symm.trans H; rw [hy109]; with_reducible exact H2_) | (have H2_ := (Option.bind_some _ _).symm.trans H; with_reducible exact H2_) | with_reducible exact H | (rw [hy109]; exact H) | exact H
 have Ny109 := Aa2q hy109
 clear hy109
 obtain ⟨y110, hy110⟩ : ∃ y_ : List Int, y_ = (([1] : List Int)) := ⟨_, rfl⟩
 replace H : (spec_kiMoments.l0 k a1 (l0_0.length : Int) y109 y110 l0_0 l0_1) = some r := by first | (rw [hy110]; with_reducible exact H) | (have H2_ := (Option.bind_some _ _).symm.trans H; rw [hy110]; with_reducible exact H2_) | (have H2_ := (Option.bind_some _ _).symm.trans H; with_reducible exact H2_) | with_reducible exact H | (rw [hy110]; exact H) | exact H
 have Ny110 := Aa2q hy110
 clear hy110
 have H' := Aa2q H
 clear H
 go_enter Try.func13, Try.ntmps13
 go_wp2_with (first | ((with_reducible refine gate_dst (N := 2) rfl ?_); refine box_event ?hg (N := 2) ?hd (cs := #[.slice A0_0 l0_0.length c0_0, .slice A0_1 l0_1.length c0_1]) (t := 24) ?hr ?_; (case hd => rfl); (case hg => rfl); (case hr => first | (go_simp; done) | (go_simp; rfl)); intro g105 hg w8 hbox hb; have n0_ := Aa2q (below_step (by repeat (first | (with_reducible first | exact HB.out | apply below_alloc | apply pw_below_drewN | apply below_drew1) | exact HB.out)) hb); have n1_ := Aa2q (hbox); have n2_ := Aa2q ((by rw [hg]; exact (below_size (by repeat (first | (with_reducible first | exact HB.out | apply below_alloc | apply pw_below_drewN | apply below_drew1) | exact HB.out))) : w.heap.size ≤ g105)); have n3_ := Aa2q ((by rw [hg]; exact (below_size (by repeat (first | (with_reducible first | exact HB.out | apply below_alloc | apply pw_below_drewN | apply below_drew1) | exact HB.out))) : w.heap.size ≤ g105)); clear HB; have HB := n0_; have BK105 := n1_; have GW105 := n2_; have GE105 := n3_; clear n0_ n1_ n2_ n3_; clear hb hbox hg; have hcz9_0 : w8.cell? ⟨g105, 0, none⟩ = some (.slice A0_0 l0_0.length c0_0) := (blk_cell BK105.out 0).trans rfl; have hcz9_1 : w8.cell? ⟨g105, 1, none⟩ = some (.slice A0_1 l0_1.length c0_1) := (blk_cell BK105.out 1).trans rfl; have hfz9_0 := blk_frozen BK105.out 0; have hfz9_1 := blk_frozen BK105.out 1) | ((with_reducible refine gate_dst (N := 15) rfl ?_); refine Kd.R_make (Kd.int .i64) _ 3 rfl (N := 15) rfl 22 _ _ rfl ji3 rfl rfl Try.underlying22 (.int .i64 0) 8 info3 rfl (by decide) (by omega) 0 (ok := fun _ => True) (okp := fun _ => True) rfl (fun _ hk => hk) trivial (of_decide_eq_true Za23) (Nat.le_trans (Nat.mul_le_mul_right _ (of_decide_eq_true Za23 : ji3.toNat ≤ 35184372088832)) (by omega)) (Below.refl _ _) (Nat.le_refl _) ?_; intro v107 w10 ho11 hb hg_ hnew_; clear hg_ hnew_; (first | rw [← Ny106.out] at ho11 | (simp only [Int.reduceToNat] at ho11; rw [← Ny106.out] at ho11)); have n0_ := Aa2q (Kd.R_lower ho11 (below_size Za21)); have n1_ := Aa2q (blk_below (g := g105) (o := .cells #[.slice A0_0 l0_0.length c0_0, .slice A0_1 l0_1.length c0_1] 24 (0, 0)) (by (with_reducible repeat (first | refine blk_drewN ?_ _ | refine blk_drew ?_ | refine blk_alloc ?_ _)); exact BK105.out) hb); have n2_ := Aa2q (below_step Za21 hb); clear BK105; clear HB; have HO108 := n0_; have BK105 := n1_; have HB := n2_; clear n0_ n1_ n2_; clear hb ho11; have p7 : 0 ≤ (0 : Int) := (by omega); have q7 : (0 : Int) < ((y106.length : Int) : Int) := of_decide_eq_true Za23; have qi7 : (0 < y106.length) = True := eq_true (by omega); obtain ⟨go7, co7, eo7, g7, gl7, cl7, HG7⟩ := Kd.R_form HO108.out (by omega); (first | cases eo7 | (injection eo7 with ea_ en_ ec_; (first | subst ea_ | (injection ea_ with ea_; subst ea_)); subst ec_; clear en_)); have GB7 := Aa2q g7; have GG7 := Aa2q HG7; clear g7 gl7 HG7; obtain ⟨hx7_0, hf7_0⟩ := Kd.R_celln 0 HO108.out (0 : Int) p7 q7; (try rw [show ((0 : Int)).toNat = 0 from rfl] at hx7_0); (try simp only [Nat.reduceMul, Nat.zero_mul, Nat.zero_add, Nat.reduceAdd] at hx7_0); (try rw [show ((0 : Int)).toNat = 0 from rfl] at hf7_0); (try simp only [Nat.reduceMul, Nat.zero_mul, Nat.zero_add, Nat.reduceAdd] at hf7_0); replace p7 := eq_true p7; replace q7 := eq_true q7; obtain ⟨hy12_, hz12_⟩ := Kd.R_celln 0 HO108.out (0 : Int) (by omega) (of_decide_eq_true Za23); (try simp only [Int.reduceToNat, Int.toNat_zero, Int.toNat_ofNat, Nat.reduceMul, Nat.zero_mul, Nat.zero_add] at hy12_ hz12_); (try rw [show ((0 : Int)).toNat = 0 from rfl] at hy12_); (try rw [show ((0 : Int)).toNat = 0 from rfl] at hz12_); have HP12 := Kd.R_putg HO108.out (0 : Int) 1) | ((with_reducible refine gate_store (t := 3) (p := 17) rfl ?_); refine store_event (t := 3) (p := 17) (v := ?vo_w13) (w1 := (w10.setCell ⟨go7, (0 : Int).toNat, none⟩ (.int .i64 1))) ?hg ?ho ?hn ?hr ?_; (case ho => rfl); (case hg => rfl); (case hn => rfl); (case hr => first | (go_simp; done) | (go_simp; rfl)); intro w13 hw; have hg : w10.grownBy w13 (some go7) := (by rw [hw]; exact HP12.2); have hp_ : Kd.R (Kd.int .i64) 3 w13 w.heap.size (fun _ => True) (.slice (some ⟨go7, 0, none⟩) y106.length co7) y109 := (by rw [hw, Ny109.out]; exact HP12.1); clear HP12; have n0_ := Aa2q (blk_grown (g := g105) (o := .cells #[.slice A0_0 l0_0.length c0_0, .slice A0_1 l0_1.length c0_1] 24 (0, 0)) (by (with_reducible repeat (first | refine blk_drewN ?_ _ | refine blk_drew ?_ | refine blk_alloc ?_ _)); exact BK105.out) hg (Kd.R_ne HO108.out BK105.out (by decide))); have n1_ := Aa2q (hp_); have n2_ := Aa2q ((by rw [hw]; exact below_set (HB.out) GB7.out : Below w.heap.size w w13)); clear BK105; clear HO108; clear HB; have BK105 := n0_; have HO108 := n1_; have HB := n2_; clear n0_ n1_ n2_; clear hg hw hp_) | ((with_reducible refine gate_dst (N := 18) rfl ?_); refine Kd.R_lit (Kd.int .i64) _ 3 ?hg (N := 18) ?hd (xs := ([1] : List Int)) (inner := [.int .i64 1]) (ok := fun _ => True) (okp := fun _ => True) ?hr ?hp (fun _ hk => hk) trivial (Below.refl _ _) (Nat.le_refl _) (by simp) ?_; (case hd => rfl); (case hg => rfl); (case hr => first | (go_simp; done) | (go_simp; rfl)); (case hp => exact (Reps.one (show Kd.M (Kd.int .i64) _ _ _ 1 [.int .i64 1] from rfl) (Reps.none _ _))); intro v111 w14 ho15 hb hg_ hnew_; clear hg_ hnew_; (first | rw [← Ny110.out] at ho15 | (simp only [Int.reduceToNat] at ho15; rw [← Ny110.out] at ho15)); have n0_ := Aa2q (Kd.R_elder' (by (with_reducible repeat (first | apply Kd.R_alloc | apply Kd.R_drewN | apply Kd.R_drew)); exact HO108.out) (Kd.R_base ho15) hb); have n1_ := Aa2q (Kd.R_lower (Kd.R_new' ho15 (Kd.R_lt (by (with_reducible repeat (first | apply Kd.R_alloc | apply Kd.R_drewN | apply Kd.R_drew)); exact HO108.out))) (below_size Za21)); have n2_ := Aa2q (blk_below (g := g105) (o := .cells #[.slice A0_0 l0_0.length c0_0, .slice A0_1 l0_1.length c0_1] 24 (0, 0)) (by (with_reducible repeat (first | refine blk_drewN ?_ _ | refine blk_drew ?_ | refine blk_alloc ?_ _)); exact BK105.out) hb); have n3_ := Aa2q (below_step Za21 hb); clear HO108; clear BK105; clear HB; have HO108 := n0_; have HO112 := n1_; have BK105 := n2_; have HB := n3_; clear n0_ n1_ n2_ n3_; clear hb ho15))
 go_loopg [6, 7] k (fun kq v6 v7 w' => ∃ (x6_1 : List Int) (x7_1 : List Int), Aside0 (spec_kiMoments.l0 kq a1 (l0_0.length : Int) x6_1 x7_1 l0_0 l0_1 = some r) ∧ Aside0 (kq ≤ k) ∧ Aside0 (Kd.R (Kd.int .i64) 3 w' w.heap.size (fun k_ => some k_ ≠ (v7 : Value).ownBlock) v6 x6_1) ∧ Aside0 (Kd.R (Kd.int .i64) 3 w' w.heap.size (fun k_ => some k_ ≠ (v6 : Value).ownBlock) v7 x7_1) ∧ Aside0 (w'.heap[g105]? = some (.cells #[(.slice A0_0 l0_0.length c0_0), (.slice A0_1 l0_1.length c0_1)] 24 (0, 0))) ∧ Aside0 (Below w.heap.size w w'))
 case atStart => exact ⟨(y109), (y110), H', ⟨Nat.le_refl _⟩, ⟨by (with_reducible repeat (first | apply Kd.R_alloc | apply Kd.R_drewN | apply Kd.R_drew)); exact Kd.R_mono HO108.out (fun _ hk => hk.2)⟩, ⟨by (with_reducible repeat (first | apply Kd.R_alloc | apply Kd.R_drewN | apply Kd.R_drew)); exact Kd.R_mono HO112.out (fun _ hk => hk.2)⟩, ⟨by (with_reducible repeat (first | refine blk_drewN ?_ _ | refine blk_drew ?_ | refine blk_alloc ?_ _)); exact BK105.out⟩, ⟨by repeat (first | (with_reducible first | exact HB.out | apply below_alloc | apply pw_below_drewN | apply below_drew1 | refine below_set ?_ GE105.out) | exact HB.out)⟩⟩
 clear H'
 try clear c1
 try clear p2
 try clear c4
 try clear c4b0
 try clear c4b1
 try clear c5
 try clear c5b0
 try clear c5b1
 try clear c6
 try clear c6b0
 try clear c6b1
 try clear p6
 try clear p7
 try clear q7
 try clear hx7
 try clear qi7
 try clear hf7
 try clear c13
 try clear hcz9_0
 try clear hcz9_1
 try clear hfz9_0
 try clear hfz9_1
 try clear hx7_0
 try clear p7
 try clear q7
 obtain ⟨x6_1, x7_1, HA, HK1, HO_6, HO_7, BK105, HB⟩ := hrel
 obtain _ | k1 := gk
 · exact absurd HA.out (by simp [spec_kiMoments.l0])
 have H := HA.out
 clear HA
 simp only [spec_kiMoments.l0] at H
 by_cases c16 : (x7_1.length : Int) < a1
 rotate_left
 ·
  rw [if_neg c16] at H
  have c16b0 : decide ((x7_1.length : Int) < a1) = false := decide_eq_false c16
  clear c16
  obtain rfl := Option.some.inj H
  obtain ⟨Ao70, co70, eo70⟩ := Kd.R_slice HO_7.out
  subst eo70
  go_wp2
  go_ret
  exact ⟨_, by first | rfl | (simp [errW_none, errW_some] <;> rfl) | (simp only [← hji3]; first | rfl | (simp [errW_none, errW_some] <;> rfl)) | (simp [*, errW_none, errW_some] <;> rfl), by (with_reducible repeat (first | apply Kd.R_alloc | apply Kd.R_drewN | apply Kd.R_drew)); exact Kd.R_mono HO_7.out (fun _ hk => trivial), by repeat (first | (with_reducible first | exact HB.out | apply below_alloc | apply pw_below_drewN | apply below_drew1 | refine below_set ?_ GE105.out) | exact HB.out)⟩
 rw [if_pos c16] at H
 have c16b0 : decide ((x7_1.length : Int) < a1) = true := decide_eq_true c16
 clear c16
 try clear hji3w
 try clear hji3
 obtain ⟨ji17, hji17⟩ : ∃ j_ : Int, (wrap64 ((l0_0.length : Int) + 1)) = j_ := ⟨_, rfl⟩
 replace H : (if 0 ≤ (ji17) then (if (ji17 : Int).toNat ≤ 35184372088832 then (spec_kiMoments.l1 k1 a1 (l0_0.length : Int) x6_1 x7_1 (List.replicate (ji17 : Int).toNat 0) 0 l0_0 l0_1) else (none)) else (none)) = some r := by first | (rw [hji17] at H; exact H) | (simp only [hji17] at H ⊢; exact H)
 have hji17w : (IntKind.i64.wrap ((l0_0.length : Int) + 1)) = ji17 := (i64_w _).trans hji17
 by_cases c18 : 0 ≤ (ji17)
 rotate_left
 ·
  rw [if_neg c18] at H
  exact absurd H (by simp)
 rw [if_pos c18] at H
 have c18b0 := eq_true c18
 have c18b1 : decide (0 ≤ (ji17)) = true := decide_eq_true c18
 clear c18
 by_cases c19 : (ji17 : Int).toNat ≤ 35184372088832
 rotate_left
 ·
  rw [if_neg c19] at H
  exact absurd H (by simp)
 rw [if_pos c19] at H
 have c19b0 := eq_true c19
 have c19b1 : decide ((ji17 : Int).toNat ≤ 35184372088832) = true := decide_eq_true c19
 clear c19
 obtain ⟨y113, hy113⟩ : ∃ y_ : List Int, y_ = (List.replicate (ji17 : Int).toNat 0) := ⟨_, rfl⟩
 replace H : (spec_kiMoments.l1 k1 a1 (l0_0.length : Int) x6_1 x7_1 y113 0 l0_0 l0_1) = some r := by first | (rw [hy113]; with_reducible exact H) | (have H2_ := (Option.bind_some _ _).symm.trans H; rw [hy113]; with_reducible exact H2_) | (have H2_ := (Option.bind_some _ _).symm.trans H; with_reducible exact H2_) | with_reducible exact H | (rw [hy113]; exact H) | exact H
 have Ny113 := Aa2q hy113
 clear hy113
 have H' := Aa2q H
 clear H
 obtain ⟨Ao20, co20, eo20⟩ := Kd.R_slice HO_7.out
 subst eo20
 go_wp2_with (first | ((with_reducible refine gate_dst (N := 25) rfl ?_); refine Kd.R_make (Kd.int .i64) _ 3 rfl (N := 25) rfl 22 _ _ rfl ji17 rfl rfl Try.underlying22 (.int .i64 0) 8 info3 rfl (by decide) (by omega) 0 (ok := fun _ => True) (okp := fun _ => True) rfl (fun _ hk => hk) trivial (of_decide_eq_true Za23) (Nat.le_trans (Nat.mul_le_mul_right _ (of_decide_eq_true Za23 : ji17.toNat ≤ 35184372088832)) (by omega)) (Below.refl _ _) (Nat.le_refl _) ?_; intro v114 w21 ho22 hb hg_ hnew_; clear hg_ hnew_; (first | rw [← Ny113.out] at ho22 | (simp only [Int.reduceToNat] at ho22; rw [← Ny113.out] at ho22)); have n0_ := Aa2q (Kd.R_elder' (by (with_reducible repeat (first | apply Kd.R_alloc | apply Kd.R_drewN | apply Kd.R_drew)); exact HO_6.out) (Kd.R_base ho22) hb); have n1_ := Aa2q (Kd.R_elder' (by (with_reducible repeat (first | apply Kd.R_alloc | apply Kd.R_drewN | apply Kd.R_drew)); exact HO_7.out) (Kd.R_base ho22) hb); have n2_ := Aa2q (Kd.R_lower (Kd.R_new' (Kd.R_new' ho22 (Kd.R_lt (by (with_reducible repeat (first | apply Kd.R_alloc | apply Kd.R_drewN | apply Kd.R_drew)); exact HO_6.out))) (Kd.R_lt (by (with_reducible repeat (first | apply Kd.R_alloc | apply Kd.R_drewN | apply Kd.R_drew)); exact HO_7.out))) (below_size Za21)); have n3_ := Aa2q (blk_below (g := g105) (o := .cells #[.slice A0_0 l0_0.length c0_0, .slice A0_1 l0_1.length c0_1] 24 (0, 0)) (by (with_reducible repeat (first | refine blk_drewN ?_ _ | refine blk_drew ?_ | refine blk_alloc ?_ _)); exact BK105.out) hb); have n4_ := Aa2q (below_step Za21 hb); clear HO_6; clear HO_7; clear BK105; clear HB; have HO_6 := n0_; have HO_7 := n1_; have HO115 := n2_; have BK105 := n3_; have HB := n4_; clear n0_ n1_ n2_ n3_ n4_; clear hb ho22))
 go_loopg [9] k1 (fun kq v9 w' => ∃ (x8_2 : List Int) (x9_2 : Int), v9 = .int .i64 x9_2 ∧ Aside0 (spec_kiMoments.l1 kq a1 (l0_0.length : Int) x6_1 x7_1 x8_2 x9_2 l0_0 l0_1 = some r) ∧ Aside0 (kq ≤ k1) ∧ Aside0 (Kd.R (Kd.int .i64) 3 w' w.heap.size (fun k_ => some k_ ≠ ((.slice Ao20 x7_1.length co20) : Value).ownBlock ∧ some k_ ≠ (v114 : Value).ownBlock) u6 x6_1) ∧ Aside0 (Kd.R (Kd.int .i64) 3 w' w.heap.size (fun k_ => some k_ ≠ (u6 : Value).ownBlock ∧ some k_ ≠ (v114 : Value).ownBlock) (.slice Ao20 x7_1.length co20) x7_1) ∧ Aside0 (Kd.R (Kd.int .i64) 3 w' w.heap.size (fun k_ => some k_ ≠ (u6 : Value).ownBlock ∧ some k_ ≠ ((.slice Ao20 x7_1.length co20) : Value).ownBlock) v114 x8_2) ∧ Aside0 (w'.heap[g105]? = some (.cells #[(.slice A0_0 l0_0.length c0_0), (.slice A0_1 l0_1.length c0_1)] 24 (0, 0))) ∧ Aside0 (Below w.heap.size w w'))
 case atStart => exact ⟨(y113), (0), (by first | rfl | (simp; done) | (simp [*]; done) | (simp only [i64_w]; done)), H', ⟨Nat.le_refl _⟩, ⟨by (with_reducible repeat (first | apply Kd.R_alloc | apply Kd.R_drewN | apply Kd.R_drew)); exact HO_6.out⟩, ⟨by (with_reducible repeat (first | apply Kd.R_alloc | apply Kd.R_drewN | apply Kd.R_drew)); exact HO_7.out⟩, ⟨by (with_reducible repeat (first | apply Kd.R_alloc | apply Kd.R_drewN | apply Kd.R_drew)); exact Kd.R_mono HO115.out (fun _ hk => ⟨hk.1.2, hk.2⟩)⟩, ⟨by (with_reducible repeat (first | refine blk_drewN ?_ _ | refine blk_drew ?_ | refine blk_alloc ?_ _)); exact BK105.out⟩, ⟨by repeat (first | (with_reducible first | exact HB.out | apply below_alloc | apply pw_below_drewN | apply below_drew1 | refine below_set ?_ GE105.out) | exact HB.out)⟩⟩
 clear H'
 try clear c1
 try clear p2
 try clear c4
 try clear c4b0
 try clear c4b1
 try clear c5
 try clear c5b0
 try clear c5b1
 try clear c6
 try clear c6b0
 try clear c6b1
 try clear p6
 try clear p7
 try clear q7
 try clear hx7
 try clear qi7
 try clear hf7
 try clear c13
 try clear c16
 try clear c16b0
 try clear c18
 try clear c18b0
 try clear c18b1
 try clear c19
 try clear c19b0
 try clear c19b1
 try clear hcz9_0
 try clear hcz9_1
 try clear hfz9_0
 try clear hfz9_1
 try clear hx7_0
 try clear p2
 try clear p6
 try clear p7
 try clear q7
 obtain ⟨x8_2, x9_2, rfl, HA, HK2, HO_6, HO_7, HO_8, BK105, HB⟩ := hrel
 obtain _ | k2 := gk
 · exact absurd HA.out (by simp [spec_kiMoments.l1])
 have H := HA.out
 clear HA
 simp only [spec_kiMoments.l1] at H
 by_cases c23 : x9_2 < (l0_0.length : Int)
 rotate_left
 ·
  rw [if_neg c23] at H
  have c23b0 : decide (x9_2 < (l0_0.length : Int)) = false := decide_eq_false c23
  clear c23
  obtain ⟨ji56, hji56⟩ : ∃ j_ : Int, (wrap64 ((l0_0.length : Int) - 1)) = j_ := ⟨_, rfl⟩
  replace H : (if 0 ≤ (ji56) then (if (ji56) < (x8_2.length : Int) then (if (ji56) < (l0_1.length : Int) then (if 0 ≤ (l0_0.length : Int) then (if (l0_0.length : Int) < (x6_1.length : Int) then ((some (x8_2.set ((ji56) : Int).toNat (wrap64 ((rd x8_2 (ji56)) + (wrap64 ((rd l0_1 (ji56)) * (rd x6_1 (l0_0.length : Int)))))) : List Int)).bind fun y130 => (if 0 < (x8_2.length : Int) then (if x7_1.length < 17592186044416 then (spec_kiMoments.l0 k2 a1 (l0_0.length : Int) y130 (x7_1 ++ [rd y130 0]) l0_0 l0_1) else (none)) else (none))) else (none)) else (none)) else (none)) else (none)) else (none)) = some r := by first | (rw [hji56] at H; exact H) | (simp only [hji56] at H ⊢; exact H)
  have hji56w : (IntKind.i64.wrap ((l0_0.length : Int) - 1)) = ji56 := (i64_w _).trans hji56
  by_cases c57 : 0 ≤ (ji56)
  rotate_left
  ·
   rw [if_neg c57] at H
   exact absurd H (by simp)
  rw [if_pos c57] at H
  have c57b0 : decide (0 ≤ (ji56)) = true := decide_eq_true c57
  clear c57
  by_cases c58 : (ji56) < (x8_2.length : Int)
  rotate_left
  ·
   rw [if_neg c58] at H
   exact absurd H (by simp)
  rw [if_pos c58] at H
  have c58b0 : decide ((ji56) < (x8_2.length : Int)) = true := decide_eq_true c58
  clear c58
  by_cases c59 : (ji56) < (l0_1.length : Int)
  rotate_left
  ·
   rw [if_neg c59] at H
   exact absurd H (by simp)
  rw [if_pos c59] at H
  have c59b0 : decide ((ji56) < (l0_1.length : Int)) = true := decide_eq_true c59
  clear c59
  by_cases c60 : 0 ≤ (l0_0.length : Int)
  rotate_left
  ·
   rw [if_neg c60] at H
   exact absurd H (by simp)
  rw [if_pos c60] at H
  have c60b0 : decide (0 ≤ (l0_0.length : Int)) = true := decide_eq_true c60
  have c60b1 : decide (0 ≤ l0_0.length) = true := decide_eq_true (by omega)
  clear c60
  by_cases c61 : (l0_0.length : Int) < (x6_1.length : Int)
  rotate_left
  ·
   rw [if_neg c61] at H
   exact absurd H (by simp)
  rw [if_pos c61] at H
  have c61b0 : decide ((l0_0.length : Int) < (x6_1.length : Int)) = true := decide_eq_true c61
  have c61b1 : decide (l0_0.length < x6_1.length) = true := decide_eq_true (Int.ofNat_lt.mp c61)
  clear c61
  obtain ⟨y130, hy130⟩ : ∃ y_ : List Int, y_ = (x8_2.set ((ji56) : Int).toNat (wrap64 ((rd x8_2 (ji56)) + (wrap64 ((rd l0_1 (ji56)) * (rd x6_1 (l0_0.length : Int))))))) := ⟨_, rfl⟩
  replace H : (if 0 < (x8_2.length : Int) then (if x7_1.length < 17592186044416 then (spec_kiMoments.l0 k2 a1 (l0_0.length : Int) y130 (x7_1 ++ [rd y130 0]) l0_0 l0_1) else (none)) else (none)) = some r := by first | (rw [hy130]; with_reducible exact H) | (have H2_ := (Option.bind_some _ _).symm.trans H; rw [hy130]; with_reducible exact H2_) | (have H2_ := (Option.bind_some _ _).symm.trans H; with_reducible exact H2_) | with_reducible exact H | (rw [hy130]; exact H) | exact H
  have Ny130 := Aa2q hy130
  clear hy130
  by_cases c63 : 0 < (x8_2.length : Int)
  rotate_left
  ·
   rw [if_neg c63] at H
   exact absurd H (by simp)
  rw [if_pos c63] at H
  have c63b0 : decide (0 < (x8_2.length : Int)) = true := decide_eq_true c63
  have c63b1 : decide (0 < x8_2.length) = true := decide_eq_true (by omega)
  clear c63
  by_cases c64 : x7_1.length < 17592186044416
  rotate_left
  ·
   rw [if_neg c64] at H
   exact absurd H (by simp)
  rw [if_pos c64] at H
  have LMc64 := Aa2q c64
  clear c64
  obtain ⟨y132, hy132⟩ : ∃ y_ : List Int, y_ = (x7_1 ++ [rd y130 0]) := ⟨_, rfl⟩
  replace H : (spec_kiMoments.l0 k2 a1 (l0_0.length : Int) y130 y132 l0_0 l0_1) = some r := by first | (rw [hy132]; with_reducible exact H) | (have H2_ := (Option.bind_some _ _).symm.trans H; rw [hy132]; with_reducible exact H2_) | (have H2_ := (Option.bind_some _ _).symm.trans H; with_reducible exact H2_) | with_reducible exact H | (rw [hy132]; exact H) | exact H
  have Ny132 := Aa2q hy132
  clear hy132
  have H' := Aa2q H
  clear H
  try go_wp2
  have n0_ := Aa2q (Kd.R_drew HO_6.out)
  have n1_ := Aa2q (Kd.R_drew HO_7.out)
  have n2_ := Aa2q (Kd.R_drew HO_8.out)
  have n3_ := Aa2q (blk_drew BK105.out)
  have n4_ := Aa2q (below_drew1 HB.out)
  clear HO_6 HO_7 HO_8 BK105 HB
  have HO_6 := n0_
  have HO_7 := n1_
  have HO_8 := n2_
  have BK105 := n3_
  have HB := n4_
  clear n0_ n1_ n2_ n3_ n4_
  obtain ⟨Ao66, co66, eo66⟩ := Kd.R_slice HO_8.out
  (first | subst eo66 | (injection eo66 with f1_ f2_ f3_; have f4_ := f1_.symm; have f5_ := f3_.symm; clear f1_ f2_ f3_; subst f4_; subst f5_))
  have p127 : 0 ≤ ((ji56) : Int) := of_decide_eq_true Za23
  have q127 : (ji56) < (x8_2.length : Int) := of_decide_eq_true Za23
  obtain ⟨ad127, e127, hx127_0⟩ := Kd.at_int (Kd.R_reads' HO_8.out).2.2 (ji56) p127 q127
  cases e127
  replace p127 := eq_true p127
  replace q127 := eq_true q127
  have p128 : 0 ≤ ((ji56) : Int) := of_decide_eq_true Za23
  have q128 : (ji56) < (l0_1.length : Int) := of_decide_eq_true Za23
  obtain ⟨ad128, e128, hx128_0⟩ := Kd.at_int HR0_1.out (ji56) p128 q128
  have hw128_0 := hx128_0
  cases e128
  replace hx128_0 := (HB.out.cell (World.block_lt_of_cell? w _ hx128_0)).trans hx128_0
  replace p128 := eq_true p128
  replace q128 := eq_true q128
  obtain ⟨Ao67, co67, eo67⟩ := Kd.R_slice HO_6.out
  (first | subst eo67 | (injection eo67 with f1_ f2_ f3_; have f4_ := f1_.symm; have f5_ := f3_.symm; clear f1_ f2_ f3_; subst f4_; subst f5_))
  have p129 : 0 ≤ ((l0_0.length : Int) : Int) := of_decide_eq_true Za23
  have q129 : (l0_0.length : Int) < (x6_1.length : Int) := of_decide_eq_true Za23
  obtain ⟨ad129, e129, hx129_0⟩ := Kd.at_int (Kd.R_reads' HO_6.out).2.2 (l0_0.length : Int) p129 q129
  cases e129
  (try simp only [Go.IntWalk.toNatUp] at hx129_0)
  replace p129 := eq_true p129
  replace q129 := eq_true q129
  have p62 : 0 ≤ ((ji56) : Int) := of_decide_eq_true Za23
  have q62 : ((ji56) : Int) < ((x8_2.length : Int) : Int) := of_decide_eq_true Za23
  obtain ⟨go62, co62, eo62, g62, gl62, cl62, HG62⟩ := Kd.R_form HO_8.out (by omega)
  (first | cases eo62 | (injection eo62 with ea_ en_ ec_; (first | subst ea_ | (injection ea_ with ea_; subst ea_)); subst ec_; clear en_))
  have GB62 := Aa2q g62
  have GG62 := Aa2q HG62
  clear g62 gl62 HG62
  (first | simp only [add_plain] at hx127_0 | skip)
  obtain ⟨hx62_0, hf62_0⟩ := Kd.R_celln 0 HO_8.out ((ji56) : Int) p62 q62
  replace p62 := eq_true p62
  replace q62 := eq_true q62
  have HP68 := Kd.R_putn HO_8.out ((ji56) : Int) (wrap64 ((rd x8_2 (ji56)) + (wrap64 ((rd l0_1 (ji56)) * (rd x6_1 (l0_0.length : Int))))))
  rw [← Ny130.out] at HP68
  have HQ68 := Aa2q HP68
  clear HP68
  refine start_ (n := 19) (S := fun w' => w'.cell? ⟨g105, 0, none⟩ = some (.slice A0_0 l0_0.length c0_0) ∧ w'.cell? ⟨g105, 1, none⟩ = some (.slice (some ad128) l0_1.length c0_1) ∧ w'.cell? ⟨go62, ((ji56)).toNat, none⟩ = some (.int .i64 (rd x8_2 (ji56))) ∧ w'.cell? (ad128.add ((ji56)).toNat) = some (.int .i64 (rd l0_1 (ji56))) ∧ w'.cell? (ad129.add ((l0_0.length : Int)).toNat) = some (.int .i64 (rd x6_1 (l0_0.length : Int)))) (ds := [18]) #[false, false, false, false, false, false, false, false, false, false, false, false, false, false, false, false, false, false, false] Za24 rfl rfl ⟨(blk_cell BK105.out 0).trans rfl, (blk_cell BK105.out 1).trans rfl, hx127_0, ((HB.out.cell (World.block_lt_of_cell? w _ hw128_0)).trans hw128_0), hx129_0⟩ (fun hHeld => ?_); refine with_tabW spec_kiMoments.tab14 spec_kiMoments.bits14 (fun HT_ HW_ => ?_)
  generalize wr.drew = w65 at HO_6 HO_7 HO_8 BK105 HB GG62 HQ68 hf62_0 hx127_0 hx128_0 hx129_0 hx62_0 hHeld ⊢
  refine pure_ (i := 0) (N := some 78) (v := ?_) (a' := ?_) #[true, false, false, false, false, false, false, false, false, false, false, false, false, false, false, false, false, false, false] rfl rfl (any_of HT_.out Za24) (fun _ _ _ h => h) (Or.inl ⟨by rfl, ?_⟩) ?_ ?_
  rotate_left
  ·
   intro w'
   go_simp
   with_reducible rfl
  rotate_left
  ·
   simp only [Act.put, y1a2, y2a2, y3a2, i64_w, i32_w]
   rfl
  refine pure_ (i := 1) (N := some 79) (v := ?_) (a' := ?_) #[true, true, false, false, false, false, false, false, false, false, false, false, false, false, false, false, false, false, false] rfl rfl (any_of HT_.out Za24) (fun _ _ _ h => h) (Or.inl ⟨by rfl, ?_⟩) ?_ ?_
  rotate_left
  ·
   intro w'
   go_simp
   with_reducible rfl
  rotate_left
  ·
   simp only [Act.put, y1a2, y2a2, y3a2, i64_w, i32_w]
   rfl
  refine pure_ (i := 2) (N := some 80) (v := ?_) (a' := ?_) #[true, true, true, false, false, false, false, false, false, false, false, false, false, false, false, false, false, false, false] rfl rfl (any_of HT_.out Za24) (fun _ _ _ h => h) (Or.inl ⟨by rfl, ?_⟩) ?_ ?_
  rotate_left
  ·
   intro w'
   go_simp
   with_reducible rfl
  rotate_left
  ·
   simp only [Act.put, y1a2, y2a2, y3a2, i64_w, i32_w]
   rfl
  refine pure_ (i := 3) (N := some 81) (v := ?_) (a' := ?_) #[true, true, true, true, false, false, false, false, false, false, false, false, false, false, false, false, false, false, false] rfl rfl (any_of HT_.out Za24) (fun _ _ _ h => h) (Or.inl ⟨by rfl, ?_⟩) ?_ ?_
  rotate_left
  ·
   intro w'
   go_simp
   with_reducible rfl
  rotate_left
  ·
   simp only [Act.put, y1a2, y2a2, y3a2, i64_w, i32_w]
   rfl
  refine pure_ (i := 5) (N := some 83) (v := ?_) (a' := ?_) #[true, true, true, true, false, true, false, false, false, false, false, false, false, false, false, false, false, false, false] rfl rfl (any_of HT_.out Za24) (fun _ _ _ h => h) (Or.inl ⟨by rfl, ?_⟩) ?_ ?_
  rotate_left
  ·
   intro w'
   go_simp
   with_reducible rfl
  rotate_left
  ·
   simp only [Act.put, y1a2, y2a2, y3a2, i64_w, i32_w]
   rfl
  refine pure_ (i := 7) (N := some 85) (v := ?_) (a' := ?_) #[true, true, true, true, false, true, false, true, false, false, false, false, false, false, false, false, false, false, false] rfl rfl (any_of HT_.out Za24) (fun _ _ _ h => h) (Or.inl ⟨by rfl, ?_⟩) ?_ ?_
  rotate_left
  ·
   intro w'
   go_simp
   with_reducible rfl
  rotate_left
  ·
   simp only [Act.put, y1a2, y2a2, y3a2, i64_w, i32_w]
   rfl
  refine pure_ (i := 8) (N := some 86) (v := ?_) (a' := ?_) #[true, true, true, true, false, true, false, true, true, false, false, false, false, false, false, false, false, false, false] rfl rfl (any_of HT_.out Za24) (fun _ _ _ h => h) (Or.inl ⟨by rfl, ?_⟩) ?_ ?_
  rotate_left
  ·
   intro w'
   go_simp
   with_reducible rfl
  rotate_left
  ·
   simp only [Act.put, y1a2, y2a2, y3a2, i64_w, i32_w]
   rfl
  refine pure_ (i := 11) (N := some 89) (v := ?_) (a' := ?_) #[true, true, true, true, false, true, false, true, true, false, false, true, false, false, false, false, false, false, false] rfl rfl (any_of HT_.out Za24) (fun _ _ _ h => h) (Or.inl ⟨by rfl, ?_⟩) ?_ ?_
  rotate_left
  ·
   intro w'
   go_simp
   with_reducible rfl
  rotate_left
  ·
   simp only [Act.put, y1a2, y2a2, y3a2, i64_w, i32_w]
   rfl
  refine pure_ (i := 12) (N := some 90) (v := ?_) (a' := ?_) #[true, true, true, true, false, true, false, true, true, false, false, true, true, false, false, false, false, false, false] rfl rfl (any_of HT_.out Za24) (fun _ _ _ h => h) (Or.inl ⟨by rfl, ?_⟩) ?_ ?_
  rotate_left
  ·
   intro w'
   go_simp
   with_reducible rfl
  rotate_left
  ·
   simp only [Act.put, y1a2, y2a2, y3a2, i64_w, i32_w]
   rfl
  refine pure_ (i := 13) (N := some 91) (v := ?_) (a' := ?_) #[true, true, true, true, false, true, false, true, true, false, false, true, true, true, false, false, false, false, false] rfl rfl (any_of HT_.out Za24) (fun _ _ _ h => h) (Or.inl ⟨by rfl, ?_⟩) ?_ ?_
  rotate_left
  ·
   intro w'
   go_simp
   with_reducible rfl
  rotate_left
  ·
   simp only [Act.put, y1a2, y2a2, y3a2, i64_w, i32_w]
   rfl
  refine take_ (i := 4) (N := some 82) (v := ?_) (a' := ?_) #[true, true, true, true, true, true, false, true, true, false, false, true, true, true, false, false, false, false, false] rfl rfl (take_ofW HT_.out HW_.out Za24) (fun _ _ _ h => h) (Or.inl ⟨by rfl, ?_⟩) hHeld ?_ ?_
  rotate_left
  ·
   rintro w' ⟨s0, s1, s2, s3, s4⟩
   (try simp only [Int.toNat_natCast] at s0  s1  s2  s3  s4)
   go_simp
   with_reducible rfl
  rotate_left
  ·
   simp only [Act.put, y1a2, y2a2, y3a2, i64_w, i32_w]
   rfl
  refine take_ (i := 6) (N := some 84) (v := ?_) (a' := ?_) #[true, true, true, true, true, true, true, true, true, false, false, true, true, true, false, false, false, false, false] rfl rfl (take_ofW HT_.out HW_.out Za24) (fun _ _ _ h => h) (Or.inl ⟨by rfl, ?_⟩) hHeld ?_ ?_
  rotate_left
  ·
   rintro w' ⟨s0, s1, s2, s3, s4⟩
   (try simp only [Int.toNat_natCast] at s0  s1  s2  s3  s4)
   go_simp
   with_reducible rfl
  rotate_left
  ·
   simp only [Act.put, y1a2, y2a2, y3a2, i64_w, i32_w]
   rfl
  refine pure_ (i := 9) (N := some 87) (v := ?_) (a' := ?_) #[true, true, true, true, true, true, true, true, true, true, false, true, true, true, false, false, false, false, false] rfl rfl (any_of HT_.out Za24) (fun _ _ _ h => h) (Or.inl ⟨by rfl, ?_⟩) ?_ ?_
  rotate_left
  ·
   intro w'
   go_simp
   with_reducible rfl
  rotate_left
  ·
   simp only [Act.put, y1a2, y2a2, y3a2, i64_w, i32_w]
   rfl
  refine take_ (i := 10) (N := some 88) (v := ?_) (a' := ?_) #[true, true, true, true, true, true, true, true, true, true, true, true, true, true, false, false, false, false, false] rfl rfl (take_ofW HT_.out HW_.out Za24) (fun _ _ _ h => h) (Or.inl ⟨by rfl, ?_⟩) hHeld ?_ ?_
  rotate_left
  ·
   rintro w' ⟨s0, s1, s2, s3, s4⟩
   (try simp only [Int.toNat_natCast] at s0  s1  s2  s3  s4)
   go_simp
   with_reducible rfl
  rotate_left
  ·
   simp only [Act.put, y1a2, y2a2, y3a2, i64_w, i32_w]
   rfl
  refine take_ (i := 14) (N := some 92) (v := ?_) (a' := ?_) #[true, true, true, true, true, true, true, true, true, true, true, true, true, true, true, false, false, false, false] rfl rfl (take_ofW HT_.out HW_.out Za24) (fun _ _ _ h => h) (Or.inl ⟨by rfl, ?_⟩) hHeld ?_ ?_
  rotate_left
  ·
   rintro w' ⟨s0, s1, s2, s3, s4⟩
   (try simp only [Int.toNat_natCast] at s0  s1  s2  s3  s4)
   go_simp
   with_reducible rfl
  rotate_left
  ·
   simp only [Act.put, y1a2, y2a2, y3a2, i64_w, i32_w]
   rfl
  refine pure_ (i := 15) (N := some 93) (v := ?_) (a' := ?_) #[true, true, true, true, true, true, true, true, true, true, true, true, true, true, true, true, false, false, false] rfl rfl (any_of HT_.out Za24) (fun _ _ _ h => h) (Or.inl ⟨by rfl, ?_⟩) ?_ ?_
  rotate_left
  ·
   intro w'
   go_simp
   with_reducible rfl
  rotate_left
  ·
   simp only [Act.put, y1a2, y2a2, y3a2, i64_w, i32_w]
   rfl
  refine pure_ (i := 16) (N := some 94) (v := ?_) (a' := ?_) #[true, true, true, true, true, true, true, true, true, true, true, true, true, true, true, true, true, false, false] rfl rfl (any_of HT_.out Za24) (fun _ _ _ h => h) (Or.inl ⟨by rfl, ?_⟩) ?_ ?_
  rotate_left
  ·
   intro w'
   go_simp
   with_reducible rfl
  rotate_left
  ·
   simp only [Act.put, y1a2, y2a2, y3a2, i64_w, i32_w]
   rfl
  refine pure_ (i := 17) (N := some 95) (v := ?_) (a' := ?_) #[true, true, true, true, true, true, true, true, true, true, true, true, true, true, true, true, true, true, false] rfl rfl (any_of HT_.out Za24) (fun _ _ _ h => h) (Or.inl ⟨by rfl, ?_⟩) ?_ ?_
  rotate_left
  ·
   intro w'
   go_simp
   with_reducible rfl
  rotate_left
  ·
   simp only [Act.put, y1a2, y2a2, y3a2, i64_w, i32_w]
   rfl
  refine last_ (i := 18) (N := none) #[true, true, true, true, true, true, true, true, true, true, true, true, true, true, true, true, true, true, true] rfl rfl (one_of HT_.out Za24) (by decide) (fun K hK => ?_)
  refine skip_ (w1 := ?_) (by rfl) rfl ?_ ?_
  rotate_left
  ·
   go_simp
   rfl
  refine hK.out _ _ ?_
  clear hK K
  refine done_ (done_of HT_.out Za24) ?_
  have p131 : 0 ≤ (0 : Int) := (by omega)
  have q131 : 0 < (y130.length : Int) := (by have h_ : (0 : Int) < ((x8_2.length : Int) : Int) := of_decide_eq_true Za23; first | (have e_ := (Kd.R_reads' HO_8.out).1; omega) | simpa only [Ny130.out, List.length_set] using h_)
  have ql131 : ((0 : Int) < ((x8_2.length : Int) : Int)) = True := eq_true (of_decide_eq_true Za23)
  (try have qn131 : (0 < x8_2.length) = True := eq_true (by have h_ : (0 : Int) < ((x8_2.length : Int) : Int) := of_decide_eq_true Za23; omega))
  obtain ⟨ad131, e131, hx131_0⟩ := Kd.at_int (Kd.R_reads' HQ68.out).2.2 0 p131 q131
  obtain rfl : (⟨go62, 0, none⟩ : Addr) = ad131 := (by injection e131)
  (first | simp only [add_plain] at hx131_0 | simp only [add_at] at hx131_0 | simp only [Addr.add, Nat.zero_add] at hx131_0 | skip)
  have qi131 : (0 < y130.length) = True := eq_true (by omega)
  (try rw [show ((0 : Int)).toNat = 0 from rfl] at hx131_0)
  (try rw [Addr.add_zero'] at hx131_0)
  replace p131 := eq_true p131
  replace q131 := eq_true q131
  try go_wp2_with (first | ((with_reducible refine gate_builtin (b := .append) (xs := #[.tmp 97, .tmp 101]) rfl ?_); at_builtin; refine Kd.R_append (Kd.int .i64) (w0 := w) w.heap.size rfl (.tmp 97) (.tmp 101) 22 3 (.int .i64 0) 8 rfl Try.underlying22 info3 rfl (by decide) (by omega) (.slice Ao20 x7_1.length co20) x7_1 (rd y130 0) [.int .i64 (rd y130 0)] (fun k_ => some k_ ≠ (.slice (some ad129) x6_1.length co67 : Value).ownBlock ∧ some k_ ≠ (.slice (some ⟨go62, 0, none⟩) x8_2.length co66 : Value).ownBlock) (fun _ => False) rfl (by first | (go_simp; done) | (go_simp; rfl)) ?aP (fun _ hk => hk.elim) ?aF ?aO ?aB ?aS ?aL ?_; (case aP => exact rfl); (case aB => exact (by repeat (first | (with_reducible first | exact HB.out | apply below_alloc | apply pw_below_drewN | apply below_drew1 | refine below_set ?_ GB62.out | refine below_set ?_ GE105.out) | exact HB.out))); (case aF => exact (fun k_ hk => ⟨Kd.fresh' (Kd.R_lt (by (with_reducible repeat (first | apply Kd.R_alloc | apply Kd.R_drewN | apply Kd.R_drew)); exact (Kd.R_mono (Kd.R_far (p := ⟨go62, ((ji56) : Int).toNat, none⟩) (Kd.R_mono HO_6.out (fun k_ hk => (⟨hk, fun e_ => hk.2 (by rw [e_]; rfl)⟩ : _ ∧ k_ ≠ go62))) (fun _ hk => hk.2) (.int .i64 (wrap64 ((rd x8_2 (ji56)) + (wrap64 ((rd l0_1 (ji56)) * (rd x6_1 (l0_0.length : Int)))))))) (fun _ h_ => h_.1)))) k_ hk, Kd.fresh' (Kd.R_lt (by (with_reducible repeat (first | apply Kd.R_alloc | apply Kd.R_drewN | apply Kd.R_drew)); exact HQ68.out)) k_ hk⟩)); (case aO => exact (by (with_reducible repeat (first | apply Kd.R_alloc | apply Kd.R_drewN | apply Kd.R_drew)); exact Kd.R_mono (Kd.R_far (p := ⟨go62, ((ji56) : Int).toNat, none⟩) (Kd.R_mono HO_7.out (fun k_ hk => (⟨hk, fun e_ => hk.2 (by rw [e_]; rfl)⟩ : _ ∧ k_ ≠ go62))) (fun _ hk => hk.2) (.int .i64 (wrap64 ((rd x8_2 (ji56)) + (wrap64 ((rd l0_1 (ji56)) * (rd x6_1 (l0_0.length : Int)))))))) (fun _ hk => ⟨hk.1.1, hk.1.2⟩))); (case aS => exact (below_size (by repeat (first | (with_reducible first | exact HB.out | apply below_alloc | apply pw_below_drewN | apply below_drew1 | refine below_set ?_ GB62.out | refine below_set ?_ GE105.out) | exact HB.out)))); (case aL => have := LMc64.out; omega); intro v133 w69 ho hb hg hat; rw [← Ny132.out] at ho; have n0_ := Aa2q (Kd.R_after (ok := (fun k_ => some k_ ≠ (.slice (some ⟨go62, 0, none⟩) x8_2.length co66 : Value).ownBlock)) (by (with_reducible repeat (first | apply Kd.R_alloc | apply Kd.R_drewN | apply Kd.R_drew)); exact Kd.R_mono (Kd.R_far (p := ⟨go62, ((ji56) : Int).toNat, none⟩) (Kd.R_mono HO_6.out (fun k_ hk => (⟨hk, fun e_ => hk.2 (by rw [e_]; rfl)⟩ : _ ∧ k_ ≠ go62))) (fun _ hk => hk.2) (.int .i64 (wrap64 ((rd x8_2 (ji56)) + (wrap64 ((rd l0_1 (ji56)) * (rd x6_1 (l0_0.length : Int)))))))) (fun _ hk => ⟨hk.1.2, hk.1.1⟩)) hg hat); have n1_ := Aa2q (Kd.R_after (ok := (fun k_ => some k_ ≠ (.slice (some ad129) x6_1.length co67 : Value).ownBlock)) (by (with_reducible repeat (first | apply Kd.R_alloc | apply Kd.R_drewN | apply Kd.R_drew)); exact HQ68.out) hg hat); have n2_ := Aa2q (blk_grown (g := g105) (o := .cells #[.slice A0_0 l0_0.length c0_0, .slice (some ad128) l0_1.length c0_1] 24 (0, 0)) (by (with_reducible repeat (first | refine blk_drewN ?_ _ | refine blk_drew ?_ | refine blk_alloc ?_ _)); refine blk_far ?_ Za22 _; (with_reducible repeat (first | refine blk_drewN ?_ _ | refine blk_drew ?_ | refine blk_alloc ?_ _)); exact BK105.out) hg (Kd.R_ne HO_7.out BK105.out (by decide))); have n3_ := Aa2q (hb); have n4_ := Aa2q (ho); clear HO_6; clear HO_8; clear BK105; clear HB; clear HO_7; have HO_6 := n0_; have HO_8 := n1_; have BK105 := n2_; have HB := n3_; have HO134 := n4_; clear n0_ n1_ n2_ n3_ n4_; clear ho hb hg hat))
  go_roundg k2
  case measure => have := HK1.out; have := HK2.out; omega
  case rel => exact ⟨(y130), (y132), H', ⟨by have := HK1.out; have := HK2.out; omega⟩, ⟨by (with_reducible repeat (first | apply Kd.R_alloc | apply Kd.R_drewN | apply Kd.R_drew)); exact Kd.R_mono HO_8.out (fun _ hk => hk.2)⟩, ⟨by (with_reducible repeat (first | apply Kd.R_alloc | apply Kd.R_drewN | apply Kd.R_drew)); exact Kd.R_mono HO134.out (fun _ hk => hk.2)⟩, ⟨by (with_reducible repeat (first | refine blk_drewN ?_ _ | refine blk_drew ?_ | refine blk_alloc ?_ _)); exact BK105.out⟩, ⟨by repeat (first | (with_reducible first | exact HB.out | apply below_alloc | apply pw_below_drewN | apply below_drew1 | refine below_set ?_ GE105.out) | exact HB.out)⟩⟩
 rw [if_pos c23] at H
 have c23b0 : decide (x9_2 < (l0_0.length : Int)) = true := decide_eq_true c23
 clear c23
 by_cases c24 : 0 ≤ x9_2
 rotate_left
 ·
  rw [if_neg c24] at H
  exact absurd H (by simp)
 rw [if_pos c24] at H
 have c24b0 : decide (0 ≤ x9_2) = true := decide_eq_true c24
 clear c24
 by_cases c25 : x9_2 < (x8_2.length : Int)
 rotate_left
 ·
  rw [if_neg c25] at H
  exact absurd H (by simp)
 rw [if_pos c25] at H
 have c25b0 : decide (x9_2 < (x8_2.length : Int)) = true := decide_eq_true c25
 clear c25
 by_cases c26 : x9_2 < (l0_0.length : Int)
 rotate_left
 ·
  rw [if_neg c26] at H
  exact absurd H (by simp)
 rw [if_pos c26] at H
 have c26b0 : decide (x9_2 < (l0_0.length : Int)) = true := decide_eq_true c26
 clear c26
 by_cases c27 : x9_2 < (x6_1.length : Int)
 rotate_left
 ·
  rw [if_neg c27] at H
  exact absurd H (by simp)
 rw [if_pos c27] at H
 have c27b0 : decide (x9_2 < (x6_1.length : Int)) = true := decide_eq_true c27
 clear c27
 obtain ⟨y119, hy119⟩ : ∃ y_ : List Int, y_ = (x8_2.set (x9_2 : Int).toNat (wrap64 ((rd x8_2 x9_2) + (wrap64 ((rd l0_0 x9_2) * (rd x6_1 x9_2)))))) := ⟨_, rfl⟩
 replace H : (if 0 ≤ (wrap64 (x9_2 + 1)) then (if (wrap64 (x9_2 + 1)) < (x8_2.length : Int) then ((some (y119.set ((wrap64 (x9_2 + 1)) : Int).toNat (wrap64 ((rd y119 (wrap64 (x9_2 + 1))) + (rd x6_1 x9_2))) : List Int)).bind fun y122 => (if x9_2 > 0 then (if 0 ≤ (wrap64 (x9_2 - 1)) then (if (wrap64 (x9_2 - 1)) < (x8_2.length : Int) then (if (wrap64 (x9_2 - 1)) < (l0_1.length : Int) then (spec_kiMoments.l1 k2 a1 (l0_0.length : Int) x6_1 x7_1 (y122.set ((wrap64 (x9_2 - 1)) : Int).toNat (wrap64 ((rd y122 (wrap64 (x9_2 - 1))) + (wrap64 ((rd l0_1 (wrap64 (x9_2 - 1))) * (rd x6_1 x9_2)))))) (wrap64 (x9_2 + 1)) l0_0 l0_1) else (none)) else (none)) else (none)) else (spec_kiMoments.l1 k2 a1 (l0_0.length : Int) x6_1 x7_1 y122 (wrap64 (x9_2 + 1)) l0_0 l0_1))) else (none)) else (none)) = some r := by first | (rw [hy119]; with_reducible exact H) | (have H2_ := (Option.bind_some _ _).symm.trans H; rw [hy119]; with_reducible exact H2_) | (have H2_ := (Option.bind_some _ _).symm.trans H; with_reducible exact H2_) | with_reducible exact H | (rw [hy119]; exact H) | exact H
 have Ny119 := Aa2q hy119
 clear hy119
 obtain ⟨ji29, hji29⟩ : ∃ j_ : Int, (wrap64 (x9_2 + 1)) = j_ := ⟨_, rfl⟩
 replace H : (if 0 ≤ (ji29) then (if (ji29) < (x8_2.length : Int) then ((some (y119.set ((ji29) : Int).toNat (wrap64 ((rd y119 (ji29)) + (rd x6_1 x9_2))) : List Int)).bind fun y122 => (if x9_2 > 0 then (if 0 ≤ (wrap64 (x9_2 - 1)) then (if (wrap64 (x9_2 - 1)) < (x8_2.length : Int) then (if (wrap64 (x9_2 - 1)) < (l0_1.length : Int) then (spec_kiMoments.l1 k2 a1 (l0_0.length : Int) x6_1 x7_1 (y122.set ((wrap64 (x9_2 - 1)) : Int).toNat (wrap64 ((rd y122 (wrap64 (x9_2 - 1))) + (wrap64 ((rd l0_1 (wrap64 (x9_2 - 1))) * (rd x6_1 x9_2)))))) ji29 l0_0 l0_1) else (none)) else (none)) else (none)) else (spec_kiMoments.l1 k2 a1 (l0_0.length : Int) x6_1 x7_1 y122 ji29 l0_0 l0_1))) else (none)) else (none)) = some r := by first | (rw [hji29] at H; exact H) | (simp only [hji29] at H ⊢; exact H)
 have hji29w : (IntKind.i64.wrap (x9_2 + 1)) = ji29 := (i64_w _).trans hji29
 by_cases c30 : 0 ≤ (ji29)
 rotate_left
 ·
  rw [if_neg c30] at H
  exact absurd H (by simp)
 rw [if_pos c30] at H
 have c30b0 : decide (0 ≤ (ji29)) = true := decide_eq_true c30
 clear c30
 by_cases c31 : (ji29) < (x8_2.length : Int)
 rotate_left
 ·
  rw [if_neg c31] at H
  exact absurd H (by simp)
 rw [if_pos c31] at H
 have c31b0 : decide ((ji29) < (x8_2.length : Int)) = true := decide_eq_true c31
 clear c31
 obtain ⟨y122, hy122⟩ : ∃ y_ : List Int, y_ = (y119.set ((ji29) : Int).toNat (wrap64 ((rd y119 (ji29)) + (rd x6_1 x9_2)))) := ⟨_, rfl⟩
 replace H : (if x9_2 > 0 then (if 0 ≤ (wrap64 (x9_2 - 1)) then (if (wrap64 (x9_2 - 1)) < (x8_2.length : Int) then (if (wrap64 (x9_2 - 1)) < (l0_1.length : Int) then (spec_kiMoments.l1 k2 a1 (l0_0.length : Int) x6_1 x7_1 (y122.set ((wrap64 (x9_2 - 1)) : Int).toNat (wrap64 ((rd y122 (wrap64 (x9_2 - 1))) + (wrap64 ((rd l0_1 (wrap64 (x9_2 - 1))) * (rd x6_1 x9_2)))))) ji29 l0_0 l0_1) else (none)) else (none)) else (none)) else (spec_kiMoments.l1 k2 a1 (l0_0.length : Int) x6_1 x7_1 y122 ji29 l0_0 l0_1)) = some r := by first | (rw [hy122]; with_reducible exact H) | (have H2_ := (Option.bind_some _ _).symm.trans H; rw [hy122]; with_reducible exact H2_) | (have H2_ := (Option.bind_some _ _).symm.trans H; with_reducible exact H2_) | with_reducible exact H | (rw [hy122]; exact H) | exact H
 have Ny122 := Aa2q hy122
 clear hy122
 by_cases c33 : x9_2 > 0
 rotate_left
 ·
  rw [if_neg c33] at H
  have c33b0 : decide (0 < x9_2) = false := decide_eq_false c33
  clear c33
  have H' := Aa2q H
  clear H
  try go_wp2
  have n0_ := Aa2q (Kd.R_drew HO_6.out)
  have n1_ := Aa2q (Kd.R_drew HO_7.out)
  have n2_ := Aa2q (Kd.R_drew HO_8.out)
  have n3_ := Aa2q (blk_drew BK105.out)
  have n4_ := Aa2q (below_drew1 HB.out)
  clear HO_6 HO_7 HO_8 BK105 HB
  have HO_6 := n0_
  have HO_7 := n1_
  have HO_8 := n2_
  have BK105 := n3_
  have HB := n4_
  clear n0_ n1_ n2_ n3_ n4_
  obtain ⟨Ao50, co50, eo50⟩ := Kd.R_slice HO_8.out
  (first | subst eo50 | (injection eo50 with f1_ f2_ f3_; have f4_ := f1_.symm; have f5_ := f3_.symm; clear f1_ f2_ f3_; subst f4_; subst f5_))
  have p116 : 0 ≤ (x9_2 : Int) := of_decide_eq_true Za23
  have q116 : x9_2 < (x8_2.length : Int) := of_decide_eq_true Za23
  obtain ⟨ad116, e116, hx116_0⟩ := Kd.at_int (Kd.R_reads' HO_8.out).2.2 x9_2 p116 q116
  cases e116
  replace p116 := eq_true p116
  replace q116 := eq_true q116
  have p117 : 0 ≤ (x9_2 : Int) := of_decide_eq_true Za23
  have q117 : x9_2 < (l0_0.length : Int) := of_decide_eq_true Za23
  obtain ⟨ad117, e117, hx117_0⟩ := Kd.at_int HR0_0.out x9_2 p117 q117
  have hw117_0 := hx117_0
  cases e117
  replace hx117_0 := (HB.out.cell (World.block_lt_of_cell? w _ hx117_0)).trans hx117_0
  replace p117 := eq_true p117
  replace q117 := eq_true q117
  obtain ⟨Ao51, co51, eo51⟩ := Kd.R_slice HO_6.out
  (first | subst eo51 | (injection eo51 with f1_ f2_ f3_; have f4_ := f1_.symm; have f5_ := f3_.symm; clear f1_ f2_ f3_; subst f4_; subst f5_))
  have p118 : 0 ≤ (x9_2 : Int) := of_decide_eq_true Za23
  have q118 : x9_2 < (x6_1.length : Int) := of_decide_eq_true Za23
  obtain ⟨ad118, e118, hx118_0⟩ := Kd.at_int (Kd.R_reads' HO_6.out).2.2 x9_2 p118 q118
  cases e118
  replace p118 := eq_true p118
  replace q118 := eq_true q118
  have p28 : 0 ≤ (x9_2 : Int) := of_decide_eq_true Za23
  have q28 : (x9_2 : Int) < ((x8_2.length : Int) : Int) := of_decide_eq_true Za23
  obtain ⟨go28, co28, eo28, g28, gl28, cl28, HG28⟩ := Kd.R_form HO_8.out (by omega)
  (first | cases eo28 | (injection eo28 with ea_ en_ ec_; (first | subst ea_ | (injection ea_ with ea_; subst ea_)); subst ec_; clear en_))
  have GB28 := Aa2q g28
  have GG28 := Aa2q HG28
  clear g28 gl28 HG28
  (first | simp only [add_plain] at hx116_0 | skip)
  obtain ⟨hx28_0, hf28_0⟩ := Kd.R_celln 0 HO_8.out (x9_2 : Int) p28 q28
  replace p28 := eq_true p28
  replace q28 := eq_true q28
  have HP52 := Kd.R_putn HO_8.out (x9_2 : Int) (wrap64 ((rd x8_2 x9_2) + (wrap64 ((rd l0_0 x9_2) * (rd x6_1 x9_2)))))
  rw [← Ny119.out] at HP52
  have HQ52 := Aa2q HP52
  clear HP52
  refine start_ (n := 17) (S := fun w' => w'.cell? ⟨g105, 0, none⟩ = some (.slice (some ad117) l0_0.length c0_0) ∧ w'.cell? ⟨g105, 1, none⟩ = some (.slice A0_1 l0_1.length c0_1) ∧ w'.cell? ⟨go28, (x9_2).toNat, none⟩ = some (.int .i64 (rd x8_2 x9_2)) ∧ w'.cell? (ad117.add (x9_2).toNat) = some (.int .i64 (rd l0_0 x9_2)) ∧ w'.cell? (ad118.add (x9_2).toNat) = some (.int .i64 (rd x6_1 x9_2))) (ds := [16]) #[false, false, false, false, false, false, false, false, false, false, false, false, false, false, false, false, false] Za24 rfl rfl ⟨(blk_cell BK105.out 0).trans rfl, (blk_cell BK105.out 1).trans rfl, hx116_0, ((HB.out.cell (World.block_lt_of_cell? w _ hw117_0)).trans hw117_0), hx118_0⟩ (fun hHeld => ?_); refine with_tabW spec_kiMoments.tab10 spec_kiMoments.bits10 (fun HT_ HW_ => ?_)
  generalize wr.drew = w49 at HO_6 HO_7 HO_8 BK105 HB GG28 HQ52 hf28_0 hx116_0 hx117_0 hx118_0 hx28_0 hHeld ⊢
  refine pure_ (i := 0) (N := some 31) (v := ?_) (a' := ?_) #[true, false, false, false, false, false, false, false, false, false, false, false, false, false, false, false, false] rfl rfl (any_of HT_.out Za24) (fun _ _ _ h => h) (Or.inl ⟨by rfl, ?_⟩) ?_ ?_
  rotate_left
  ·
   intro w'
   go_simp
   with_reducible rfl
  rotate_left
  ·
   simp only [Act.put, y1a2, y2a2, y3a2, i64_w, i32_w]
   rfl
  refine pure_ (i := 1) (N := some 32) (v := ?_) (a' := ?_) #[true, true, false, false, false, false, false, false, false, false, false, false, false, false, false, false, false] rfl rfl (any_of HT_.out Za24) (fun _ _ _ h => h) (Or.inl ⟨by rfl, ?_⟩) ?_ ?_
  rotate_left
  ·
   intro w'
   go_simp
   with_reducible rfl
  rotate_left
  ·
   simp only [Act.put, y1a2, y2a2, y3a2, i64_w, i32_w]
   rfl
  refine pure_ (i := 2) (N := some 33) (v := ?_) (a' := ?_) #[true, true, true, false, false, false, false, false, false, false, false, false, false, false, false, false, false] rfl rfl (any_of HT_.out Za24) (fun _ _ _ h => h) (Or.inl ⟨by rfl, ?_⟩) ?_ ?_
  rotate_left
  ·
   intro w'
   go_simp
   with_reducible rfl
  rotate_left
  ·
   simp only [Act.put, y1a2, y2a2, y3a2, i64_w, i32_w]
   rfl
  refine pure_ (i := 4) (N := some 35) (v := ?_) (a' := ?_) #[true, true, true, false, true, false, false, false, false, false, false, false, false, false, false, false, false] rfl rfl (any_of HT_.out Za24) (fun _ _ _ h => h) (Or.inl ⟨by rfl, ?_⟩) ?_ ?_
  rotate_left
  ·
   intro w'
   go_simp
   with_reducible rfl
  rotate_left
  ·
   simp only [Act.put, y1a2, y2a2, y3a2, i64_w, i32_w]
   rfl
  refine pure_ (i := 6) (N := some 37) (v := ?_) (a' := ?_) #[true, true, true, false, true, false, true, false, false, false, false, false, false, false, false, false, false] rfl rfl (any_of HT_.out Za24) (fun _ _ _ h => h) (Or.inl ⟨by rfl, ?_⟩) ?_ ?_
  rotate_left
  ·
   intro w'
   go_simp
   with_reducible rfl
  rotate_left
  ·
   simp only [Act.put, y1a2, y2a2, y3a2, i64_w, i32_w]
   rfl
  refine pure_ (i := 9) (N := some 40) (v := ?_) (a' := ?_) #[true, true, true, false, true, false, true, false, false, true, false, false, false, false, false, false, false] rfl rfl (any_of HT_.out Za24) (fun _ _ _ h => h) (Or.inl ⟨by rfl, ?_⟩) ?_ ?_
  rotate_left
  ·
   intro w'
   go_simp
   with_reducible rfl
  rotate_left
  ·
   simp only [Act.put, y1a2, y2a2, y3a2, i64_w, i32_w]
   rfl
  refine pure_ (i := 10) (N := some 41) (v := ?_) (a' := ?_) #[true, true, true, false, true, false, true, false, false, true, true, false, false, false, false, false, false] rfl rfl (any_of HT_.out Za24) (fun _ _ _ h => h) (Or.inl ⟨by rfl, ?_⟩) ?_ ?_
  rotate_left
  ·
   intro w'
   go_simp
   with_reducible rfl
  rotate_left
  ·
   simp only [Act.put, y1a2, y2a2, y3a2, i64_w, i32_w]
   rfl
  refine pure_ (i := 11) (N := some 42) (v := ?_) (a' := ?_) #[true, true, true, false, true, false, true, false, false, true, true, true, false, false, false, false, false] rfl rfl (any_of HT_.out Za24) (fun _ _ _ h => h) (Or.inl ⟨by rfl, ?_⟩) ?_ ?_
  rotate_left
  ·
   intro w'
   go_simp
   with_reducible rfl
  rotate_left
  ·
   simp only [Act.put, y1a2, y2a2, y3a2, i64_w, i32_w]
   rfl
  refine take_ (i := 3) (N := some 34) (v := ?_) (a' := ?_) #[true, true, true, true, true, false, true, false, false, true, true, true, false, false, false, false, false] rfl rfl (take_ofW HT_.out HW_.out Za24) (fun _ _ _ h => h) (Or.inl ⟨by rfl, ?_⟩) hHeld ?_ ?_
  rotate_left
  ·
   rintro w' ⟨s0, s1, s2, s3, s4⟩
   go_simp
   with_reducible rfl
  rotate_left
  ·
   simp only [Act.put, y1a2, y2a2, y3a2, i64_w, i32_w]
   rfl
  refine take_ (i := 5) (N := some 36) (v := ?_) (a' := ?_) #[true, true, true, true, true, true, true, false, false, true, true, true, false, false, false, false, false] rfl rfl (take_ofW HT_.out HW_.out Za24) (fun _ _ _ h => h) (Or.inl ⟨by rfl, ?_⟩) hHeld ?_ ?_
  rotate_left
  ·
   rintro w' ⟨s0, s1, s2, s3, s4⟩
   go_simp
   with_reducible rfl
  rotate_left
  ·
   simp only [Act.put, y1a2, y2a2, y3a2, i64_w, i32_w]
   rfl
  refine pure_ (i := 7) (N := some 38) (v := ?_) (a' := ?_) #[true, true, true, true, true, true, true, true, false, true, true, true, false, false, false, false, false] rfl rfl (any_of HT_.out Za24) (fun _ _ _ h => h) (Or.inl ⟨by rfl, ?_⟩) ?_ ?_
  rotate_left
  ·
   intro w'
   go_simp
   with_reducible rfl
  rotate_left
  ·
   simp only [Act.put, y1a2, y2a2, y3a2, i64_w, i32_w]
   rfl
  refine take_ (i := 8) (N := some 39) (v := ?_) (a' := ?_) #[true, true, true, true, true, true, true, true, true, true, true, true, false, false, false, false, false] rfl rfl (take_ofW HT_.out HW_.out Za24) (fun _ _ _ h => h) (Or.inl ⟨by rfl, ?_⟩) hHeld ?_ ?_
  rotate_left
  ·
   rintro w' ⟨s0, s1, s2, s3, s4⟩
   go_simp
   with_reducible rfl
  rotate_left
  ·
   simp only [Act.put, y1a2, y2a2, y3a2, i64_w, i32_w]
   rfl
  refine take_ (i := 12) (N := some 43) (v := ?_) (a' := ?_) #[true, true, true, true, true, true, true, true, true, true, true, true, true, false, false, false, false] rfl rfl (take_ofW HT_.out HW_.out Za24) (fun _ _ _ h => h) (Or.inl ⟨by rfl, ?_⟩) hHeld ?_ ?_
  rotate_left
  ·
   rintro w' ⟨s0, s1, s2, s3, s4⟩
   go_simp
   with_reducible rfl
  rotate_left
  ·
   simp only [Act.put, y1a2, y2a2, y3a2, i64_w, i32_w]
   rfl
  refine pure_ (i := 13) (N := some 44) (v := ?_) (a' := ?_) #[true, true, true, true, true, true, true, true, true, true, true, true, true, true, false, false, false] rfl rfl (any_of HT_.out Za24) (fun _ _ _ h => h) (Or.inl ⟨by rfl, ?_⟩) ?_ ?_
  rotate_left
  ·
   intro w'
   go_simp
   with_reducible rfl
  rotate_left
  ·
   simp only [Act.put, y1a2, y2a2, y3a2, i64_w, i32_w]
   rfl
  refine pure_ (i := 14) (N := some 45) (v := ?_) (a' := ?_) #[true, true, true, true, true, true, true, true, true, true, true, true, true, true, true, false, false] rfl rfl (any_of HT_.out Za24) (fun _ _ _ h => h) (Or.inl ⟨by rfl, ?_⟩) ?_ ?_
  rotate_left
  ·
   intro w'
   go_simp
   with_reducible rfl
  rotate_left
  ·
   simp only [Act.put, y1a2, y2a2, y3a2, i64_w, i32_w]
   rfl
  refine pure_ (i := 15) (N := some 46) (v := ?_) (a' := ?_) #[true, true, true, true, true, true, true, true, true, true, true, true, true, true, true, true, false] rfl rfl (any_of HT_.out Za24) (fun _ _ _ h => h) (Or.inl ⟨by rfl, ?_⟩) ?_ ?_
  rotate_left
  ·
   intro w'
   go_simp
   with_reducible rfl
  rotate_left
  ·
   simp only [Act.put, y1a2, y2a2, y3a2, i64_w, i32_w]
   rfl
  refine last_ (i := 16) (N := none) #[true, true, true, true, true, true, true, true, true, true, true, true, true, true, true, true, true] rfl rfl (one_of HT_.out Za24) (by decide) (fun K hK => ?_)
  refine skip_ (w1 := ?_) (by rfl) rfl ?_ ?_
  rotate_left
  ·
   go_simp
   rfl
  refine hK.out _ _ ?_
  clear hK K
  refine done_ (done_of HT_.out Za24) ?_
  try go_wp2
  have n0_ : Aside0 (Kd.R (Kd.int .i64) 3 (w49.setCell ⟨go28, (x9_2 : Int).toNat, none⟩ (.int .i64 (wrap64 ((rd x8_2 x9_2) + (wrap64 ((rd l0_0 x9_2) * (rd x6_1 x9_2))))))) w.heap.size (fun k_ => some k_ ≠ (.slice Ao20 x7_1.length co20 : Value).ownBlock ∧ some k_ ≠ (.slice (some ⟨go28, 0, none⟩) x8_2.length co50 : Value).ownBlock) (.slice (some ad118) x6_1.length co51) x6_1) := ⟨by (with_reducible repeat (first | apply Kd.R_alloc | apply Kd.R_drewN | apply Kd.R_drew)); exact Kd.R_mono (Kd.R_far (p := ⟨go28, (x9_2 : Int).toNat, none⟩) (Kd.R_mono HO_6.out (fun k_ hk => (⟨hk, fun e_ => hk.2 (by rw [e_]; rfl)⟩ : _ ∧ k_ ≠ go28))) (fun _ hk => hk.2) (.int .i64 (wrap64 ((rd x8_2 x9_2) + (wrap64 ((rd l0_0 x9_2) * (rd x6_1 x9_2))))))) (fun _ hk => ⟨hk.1.1, hk.1.2⟩)⟩
  have n1_ : Aside0 (Kd.R (Kd.int .i64) 3 (w49.setCell ⟨go28, (x9_2 : Int).toNat, none⟩ (.int .i64 (wrap64 ((rd x8_2 x9_2) + (wrap64 ((rd l0_0 x9_2) * (rd x6_1 x9_2))))))) w.heap.size (fun k_ => some k_ ≠ (.slice (some ad118) x6_1.length co51 : Value).ownBlock ∧ some k_ ≠ (.slice (some ⟨go28, 0, none⟩) x8_2.length co50 : Value).ownBlock) (.slice Ao20 x7_1.length co20) x7_1) := ⟨by (with_reducible repeat (first | apply Kd.R_alloc | apply Kd.R_drewN | apply Kd.R_drew)); exact Kd.R_mono (Kd.R_far (p := ⟨go28, (x9_2 : Int).toNat, none⟩) (Kd.R_mono HO_7.out (fun k_ hk => (⟨hk, fun e_ => hk.2 (by rw [e_]; rfl)⟩ : _ ∧ k_ ≠ go28))) (fun _ hk => hk.2) (.int .i64 (wrap64 ((rd x8_2 x9_2) + (wrap64 ((rd l0_0 x9_2) * (rd x6_1 x9_2))))))) (fun _ hk => ⟨hk.1.1, hk.1.2⟩)⟩
  have n2_ : Aside0 (Kd.R (Kd.int .i64) 3 (w49.setCell ⟨go28, (x9_2 : Int).toNat, none⟩ (.int .i64 (wrap64 ((rd x8_2 x9_2) + (wrap64 ((rd l0_0 x9_2) * (rd x6_1 x9_2))))))) w.heap.size (fun k_ => some k_ ≠ (.slice (some ad118) x6_1.length co51 : Value).ownBlock ∧ some k_ ≠ (.slice Ao20 x7_1.length co20 : Value).ownBlock) (.slice (some ⟨go28, 0, none⟩) x8_2.length co50) y119) := ⟨by (with_reducible repeat (first | apply Kd.R_alloc | apply Kd.R_drewN | apply Kd.R_drew)); exact HQ52.out⟩
  have n3_ : Aside0 ((w49.setCell ⟨go28, (x9_2 : Int).toNat, none⟩ (.int .i64 (wrap64 ((rd x8_2 x9_2) + (wrap64 ((rd l0_0 x9_2) * (rd x6_1 x9_2))))))).heap[g105]? = some (.cells #[.slice (some ad117) l0_0.length c0_0, .slice A0_1 l0_1.length c0_1] 24 (0, 0))) := ⟨by (with_reducible repeat (first | refine blk_drewN ?_ _ | refine blk_drew ?_ | refine blk_alloc ?_ _)); refine blk_far ?_ Za22 _; (with_reducible repeat (first | refine blk_drewN ?_ _ | refine blk_drew ?_ | refine blk_alloc ?_ _)); exact BK105.out⟩
  have n4_ : Aside0 (Below w.heap.size w (w49.setCell ⟨go28, (x9_2 : Int).toNat, none⟩ (.int .i64 (wrap64 ((rd x8_2 x9_2) + (wrap64 ((rd l0_0 x9_2) * (rd x6_1 x9_2)))))))) := ⟨by repeat (first | (with_reducible first | exact HB.out | apply below_alloc | apply pw_below_drewN | apply below_drew1 | refine below_set ?_ GB28.out | refine below_set ?_ GE105.out) | exact HB.out)⟩
  (try clear HO_6)
  (try clear HO_7)
  (try clear HO_8)
  (try clear BK105)
  (try clear HB)
  generalize (w49.setCell ⟨go28, (x9_2 : Int).toNat, none⟩ (.int .i64 (wrap64 ((rd x8_2 x9_2) + (wrap64 ((rd l0_0 x9_2) * (rd x6_1 x9_2))))))) = w53 at n0_ n1_ n2_ n3_ n4_ ⊢
  have HO_6 := n0_
  have HO_7 := n1_
  have HO_8 := n2_
  have BK105 := n3_
  have HB := n4_
  clear n0_ n1_ n2_ n3_ n4_
  have n0_ := Aa2q (Kd.R_drew HO_6.out)
  have n1_ := Aa2q (Kd.R_drew HO_7.out)
  have n2_ := Aa2q (Kd.R_drew HO_8.out)
  have n3_ := Aa2q (blk_drew BK105.out)
  have n4_ := Aa2q (below_drew1 HB.out)
  clear HO_6 HO_7 HO_8 BK105 HB
  have HO_6 := n0_
  have HO_7 := n1_
  have HO_8 := n2_
  have BK105 := n3_
  have HB := n4_
  clear n0_ n1_ n2_ n3_ n4_
  have p120 : 0 ≤ ((ji29) : Int) := of_decide_eq_true Za23
  have q120 : (ji29) < (y119.length : Int) := (by have h_ : ((ji29) : Int) < ((x8_2.length : Int) : Int) := of_decide_eq_true Za23; first | (have e_ := (Kd.R_reads' HO_8.out).1; omega) | simpa only [Ny119.out, List.length_set] using h_)
  have ql120 : (((ji29) : Int) < ((x8_2.length : Int) : Int)) = True := eq_true (of_decide_eq_true Za23)
  obtain ⟨ad120, e120, hx120_0⟩ := Kd.at_int (Kd.R_reads' HO_8.out).2.2 (ji29) p120 q120
  obtain rfl : (⟨go28, 0, none⟩ : Addr) = ad120 := (by injection e120)
  (first | simp only [add_plain] at hx120_0 | simp only [add_at] at hx120_0 | simp only [Addr.add, Nat.zero_add] at hx120_0 | skip)
  replace p120 := eq_true p120
  replace q120 := eq_true q120
  have p121 : 0 ≤ (x9_2 : Int) := of_decide_eq_true Za23
  have q121 : x9_2 < (x6_1.length : Int) := of_decide_eq_true Za23
  obtain ⟨ad121, e121, hx121_0⟩ := Kd.at_int (Kd.R_reads' HO_6.out).2.2 x9_2 p121 q121
  obtain rfl : ad118 = ad121 := (by injection e121)
  replace p121 := eq_true p121
  replace q121 := eq_true q121
  have p32 : 0 ≤ ((ji29) : Int) := of_decide_eq_true Za23
  have q32 : ((ji29) : Int) < ((x8_2.length : Int) : Int) := of_decide_eq_true Za23
  obtain ⟨hx32_0, hf32_0⟩ := Kd.R_celln 0 HO_8.out ((ji29) : Int) p32 q32
  replace p32 := eq_true p32
  replace q32 := eq_true q32
  have HP55 := Kd.R_putn HO_8.out ((ji29) : Int) (wrap64 ((rd y119 (ji29)) + (rd x6_1 x9_2)))
  rw [← Ny122.out] at HP55
  have HQ55 := Aa2q HP55
  clear HP55
  refine start_ (n := 12) (S := fun w' => w'.cell? ⟨go28, ((ji29)).toNat, none⟩ = some (.int .i64 (rd y119 (ji29))) ∧ w'.cell? (ad118.add (x9_2).toNat) = some (.int .i64 (rd x6_1 x9_2))) (ds := [11]) #[false, false, false, false, false, false, false, false, false, false, false, false] Za24 rfl rfl ⟨hx120_0, hx121_0⟩ (fun hHeld => ?_); refine with_tabW spec_kiMoments.tab11 spec_kiMoments.bits11 (fun HT_ HW_ => ?_)
  generalize w53.drew = w54 at HO_6 HO_7 HO_8 BK105 HB HQ52 HQ55 hf32_0 hx120_0 hx121_0 hx32_0 hHeld ⊢
  refine pure_ (i := 0) (N := some 47) (v := ?_) (a' := ?_) #[true, false, false, false, false, false, false, false, false, false, false, false] rfl rfl (any_of HT_.out Za24) (fun _ _ _ h => h) (Or.inl ⟨by rfl, ?_⟩) ?_ ?_
  rotate_left
  ·
   intro w'
   go_simp
   with_reducible rfl
  rotate_left
  ·
   simp only [Act.put, y1a2, y2a2, y3a2, i64_w, i32_w]
   rfl
  refine pure_ (i := 1) (N := some 48) (v := ?_) (a' := ?_) #[true, true, false, false, false, false, false, false, false, false, false, false] rfl rfl (any_of HT_.out Za24) (fun _ _ _ h => h) (Or.inl ⟨by rfl, ?_⟩) ?_ ?_
  rotate_left
  ·
   intro w'
   go_simp
   with_reducible rfl
  rotate_left
  ·
   simp only [Act.put, y1a2, y2a2, y3a2, i64_w, i32_w]
   rfl
  refine pure_ (i := 2) (N := some 49) (v := ?_) (a' := ?_) #[true, true, true, false, false, false, false, false, false, false, false, false] rfl rfl (any_of HT_.out Za24) (fun _ _ _ h => h) (Or.inl ⟨by rfl, ?_⟩) ?_ ?_
  rotate_left
  ·
   intro w'
   go_simp
   with_reducible rfl
  rotate_left
  ·
   simp only [Act.put, y1a2, y2a2, y3a2, i64_w, i32_w]
   rfl
  refine pure_ (i := 3) (N := some 50) (v := ?_) (a' := ?_) #[true, true, true, true, false, false, false, false, false, false, false, false] rfl rfl (any_of HT_.out Za24) (fun _ _ _ h => h) (Or.inl ⟨by rfl, ?_⟩) ?_ ?_
  rotate_left
  ·
   intro w'
   go_simp
   with_reducible rfl
  rotate_left
  ·
   simp only [Act.put, y1a2, y2a2, y3a2, i64_w, i32_w]
   rfl
  refine pure_ (i := 5) (N := some 52) (v := ?_) (a' := ?_) #[true, true, true, true, false, true, false, false, false, false, false, false] rfl rfl (any_of HT_.out Za24) (fun _ _ _ h => h) (Or.inl ⟨by rfl, ?_⟩) ?_ ?_
  rotate_left
  ·
   intro w'
   go_simp
   with_reducible rfl
  rotate_left
  ·
   simp only [Act.put, y1a2, y2a2, y3a2, i64_w, i32_w]
   rfl
  refine pure_ (i := 6) (N := some 53) (v := ?_) (a' := ?_) #[true, true, true, true, false, true, true, false, false, false, false, false] rfl rfl (any_of HT_.out Za24) (fun _ _ _ h => h) (Or.inl ⟨by rfl, ?_⟩) ?_ ?_
  rotate_left
  ·
   intro w'
   go_simp
   with_reducible rfl
  rotate_left
  ·
   simp only [Act.put, y1a2, y2a2, y3a2, i64_w, i32_w]
   rfl
  refine pure_ (i := 7) (N := some 54) (v := ?_) (a' := ?_) #[true, true, true, true, false, true, true, true, false, false, false, false] rfl rfl (any_of HT_.out Za24) (fun _ _ _ h => h) (Or.inl ⟨by rfl, ?_⟩) ?_ ?_
  rotate_left
  ·
   intro w'
   go_simp
   with_reducible rfl
  rotate_left
  ·
   simp only [Act.put, y1a2, y2a2, y3a2, i64_w, i32_w]
   rfl
  refine take_ (i := 4) (N := some 51) (v := ?_) (a' := ?_) #[true, true, true, true, true, true, true, true, false, false, false, false] rfl rfl (take_ofW HT_.out HW_.out Za24) (fun _ _ _ h => h) (Or.inl ⟨by rfl, ?_⟩) hHeld ?_ ?_
  rotate_left
  ·
   rintro w' ⟨s0, s1⟩
   go_simp
   with_reducible rfl
  rotate_left
  ·
   simp only [Act.put, y1a2, y2a2, y3a2, i64_w, i32_w]
   rfl
  refine take_ (i := 8) (N := some 55) (v := ?_) (a' := ?_) #[true, true, true, true, true, true, true, true, true, false, false, false] rfl rfl (take_ofW HT_.out HW_.out Za24) (fun _ _ _ h => h) (Or.inl ⟨by rfl, ?_⟩) hHeld ?_ ?_
  rotate_left
  ·
   rintro w' ⟨s0, s1⟩
   go_simp
   with_reducible rfl
  rotate_left
  ·
   simp only [Act.put, y1a2, y2a2, y3a2, i64_w, i32_w]
   rfl
  refine pure_ (i := 9) (N := some 56) (v := ?_) (a' := ?_) #[true, true, true, true, true, true, true, true, true, true, false, false] rfl rfl (any_of HT_.out Za24) (fun _ _ _ h => h) (Or.inl ⟨by rfl, ?_⟩) ?_ ?_
  rotate_left
  ·
   intro w'
   go_simp
   with_reducible rfl
  rotate_left
  ·
   simp only [Act.put, y1a2, y2a2, y3a2, i64_w, i32_w]
   rfl
  refine pure_ (i := 10) (N := some 57) (v := ?_) (a' := ?_) #[true, true, true, true, true, true, true, true, true, true, true, false] rfl rfl (any_of HT_.out Za24) (fun _ _ _ h => h) (Or.inl ⟨by rfl, ?_⟩) ?_ ?_
  rotate_left
  ·
   intro w'
   go_simp
   with_reducible rfl
  rotate_left
  ·
   simp only [Act.put, y1a2, y2a2, y3a2, i64_w, i32_w]
   rfl
  refine last_ (i := 11) (N := none) #[true, true, true, true, true, true, true, true, true, true, true, true] rfl rfl (one_of HT_.out Za24) (by decide) (fun K hK => ?_)
  refine skip_ (w1 := ?_) (by rfl) rfl ?_ ?_
  rotate_left
  ·
   go_simp
   rfl
  refine hK.out _ _ ?_
  clear hK K
  refine done_ (done_of HT_.out Za24) ?_
  try go_wp2
  go_roundg k2
  case measure => have := HK1.out; have := HK2.out; omega
  case rel => exact ⟨(y122), (ji29), (by first | rfl | (simp; done) | (simp only [← hji29] <;> (first | rfl | simp)) | (simp [*]; done)), H', ⟨by have := HK1.out; have := HK2.out; omega⟩, ⟨by (with_reducible repeat (first | apply Kd.R_alloc | apply Kd.R_drewN | apply Kd.R_drew)); exact Kd.R_mono (Kd.R_far (p := ⟨go28, ((ji29) : Int).toNat, none⟩) (Kd.R_mono HO_6.out (fun k_ hk => (⟨hk, fun e_ => hk.2 (by rw [e_]; rfl)⟩ : _ ∧ k_ ≠ go28))) (fun _ hk => hk.2) (.int .i64 (wrap64 ((rd y119 (ji29)) + (rd x6_1 x9_2))))) (fun _ hk => ⟨hk.1.1, hk.1.2⟩)⟩, ⟨by (with_reducible repeat (first | apply Kd.R_alloc | apply Kd.R_drewN | apply Kd.R_drew)); exact Kd.R_mono (Kd.R_far (p := ⟨go28, ((ji29) : Int).toNat, none⟩) (Kd.R_mono HO_7.out (fun k_ hk => (⟨hk, fun e_ => hk.2 (by rw [e_]; rfl)⟩ : _ ∧ k_ ≠ go28))) (fun _ hk => hk.2) (.int .i64 (wrap64 ((rd y119 (ji29)) + (rd x6_1 x9_2))))) (fun _ hk => ⟨hk.1.1, hk.1.2⟩)⟩, ⟨by (with_reducible repeat (first | apply Kd.R_alloc | apply Kd.R_drewN | apply Kd.R_drew)); exact HQ55.out⟩, ⟨by (with_reducible repeat (first | refine blk_drewN ?_ _ | refine blk_drew ?_ | refine blk_alloc ?_ _)); refine blk_far ?_ Za22 _; (with_reducible repeat (first | refine blk_drewN ?_ _ | refine blk_drew ?_ | refine blk_alloc ?_ _)); exact BK105.out⟩, ⟨by repeat (first | (with_reducible first | exact HB.out | apply below_alloc | apply pw_below_drewN | apply below_drew1 | refine below_set ?_ GB28.out | refine below_set ?_ GE105.out) | exact HB.out)⟩⟩
 rw [if_pos c33] at H
 have c33b0 : decide (0 < x9_2) = true := decide_eq_true c33
 clear c33
 obtain ⟨ji34, hji34⟩ : ∃ j_ : Int, (wrap64 (x9_2 - 1)) = j_ := ⟨_, rfl⟩
 replace H : (if 0 ≤ (ji34) then (if (ji34) < (x8_2.length : Int) then (if (ji34) < (l0_1.length : Int) then (spec_kiMoments.l1 k2 a1 (l0_0.length : Int) x6_1 x7_1 (y122.set ((ji34) : Int).toNat (wrap64 ((rd y122 (ji34)) + (wrap64 ((rd l0_1 (ji34)) * (rd x6_1 x9_2)))))) ji29 l0_0 l0_1) else (none)) else (none)) else (none)) = some r := by first | (rw [hji34] at H; exact H) | (simp only [hji34] at H ⊢; exact H)
 have hji34w : (IntKind.i64.wrap (x9_2 - 1)) = ji34 := (i64_w _).trans hji34
 by_cases c35 : 0 ≤ (ji34)
 rotate_left
 ·
  rw [if_neg c35] at H
  exact absurd H (by simp)
 rw [if_pos c35] at H
 have c35b0 : decide (0 ≤ (ji34)) = true := decide_eq_true c35
 clear c35
 by_cases c36 : (ji34) < (x8_2.length : Int)
 rotate_left
 ·
  rw [if_neg c36] at H
  exact absurd H (by simp)
 rw [if_pos c36] at H
 have c36b0 : decide ((ji34) < (x8_2.length : Int)) = true := decide_eq_true c36
 clear c36
 by_cases c37 : (ji34) < (l0_1.length : Int)
 rotate_left
 ·
  rw [if_neg c37] at H
  exact absurd H (by simp)
 rw [if_pos c37] at H
 have c37b0 : decide ((ji34) < (l0_1.length : Int)) = true := decide_eq_true c37
 clear c37
 obtain ⟨y126, hy126⟩ : ∃ y_ : List Int, y_ = (y122.set ((ji34) : Int).toNat (wrap64 ((rd y122 (ji34)) + (wrap64 ((rd l0_1 (ji34)) * (rd x6_1 x9_2)))))) := ⟨_, rfl⟩
 replace H : (spec_kiMoments.l1 k2 a1 (l0_0.length : Int) x6_1 x7_1 y126 ji29 l0_0 l0_1) = some r := by first | (rw [hy126]; with_reducible exact H) | (have H2_ := (Option.bind_some _ _).symm.trans H; rw [hy126]; with_reducible exact H2_) | (have H2_ := (Option.bind_some _ _).symm.trans H; with_reducible exact H2_) | with_reducible exact H | (rw [hy126]; exact H) | exact H
 have Ny126 := Aa2q hy126
 clear hy126
 have H' := Aa2q H
 clear H
 try go_wp2
 have n0_ := Aa2q (Kd.R_drew HO_6.out)
 have n1_ := Aa2q (Kd.R_drew HO_7.out)
 have n2_ := Aa2q (Kd.R_drew HO_8.out)
 have n3_ := Aa2q (blk_drew BK105.out)
 have n4_ := Aa2q (below_drew1 HB.out)
 clear HO_6 HO_7 HO_8 BK105 HB
 have HO_6 := n0_
 have HO_7 := n1_
 have HO_8 := n2_
 have BK105 := n3_
 have HB := n4_
 clear n0_ n1_ n2_ n3_ n4_
 obtain ⟨Ao40, co40, eo40⟩ := Kd.R_slice HO_8.out
 (first | subst eo40 | (injection eo40 with f1_ f2_ f3_; have f4_ := f1_.symm; have f5_ := f3_.symm; clear f1_ f2_ f3_; subst f4_; subst f5_))
 have p116 : 0 ≤ (x9_2 : Int) := of_decide_eq_true Za23
 have q116 : x9_2 < (x8_2.length : Int) := of_decide_eq_true Za23
 obtain ⟨ad116, e116, hx116_0⟩ := Kd.at_int (Kd.R_reads' HO_8.out).2.2 x9_2 p116 q116
 cases e116
 replace p116 := eq_true p116
 replace q116 := eq_true q116
 have p117 : 0 ≤ (x9_2 : Int) := of_decide_eq_true Za23
 have q117 : x9_2 < (l0_0.length : Int) := of_decide_eq_true Za23
 obtain ⟨ad117, e117, hx117_0⟩ := Kd.at_int HR0_0.out x9_2 p117 q117
 have hw117_0 := hx117_0
 cases e117
 replace hx117_0 := (HB.out.cell (World.block_lt_of_cell? w _ hx117_0)).trans hx117_0
 replace p117 := eq_true p117
 replace q117 := eq_true q117
 obtain ⟨Ao41, co41, eo41⟩ := Kd.R_slice HO_6.out
 (first | subst eo41 | (injection eo41 with f1_ f2_ f3_; have f4_ := f1_.symm; have f5_ := f3_.symm; clear f1_ f2_ f3_; subst f4_; subst f5_))
 have p118 : 0 ≤ (x9_2 : Int) := of_decide_eq_true Za23
 have q118 : x9_2 < (x6_1.length : Int) := of_decide_eq_true Za23
 obtain ⟨ad118, e118, hx118_0⟩ := Kd.at_int (Kd.R_reads' HO_6.out).2.2 x9_2 p118 q118
 cases e118
 replace p118 := eq_true p118
 replace q118 := eq_true q118
 have p28 : 0 ≤ (x9_2 : Int) := of_decide_eq_true Za23
 have q28 : (x9_2 : Int) < ((x8_2.length : Int) : Int) := of_decide_eq_true Za23
 obtain ⟨go28, co28, eo28, g28, gl28, cl28, HG28⟩ := Kd.R_form HO_8.out (by omega)
 (first | cases eo28 | (injection eo28 with ea_ en_ ec_; (first | subst ea_ | (injection ea_ with ea_; subst ea_)); subst ec_; clear en_))
 have GB28 := Aa2q g28
 have GG28 := Aa2q HG28
 clear g28 gl28 HG28
 (first | simp only [add_plain] at hx116_0 | skip)
 obtain ⟨hx28_0, hf28_0⟩ := Kd.R_celln 0 HO_8.out (x9_2 : Int) p28 q28
 replace p28 := eq_true p28
 replace q28 := eq_true q28
 have HP42 := Kd.R_putn HO_8.out (x9_2 : Int) (wrap64 ((rd x8_2 x9_2) + (wrap64 ((rd l0_0 x9_2) * (rd x6_1 x9_2)))))
 rw [← Ny119.out] at HP42
 have HQ42 := Aa2q HP42
 clear HP42
 refine start_ (n := 17) (S := fun w' => w'.cell? ⟨g105, 0, none⟩ = some (.slice (some ad117) l0_0.length c0_0) ∧ w'.cell? ⟨g105, 1, none⟩ = some (.slice A0_1 l0_1.length c0_1) ∧ w'.cell? ⟨go28, (x9_2).toNat, none⟩ = some (.int .i64 (rd x8_2 x9_2)) ∧ w'.cell? (ad117.add (x9_2).toNat) = some (.int .i64 (rd l0_0 x9_2)) ∧ w'.cell? (ad118.add (x9_2).toNat) = some (.int .i64 (rd x6_1 x9_2))) (ds := [16]) #[false, false, false, false, false, false, false, false, false, false, false, false, false, false, false, false, false] Za24 rfl rfl ⟨(blk_cell BK105.out 0).trans rfl, (blk_cell BK105.out 1).trans rfl, hx116_0, ((HB.out.cell (World.block_lt_of_cell? w _ hw117_0)).trans hw117_0), hx118_0⟩ (fun hHeld => ?_); refine with_tabW spec_kiMoments.tab10 spec_kiMoments.bits10 (fun HT_ HW_ => ?_)
 generalize wr.drew = w39 at HO_6 HO_7 HO_8 BK105 HB GG28 HQ42 hf28_0 hx116_0 hx117_0 hx118_0 hx28_0 hHeld ⊢
 refine pure_ (i := 0) (N := some 31) (v := ?_) (a' := ?_) #[true, false, false, false, false, false, false, false, false, false, false, false, false, false, false, false, false] rfl rfl (any_of HT_.out Za24) (fun _ _ _ h => h) (Or.inl ⟨by rfl, ?_⟩) ?_ ?_
 rotate_left
 ·
  intro w'
  go_simp
  with_reducible rfl
 rotate_left
 ·
  simp only [Act.put, y1a2, y2a2, y3a2, i64_w, i32_w]
  rfl
 refine pure_ (i := 1) (N := some 32) (v := ?_) (a' := ?_) #[true, true, false, false, false, false, false, false, false, false, false, false, false, false, false, false, false] rfl rfl (any_of HT_.out Za24) (fun _ _ _ h => h) (Or.inl ⟨by rfl, ?_⟩) ?_ ?_
 rotate_left
 ·
  intro w'
  go_simp
  with_reducible rfl
 rotate_left
 ·
  simp only [Act.put, y1a2, y2a2, y3a2, i64_w, i32_w]
  rfl
 refine pure_ (i := 2) (N := some 33) (v := ?_) (a' := ?_) #[true, true, true, false, false, false, false, false, false, false, false, false, false, false, false, false, false] rfl rfl (any_of HT_.out Za24) (fun _ _ _ h => h) (Or.inl ⟨by rfl, ?_⟩) ?_ ?_
 rotate_left
 ·
  intro w'
  go_simp
  with_reducible rfl
 rotate_left
 ·
  simp only [Act.put, y1a2, y2a2, y3a2, i64_w, i32_w]
  rfl
 refine pure_ (i := 4) (N := some 35) (v := ?_) (a' := ?_) #[true, true, true, false, true, false, false, false, false, false, false, false, false, false, false, false, false] rfl rfl (any_of HT_.out Za24) (fun _ _ _ h => h) (Or.inl ⟨by rfl, ?_⟩) ?_ ?_
 rotate_left
 ·
  intro w'
  go_simp
  with_reducible rfl
 rotate_left
 ·
  simp only [Act.put, y1a2, y2a2, y3a2, i64_w, i32_w]
  rfl
 refine pure_ (i := 6) (N := some 37) (v := ?_) (a' := ?_) #[true, true, true, false, true, false, true, false, false, false, false, false, false, false, false, false, false] rfl rfl (any_of HT_.out Za24) (fun _ _ _ h => h) (Or.inl ⟨by rfl, ?_⟩) ?_ ?_
 rotate_left
 ·
  intro w'
  go_simp
  with_reducible rfl
 rotate_left
 ·
  simp only [Act.put, y1a2, y2a2, y3a2, i64_w, i32_w]
  rfl
 refine pure_ (i := 9) (N := some 40) (v := ?_) (a' := ?_) #[true, true, true, false, true, false, true, false, false, true, false, false, false, false, false, false, false] rfl rfl (any_of HT_.out Za24) (fun _ _ _ h => h) (Or.inl ⟨by rfl, ?_⟩) ?_ ?_
 rotate_left
 ·
  intro w'
  go_simp
  with_reducible rfl
 rotate_left
 ·
  simp only [Act.put, y1a2, y2a2, y3a2, i64_w, i32_w]
  rfl
 refine pure_ (i := 10) (N := some 41) (v := ?_) (a' := ?_) #[true, true, true, false, true, false, true, false, false, true, true, false, false, false, false, false, false] rfl rfl (any_of HT_.out Za24) (fun _ _ _ h => h) (Or.inl ⟨by rfl, ?_⟩) ?_ ?_
 rotate_left
 ·
  intro w'
  go_simp
  with_reducible rfl
 rotate_left
 ·
  simp only [Act.put, y1a2, y2a2, y3a2, i64_w, i32_w]
  rfl
 refine pure_ (i := 11) (N := some 42) (v := ?_) (a' := ?_) #[true, true, true, false, true, false, true, false, false, true, true, true, false, false, false, false, false] rfl rfl (any_of HT_.out Za24) (fun _ _ _ h => h) (Or.inl ⟨by rfl, ?_⟩) ?_ ?_
 rotate_left
 ·
  intro w'
  go_simp
  with_reducible rfl
 rotate_left
 ·
  simp only [Act.put, y1a2, y2a2, y3a2, i64_w, i32_w]
  rfl
 refine take_ (i := 3) (N := some 34) (v := ?_) (a' := ?_) #[true, true, true, true, true, false, true, false, false, true, true, true, false, false, false, false, false] rfl rfl (take_ofW HT_.out HW_.out Za24) (fun _ _ _ h => h) (Or.inl ⟨by rfl, ?_⟩) hHeld ?_ ?_
 rotate_left
 ·
  rintro w' ⟨s0, s1, s2, s3, s4⟩
  go_simp
  with_reducible rfl
 rotate_left
 ·
  simp only [Act.put, y1a2, y2a2, y3a2, i64_w, i32_w]
  rfl
 refine take_ (i := 5) (N := some 36) (v := ?_) (a' := ?_) #[true, true, true, true, true, true, true, false, false, true, true, true, false, false, false, false, false] rfl rfl (take_ofW HT_.out HW_.out Za24) (fun _ _ _ h => h) (Or.inl ⟨by rfl, ?_⟩) hHeld ?_ ?_
 rotate_left
 ·
  rintro w' ⟨s0, s1, s2, s3, s4⟩
  go_simp
  with_reducible rfl
 rotate_left
 ·
  simp only [Act.put, y1a2, y2a2, y3a2, i64_w, i32_w]
  rfl
 refine pure_ (i := 7) (N := some 38) (v := ?_) (a' := ?_) #[true, true, true, true, true, true, true, true, false, true, true, true, false, false, false, false, false] rfl rfl (any_of HT_.out Za24) (fun _ _ _ h => h) (Or.inl ⟨by rfl, ?_⟩) ?_ ?_
 rotate_left
 ·
  intro w'
  go_simp
  with_reducible rfl
 rotate_left
 ·
  simp only [Act.put, y1a2, y2a2, y3a2, i64_w, i32_w]
  rfl
 refine take_ (i := 8) (N := some 39) (v := ?_) (a' := ?_) #[true, true, true, true, true, true, true, true, true, true, true, true, false, false, false, false, false] rfl rfl (take_ofW HT_.out HW_.out Za24) (fun _ _ _ h => h) (Or.inl ⟨by rfl, ?_⟩) hHeld ?_ ?_
 rotate_left
 ·
  rintro w' ⟨s0, s1, s2, s3, s4⟩
  go_simp
  with_reducible rfl
 rotate_left
 ·
  simp only [Act.put, y1a2, y2a2, y3a2, i64_w, i32_w]
  rfl
 refine take_ (i := 12) (N := some 43) (v := ?_) (a' := ?_) #[true, true, true, true, true, true, true, true, true, true, true, true, true, false, false, false, false] rfl rfl (take_ofW HT_.out HW_.out Za24) (fun _ _ _ h => h) (Or.inl ⟨by rfl, ?_⟩) hHeld ?_ ?_
 rotate_left
 ·
  rintro w' ⟨s0, s1, s2, s3, s4⟩
  go_simp
  with_reducible rfl
 rotate_left
 ·
  simp only [Act.put, y1a2, y2a2, y3a2, i64_w, i32_w]
  rfl
 refine pure_ (i := 13) (N := some 44) (v := ?_) (a' := ?_) #[true, true, true, true, true, true, true, true, true, true, true, true, true, true, false, false, false] rfl rfl (any_of HT_.out Za24) (fun _ _ _ h => h) (Or.inl ⟨by rfl, ?_⟩) ?_ ?_
 rotate_left
 ·
  intro w'
  go_simp
  with_reducible rfl
 rotate_left
 ·
  simp only [Act.put, y1a2, y2a2, y3a2, i64_w, i32_w]
  rfl
 refine pure_ (i := 14) (N := some 45) (v := ?_) (a' := ?_) #[true, true, true, true, true, true, true, true, true, true, true, true, true, true, true, false, false] rfl rfl (any_of HT_.out Za24) (fun _ _ _ h => h) (Or.inl ⟨by rfl, ?_⟩) ?_ ?_
 rotate_left
 ·
  intro w'
  go_simp
  with_reducible rfl
 rotate_left
 ·
  simp only [Act.put, y1a2, y2a2, y3a2, i64_w, i32_w]
  rfl
 refine pure_ (i := 15) (N := some 46) (v := ?_) (a' := ?_) #[true, true, true, true, true, true, true, true, true, true, true, true, true, true, true, true, false] rfl rfl (any_of HT_.out Za24) (fun _ _ _ h => h) (Or.inl ⟨by rfl, ?_⟩) ?_ ?_
 rotate_left
 ·
  intro w'
  go_simp
  with_reducible rfl
 rotate_left
 ·
  simp only [Act.put, y1a2, y2a2, y3a2, i64_w, i32_w]
  rfl
 refine last_ (i := 16) (N := none) #[true, true, true, true, true, true, true, true, true, true, true, true, true, true, true, true, true] rfl rfl (one_of HT_.out Za24) (by decide) (fun K hK => ?_)
 refine skip_ (w1 := ?_) (by rfl) rfl ?_ ?_
 rotate_left
 ·
  go_simp
  rfl
 refine hK.out _ _ ?_
 clear hK K
 refine done_ (done_of HT_.out Za24) ?_
 try go_wp2
 have n0_ : Aside0 (Kd.R (Kd.int .i64) 3 (w39.setCell ⟨go28, (x9_2 : Int).toNat, none⟩ (.int .i64 (wrap64 ((rd x8_2 x9_2) + (wrap64 ((rd l0_0 x9_2) * (rd x6_1 x9_2))))))) w.heap.size (fun k_ => some k_ ≠ (.slice Ao20 x7_1.length co20 : Value).ownBlock ∧ some k_ ≠ (.slice (some ⟨go28, 0, none⟩) x8_2.length co40 : Value).ownBlock) (.slice (some ad118) x6_1.length co41) x6_1) := ⟨by (with_reducible repeat (first | apply Kd.R_alloc | apply Kd.R_drewN | apply Kd.R_drew)); exact Kd.R_mono (Kd.R_far (p := ⟨go28, (x9_2 : Int).toNat, none⟩) (Kd.R_mono HO_6.out (fun k_ hk => (⟨hk, fun e_ => hk.2 (by rw [e_]; rfl)⟩ : _ ∧ k_ ≠ go28))) (fun _ hk => hk.2) (.int .i64 (wrap64 ((rd x8_2 x9_2) + (wrap64 ((rd l0_0 x9_2) * (rd x6_1 x9_2))))))) (fun _ hk => ⟨hk.1.1, hk.1.2⟩)⟩
 have n1_ : Aside0 (Kd.R (Kd.int .i64) 3 (w39.setCell ⟨go28, (x9_2 : Int).toNat, none⟩ (.int .i64 (wrap64 ((rd x8_2 x9_2) + (wrap64 ((rd l0_0 x9_2) * (rd x6_1 x9_2))))))) w.heap.size (fun k_ => some k_ ≠ (.slice (some ad118) x6_1.length co41 : Value).ownBlock ∧ some k_ ≠ (.slice (some ⟨go28, 0, none⟩) x8_2.length co40 : Value).ownBlock) (.slice Ao20 x7_1.length co20) x7_1) := ⟨by (with_reducible repeat (first | apply Kd.R_alloc | apply Kd.R_drewN | apply Kd.R_drew)); exact Kd.R_mono (Kd.R_far (p := ⟨go28, (x9_2 : Int).toNat, none⟩) (Kd.R_mono HO_7.out (fun k_ hk => (⟨hk, fun e_ => hk.2 (by rw [e_]; rfl)⟩ : _ ∧ k_ ≠ go28))) (fun _ hk => hk.2) (.int .i64 (wrap64 ((rd x8_2 x9_2) + (wrap64 ((rd l0_0 x9_2) * (rd x6_1 x9_2))))))) (fun _ hk => ⟨hk.1.1, hk.1.2⟩)⟩
 have n2_ : Aside0 (Kd.R (Kd.int .i64) 3 (w39.setCell ⟨go28, (x9_2 : Int).toNat, none⟩ (.int .i64 (wrap64 ((rd x8_2 x9_2) + (wrap64 ((rd l0_0 x9_2) * (rd x6_1 x9_2))))))) w.heap.size (fun k_ => some k_ ≠ (.slice (some ad118) x6_1.length co41 : Value).ownBlock ∧ some k_ ≠ (.slice Ao20 x7_1.length co20 : Value).ownBlock) (.slice (some ⟨go28, 0, none⟩) x8_2.length co40) y119) := ⟨by (with_reducible repeat (first | apply Kd.R_alloc | apply Kd.R_drewN | apply Kd.R_drew)); exact HQ42.out⟩
 have n3_ : Aside0 ((w39.setCell ⟨go28, (x9_2 : Int).toNat, none⟩ (.int .i64 (wrap64 ((rd x8_2 x9_2) + (wrap64 ((rd l0_0 x9_2) * (rd x6_1 x9_2))))))).heap[g105]? = some (.cells #[.slice (some ad117) l0_0.length c0_0, .slice A0_1 l0_1.length c0_1] 24 (0, 0))) := ⟨by (with_reducible repeat (first | refine blk_drewN ?_ _ | refine blk_drew ?_ | refine blk_alloc ?_ _)); refine blk_far ?_ Za22 _; (with_reducible repeat (first | refine blk_drewN ?_ _ | refine blk_drew ?_ | refine blk_alloc ?_ _)); exact BK105.out⟩
 have n4_ : Aside0 (Below w.heap.size w (w39.setCell ⟨go28, (x9_2 : Int).toNat, none⟩ (.int .i64 (wrap64 ((rd x8_2 x9_2) + (wrap64 ((rd l0_0 x9_2) * (rd x6_1 x9_2)))))))) := ⟨by repeat (first | (with_reducible first | exact HB.out | apply below_alloc | apply pw_below_drewN | apply below_drew1 | refine below_set ?_ GB28.out | refine below_set ?_ GE105.out) | exact HB.out)⟩
 (try clear HO_6)
 (try clear HO_7)
 (try clear HO_8)
 (try clear BK105)
 (try clear HB)
 generalize (w39.setCell ⟨go28, (x9_2 : Int).toNat, none⟩ (.int .i64 (wrap64 ((rd x8_2 x9_2) + (wrap64 ((rd l0_0 x9_2) * (rd x6_1 x9_2))))))) = w43 at n0_ n1_ n2_ n3_ n4_ ⊢
 have HO_6 := n0_
 have HO_7 := n1_
 have HO_8 := n2_
 have BK105 := n3_
 have HB := n4_
 clear n0_ n1_ n2_ n3_ n4_
 have n0_ := Aa2q (Kd.R_drew HO_6.out)
 have n1_ := Aa2q (Kd.R_drew HO_7.out)
 have n2_ := Aa2q (Kd.R_drew HO_8.out)
 have n3_ := Aa2q (blk_drew BK105.out)
 have n4_ := Aa2q (below_drew1 HB.out)
 clear HO_6 HO_7 HO_8 BK105 HB
 have HO_6 := n0_
 have HO_7 := n1_
 have HO_8 := n2_
 have BK105 := n3_
 have HB := n4_
 clear n0_ n1_ n2_ n3_ n4_
 have p120 : 0 ≤ ((ji29) : Int) := of_decide_eq_true Za23
 have q120 : (ji29) < (y119.length : Int) := (by have h_ : ((ji29) : Int) < ((x8_2.length : Int) : Int) := of_decide_eq_true Za23; first | (have e_ := (Kd.R_reads' HO_8.out).1; omega) | simpa only [Ny119.out, List.length_set] using h_)
 have ql120 : (((ji29) : Int) < ((x8_2.length : Int) : Int)) = True := eq_true (of_decide_eq_true Za23)
 obtain ⟨ad120, e120, hx120_0⟩ := Kd.at_int (Kd.R_reads' HO_8.out).2.2 (ji29) p120 q120
 obtain rfl : (⟨go28, 0, none⟩ : Addr) = ad120 := (by injection e120)
 (first | simp only [add_plain] at hx120_0 | simp only [add_at] at hx120_0 | simp only [Addr.add, Nat.zero_add] at hx120_0 | skip)
 replace p120 := eq_true p120
 replace q120 := eq_true q120
 have p121 : 0 ≤ (x9_2 : Int) := of_decide_eq_true Za23
 have q121 : x9_2 < (x6_1.length : Int) := of_decide_eq_true Za23
 obtain ⟨ad121, e121, hx121_0⟩ := Kd.at_int (Kd.R_reads' HO_6.out).2.2 x9_2 p121 q121
 obtain rfl : ad118 = ad121 := (by injection e121)
 replace p121 := eq_true p121
 replace q121 := eq_true q121
 have p32 : 0 ≤ ((ji29) : Int) := of_decide_eq_true Za23
 have q32 : ((ji29) : Int) < ((x8_2.length : Int) : Int) := of_decide_eq_true Za23
 obtain ⟨hx32_0, hf32_0⟩ := Kd.R_celln 0 HO_8.out ((ji29) : Int) p32 q32
 replace p32 := eq_true p32
 replace q32 := eq_true q32
 have HP45 := Kd.R_putn HO_8.out ((ji29) : Int) (wrap64 ((rd y119 (ji29)) + (rd x6_1 x9_2)))
 rw [← Ny122.out] at HP45
 have HQ45 := Aa2q HP45
 clear HP45
 refine start_ (n := 12) (S := fun w' => w'.cell? ⟨go28, ((ji29)).toNat, none⟩ = some (.int .i64 (rd y119 (ji29))) ∧ w'.cell? (ad118.add (x9_2).toNat) = some (.int .i64 (rd x6_1 x9_2))) (ds := [11]) #[false, false, false, false, false, false, false, false, false, false, false, false] Za24 rfl rfl ⟨hx120_0, hx121_0⟩ (fun hHeld => ?_); refine with_tabW spec_kiMoments.tab11 spec_kiMoments.bits11 (fun HT_ HW_ => ?_)
 generalize w43.drew = w44 at HO_6 HO_7 HO_8 BK105 HB HQ42 HQ45 hf32_0 hx120_0 hx121_0 hx32_0 hHeld ⊢
 refine pure_ (i := 0) (N := some 47) (v := ?_) (a' := ?_) #[true, false, false, false, false, false, false, false, false, false, false, false] rfl rfl (any_of HT_.out Za24) (fun _ _ _ h => h) (Or.inl ⟨by rfl, ?_⟩) ?_ ?_
 rotate_left
 ·
  intro w'
  go_simp
  with_reducible rfl
 rotate_left
 ·
  simp only [Act.put, y1a2, y2a2, y3a2, i64_w, i32_w]
  rfl
 refine pure_ (i := 1) (N := some 48) (v := ?_) (a' := ?_) #[true, true, false, false, false, false, false, false, false, false, false, false] rfl rfl (any_of HT_.out Za24) (fun _ _ _ h => h) (Or.inl ⟨by rfl, ?_⟩) ?_ ?_
 rotate_left
 ·
  intro w'
  go_simp
  with_reducible rfl
 rotate_left
 ·
  simp only [Act.put, y1a2, y2a2, y3a2, i64_w, i32_w]
  rfl
 refine pure_ (i := 2) (N := some 49) (v := ?_) (a' := ?_) #[true, true, true, false, false, false, false, false, false, false, false, false] rfl rfl (any_of HT_.out Za24) (fun _ _ _ h => h) (Or.inl ⟨by rfl, ?_⟩) ?_ ?_
 rotate_left
 ·
  intro w'
  go_simp
  with_reducible rfl
 rotate_left
 ·
  simp only [Act.put, y1a2, y2a2, y3a2, i64_w, i32_w]
  rfl
 refine pure_ (i := 3) (N := some 50) (v := ?_) (a' := ?_) #[true, true, true, true, false, false, false, false, false, false, false, false] rfl rfl (any_of HT_.out Za24) (fun _ _ _ h => h) (Or.inl ⟨by rfl, ?_⟩) ?_ ?_
 rotate_left
 ·
  intro w'
  go_simp
  with_reducible rfl
 rotate_left
 ·
  simp only [Act.put, y1a2, y2a2, y3a2, i64_w, i32_w]
  rfl
 refine pure_ (i := 5) (N := some 52) (v := ?_) (a' := ?_) #[true, true, true, true, false, true, false, false, false, false, false, false] rfl rfl (any_of HT_.out Za24) (fun _ _ _ h => h) (Or.inl ⟨by rfl, ?_⟩) ?_ ?_
 rotate_left
 ·
  intro w'
  go_simp
  with_reducible rfl
 rotate_left
 ·
  simp only [Act.put, y1a2, y2a2, y3a2, i64_w, i32_w]
  rfl
 refine pure_ (i := 6) (N := some 53) (v := ?_) (a' := ?_) #[true, true, true, true, false, true, true, false, false, false, false, false] rfl rfl (any_of HT_.out Za24) (fun _ _ _ h => h) (Or.inl ⟨by rfl, ?_⟩) ?_ ?_
 rotate_left
 ·
  intro w'
  go_simp
  with_reducible rfl
 rotate_left
 ·
  simp only [Act.put, y1a2, y2a2, y3a2, i64_w, i32_w]
  rfl
 refine pure_ (i := 7) (N := some 54) (v := ?_) (a' := ?_) #[true, true, true, true, false, true, true, true, false, false, false, false] rfl rfl (any_of HT_.out Za24) (fun _ _ _ h => h) (Or.inl ⟨by rfl, ?_⟩) ?_ ?_
 rotate_left
 ·
  intro w'
  go_simp
  with_reducible rfl
 rotate_left
 ·
  simp only [Act.put, y1a2, y2a2, y3a2, i64_w, i32_w]
  rfl
 refine take_ (i := 4) (N := some 51) (v := ?_) (a' := ?_) #[true, true, true, true, true, true, true, true, false, false, false, false] rfl rfl (take_ofW HT_.out HW_.out Za24) (fun _ _ _ h => h) (Or.inl ⟨by rfl, ?_⟩) hHeld ?_ ?_
 rotate_left
 ·
  rintro w' ⟨s0, s1⟩
  go_simp
  with_reducible rfl
 rotate_left
 ·
  simp only [Act.put, y1a2, y2a2, y3a2, i64_w, i32_w]
  rfl
 refine take_ (i := 8) (N := some 55) (v := ?_) (a' := ?_) #[true, true, true, true, true, true, true, true, true, false, false, false] rfl rfl (take_ofW HT_.out HW_.out Za24) (fun _ _ _ h => h) (Or.inl ⟨by rfl, ?_⟩) hHeld ?_ ?_
 rotate_left
 ·
  rintro w' ⟨s0, s1⟩
  go_simp
  with_reducible rfl
 rotate_left
 ·
  simp only [Act.put, y1a2, y2a2, y3a2, i64_w, i32_w]
  rfl
 refine pure_ (i := 9) (N := some 56) (v := ?_) (a' := ?_) #[true, true, true, true, true, true, true, true, true, true, false, false] rfl rfl (any_of HT_.out Za24) (fun _ _ _ h => h) (Or.inl ⟨by rfl, ?_⟩) ?_ ?_
 rotate_left
 ·
  intro w'
  go_simp
  with_reducible rfl
 rotate_left
 ·
  simp only [Act.put, y1a2, y2a2, y3a2, i64_w, i32_w]
  rfl
 refine pure_ (i := 10) (N := some 57) (v := ?_) (a' := ?_) #[true, true, true, true, true, true, true, true, true, true, true, false] rfl rfl (any_of HT_.out Za24) (fun _ _ _ h => h) (Or.inl ⟨by rfl, ?_⟩) ?_ ?_
 rotate_left
 ·
  intro w'
  go_simp
  with_reducible rfl
 rotate_left
 ·
  simp only [Act.put, y1a2, y2a2, y3a2, i64_w, i32_w]
  rfl
 refine last_ (i := 11) (N := none) #[true, true, true, true, true, true, true, true, true, true, true, true] rfl rfl (one_of HT_.out Za24) (by decide) (fun K hK => ?_)
 refine skip_ (w1 := ?_) (by rfl) rfl ?_ ?_
 rotate_left
 ·
  go_simp
  rfl
 refine hK.out _ _ ?_
 clear hK K
 refine done_ (done_of HT_.out Za24) ?_
 try go_wp2
 have n0_ : Aside0 (Kd.R (Kd.int .i64) 3 (w44.setCell ⟨go28, ((ji29) : Int).toNat, none⟩ (.int .i64 (wrap64 ((rd y119 (ji29)) + (rd x6_1 x9_2))))) w.heap.size (fun k_ => some k_ ≠ (.slice Ao20 x7_1.length co20 : Value).ownBlock ∧ some k_ ≠ (.slice (some ⟨go28, 0, none⟩) x8_2.length co40 : Value).ownBlock) (.slice (some ad118) x6_1.length co41) x6_1) := ⟨by (with_reducible repeat (first | apply Kd.R_alloc | apply Kd.R_drewN | apply Kd.R_drew)); exact Kd.R_mono (Kd.R_far (p := ⟨go28, ((ji29) : Int).toNat, none⟩) (Kd.R_mono HO_6.out (fun k_ hk => (⟨hk, fun e_ => hk.2 (by rw [e_]; rfl)⟩ : _ ∧ k_ ≠ go28))) (fun _ hk => hk.2) (.int .i64 (wrap64 ((rd y119 (ji29)) + (rd x6_1 x9_2))))) (fun _ hk => ⟨hk.1.1, hk.1.2⟩)⟩
 have n1_ : Aside0 (Kd.R (Kd.int .i64) 3 (w44.setCell ⟨go28, ((ji29) : Int).toNat, none⟩ (.int .i64 (wrap64 ((rd y119 (ji29)) + (rd x6_1 x9_2))))) w.heap.size (fun k_ => some k_ ≠ (.slice (some ad118) x6_1.length co41 : Value).ownBlock ∧ some k_ ≠ (.slice (some ⟨go28, 0, none⟩) x8_2.length co40 : Value).ownBlock) (.slice Ao20 x7_1.length co20) x7_1) := ⟨by (with_reducible repeat (first | apply Kd.R_alloc | apply Kd.R_drewN | apply Kd.R_drew)); exact Kd.R_mono (Kd.R_far (p := ⟨go28, ((ji29) : Int).toNat, none⟩) (Kd.R_mono HO_7.out (fun k_ hk => (⟨hk, fun e_ => hk.2 (by rw [e_]; rfl)⟩ : _ ∧ k_ ≠ go28))) (fun _ hk => hk.2) (.int .i64 (wrap64 ((rd y119 (ji29)) + (rd x6_1 x9_2))))) (fun _ hk => ⟨hk.1.1, hk.1.2⟩)⟩
 have n2_ : Aside0 (Kd.R (Kd.int .i64) 3 (w44.setCell ⟨go28, ((ji29) : Int).toNat, none⟩ (.int .i64 (wrap64 ((rd y119 (ji29)) + (rd x6_1 x9_2))))) w.heap.size (fun k_ => some k_ ≠ (.slice (some ad118) x6_1.length co41 : Value).ownBlock ∧ some k_ ≠ (.slice Ao20 x7_1.length co20 : Value).ownBlock) (.slice (some ⟨go28, 0, none⟩) x8_2.length co40) y122) := ⟨by (with_reducible repeat (first | apply Kd.R_alloc | apply Kd.R_drewN | apply Kd.R_drew)); exact HQ45.out⟩
 have n3_ : Aside0 ((w44.setCell ⟨go28, ((ji29) : Int).toNat, none⟩ (.int .i64 (wrap64 ((rd y119 (ji29)) + (rd x6_1 x9_2))))).heap[g105]? = some (.cells #[.slice (some ad117) l0_0.length c0_0, .slice A0_1 l0_1.length c0_1] 24 (0, 0))) := ⟨by (with_reducible repeat (first | refine blk_drewN ?_ _ | refine blk_drew ?_ | refine blk_alloc ?_ _)); refine blk_far ?_ Za22 _; (with_reducible repeat (first | refine blk_drewN ?_ _ | refine blk_drew ?_ | refine blk_alloc ?_ _)); exact BK105.out⟩
 have n4_ : Aside0 (Below w.heap.size w (w44.setCell ⟨go28, ((ji29) : Int).toNat, none⟩ (.int .i64 (wrap64 ((rd y119 (ji29)) + (rd x6_1 x9_2)))))) := ⟨by repeat (first | (with_reducible first | exact HB.out | apply below_alloc | apply pw_below_drewN | apply below_drew1 | refine below_set ?_ GB28.out | refine below_set ?_ GE105.out) | exact HB.out)⟩
 (try clear HO_6)
 (try clear HO_7)
 (try clear HO_8)
 (try clear BK105)
 (try clear HB)
 generalize (w44.setCell ⟨go28, ((ji29) : Int).toNat, none⟩ (.int .i64 (wrap64 ((rd y119 (ji29)) + (rd x6_1 x9_2))))) = w46 at n0_ n1_ n2_ n3_ n4_ ⊢
 have HO_6 := n0_
 have HO_7 := n1_
 have HO_8 := n2_
 have BK105 := n3_
 have HB := n4_
 clear n0_ n1_ n2_ n3_ n4_
 have n0_ := Aa2q (Kd.R_drew HO_6.out)
 have n1_ := Aa2q (Kd.R_drew HO_7.out)
 have n2_ := Aa2q (Kd.R_drew HO_8.out)
 have n3_ := Aa2q (blk_drew BK105.out)
 have n4_ := Aa2q (below_drew1 HB.out)
 clear HO_6 HO_7 HO_8 BK105 HB
 have HO_6 := n0_
 have HO_7 := n1_
 have HO_8 := n2_
 have BK105 := n3_
 have HB := n4_
 clear n0_ n1_ n2_ n3_ n4_
 have p123 : 0 ≤ ((ji34) : Int) := of_decide_eq_true Za23
 have q123 : (ji34) < (y122.length : Int) := (by have h_ : ((ji34) : Int) < ((x8_2.length : Int) : Int) := of_decide_eq_true Za23; first | (have e_ := (Kd.R_reads' HO_8.out).1; omega) | simpa only [Ny119.out, Ny122.out, List.length_set] using h_)
 have ql123 : (((ji34) : Int) < ((x8_2.length : Int) : Int)) = True := eq_true (of_decide_eq_true Za23)
 obtain ⟨ad123, e123, hx123_0⟩ := Kd.at_int (Kd.R_reads' HO_8.out).2.2 (ji34) p123 q123
 obtain rfl : (⟨go28, 0, none⟩ : Addr) = ad123 := (by injection e123)
 (first | simp only [add_plain] at hx123_0 | simp only [add_at] at hx123_0 | simp only [Addr.add, Nat.zero_add] at hx123_0 | skip)
 replace p123 := eq_true p123
 replace q123 := eq_true q123
 have p124 : 0 ≤ ((ji34) : Int) := of_decide_eq_true Za23
 have q124 : (ji34) < (l0_1.length : Int) := of_decide_eq_true Za23
 obtain ⟨ad124, e124, hx124_0⟩ := Kd.at_int HR0_1.out (ji34) p124 q124
 have hw124_0 := hx124_0
 cases e124
 replace hx124_0 := (HB.out.cell (World.block_lt_of_cell? w _ hx124_0)).trans hx124_0
 replace p124 := eq_true p124
 replace q124 := eq_true q124
 have p125 : 0 ≤ (x9_2 : Int) := of_decide_eq_true Za23
 have q125 : x9_2 < (x6_1.length : Int) := of_decide_eq_true Za23
 obtain ⟨ad125, e125, hx125_0⟩ := Kd.at_int (Kd.R_reads' HO_6.out).2.2 x9_2 p125 q125
 obtain rfl : ad118 = ad125 := (by injection e125)
 replace p125 := eq_true p125
 replace q125 := eq_true q125
 have p38 : 0 ≤ ((ji34) : Int) := of_decide_eq_true Za23
 have q38 : ((ji34) : Int) < ((x8_2.length : Int) : Int) := of_decide_eq_true Za23
 obtain ⟨hx38_0, hf38_0⟩ := Kd.R_celln 0 HO_8.out ((ji34) : Int) p38 q38
 replace p38 := eq_true p38
 replace q38 := eq_true q38
 have HP48 := Kd.R_putn HO_8.out ((ji34) : Int) (wrap64 ((rd y122 (ji34)) + (wrap64 ((rd l0_1 (ji34)) * (rd x6_1 x9_2)))))
 rw [← Ny126.out] at HP48
 have HQ48 := Aa2q HP48
 clear HP48
 refine start_ (n := 19) (S := fun w' => w'.cell? ⟨g105, 0, none⟩ = some (.slice (some ad117) l0_0.length c0_0) ∧ w'.cell? ⟨g105, 1, none⟩ = some (.slice (some ad124) l0_1.length c0_1) ∧ w'.cell? ⟨go28, ((ji34)).toNat, none⟩ = some (.int .i64 (rd y122 (ji34))) ∧ w'.cell? (ad124.add ((ji34)).toNat) = some (.int .i64 (rd l0_1 (ji34))) ∧ w'.cell? (ad118.add (x9_2).toNat) = some (.int .i64 (rd x6_1 x9_2))) (ds := [18]) #[false, false, false, false, false, false, false, false, false, false, false, false, false, false, false, false, false, false, false] Za24 rfl rfl ⟨(blk_cell BK105.out 0).trans rfl, (blk_cell BK105.out 1).trans rfl, hx123_0, ((HB.out.cell (World.block_lt_of_cell? w _ hw124_0)).trans hw124_0), hx125_0⟩ (fun hHeld => ?_); refine with_tabW spec_kiMoments.tab13 spec_kiMoments.bits13 (fun HT_ HW_ => ?_)
 generalize w46.drew = w47 at HO_6 HO_7 HO_8 BK105 HB HQ45 HQ48 hf38_0 hx123_0 hx124_0 hx125_0 hx38_0 hHeld ⊢
 refine pure_ (i := 0) (N := some 60) (v := ?_) (a' := ?_) #[true, false, false, false, false, false, false, false, false, false, false, false, false, false, false, false, false, false, false] rfl rfl (any_of HT_.out Za24) (fun _ _ _ h => h) (Or.inl ⟨by rfl, ?_⟩) ?_ ?_
 rotate_left
 ·
  intro w'
  go_simp
  with_reducible rfl
 rotate_left
 ·
  simp only [Act.put, y1a2, y2a2, y3a2, i64_w, i32_w]
  rfl
 refine pure_ (i := 1) (N := some 61) (v := ?_) (a' := ?_) #[true, true, false, false, false, false, false, false, false, false, false, false, false, false, false, false, false, false, false] rfl rfl (any_of HT_.out Za24) (fun _ _ _ h => h) (Or.inl ⟨by rfl, ?_⟩) ?_ ?_
 rotate_left
 ·
  intro w'
  go_simp
  with_reducible rfl
 rotate_left
 ·
  simp only [Act.put, y1a2, y2a2, y3a2, i64_w, i32_w]
  rfl
 refine pure_ (i := 2) (N := some 62) (v := ?_) (a' := ?_) #[true, true, true, false, false, false, false, false, false, false, false, false, false, false, false, false, false, false, false] rfl rfl (any_of HT_.out Za24) (fun _ _ _ h => h) (Or.inl ⟨by rfl, ?_⟩) ?_ ?_
 rotate_left
 ·
  intro w'
  go_simp
  with_reducible rfl
 rotate_left
 ·
  simp only [Act.put, y1a2, y2a2, y3a2, i64_w, i32_w]
  rfl
 refine pure_ (i := 3) (N := some 63) (v := ?_) (a' := ?_) #[true, true, true, true, false, false, false, false, false, false, false, false, false, false, false, false, false, false, false] rfl rfl (any_of HT_.out Za24) (fun _ _ _ h => h) (Or.inl ⟨by rfl, ?_⟩) ?_ ?_
 rotate_left
 ·
  intro w'
  go_simp
  with_reducible rfl
 rotate_left
 ·
  simp only [Act.put, y1a2, y2a2, y3a2, i64_w, i32_w]
  rfl
 refine pure_ (i := 5) (N := some 65) (v := ?_) (a' := ?_) #[true, true, true, true, false, true, false, false, false, false, false, false, false, false, false, false, false, false, false] rfl rfl (any_of HT_.out Za24) (fun _ _ _ h => h) (Or.inl ⟨by rfl, ?_⟩) ?_ ?_
 rotate_left
 ·
  intro w'
  go_simp
  with_reducible rfl
 rotate_left
 ·
  simp only [Act.put, y1a2, y2a2, y3a2, i64_w, i32_w]
  rfl
 refine pure_ (i := 7) (N := some 67) (v := ?_) (a' := ?_) #[true, true, true, true, false, true, false, true, false, false, false, false, false, false, false, false, false, false, false] rfl rfl (any_of HT_.out Za24) (fun _ _ _ h => h) (Or.inl ⟨by rfl, ?_⟩) ?_ ?_
 rotate_left
 ·
  intro w'
  go_simp
  with_reducible rfl
 rotate_left
 ·
  simp only [Act.put, y1a2, y2a2, y3a2, i64_w, i32_w]
  rfl
 refine pure_ (i := 8) (N := some 68) (v := ?_) (a' := ?_) #[true, true, true, true, false, true, false, true, true, false, false, false, false, false, false, false, false, false, false] rfl rfl (any_of HT_.out Za24) (fun _ _ _ h => h) (Or.inl ⟨by rfl, ?_⟩) ?_ ?_
 rotate_left
 ·
  intro w'
  go_simp
  with_reducible rfl
 rotate_left
 ·
  simp only [Act.put, y1a2, y2a2, y3a2, i64_w, i32_w]
  rfl
 refine pure_ (i := 11) (N := some 71) (v := ?_) (a' := ?_) #[true, true, true, true, false, true, false, true, true, false, false, true, false, false, false, false, false, false, false] rfl rfl (any_of HT_.out Za24) (fun _ _ _ h => h) (Or.inl ⟨by rfl, ?_⟩) ?_ ?_
 rotate_left
 ·
  intro w'
  go_simp
  with_reducible rfl
 rotate_left
 ·
  simp only [Act.put, y1a2, y2a2, y3a2, i64_w, i32_w]
  rfl
 refine pure_ (i := 12) (N := some 72) (v := ?_) (a' := ?_) #[true, true, true, true, false, true, false, true, true, false, false, true, true, false, false, false, false, false, false] rfl rfl (any_of HT_.out Za24) (fun _ _ _ h => h) (Or.inl ⟨by rfl, ?_⟩) ?_ ?_
 rotate_left
 ·
  intro w'
  go_simp
  with_reducible rfl
 rotate_left
 ·
  simp only [Act.put, y1a2, y2a2, y3a2, i64_w, i32_w]
  rfl
 refine pure_ (i := 13) (N := some 73) (v := ?_) (a' := ?_) #[true, true, true, true, false, true, false, true, true, false, false, true, true, true, false, false, false, false, false] rfl rfl (any_of HT_.out Za24) (fun _ _ _ h => h) (Or.inl ⟨by rfl, ?_⟩) ?_ ?_
 rotate_left
 ·
  intro w'
  go_simp
  with_reducible rfl
 rotate_left
 ·
  simp only [Act.put, y1a2, y2a2, y3a2, i64_w, i32_w]
  rfl
 refine take_ (i := 4) (N := some 64) (v := ?_) (a' := ?_) #[true, true, true, true, true, true, false, true, true, false, false, true, true, true, false, false, false, false, false] rfl rfl (take_ofW HT_.out HW_.out Za24) (fun _ _ _ h => h) (Or.inl ⟨by rfl, ?_⟩) hHeld ?_ ?_
 rotate_left
 ·
  rintro w' ⟨s0, s1, s2, s3, s4⟩
  go_simp
  with_reducible rfl
 rotate_left
 ·
  simp only [Act.put, y1a2, y2a2, y3a2, i64_w, i32_w]
  rfl
 refine take_ (i := 6) (N := some 66) (v := ?_) (a' := ?_) #[true, true, true, true, true, true, true, true, true, false, false, true, true, true, false, false, false, false, false] rfl rfl (take_ofW HT_.out HW_.out Za24) (fun _ _ _ h => h) (Or.inl ⟨by rfl, ?_⟩) hHeld ?_ ?_
 rotate_left
 ·
  rintro w' ⟨s0, s1, s2, s3, s4⟩
  go_simp
  with_reducible rfl
 rotate_left
 ·
  simp only [Act.put, y1a2, y2a2, y3a2, i64_w, i32_w]
  rfl
 refine pure_ (i := 9) (N := some 69) (v := ?_) (a' := ?_) #[true, true, true, true, true, true, true, true, true, true, false, true, true, true, false, false, false, false, false] rfl rfl (any_of HT_.out Za24) (fun _ _ _ h => h) (Or.inl ⟨by rfl, ?_⟩) ?_ ?_
 rotate_left
 ·
  intro w'
  go_simp
  with_reducible rfl
 rotate_left
 ·
  simp only [Act.put, y1a2, y2a2, y3a2, i64_w, i32_w]
  rfl
 refine take_ (i := 10) (N := some 70) (v := ?_) (a' := ?_) #[true, true, true, true, true, true, true, true, true, true, true, true, true, true, false, false, false, false, false] rfl rfl (take_ofW HT_.out HW_.out Za24) (fun _ _ _ h => h) (Or.inl ⟨by rfl, ?_⟩) hHeld ?_ ?_
 rotate_left
 ·
  rintro w' ⟨s0, s1, s2, s3, s4⟩
  go_simp
  with_reducible rfl
 rotate_left
 ·
  simp only [Act.put, y1a2, y2a2, y3a2, i64_w, i32_w]
  rfl
 refine take_ (i := 14) (N := some 74) (v := ?_) (a' := ?_) #[true, true, true, true, true, true, true, true, true, true, true, true, true, true, true, false, false, false, false] rfl rfl (take_ofW HT_.out HW_.out Za24) (fun _ _ _ h => h) (Or.inl ⟨by rfl, ?_⟩) hHeld ?_ ?_
 rotate_left
 ·
  rintro w' ⟨s0, s1, s2, s3, s4⟩
  go_simp
  with_reducible rfl
 rotate_left
 ·
  simp only [Act.put, y1a2, y2a2, y3a2, i64_w, i32_w]
  rfl
 refine pure_ (i := 15) (N := some 75) (v := ?_) (a' := ?_) #[true, true, true, true, true, true, true, true, true, true, true, true, true, true, true, true, false, false, false] rfl rfl (any_of HT_.out Za24) (fun _ _ _ h => h) (Or.inl ⟨by rfl, ?_⟩) ?_ ?_
 rotate_left
 ·
  intro w'
  go_simp
  with_reducible rfl
 rotate_left
 ·
  simp only [Act.put, y1a2, y2a2, y3a2, i64_w, i32_w]
  rfl
 refine pure_ (i := 16) (N := some 76) (v := ?_) (a' := ?_) #[true, true, true, true, true, true, true, true, true, true, true, true, true, true, true, true, true, false, false] rfl rfl (any_of HT_.out Za24) (fun _ _ _ h => h) (Or.inl ⟨by rfl, ?_⟩) ?_ ?_
 rotate_left
 ·
  intro w'
  go_simp
  with_reducible rfl
 rotate_left
 ·
  simp only [Act.put, y1a2, y2a2, y3a2, i64_w, i32_w]
  rfl
 refine pure_ (i := 17) (N := some 77) (v := ?_) (a' := ?_) #[true, true, true, true, true, true, true, true, true, true, true, true, true, true, true, true, true, true, false] rfl rfl (any_of HT_.out Za24) (fun _ _ _ h => h) (Or.inl ⟨by rfl, ?_⟩) ?_ ?_
 rotate_left
 ·
  intro w'
  go_simp
  with_reducible rfl
 rotate_left
 ·
  simp only [Act.put, y1a2, y2a2, y3a2, i64_w, i32_w]
  rfl
 refine last_ (i := 18) (N := none) #[true, true, true, true, true, true, true, true, true, true, true, true, true, true, true, true, true, true, true] rfl rfl (one_of HT_.out Za24) (by decide) (fun K hK => ?_)
 refine skip_ (w1 := ?_) (by rfl) rfl ?_ ?_
 rotate_left
 ·
  go_simp
  rfl
 refine hK.out _ _ ?_
 clear hK K
 refine done_ (done_of HT_.out Za24) ?_
 try go_wp2
 go_roundg k2
 case measure => have := HK1.out; have := HK2.out; omega
 case rel => exact ⟨(y126), (ji29), (by first | rfl | (simp; done) | (simp only [← hji29] <;> (first | rfl | simp)) | (simp [*]; done)), H', ⟨by have := HK1.out; have := HK2.out; omega⟩, ⟨by (with_reducible repeat (first | apply Kd.R_alloc | apply Kd.R_drewN | apply Kd.R_drew)); exact Kd.R_mono (Kd.R_far (p := ⟨go28, ((ji34) : Int).toNat, none⟩) (Kd.R_mono HO_6.out (fun k_ hk => (⟨hk, fun e_ => hk.2 (by rw [e_]; rfl)⟩ : _ ∧ k_ ≠ go28))) (fun _ hk => hk.2) (.int .i64 (wrap64 ((rd y122 (ji34)) + (wrap64 ((rd l0_1 (ji34)) * (rd x6_1 x9_2))))))) (fun _ hk => ⟨hk.1.1, hk.1.2⟩)⟩, ⟨by (with_reducible repeat (first | apply Kd.R_alloc | apply Kd.R_drewN | apply Kd.R_drew)); exact Kd.R_mono (Kd.R_far (p := ⟨go28, ((ji34) : Int).toNat, none⟩) (Kd.R_mono HO_7.out (fun k_ hk => (⟨hk, fun e_ => hk.2 (by rw [e_]; rfl)⟩ : _ ∧ k_ ≠ go28))) (fun _ hk => hk.2) (.int .i64 (wrap64 ((rd y122 (ji34)) + (wrap64 ((rd l0_1 (ji34)) * (rd x6_1 x9_2))))))) (fun _ hk => ⟨hk.1.1, hk.1.2⟩)⟩, ⟨by (with_reducible repeat (first | apply Kd.R_alloc | apply Kd.R_drewN | apply Kd.R_drew)); exact HQ48.out⟩, ⟨by (with_reducible repeat (first | refine blk_drewN ?_ _ | refine blk_drew ?_ | refine blk_alloc ?_ _)); refine blk_far ?_ Za22 _; (with_reducible repeat (first | refine blk_drewN ?_ _ | refine blk_drew ?_ | refine blk_alloc ?_ _)); exact BK105.out⟩, ⟨by repeat (first | (with_reducible first | exact HB.out | apply below_alloc | apply pw_below_drewN | apply below_drew1 | refine below_set ?_ GB28.out | refine below_set ?_ GE105.out) | exact HB.out)⟩⟩
end Go.Proofs.Ytgoiohlmifgncaa.OFnExactLevelsOf
