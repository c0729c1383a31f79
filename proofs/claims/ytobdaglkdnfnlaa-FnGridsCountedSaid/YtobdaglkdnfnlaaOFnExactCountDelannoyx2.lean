/- The functions that 'FnExactCountDelannoy' runs, each as a function over numbers and lists, with the proof that the Go text comes to its answers. No condition. -/
import Derived.Test.YtobdaglkdnfnlaaFnV
import Derived.Test.YtobdaglkdnfnlaaOFnExactCountDelannoyx0
import Derived.Test.YtobdaglkdnfnlaaOFnExactCountDelannoyx1
namespace Go.Proofs.Ytobdaglkdnfnlaa.OFnExactCountDelannoy
open Go.Proofs.Ytobdaglkdnfnlaa.FnV
open Go.RowKit Go.Proofs.YtobdaglkdnfnlaaW.PrintWords Go.Proofs.YtobdaglkdnfnlaaW.PrintLast Go.Proofs.YtobdaglkdnfnlaaW.PrintMore
attribute [local go_sem] max2_int min2_int max_two min_two max_three min_three max_four min_four   -- for this text's walks alone
set_option linter.unusedVariables false
set_option linter.unusedSimpArgs false

/-! ### impl_gridWays: function 28 -/
mutual
def impl_gridWays.l0 : Nat → Int → Int → List (List Int) → Int → Int → Option (Int)
  | 0, _, _, _, _, _ => none
  | k + 1, x0, x1, x7, x14, x15 => if x15 < x14 then (if 0 ≤ (wrap64 (x0 + 1)) then (if (wrap64 (x0 + 1) : Int).toNat ≤ 35184372088832 then (if 0 ≤ x15 then (if x15 < (x7.length : Int) then ((some (x7.set (x15 : Int).toNat (List.replicate (wrap64 (x0 + 1) : Int).toNat 0) : List (List Int))).bind fun y120 => (impl_gridWays.l1 k x0 x1 y120 x15 x14 x15 ((rd_L1 y120 x15).length : Int) 0)) else (none)) else (none)) else (none)) else (none)) else (if 0 ≤ x1 then (if x1 < (x7.length : Int) then (if 0 ≤ x0 then (if x0 < ((rd_L1 x7 x1).length : Int) then (some (rd (rd_L1 x7 x1) x0)) else (none)) else (none)) else (none)) else (none))
def impl_gridWays.l1 : Nat → Int → Int → List (List Int) → Int → Int → Int → Int → Int → Option (Int)
  | 0, _, _, _, _, _, _, _, _ => none
  | k + 1, x0, x1, x7, x8, x14, x15, x28, x29 => if x29 < x28 then ((impl_CountDelannoy_1.f x29 x8).bind fun t122 => (if t122 = true then (if x29 = 0 then (impl_gridWays.j2 k x0 x1 x7 x8 x29 x14 x15 x28 x29 (x8 == 0)) else (impl_gridWays.j2 k x0 x1 x7 x8 x29 x14 x15 x28 x29 false)) else (impl_gridWays.l1 k x0 x1 x7 x8 x14 x15 x28 (wrap64 (x29 + 1))))) else (impl_gridWays.l0 k x0 x1 x7 x14 (wrap64 (x15 + 1)))
def impl_gridWays.j2 : Nat → Int → Int → List (List Int) → Int → Int → Int → Int → Int → Int → Bool → Option (Int)
  | 0, _, _, _, _, _, _, _, _, _, _ => none
  | k + 1, x0, x1, x7, x8, x9, x14, x15, x28, x29, x100 => if x100 = true then (if 0 ≤ x8 then (if x8 < (x7.length : Int) then (if 0 ≤ x9 then (if x9 < ((rd_L1 x7 x8).length : Int) then (impl_gridWays.l1 k x0 x1 (x7.set (x8 : Int).toNat ((rd_L1 x7 x8).set (x9 : Int).toNat 1)) x8 x14 x15 x28 (wrap64 (x29 + 1))) else (none)) else (none)) else (none)) else (none)) else (if x9 > 0 then (if 0 ≤ x8 then (if x8 < (x7.length : Int) then (if 0 ≤ x9 then (if x9 < ((rd_L1 x7 x8).length : Int) then (if 0 ≤ (wrap64 (x9 - 1)) then (if (wrap64 (x9 - 1)) < ((rd_L1 x7 x8).length : Int) then (impl_gridWays.j3 k x0 x1 (x7.set (x8 : Int).toNat ((rd_L1 x7 x8).set (x9 : Int).toNat (wrap64 ((rd (rd_L1 x7 x8) x9) + (rd (rd_L1 x7 x8) (wrap64 (x9 - 1))))))) x8 x9 x14 x15 x28 x29) else (none)) else (none)) else (none)) else (none)) else (none)) else (none)) else (impl_gridWays.j3 k x0 x1 x7 x8 x9 x14 x15 x28 x29))
def impl_gridWays.j3 : Nat → Int → Int → List (List Int) → Int → Int → Int → Int → Int → Int → Option (Int)
  | 0, _, _, _, _, _, _, _, _, _ => none
  | k + 1, x0, x1, x7, x8, x9, x14, x15, x28, x29 => if x8 > 0 then (if 0 ≤ x8 then (if x8 < (x7.length : Int) then (if 0 ≤ x9 then (if x9 < ((rd_L1 x7 x8).length : Int) then (if 0 ≤ (wrap64 (x8 - 1)) then (if (wrap64 (x8 - 1)) < (x7.length : Int) then (if x9 < ((rd_L1 x7 (wrap64 (x8 - 1))).length : Int) then ((some (x7.set (x8 : Int).toNat ((rd_L1 x7 x8).set (x9 : Int).toNat (wrap64 ((rd (rd_L1 x7 x8) x9) + (rd (rd_L1 x7 (wrap64 (x8 - 1))) x9)))) : List (List Int))).bind fun y140 => (if x9 > 0 then (if x9 < ((rd_L1 y140 x8).length : Int) then (if 0 ≤ (wrap64 (x9 - 1)) then (if (wrap64 (x9 - 1)) < ((rd_L1 y140 (wrap64 (x8 - 1))).length : Int) then (impl_gridWays.l1 k x0 x1 (y140.set (x8 : Int).toNat ((rd_L1 y140 x8).set (x9 : Int).toNat (wrap64 ((rd (rd_L1 y140 x8) x9) + (rd (rd_L1 y140 (wrap64 (x8 - 1))) (wrap64 (x9 - 1))))))) x8 x14 x15 x28 (wrap64 (x29 + 1))) else (none)) else (none)) else (none)) else (impl_gridWays.l1 k x0 x1 y140 x8 x14 x15 x28 (wrap64 (x29 + 1))))) else (none)) else (none)) else (none)) else (none)) else (none)) else (none)) else (none)) else (if x9 > 0 then (impl_gridWays.l1 k x0 x1 x7 x8 x14 x15 x28 (wrap64 (x29 + 1))) else (impl_gridWays.l1 k x0 x1 x7 x8 x14 x15 x28 (wrap64 (x29 + 1))))
end
def impl_gridWays.f (k : Nat) (a0 : Int) (a1 : Int) (a2 : Unit) : Option (Int) := if 0 ≤ (wrap64 (a1 + 1)) then (if (wrap64 (a1 + 1) : Int).toNat ≤ 11728124029610 then ((some (List.replicate (wrap64 (a1 + 1) : Int).toNat [] : List (List Int))).bind fun y112 => (impl_gridWays.l0 k a0 a1 y112 (y112.length : Int) 0)) else (none)) else (none)
theorem impl_gridWays.mono_l : ∀ k, (∀ y0 y1 y2 y3 y4, LeO (impl_gridWays.l0 k y0 y1 y2 y3 y4) (impl_gridWays.l0 (k + 1) y0 y1 y2 y3 y4)) ∧ (∀ y0 y1 y2 y3 y4 y5 y6 y7, LeO (impl_gridWays.l1 k y0 y1 y2 y3 y4 y5 y6 y7) (impl_gridWays.l1 (k + 1) y0 y1 y2 y3 y4 y5 y6 y7)) ∧ (∀ y0 y1 y2 y3 y4 y5 y6 y7 y8 y9, LeO (impl_gridWays.j2 k y0 y1 y2 y3 y4 y5 y6 y7 y8 y9) (impl_gridWays.j2 (k + 1) y0 y1 y2 y3 y4 y5 y6 y7 y8 y9)) ∧ (∀ y0 y1 y2 y3 y4 y5 y6 y7 y8, LeO (impl_gridWays.j3 k y0 y1 y2 y3 y4 y5 y6 y7 y8) (impl_gridWays.j3 (k + 1) y0 y1 y2 y3 y4 y5 y6 y7 y8))
  | 0 => ⟨fun _ _ _ _ _ r h => by simp [impl_gridWays.l0] at h, fun _ _ _ _ _ _ _ _ r h => by simp [impl_gridWays.l1] at h, fun _ _ _ _ _ _ _ _ _ _ r h => by simp [impl_gridWays.j2] at h, fun _ _ _ _ _ _ _ _ _ r h => by simp [impl_gridWays.j3] at h⟩
  | k + 1 => by
    obtain ⟨ih0, ih1, ih2, ih3⟩ := impl_gridWays.mono_l k
    refine ⟨?_, ?_, ?_, ?_⟩
    · intro y0 y1 y2 y3 y4
      unfold impl_gridWays.l0
      repeat' first
      | (with_reducible exact ih0 _ _ _ _ _)
      | (with_reducible exact ih1 _ _ _ _ _ _ _ _)
      | (with_reducible exact ih2 _ _ _ _ _ _ _ _ _ _)
      | (with_reducible exact ih3 _ _ _ _ _ _ _ _ _)
      | (with_reducible exact LeO.refl _)
      | (with_reducible exact LeO.none _)
      | (with_reducible refine LeO.ite ?_ ?_)
      | (with_reducible refine LeO.bind ?_ (fun _ => ?_))
      | exact ih0 _ _ _ _ _
      | exact ih1 _ _ _ _ _ _ _ _
      | exact ih2 _ _ _ _ _ _ _ _ _ _
      | exact ih3 _ _ _ _ _ _ _ _ _
      | exact LeO.none _
      | refine LeO.ite ?_ ?_
      | refine LeO.bind ?_ (fun _ => ?_)
    · intro y0 y1 y2 y3 y4 y5 y6 y7
      unfold impl_gridWays.l1
      repeat' first
      | (with_reducible exact ih0 _ _ _ _ _)
      | (with_reducible exact ih1 _ _ _ _ _ _ _ _)
      | (with_reducible exact ih2 _ _ _ _ _ _ _ _ _ _)
      | (with_reducible exact ih3 _ _ _ _ _ _ _ _ _)
      | (with_reducible exact LeO.refl _)
      | (with_reducible exact LeO.none _)
      | (with_reducible refine LeO.ite ?_ ?_)
      | (with_reducible refine LeO.bind ?_ (fun _ => ?_))
      | exact ih0 _ _ _ _ _
      | exact ih1 _ _ _ _ _ _ _ _
      | exact ih2 _ _ _ _ _ _ _ _ _ _
      | exact ih3 _ _ _ _ _ _ _ _ _
      | exact LeO.none _
      | refine LeO.ite ?_ ?_
      | refine LeO.bind ?_ (fun _ => ?_)
    · intro y0 y1 y2 y3 y4 y5 y6 y7 y8 y9
      unfold impl_gridWays.j2
      repeat' first
      | (with_reducible exact ih0 _ _ _ _ _)
      | (with_reducible exact ih1 _ _ _ _ _ _ _ _)
      | (with_reducible exact ih2 _ _ _ _ _ _ _ _ _ _)
      | (with_reducible exact ih3 _ _ _ _ _ _ _ _ _)
      | (with_reducible exact LeO.refl _)
      | (with_reducible exact LeO.none _)
      | (with_reducible refine LeO.ite ?_ ?_)
      | (with_reducible refine LeO.bind ?_ (fun _ => ?_))
      | exact ih0 _ _ _ _ _
      | exact ih1 _ _ _ _ _ _ _ _
      | exact ih2 _ _ _ _ _ _ _ _ _ _
      | exact ih3 _ _ _ _ _ _ _ _ _
      | exact LeO.none _
      | refine LeO.ite ?_ ?_
      | refine LeO.bind ?_ (fun _ => ?_)
    · intro y0 y1 y2 y3 y4 y5 y6 y7 y8
      unfold impl_gridWays.j3
      repeat' first
      | (with_reducible exact ih0 _ _ _ _ _)
      | (with_reducible exact ih1 _ _ _ _ _ _ _ _)
      | (with_reducible exact ih2 _ _ _ _ _ _ _ _ _ _)
      | (with_reducible exact ih3 _ _ _ _ _ _ _ _ _)
      | (with_reducible exact LeO.refl _)
      | (with_reducible exact LeO.none _)
      | (with_reducible refine LeO.ite ?_ ?_)
      | (with_reducible refine LeO.bind ?_ (fun _ => ?_))
      | exact ih0 _ _ _ _ _
      | exact ih1 _ _ _ _ _ _ _ _
      | exact ih2 _ _ _ _ _ _ _ _ _ _
      | exact ih3 _ _ _ _ _ _ _ _ _
      | exact LeO.none _
      | refine LeO.ite ?_ ?_
      | refine LeO.bind ?_ (fun _ => ?_)
theorem impl_gridWays.mono : ∀ a0 a1 a2 k, LeO (impl_gridWays.f k a0 a1 a2) (impl_gridWays.f (k + 1) a0 a1 a2) := by
  intro a0 a1 a2 k
  obtain ⟨ih0, ih1, ih2, ih3⟩ := impl_gridWays.mono_l k
  unfold impl_gridWays.f
  repeat' first
      | (with_reducible exact ih0 _ _ _ _ _)
      | (with_reducible exact ih1 _ _ _ _ _ _ _ _)
      | (with_reducible exact ih2 _ _ _ _ _ _ _ _ _ _)
      | (with_reducible exact ih3 _ _ _ _ _ _ _ _ _)
      | (with_reducible exact LeO.refl _)
      | (with_reducible exact LeO.none _)
      | (with_reducible refine LeO.ite ?_ ?_)
      | (with_reducible refine LeO.bind ?_ (fun _ => ?_))
      | exact ih0 _ _ _ _ _
      | exact ih1 _ _ _ _ _ _ _ _
      | exact ih2 _ _ _ _ _ _ _ _ _ _
      | exact ih3 _ _ _ _ _ _ _ _ _
      | exact LeO.none _
      | refine LeO.ite ?_ ?_
      | refine LeO.bind ?_ (fun _ => ?_)
def impl_gridWays.T10 : Bool × List (List Nat × List Nat) := (true, [([], []), ([], []), ([0, 1], [0, 1]), ([2], [2]), ([], []), ([3, 4], [3, 4]), ([5], [5]), ([], []), ([], []), ([7, 8], [7, 8]), ([9], [9]), ([], []), ([11], [11]), ([10, 12], [10, 12]), ([13], [13]), ([6, 14], [6, 14]), ([3, 4, 0, 1, 2, 3, 4, 5, 6, 7, 8, 9, 10, 11, 12, 13, 14, 15], [3, 4]), ([16, 15, 0, 1, 2, 3, 4, 5, 6, 7, 8, 9, 10, 11, 12, 13, 14, 15], [15, 16])])
def impl_gridWays.B10 : List Nat := [0, 0, 3, 7, 0, 31, 63, 0, 0, 384, 896, 0, 2048, 8064, 16256, 32767, 65535, 131071]
theorem impl_gridWays.tab10 : rtab .any (opsOf Try.f28 10) = impl_gridWays.T10 := by kernel_rfl
theorem impl_gridWays.bits10 : waitsOk impl_gridWays.T10.2 impl_gridWays.B10 = true := by kernel_rfl
def impl_gridWays.T12 : Bool × List (List Nat × List Nat) := (true, [([], []), ([], []), ([0, 1], [0, 1]), ([2], [2]), ([], []), ([3, 4], [3, 4]), ([5], [5]), ([], []), ([], []), ([8], [8]), ([7, 9], [7, 9]), ([10], [10]), ([], []), ([11, 12], [11, 12]), ([13], [13]), ([6, 14], [6, 14]), ([3, 4, 0, 1, 2, 3, 4, 5, 6, 7, 8, 9, 10, 11, 12, 13, 14, 15], [3, 4]), ([16, 15, 0, 1, 2, 3, 4, 5, 6, 7, 8, 9, 10, 11, 12, 13, 14, 15], [15, 16])])
def impl_gridWays.B12 : List Nat := [0, 0, 3, 7, 0, 31, 63, 0, 0, 256, 896, 1920, 0, 8064, 16256, 32767, 65535, 131071]
theorem impl_gridWays.tab12 : rtab .any (opsOf Try.f28 12) = impl_gridWays.T12 := by kernel_rfl
theorem impl_gridWays.bits12 : waitsOk impl_gridWays.T12.2 impl_gridWays.B12 = true := by kernel_rfl
def impl_gridWays.T14 : Bool × List (List Nat × List Nat) := (true, [([], []), ([], []), ([0, 1], [0, 1]), ([2], [2]), ([], []), ([3, 4], [3, 4]), ([5], [5]), ([], []), ([], []), ([8], [8]), ([7, 9], [7, 9]), ([10], [10]), ([], []), ([12], [12]), ([11, 13], [11, 13]), ([14], [14]), ([6, 15], [6, 15]), ([3, 4, 0, 1, 2, 3, 4, 5, 6, 7, 8, 9, 10, 11, 12, 13, 14, 15, 16], [3, 4]), ([17, 16, 0, 1, 2, 3, 4, 5, 6, 7, 8, 9, 10, 11, 12, 13, 14, 15, 16], [16, 17])])
def impl_gridWays.B14 : List Nat := [0, 0, 3, 7, 0, 31, 63, 0, 0, 256, 896, 1920, 0, 4096, 16256, 32640, 65535, 131071, 262143]
theorem impl_gridWays.tab14 : rtab .any (opsOf Try.f28 14) = impl_gridWays.T14 := by kernel_rfl
theorem impl_gridWays.bits14 : waitsOk impl_gridWays.T14.2 impl_gridWays.B14 = true := by kernel_rfl
set_option maxHeartbeats 8000000 in
set_option maxRecDepth 100000 in
theorem impl_gridWays.calls (k : Nat) (a0 : Int) (a1 : Int) (a2 : Unit) (r : Int) (w : World) (h : impl_gridWays.f k a0 a1 a2 = some r) :
    Calls Try.prog 28 #[.int .i64 a0, .int .i64 a1, .func (.func 29) #[] #[]] w fun e w' => e = .returned (.int .i64 r) ∧ Below w.heap.size w w' := by
  have HB := Aside0.mk (Below.refl w.heap.size w)
  have H : (if 0 ≤ (wrap64 (a1 + 1)) then (if (wrap64 (a1 + 1) : Int).toNat ≤ 11728124029610 then ((some (List.replicate (wrap64 (a1 + 1) : Int).toNat [] : List (List Int))).bind fun y112 => (impl_gridWays.l0 k a0 a1 y112 (y112.length : Int) 0)) else (none)) else (none)) = some r := h
  clear h
  obtain ⟨ji4, hji4⟩ : ∃ j_ : Int, (wrap64 (a1 + 1)) = j_ := ⟨_, rfl⟩
  replace H : (if 0 ≤ (ji4) then (if (ji4 : Int).toNat ≤ 11728124029610 then ((some (List.replicate (ji4 : Int).toNat [] : List (List Int))).bind fun y112 => (impl_gridWays.l0 k a0 a1 y112 (y112.length : Int) 0)) else (none)) else (none)) = some r := by first | (rw [hji4] at H; exact H) | (simp only [hji4] at H ⊢; exact H)
  have hji4w : (IntKind.i64.wrap (a1 + 1)) = ji4 := (i64_w _).trans hji4
  by_cases c5 : 0 ≤ (ji4)
  · rw [if_pos c5] at H
    have c5b0 := eq_true c5
    have c5b1 : decide (0 ≤ (ji4)) = true := decide_eq_true c5
    clear c5
    by_cases c6 : (ji4 : Int).toNat ≤ 11728124029610
    · rw [if_pos c6] at H
      have c6b0 := eq_true c6
      have c6b1 : decide ((ji4 : Int).toNat ≤ 11728124029610) = true := decide_eq_true c6
      clear c6
      obtain ⟨y112, hy112⟩ : ∃ y_ : List (List Int), y_ = (List.replicate (ji4 : Int).toNat []) := ⟨_, rfl⟩
      replace H : (impl_gridWays.l0 k a0 a1 y112 (y112.length : Int) 0) = some r := by first | (rw [hy112]; with_reducible exact H) | (have H2_ := (Option.bind_some _ _).symm.trans H; rw [hy112]; with_reducible exact H2_) | (have H2_ := (Option.bind_some _ _).symm.trans H; with_reducible exact H2_) | with_reducible exact H | (rw [hy112]; exact H) | exact H
      have Ny112 := Aside0.mk hy112
      clear hy112
      have H' := Aside0.mk H
      clear H
      go_enter Try.func28, Try.ntmps28
      go_wp2_with (first | ((with_reducible refine gate_dst (N := 12) rfl ?_); refine Kd.S_make (Kd.slice 3 (Kd.int .i64)) _ 32 rfl (N := 12) rfl 57 _ _ rfl ji4 rfl rfl Try.underlying57 (.slice none 0 0) 24 info32 rfl (by decide) (by omega) [] (ok := fun _ => True) (okp := fun _ => True) ⟨_, rfl, Kd.R_nil _ _ _ _ _⟩ (fun _ hk => hk) trivial (of_decide_eq_true (by first | (with_reducible assumption) | assumption)) (Nat.le_trans (Nat.mul_le_mul_right _ (of_decide_eq_true (by first | (with_reducible assumption) | assumption) : ji4.toNat ≤ 11728124029610)) (by omega)) (Below.refl _ _) (Nat.le_refl _) ?_; intro v113 w7 ho8 hb hg_ hnew_; clear hg_ hnew_; (first | rw [← Ny112.out] at ho8 | (simp only [Int.reduceToNat] at ho8; rw [← Ny112.out] at ho8)); have n0_ := Aside0.mk (Kd.S_lower ho8 (below_size (by repeat (first | (with_reducible first | exact HB.out | apply below_alloc | apply pw_below_drewN | apply below_drew1) | exact HB.out)))); have n1_ := Aside0.mk (below_step (by repeat (first | (with_reducible first | exact HB.out | apply below_alloc | apply pw_below_drewN | apply below_drew1) | exact HB.out)) hb); clear HB; have HO114 := n0_; have HB := n1_; clear n0_ n1_; clear hb ho8; obtain ⟨Ao9, co9, eo9⟩ := Kd.S_slice HO114.out; subst eo9))
      go_loopg [15] k (fun kq v15 w' => ∃ (x7_1 : List (List Int)) (x15_1 : Int), v15 = .int .i64 x15_1 ∧ Aside0 (impl_gridWays.l0 kq a0 a1 x7_1 (y112.length : Int) x15_1 = some r) ∧ Aside0 (kq ≤ k) ∧ Aside0 (Kd.S (Kd.slice 3 (Kd.int .i64)) 32 w' w.heap.size (fun _ => True) (.slice Ao9 y112.length co9) x7_1) ∧ Aside0 (Below w.heap.size w w'))
      case atStart => exact ⟨(y112), (0), (by first | rfl | (simp; done) | (simp [*]; done)), H', ⟨Nat.le_refl _⟩, ⟨by (with_reducible repeat (first | apply Kd.S_alloc | apply Kd.S_drewN | apply Kd.S_drew)); exact HO114.out⟩, ⟨by repeat (first | (with_reducible first | exact HB.out | apply below_alloc | apply pw_below_drewN | apply below_drew1) | exact HB.out)⟩⟩
      case round =>
        clear H'
        try clear c2
        try clear p2
        try clear c5
        try clear c5b0
        try clear c5b1
        try clear c6
        try clear c6b0
        try clear c6b1
        try clear p6
        obtain ⟨x7_1, x15_1, rfl, HA, HK1, HO_7, HB⟩ := hrel
        have hl7_1 := (Kd.S_reads' HO_7.out).1
        rw [hl7_1] at HO_7
        (try simp only [hl7_1])
        cases gk with
        | zero => exact absurd HA.out (by simp [impl_gridWays.l0])
        | succ k1 =>
          have H := HA.out
          clear HA
          simp only [impl_gridWays.l0] at H
          by_cases c10 : x15_1 < (y112.length : Int)
          · rw [if_pos c10] at H
            have c10b0 : decide (x15_1 < (y112.length : Int)) = true := decide_eq_true c10
            (try simp only [hl7_1] at c10b0)
            clear c10
            obtain ⟨ji11, hji11⟩ : ∃ j_ : Int, (wrap64 (a0 + 1)) = j_ := ⟨_, rfl⟩
            replace H : (if 0 ≤ (ji11) then (if (ji11 : Int).toNat ≤ 35184372088832 then (if 0 ≤ x15_1 then (if x15_1 < (x7_1.length : Int) then ((some (x7_1.set (x15_1 : Int).toNat (List.replicate (ji11 : Int).toNat 0) : List (List Int))).bind fun y120 => (impl_gridWays.l1 k1 a0 a1 y120 x15_1 (y112.length : Int) x15_1 ((rd_L1 y120 x15_1).length : Int) 0)) else (none)) else (none)) else (none)) else (none)) = some r := by first | (rw [hji11] at H; exact H) | (simp only [hji11] at H ⊢; exact H)
            have hji11w : (IntKind.i64.wrap (a0 + 1)) = ji11 := (i64_w _).trans hji11
            by_cases c12 : 0 ≤ (ji11)
            · rw [if_pos c12] at H
              have c12b0 := eq_true c12
              have c12b1 : decide (0 ≤ (ji11)) = true := decide_eq_true c12
              clear c12
              by_cases c13 : (ji11 : Int).toNat ≤ 35184372088832
              · rw [if_pos c13] at H
                have c13b0 := eq_true c13
                have c13b1 : decide ((ji11 : Int).toNat ≤ 35184372088832) = true := decide_eq_true c13
                clear c13
                obtain ⟨y117, hy117⟩ : ∃ y_ : List Int, y_ = (List.replicate (ji11 : Int).toNat 0) := ⟨_, rfl⟩
                replace H : (if 0 ≤ x15_1 then (if x15_1 < (x7_1.length : Int) then ((some (x7_1.set (x15_1 : Int).toNat y117 : List (List Int))).bind fun y120 => (impl_gridWays.l1 k1 a0 a1 y120 x15_1 (y112.length : Int) x15_1 ((rd_L1 y120 x15_1).length : Int) 0)) else (none)) else (none)) = some r := by first | (rw [hy117]; with_reducible exact H) | (have H2_ := (Option.bind_some _ _).symm.trans H; rw [hy117]; with_reducible exact H2_) | (have H2_ := (Option.bind_some _ _).symm.trans H; with_reducible exact H2_) | with_reducible exact H | (rw [hy117]; exact H) | exact H
                have Ny117 := Aside0.mk hy117
                clear hy117
                by_cases c14 : 0 ≤ x15_1
                · rw [if_pos c14] at H
                  have c14b0 : decide (0 ≤ x15_1) = true := decide_eq_true c14
                  clear c14
                  by_cases c15 : x15_1 < (x7_1.length : Int)
                  · rw [if_pos c15] at H
                    have c15b0 : decide (x15_1 < (x7_1.length : Int)) = true := decide_eq_true c15
                    (try simp only [hl7_1] at c15b0)
                    clear c15
                    obtain ⟨y120, hy120⟩ : ∃ y_ : List (List Int), y_ = (x7_1.set (x15_1 : Int).toNat y117) := ⟨_, rfl⟩
                    replace H : (impl_gridWays.l1 k1 a0 a1 y120 x15_1 (y112.length : Int) x15_1 ((rd_L1 y120 x15_1).length : Int) 0) = some r := by first | (rw [hy120]; with_reducible exact H) | (have H2_ := (Option.bind_some _ _).symm.trans H; rw [hy120]; with_reducible exact H2_) | (have H2_ := (Option.bind_some _ _).symm.trans H; with_reducible exact H2_) | with_reducible exact H | (rw [hy120]; exact H) | exact H
                    have Ny120 := Aside0.mk hy120
                    clear hy120
                    have H' := Aside0.mk H
                    clear H
                    go_wp2_with (first | ((with_reducible refine gate_dst (N := 22) rfl ?_); refine Kd.R_make (Kd.int .i64) _ 3 rfl (N := 22) rfl 32 _ _ rfl ji11 rfl rfl Try.underlying32 (.int .i64 0) 8 info3 rfl (by decide) (by omega) 0 (ok := fun _ => True) (okp := fun _ => True) rfl (fun _ hk => hk) trivial (of_decide_eq_true (by first | (with_reducible assumption) | assumption)) (Nat.le_trans (Nat.mul_le_mul_right _ (of_decide_eq_true (by first | (with_reducible assumption) | assumption) : ji11.toNat ≤ 35184372088832)) (by omega)) (Below.refl _ _) (Nat.le_refl _) ?_; intro v118 w17 ho18 hb hg_ hnew_; clear hg_ hnew_; (first | rw [← Ny117.out] at ho18 | (simp only [Int.reduceToNat] at ho18; rw [← Ny117.out] at ho18)); have n0_ := Aside0.mk (Kd.S_elder' (by (with_reducible repeat (first | apply Kd.S_alloc | apply Kd.S_drewN | apply Kd.S_drew)); exact HO_7.out) (Kd.R_base ho18) hb); have n1_ := Aside0.mk (Kd.R_lower ho18 (below_size (by repeat (first | (with_reducible first | exact HB.out | apply below_alloc | apply pw_below_drewN | apply below_drew1) | exact HB.out)))); have n2_ := Aside0.mk (below_step (by repeat (first | (with_reducible first | exact HB.out | apply below_alloc | apply pw_below_drewN | apply below_drew1) | exact HB.out)) hb); clear HO_7; clear HB; have HO_7 := n0_; have HO119 := n1_; have HB := n2_; clear n0_ n1_ n2_; clear hb ho18; have p16 : 0 ≤ (x15_1 : Int) := of_decide_eq_true (by first | (with_reducible assumption) | assumption); have q16 : (x15_1 : Int) < ((x7_1.length : Int) : Int) := of_decide_eq_true (by first | (with_reducible assumption) | assumption); obtain ⟨go16, co16, eo16, gb16, gl16, cl16, HG16⟩ := Kd.S_form HO_7.out (by omega); (first | cases eo16 | (injection eo16 with ea_ en_ ec_; (first | subst ea_ | (injection ea_ with ea_; subst ea_)); subst ec_; clear en_)); have GB16 := Aside0.mk gb16; have GG16 := Aside0.mk HG16; clear gb16 gl16 HG16; obtain ⟨_, ce16, hcl16, hM16, hcc16, hfr16, _, _⟩ := Kd.S_elem HO_7.out [] (x15_1 : Int) p16 q16; obtain ⟨ve16_0, rfl, ge16_0⟩ := hM16; have hx16_0 := hcc16 0 _ rfl; have hf16_0 := hfr16 0; (try simp only [show ((Kd.slice 3 (Kd.int .i64))).sz = 1 from rfl, Nat.mul_one, Nat.add_zero] at hx16_0); (try simp only [show ((Kd.slice 3 (Kd.int .i64))).sz = 1 from rfl, Nat.mul_one, Nat.add_zero] at hf16_0); (try clear hcl16); (try clear hcc16); (try clear hfr16); (try clear hM16); replace p16 := eq_true p16; replace q16 := eq_true q16; have n_ := Aside0.mk (Kd.S_mono (ok' := (fun k_ => some k_ ≠ (v118 : Value).ownBlock)) HO_7.out (fun k_ hk => hk.2)); clear HO_7; have HO_7 := n_; clear n_; have HX19 := Aside0.mk (show Kd.S (Kd.slice 3 (Kd.int .i64)) 32 w17 w.heap.size (fun k_ => ((fun _ => True)) k_ ∧ ¬ ((fun k_ => some k_ = (v118 : Value).ownBlock)) k_) (.slice (some ⟨go16, 0, none⟩) x7_1.length co9) x7_1 from (by (with_reducible repeat (first | apply Kd.S_alloc | apply Kd.S_drewN | apply Kd.S_drew)); exact Kd.S_mono HO_7.out (fun k_ hk => ⟨trivial, fun e_ => hk e_⟩))); obtain ⟨oki19, ce19, hcl19, hM19, hcc19, hfr19, hoki19, hH19⟩ := Kd.S_elem HX19.out [] (x15_1 : Int) (of_decide_eq_true (by first | (with_reducible assumption) | assumption)) (by have h_ : (x15_1 : Int) < ((x7_1.length : Int) : Int) := of_decide_eq_true (by first | (with_reducible assumption) | assumption); first | exact h_ | (have e_ := (Kd.S_reads' HO_7.out).1; omega) | simpa using h_); obtain ⟨ve19_0, rfl, ge19_0⟩ := hM19; have HP19 := Kd.S_seg hH19 (of_decide_eq_true (by first | (with_reducible assumption) | assumption)) (by have h_ : (x15_1 : Int) < ((x7_1.length : Int) : Int) := of_decide_eq_true (by first | (with_reducible assumption) | assumption); first | exact h_ | (have e_ := (Kd.S_reads' HO_7.out).1; omega) | simpa using h_) (seg := [v118]) (j := 0) (show 1 ≤ 1 from by decide) (x' := y117) (Kd.M_row (Kd.R_mono (Kd.R_tight rfl (Kd.R_mono (ok' := fun k_ => ((fun _ => True)) k_ ∧ k_ ≠ go16) (Kd.R_apart' (HO119.out) (Kd.S_typed HO_7.out) (by decide)) (fun k_ hk => ⟨trivial, fun e_ => (hk.2) (by rw [e_]; rfl)⟩))) (fun _ h_ => Or.inr (h_)))) (fun _ hk => hk) (fun k_ hk_ => ((Kd.R_mono (ok' := fun k_ => ((fun _ => True)) k_ ∧ k_ ≠ go16) (Kd.R_apart' (HO119.out) (Kd.S_typed HO_7.out) (by decide)) (fun k_ hk => ⟨trivial, fun e_ => (hk.2) (by rw [e_]; rfl)⟩))).1 k_ hk_.symm); have hx19_0 := hcc19 0 _ rfl; (try simp only [show ((Kd.slice 3 (Kd.int .i64))).sz = 1 from rfl, Nat.mul_one, Nat.add_zero] at hx19_0); have hf19_0 := hfr19 0; (try simp only [show ((Kd.slice 3 (Kd.int .i64))).sz = 1 from rfl, Nat.mul_one, Nat.add_zero] at hf19_0); (try clear hcl19); (try clear hcc19); (try clear hfr19); (try clear hM19); (try clear hoki19); (try clear hH19); (try simp only [show ((Kd.slice 3 (Kd.int .i64))).sz = 1 from rfl, Nat.mul_one, Nat.add_zero] at HP19)) | ((with_reducible refine gate_store (t := 32) (p := 23) rfl ?_); refine store_event (t := 32) (p := 23) (v := ?vo_w20) (w1 := (w17.setCell ⟨go16, (x15_1 : Int).toNat, none⟩ (v118))) ?hg ?ho ?hn ?hr ?_; (case ho => rfl); (case hg => rfl); (case hn => rfl); (case hr => first | (go_simp; done) | (go_simp; rfl) | (obtain ⟨Aq_, cq_, eq_⟩ := Kd.R_slice HO119.out; subst eq_; first | (go_simp; done) | (go_simp; rfl))); intro w20 hw; have hg : w17.grownBy w20 (some go16) := (by rw [hw]; exact HP19.2); have hp_ : Kd.S (Kd.slice 3 (Kd.int .i64)) 32 w20 w.heap.size (fun _ => True) (.slice (some ⟨go16, 0, none⟩) x7_1.length co9) y120 := (by rw [hw, Ny120.out]; exact HP19.1); clear HP19; have n0_ := Aside0.mk (hp_); have n1_ := Aside0.mk ((by rw [hw]; exact below_set (HB.out) GB16.out : Below w.heap.size w w20)); clear HO_7; clear HB; clear HO119; have HO_7 := n0_; have HB := n1_; clear n0_ n1_; clear hg hw hp_; have p121 : 0 ≤ (x15_1 : Int) := of_decide_eq_true (by first | (with_reducible assumption) | assumption); have q121 : x15_1 < (y120.length : Int) := (by have h_ : (x15_1 : Int) < ((x7_1.length : Int) : Int) := of_decide_eq_true (by first | (with_reducible assumption) | assumption); first | (have e_ := (Kd.S_reads' HO_7.out).1; omega) | simpa only [Ny120.out, List.length_set] using h_); have ql121 : ((x15_1 : Int) < ((x7_1.length : Int) : Int)) = True := eq_true (of_decide_eq_true (by first | (with_reducible assumption) | assumption)); obtain ⟨ad121, A121_0, c121_0, e121, hx121_0, hl121_0, hi121_0⟩ := at_L1 (Kd.S_reads' HO_7.out).2.2 x15_1 p121 q121; obtain rfl : (⟨go16, 0, none⟩ : Addr) = ad121 := (by injection e121); obtain ⟨ce121, hce121, hMe121, hcc121⟩ := Kd.S_get HO_7.out [] x15_1 p121 (by first | exact q121 | exact of_decide_eq_true (by first | (with_reducible assumption) | assumption) | (have e_ := (Kd.S_reads' HO_7.out).1; omega)); obtain ⟨ve121_0, rfl, ge121_0⟩ := hMe121; have hv121_0 := hcc121 0 _ rfl; rw [Nat.add_zero, show ((Kd.slice 3 (Kd.int .i64))).sz = 1 from rfl, Nat.mul_one] at hv121_0; replace hv121_0 := Option.some.inj (hv121_0.symm.trans hx121_0); rw [hv121_0] at ge121_0; have HL121_0 := Aside0.mk (show Kd.R (Kd.int .i64) 3 _ _ _ _ (rd_L1 y120 x15_1) from ge121_0); clear hv121_0 ge121_0; have HX121_0 := Aside0.mk hx121_0; clear hcc121 hce121; (first | simp only [add_plain] at hx121_0 | simp only [add_at] at hx121_0 | simp only [Addr.add, Nat.zero_add] at hx121_0 | skip); have HR121_0 := Aside0.mk hi121_0; have HC121_0 := Aside0.mk hl121_0; clear hi121_0 hl121_0; replace p121 := eq_true p121; replace q121 := eq_true q121))
                    go_loopg [29] k1 (fun kq v29 w' => ∃ (x7_2 : List (List Int)) (x29_2 : Int), v29 = .int .i64 x29_2 ∧ Aside0 (impl_gridWays.l1 kq a0 a1 x7_2 x15_1 (y112.length : Int) x15_1 ((rd_L1 y120 x15_1).length : Int) x29_2 = some r) ∧ Aside0 (kq ≤ k1) ∧ Aside0 (Kd.S (Kd.slice 3 (Kd.int .i64)) 32 w' w.heap.size (fun _ => True) (.slice (some ⟨go16, 0, none⟩) x7_1.length co9) x7_2) ∧ Aside0 (Below w.heap.size w w'))
                    case atStart => exact ⟨(y120), (0), (by first | rfl | (simp; done) | (simp [*]; done)), H', ⟨Nat.le_refl _⟩, ⟨by (try simp only [hl7_1]); (with_reducible repeat (first | apply Kd.S_alloc | apply Kd.S_drewN | apply Kd.S_drew)); exact HO_7.out⟩, ⟨by repeat (first | (with_reducible first | exact HB.out | apply below_alloc | apply pw_below_drewN | apply below_drew1) | exact HB.out)⟩⟩
                    case round =>
                      clear H'
                      try clear c1
                      try clear p1
                      try clear q1
                      try clear hx1
                      try clear c2
                      try clear p2
                      try clear c5
                      try clear c5b0
                      try clear c5b1
                      try clear c6
                      try clear c6b0
                      try clear c6b1
                      try clear p6
                      try clear c10
                      try clear c10b0
                      try clear c12
                      try clear c12b0
                      try clear c12b1
                      try clear p12
                      try clear q12
                      try clear hx12
                      try clear c13
                      try clear c13b0
                      try clear c13b1
                      try clear c14
                      try clear c14b0
                      try clear c15
                      try clear c15b0
                      try clear c16
                      try clear p16
                      try clear q16
                      try clear hx16
                      try clear hf16
                      try clear c19
                      try clear hx19
                      try clear hf19
                      try clear hx121_0
                      try clear hx16_0
                      try clear hx19_0
                      try clear p121
                      try clear p16
                      try clear p2
                      try clear p6
                      try clear q121
                      try clear q16
                      obtain ⟨x7_2, x29_2, rfl, HA, HK2, HO_7, HB⟩ := hrel
                      have hl7_2 := (Kd.S_reads' HO_7.out).1
                      rw [hl7_2] at HO_7
                      (try simp only [hl7_2])
                      cases gk with
                      | zero => exact absurd HA.out (by simp [impl_gridWays.l1])
                      | succ k2 =>
                        have H := HA.out
                        clear HA
                        simp only [impl_gridWays.l1] at H
                        by_cases c21 : x29_2 < ((rd_L1 y120 x15_1).length : Int)
                        · rw [if_pos c21] at H
                          have c21b0 : decide (x29_2 < ((rd_L1 y120 x15_1).length : Int)) = true := decide_eq_true c21
                          (try simp only [hl7_1] at c21b0)
                          (try simp only [hl7_2] at c21b0)
                          clear c21
                          replace H := Option.bind_eq_some_iff.mp H
                          obtain ⟨t122, A220, H⟩ := H
                          replace H : (if t122 = true then (if x29_2 = 0 then (impl_gridWays.j2 k2 a0 a1 x7_2 x15_1 x29_2 (y112.length : Int) x15_1 ((rd_L1 y120 x15_1).length : Int) x29_2 (x15_1 == 0)) else (impl_gridWays.j2 k2 a0 a1 x7_2 x15_1 x29_2 (y112.length : Int) x15_1 ((rd_L1 y120 x15_1).length : Int) x29_2 false)) else (impl_gridWays.l1 k2 a0 a1 x7_2 x15_1 (y112.length : Int) x15_1 ((rd_L1 y120 x15_1).length : Int) (wrap64 (x29_2 + 1)))) = some r := H
                          have A22 := Aside0.mk A220
                          clear A220
                          by_cases c23 : t122 = true
                          · subst c23
                            have H1 : (if x29_2 = 0 then (impl_gridWays.j2 k2 a0 a1 x7_2 x15_1 x29_2 (y112.length : Int) x15_1 ((rd_L1 y120 x15_1).length : Int) x29_2 (x15_1 == 0)) else (impl_gridWays.j2 k2 a0 a1 x7_2 x15_1 x29_2 (y112.length : Int) x15_1 ((rd_L1 y120 x15_1).length : Int) x29_2 false)) = some r := by rw [if_pos rfl] at H; exact H
                            clear H
                            have H := H1
                            clear H1
                            have HC24 := Aside0.mk H
                            clear H
                            go_upto_region 16 with (first | ((with_reducible refine gate_calleeV rfl ?_); refine goesLV_ (some 98) rfl rfl Try.func29 (by kernel_rfl) rfl #[.int .i64 x29_2, .int .i64 x15_1] rfl (by first | rfl | (simp [Act.eval]; done)) (by (try simp only [List.map_toArray, List.map_cons, List.map_nil]); first | done | rfl | (simp only [List.length_drop, List.length_take]; rfl)) ?_; (with_reducible refine (impl_CountDelannoy_1.calls x29_2 x15_1 true _ A22.out).mono ?_); rintro e w' ⟨rfl, ⟨nd, rfl⟩⟩; refine ⟨_, rfl, ?_⟩))
                            (try simp only [Act.put, List.setIfInBounds_toArray, List.set_cons_zero, List.set_cons_succ])
                            go_cut [100] (fun v100 wc => ∃ (kq : Nat) (x100_23 : Bool), v100 = .bool x100_23 ∧ Aside0 (impl_gridWays.j2 kq a0 a1 x7_2 x15_1 x29_2 (y112.length : Int) x15_1 ((rd_L1 y120 x15_1).length : Int) x29_2 x100_23 = some r) ∧ Aside0 (kq ≤ k2) ∧ Aside0 (Kd.S (Kd.slice 3 (Kd.int .i64)) 32 wc w.heap.size (fun _ => True) (.slice (some ⟨go16, 0, none⟩) x7_2.length co9) x7_2) ∧ Aside0 (Below w.heap.size w wc))
                            case first =>
                              have H := HC24.out
                              clear HC24
                              by_cases c25 : x29_2 = 0
                              · rw [if_pos c25] at H
                                have c25b0 : (x29_2 == 0) = true := beq_iff_eq.mpr c25
                                have c25b1 : (x29_2 != 0) = false := bne_eq_false_iff_eq.mpr c25
                                clear c25
                                (first | rw [c25b0] | (simp only [i64_w, i32_w]; rw [c25b0]) | skip)
                                have H' := Aside0.mk H
                                clear H
                                go_wp2
                                go_meet
                                case rel => exact ⟨_, ((x15_1 == 0)), (by first | rfl | (simp; done) | (simp [*]; done)), H', ⟨by have := HK1.out; have := HK2.out; first | omega | exact Nat.le_refl _⟩, ⟨by (try simp only [hl7_1]); (try simp only [hl7_2]); (with_reducible repeat (first | apply Kd.S_alloc | apply Kd.S_drewN | apply Kd.S_drew)); exact HO_7.out⟩, ⟨by repeat (first | (with_reducible first | exact HB.out | apply below_alloc | apply pw_below_drewN | apply below_drew1) | exact HB.out)⟩⟩
                              · rw [if_neg c25] at H
                                have c25b0 : (x29_2 == 0) = false := beq_eq_false_iff_ne.mpr c25
                                have c25b1 : (x29_2 != 0) = true := bne_iff_ne.mpr c25
                                (first | rw [c25b0] | (simp only [i64_w, i32_w]; rw [c25b0]) | skip)
                                have H' := Aside0.mk H
                                clear H
                                go_wp2
                                go_meet
                                case rel => exact ⟨_, (false), (by first | rfl | (simp; done) | (simp [*]; done)), H', ⟨by have := HK1.out; have := HK2.out; first | omega | exact Nat.le_refl _⟩, ⟨by (try simp only [hl7_1]); (try simp only [hl7_2]); (with_reducible repeat (first | apply Kd.S_alloc | apply Kd.S_drewN | apply Kd.S_drew)); exact HO_7.out⟩, ⟨by repeat (first | (with_reducible first | exact HB.out | apply below_alloc | apply pw_below_drewN | apply below_drew1) | exact HB.out)⟩⟩
                            case rest =>
                              clear HC24
                              try clear c1
                              try clear p1
                              try clear q1
                              try clear hx1
                              try clear c2
                              try clear p2
                              try clear c5
                              try clear c5b0
                              try clear c5b1
                              try clear c6
                              try clear c6b0
                              try clear c6b1
                              try clear p6
                              try clear c10
                              try clear c10b0
                              try clear c12
                              try clear c12b0
                              try clear c12b1
                              try clear p12
                              try clear q12
                              try clear hx12
                              try clear c13
                              try clear c13b0
                              try clear c13b1
                              try clear c14
                              try clear c14b0
                              try clear c15
                              try clear c15b0
                              try clear c16
                              try clear p16
                              try clear q16
                              try clear hx16
                              try clear hf16
                              try clear c19
                              try clear hx19
                              try clear hf19
                              try clear c21
                              try clear c21b0
                              try clear c23
                              try clear c25
                              try clear c25b0
                              try clear c25b1
                              try clear hx121_0
                              try clear hx16_0
                              try clear hx19_0
                              try clear p1
                              try clear p12
                              try clear p121
                              try clear p16
                              try clear p2
                              try clear p6
                              try clear q1
                              try clear q12
                              try clear q121
                              try clear q16
                              obtain ⟨kq, x100_23, rfl, HA, HJ23, HO_7, HB⟩ := hcut
                              cases kq with
                              | zero => exact absurd HA.out (by simp [impl_gridWays.j2])
                              | succ kj23 =>
                                have H := HA.out
                                clear HA
                                simp only [impl_gridWays.j2] at H
                                by_cases c26 : x100_23 = true
                                · subst c26
                                  have H1 : (if 0 ≤ x15_1 then (if x15_1 < (x7_2.length : Int) then (if 0 ≤ x29_2 then (if x29_2 < ((rd_L1 x7_2 x15_1).length : Int) then (impl_gridWays.l1 kj23 a0 a1 (x7_2.set (x15_1 : Int).toNat ((rd_L1 x7_2 x15_1).set (x29_2 : Int).toNat 1)) x15_1 (y112.length : Int) x15_1 ((rd_L1 y120 x15_1).length : Int) (wrap64 (x29_2 + 1))) else (none)) else (none)) else (none)) else (none)) = some r := by rw [if_pos rfl] at H; exact H
                                  clear H
                                  have H := H1
                                  clear H1
                                  by_cases c27 : 0 ≤ x15_1
                                  · rw [if_pos c27] at H
                                    have c27b0 : decide (0 ≤ x15_1) = true := decide_eq_true c27
                                    clear c27
                                    by_cases c28 : x15_1 < (x7_2.length : Int)
                                    · rw [if_pos c28] at H
                                      have c28b0 : decide (x15_1 < (x7_2.length : Int)) = true := decide_eq_true c28
                                      (try simp only [hl7_1] at c28b0)
                                      (try simp only [hl7_2] at c28b0)
                                      clear c28
                                      by_cases c29 : 0 ≤ x29_2
                                      · rw [if_pos c29] at H
                                        have c29b0 : decide (0 ≤ x29_2) = true := decide_eq_true c29
                                        clear c29
                                        by_cases c30 : x29_2 < ((rd_L1 x7_2 x15_1).length : Int)
                                        · rw [if_pos c30] at H
                                          have c30b0 : decide (x29_2 < ((rd_L1 x7_2 x15_1).length : Int)) = true := decide_eq_true c30
                                          (try simp only [hl7_1] at c30b0)
                                          (try simp only [hl7_2] at c30b0)
                                          clear c30
                                          obtain ⟨y124, hy124⟩ : ∃ y_ : List Int, y_ = ((rd_L1 x7_2 x15_1).set (x29_2 : Int).toNat 1) := ⟨_, rfl⟩
                                          replace H : (impl_gridWays.l1 kj23 a0 a1 (x7_2.set (x15_1 : Int).toNat y124) x15_1 (y112.length : Int) x15_1 ((rd_L1 y120 x15_1).length : Int) (wrap64 (x29_2 + 1))) = some r := by first | (rw [hy124]; with_reducible exact H) | (have H2_ := (Option.bind_some _ _).symm.trans H; rw [hy124]; with_reducible exact H2_) | (have H2_ := (Option.bind_some _ _).symm.trans H; with_reducible exact H2_) | with_reducible exact H | (rw [hy124]; exact H) | exact H
                                          have Ny124 := Aside0.mk hy124
                                          clear hy124
                                          obtain ⟨y126, hy126⟩ : ∃ y_ : List (List Int), y_ = (x7_2.set (x15_1 : Int).toNat y124) := ⟨_, rfl⟩
                                          replace H : (impl_gridWays.l1 kj23 a0 a1 y126 x15_1 (y112.length : Int) x15_1 ((rd_L1 y120 x15_1).length : Int) (wrap64 (x29_2 + 1))) = some r := by first | (rw [hy126]; with_reducible exact H) | (have H2_ := (Option.bind_some _ _).symm.trans H; rw [hy126]; with_reducible exact H2_) | (have H2_ := (Option.bind_some _ _).symm.trans H; with_reducible exact H2_) | with_reducible exact H | (rw [hy126]; exact H) | exact H
                                          have Ny126 := Aside0.mk hy126
                                          clear hy126
                                          have H' := Aside0.mk H
                                          clear H
                                          have p123 : 0 ≤ (x15_1 : Int) := of_decide_eq_true (by first | (with_reducible assumption) | assumption)
                                          have q123 : x15_1 < (x7_2.length : Int) := of_decide_eq_true (by first | (with_reducible assumption) | assumption)
                                          obtain ⟨ad123, A123_0, c123_0, e123, hx123_0, hl123_0, hi123_0⟩ := at_L1 (Kd.S_reads' HO_7.out).2.2 x15_1 p123 q123
                                          obtain rfl : (⟨go16, 0, none⟩ : Addr) = ad123 := (by injection e123)
                                          obtain ⟨ce123, hce123, hMe123, hcc123⟩ := Kd.S_get HO_7.out [] x15_1 p123 (by first | exact q123 | exact of_decide_eq_true (by first | (with_reducible assumption) | assumption) | (have e_ := (Kd.S_reads' HO_7.out).1; omega))
                                          obtain ⟨ve123_0, rfl, ge123_0⟩ := hMe123
                                          have hv123_0 := hcc123 0 _ rfl
                                          rw [Nat.add_zero, show ((Kd.slice 3 (Kd.int .i64))).sz = 1 from rfl, Nat.mul_one] at hv123_0
                                          replace hv123_0 := Option.some.inj (hv123_0.symm.trans hx123_0)
                                          rw [hv123_0] at ge123_0
                                          have HL123_0 := Aside0.mk (show Kd.R (Kd.int .i64) 3 _ _ _ _ (rd_L1 x7_2 x15_1) from ge123_0)
                                          clear hv123_0 ge123_0
                                          have HX123_0 := Aside0.mk hx123_0
                                          clear hcc123 hce123
                                          (first | simp only [add_plain] at hx123_0 | simp only [add_at] at hx123_0 | simp only [Addr.add, Nat.zero_add] at hx123_0 | skip)
                                          have HR123_0 := Aside0.mk hi123_0
                                          have HC123_0 := Aside0.mk hl123_0
                                          clear hi123_0 hl123_0
                                          replace p123 := eq_true p123
                                          replace q123 := eq_true q123
                                          have p31 : 0 ≤ (x29_2 : Int) := of_decide_eq_true (by first | (with_reducible assumption) | assumption)
                                          have q31 : (x29_2 : Int) < (((rd_L1 x7_2 x15_1).length : Int) : Int) := of_decide_eq_true (by first | (with_reducible assumption) | assumption)
                                          obtain ⟨go31, co31, eo31, gb31, gl31, cl31, HG31⟩ := Kd.R_form HL123_0.out (by omega)
                                          (first | cases eo31 | (injection eo31 with ea_ en_ ec_; (first | subst ea_ | (injection ea_ with ea_; subst ea_)); subst ec_; clear en_))
                                          have GB31 := Aside0.mk gb31
                                          have GG31 := Aside0.mk HG31
                                          clear gb31 gl31 HG31
                                          obtain ⟨hx31_0, hf31_0⟩ := Kd.R_celln 0 HL123_0.out (x29_2 : Int) p31 q31
                                          replace p31 := eq_true p31
                                          replace q31 := eq_true q31
                                          have hq32 : (x15_1 : Int) < (x7_2.length : Int) := (by have h_ : (x15_1 : Int) < ((x7_2.length : Int) : Int) := of_decide_eq_true (by first | (with_reducible assumption) | assumption); first | exact h_ | (have e_ := (Kd.S_reads' HO_7.out).1; omega) | simpa only [List.length_set, List.length_set] using h_)
                                          obtain ⟨oki32, ce32, hcl32, hM32, hcc32, hok32, hbk32⟩ := Kd.S_borrow HO_7.out [] (x15_1 : Int) (of_decide_eq_true (by first | (with_reducible assumption) | assumption)) hq32
                                          obtain ⟨ve32_0, rfl, ge32_0⟩ := hM32
                                          have hv32 := hcc32 0 _ rfl
                                          rw [Nat.add_zero, show ((Kd.slice 3 (Kd.int .i64))).sz = 1 from rfl, Nat.mul_one] at hv32
                                          replace hv32 := Option.some.inj (hv32.symm.trans HX123_0.out)
                                          subst hv32
                                          clear hcc32 hcl32
                                          replace ge32_0 := (show Kd.R (Kd.int .i64) 3 _ _ _ _ (rd_L1 x7_2 x15_1) from ge32_0)
                                          have HP32 := Kd.R_putg ge32_0 (x29_2 : Int) 1
                                          go_wp2_with (first | ((with_reducible refine gate_store (t := 3) (p := 112) rfl ?_); refine store_event (t := 3) (p := 112) (v := ?vo_w33) (w1 := (wc.setCell ⟨go31, (x29_2 : Int).toNat, none⟩ (.int .i64 1))) ?hg ?ho ?hn ?hr ?_; (case ho => rfl); (case hg => rfl); (case hn => rfl); (case hr => first | (go_simp; done) | (go_simp; rfl)); intro w33 hw; have hg : wc.grownBy w33 (some go31) := (by rw [hw]; exact HP32.2); have hz_ : Kd.R (Kd.int .i64) 3 w33 w.heap.size oki32 (.slice (some ⟨go31, 0, none⟩) (rd_L1 x7_2 x15_1).length c123_0) y124 := (by rw [hw, Ny124.out]; exact HP32.1); have hp_ : Kd.S (Kd.slice 3 (Kd.int .i64)) 32 w33 w.heap.size (fun _ => True) (.slice (some ⟨go16, 0, none⟩) x7_2.length co9) y126 := (by rw [Ny126.out]; exact hbk32 hg (fun k_ e_ => by injection e_ with e_; subst e_; exact ge32_0.1 _ rfl) (Kd.M_row hz_)); have hm_ := Kd.R_mono hz_ hok32; clear HP32 hbk32; have n0_ := Aside0.mk (hp_); have n1_ := Aside0.mk ((by rw [hw]; exact below_set (HB.out) GB31.out : Below w.heap.size w w33)); have n2_ := Aside0.mk (hm_); have n3_ := Aside0.mk ((Kd.R_reads' hm_).2.1); clear HO_7; clear HB; clear HL123_0; have HO_7 := n0_; have HB := n1_; have HL148 := n2_; have HC125 := n3_; clear n0_ n1_ n2_ n3_; clear hg hw hp_ hz_ hm_ hok32))
                                          (try simp only [← hl7_2])
                                          go_roundg kj23
                                          case measure => have := HK1.out; have := HK2.out; have := HJ23.out; omega
                                          case rel => exact ⟨(y126), (wrap64 (x29_2 + 1)), (by first | rfl | (simp; done) | (simp [*]; done)), H', ⟨by have := HK1.out; have := HK2.out; have := HJ23.out; omega⟩, ⟨by (try simp only [hl7_1]); (try simp only [hl7_2]); (with_reducible repeat (first | apply Kd.S_alloc | apply Kd.S_drewN | apply Kd.S_drew)); exact HO_7.out⟩, ⟨by repeat (first | (with_reducible first | exact HB.out | apply below_alloc | apply pw_below_drewN | apply below_drew1) | exact HB.out)⟩⟩
                                        · rw [if_neg c30] at H
                                          exact absurd H (by simp)
                                      · rw [if_neg c29] at H
                                        exact absurd H (by simp)
                                    · rw [if_neg c28] at H
                                      exact absurd H (by simp)
                                  · rw [if_neg c27] at H
                                    exact absurd H (by simp)
                                · replace c26 := Bool.eq_false_iff.mpr c26
                                  subst c26
                                  have H1 : (if x29_2 > 0 then (if 0 ≤ x15_1 then (if x15_1 < (x7_2.length : Int) then (if 0 ≤ x29_2 then (if x29_2 < ((rd_L1 x7_2 x15_1).length : Int) then (if 0 ≤ (wrap64 (x29_2 - 1)) then (if (wrap64 (x29_2 - 1)) < ((rd_L1 x7_2 x15_1).length : Int) then (impl_gridWays.j3 kj23 a0 a1 (x7_2.set (x15_1 : Int).toNat ((rd_L1 x7_2 x15_1).set (x29_2 : Int).toNat (wrap64 ((rd (rd_L1 x7_2 x15_1) x29_2) + (rd (rd_L1 x7_2 x15_1) (wrap64 (x29_2 - 1))))))) x15_1 x29_2 (y112.length : Int) x15_1 ((rd_L1 y120 x15_1).length : Int) x29_2) else (none)) else (none)) else (none)) else (none)) else (none)) else (none)) else (impl_gridWays.j3 kj23 a0 a1 x7_2 x15_1 x29_2 (y112.length : Int) x15_1 ((rd_L1 y120 x15_1).length : Int) x29_2)) = some r := by rw [if_neg (show ¬ (false = true) by decide)] at H; exact H
                                  clear H
                                  have H := H1
                                  clear H1
                                  have HC34 := Aside0.mk H
                                  clear H
                                  go_upto_if 33 with (fail)
                                  go_cut [] (fun wc => ∃ (kq : Nat) (x7_33 : List (List Int)), Aside0 (impl_gridWays.j3 kq a0 a1 x7_33 x15_1 x29_2 (y112.length : Int) x15_1 ((rd_L1 y120 x15_1).length : Int) x29_2 = some r) ∧ Aside0 (kq ≤ kj23) ∧ Aside0 (Kd.S (Kd.slice 3 (Kd.int .i64)) 32 wc w.heap.size (fun _ => True) (.slice (some ⟨go16, 0, none⟩) x7_2.length co9) x7_33) ∧ Aside0 (Below w.heap.size w wc))
                                  case first =>
                                    have H := HC34.out
                                    clear HC34
                                    by_cases c35 : x29_2 > 0
                                    · rw [if_pos c35] at H
                                      have c35b0 : decide (0 < x29_2) = true := decide_eq_true c35
                                      clear c35
                                      (first | rw [c35b0] | (simp only [i64_w, i32_w]; rw [c35b0]) | skip)
                                      by_cases c36 : 0 ≤ x15_1
                                      · rw [if_pos c36] at H
                                        have c36b0 : decide (0 ≤ x15_1) = true := decide_eq_true c36
                                        clear c36
                                        by_cases c37 : x15_1 < (x7_2.length : Int)
                                        · rw [if_pos c37] at H
                                          have c37b0 : decide (x15_1 < (x7_2.length : Int)) = true := decide_eq_true c37
                                          (try simp only [hl7_1] at c37b0)
                                          (try simp only [hl7_2] at c37b0)
                                          clear c37
                                          by_cases c38 : 0 ≤ x29_2
                                          · rw [if_pos c38] at H
                                            have c38b0 : decide (0 ≤ x29_2) = true := decide_eq_true c38
                                            clear c38
                                            by_cases c39 : x29_2 < ((rd_L1 x7_2 x15_1).length : Int)
                                            · rw [if_pos c39] at H
                                              have c39b0 : decide (x29_2 < ((rd_L1 x7_2 x15_1).length : Int)) = true := decide_eq_true c39
                                              (try simp only [hl7_1] at c39b0)
                                              (try simp only [hl7_2] at c39b0)
                                              clear c39
                                              obtain ⟨ji40, hji40⟩ : ∃ j_ : Int, (wrap64 (x29_2 - 1)) = j_ := ⟨_, rfl⟩
                                              replace H : (if 0 ≤ (ji40) then (if (ji40) < ((rd_L1 x7_2 x15_1).length : Int) then (impl_gridWays.j3 kj23 a0 a1 (x7_2.set (x15_1 : Int).toNat ((rd_L1 x7_2 x15_1).set (x29_2 : Int).toNat (wrap64 ((rd (rd_L1 x7_2 x15_1) x29_2) + (rd (rd_L1 x7_2 x15_1) (ji40)))))) x15_1 x29_2 (y112.length : Int) x15_1 ((rd_L1 y120 x15_1).length : Int) x29_2) else (none)) else (none)) = some r := by first | (rw [hji40] at H; exact H) | (simp only [hji40] at H ⊢; exact H)
                                              have hji40w : (IntKind.i64.wrap (x29_2 - 1)) = ji40 := (i64_w _).trans hji40
                                              by_cases c41 : 0 ≤ (ji40)
                                              · rw [if_pos c41] at H
                                                have c41b0 : decide (0 ≤ (ji40)) = true := decide_eq_true c41
                                                clear c41
                                                by_cases c42 : (ji40) < ((rd_L1 x7_2 x15_1).length : Int)
                                                · rw [if_pos c42] at H
                                                  have c42b0 : decide ((ji40) < ((rd_L1 x7_2 x15_1).length : Int)) = true := decide_eq_true c42
                                                  (try simp only [hl7_1] at c42b0)
                                                  (try simp only [hl7_2] at c42b0)
                                                  clear c42
                                                  obtain ⟨y131, hy131⟩ : ∃ y_ : List Int, y_ = ((rd_L1 x7_2 x15_1).set (x29_2 : Int).toNat (wrap64 ((rd (rd_L1 x7_2 x15_1) x29_2) + (rd (rd_L1 x7_2 x15_1) (ji40))))) := ⟨_, rfl⟩
                                                  replace H : (impl_gridWays.j3 kj23 a0 a1 (x7_2.set (x15_1 : Int).toNat y131) x15_1 x29_2 (y112.length : Int) x15_1 ((rd_L1 y120 x15_1).length : Int) x29_2) = some r := by first | (rw [hy131]; with_reducible exact H) | (have H2_ := (Option.bind_some _ _).symm.trans H; rw [hy131]; with_reducible exact H2_) | (have H2_ := (Option.bind_some _ _).symm.trans H; with_reducible exact H2_) | with_reducible exact H | (rw [hy131]; exact H) | exact H
                                                  have Ny131 := Aside0.mk hy131
                                                  clear hy131
                                                  obtain ⟨y133, hy133⟩ : ∃ y_ : List (List Int), y_ = (x7_2.set (x15_1 : Int).toNat y131) := ⟨_, rfl⟩
                                                  replace H : (impl_gridWays.j3 kj23 a0 a1 y133 x15_1 x29_2 (y112.length : Int) x15_1 ((rd_L1 y120 x15_1).length : Int) x29_2) = some r := by first | (rw [hy133]; with_reducible exact H) | (have H2_ := (Option.bind_some _ _).symm.trans H; rw [hy133]; with_reducible exact H2_) | (have H2_ := (Option.bind_some _ _).symm.trans H; with_reducible exact H2_) | with_reducible exact H | (rw [hy133]; exact H) | exact H
                                                  have Ny133 := Aside0.mk hy133
                                                  clear hy133
                                                  have H' := Aside0.mk H
                                                  clear H
                                                  try go_wp2
                                                  have n0_ := Aside0.mk (Kd.S_drew HO_7.out)
                                                  have n1_ := Aside0.mk (below_drew1 HB.out)
                                                  clear HO_7
                                                  clear HB
                                                  have HO_7 := n0_
                                                  have HB := n1_
                                                  clear n0_ n1_
                                                  have p127 : 0 ≤ (x15_1 : Int) := of_decide_eq_true (by first | (with_reducible assumption) | assumption)
                                                  have q127 : x15_1 < (x7_2.length : Int) := of_decide_eq_true (by first | (with_reducible assumption) | assumption)
                                                  obtain ⟨ad127, A127_0, c127_0, e127, hx127_0, hl127_0, hi127_0⟩ := at_L1 (Kd.S_reads' HO_7.out).2.2 x15_1 p127 q127
                                                  obtain rfl : (⟨go16, 0, none⟩ : Addr) = ad127 := (by injection e127)
                                                  obtain ⟨ce127, hce127, hMe127, hcc127⟩ := Kd.S_get HO_7.out [] x15_1 p127 (by first | exact q127 | exact of_decide_eq_true (by first | (with_reducible assumption) | assumption) | (have e_ := (Kd.S_reads' HO_7.out).1; omega))
                                                  obtain ⟨ve127_0, rfl, ge127_0⟩ := hMe127
                                                  have hv127_0 := hcc127 0 _ rfl
                                                  rw [Nat.add_zero, show ((Kd.slice 3 (Kd.int .i64))).sz = 1 from rfl, Nat.mul_one] at hv127_0
                                                  replace hv127_0 := Option.some.inj (hv127_0.symm.trans hx127_0)
                                                  rw [hv127_0] at ge127_0
                                                  have HL127_0 := Aside0.mk (show Kd.R (Kd.int .i64) 3 _ _ _ _ (rd_L1 x7_2 x15_1) from ge127_0)
                                                  clear hv127_0 ge127_0
                                                  have HX127_0 := Aside0.mk hx127_0
                                                  clear hcc127 hce127
                                                  (first | simp only [add_plain] at hx127_0 | simp only [add_at] at hx127_0 | simp only [Addr.add, Nat.zero_add] at hx127_0 | skip)
                                                  have HR127_0 := Aside0.mk hi127_0
                                                  have HC127_0 := Aside0.mk hl127_0
                                                  clear hi127_0 hl127_0
                                                  replace p127 := eq_true p127
                                                  replace q127 := eq_true q127
                                                  have p128 : 0 ≤ (x29_2 : Int) := of_decide_eq_true (by first | (with_reducible assumption) | assumption)
                                                  have q128 : x29_2 < ((rd_L1 x7_2 x15_1).length : Int) := of_decide_eq_true (by first | (with_reducible assumption) | assumption)
                                                  obtain ⟨ad128, e128, hx128_0⟩ := Kd.at_int (by repeat (first | (with_reducible exact HR127_0.out) | (with_reducible refine Kd.C_alloc ?_ _) | (with_reducible refine Kd.C_drewN ?_ _) | (with_reducible refine Kd.C_drew ?_) | exact HR127_0.out)) x29_2 p128 q128
                                                  cases e128
                                                  replace p128 := eq_true p128
                                                  replace q128 := eq_true q128
                                                  have p129 : 0 ≤ (x15_1 : Int) := of_decide_eq_true (by first | (with_reducible assumption) | assumption)
                                                  have q129 : x15_1 < (x7_2.length : Int) := of_decide_eq_true (by first | (with_reducible assumption) | assumption)
                                                  obtain ⟨ad129, A129_0, c129_0, e129, hx129_0, hl129_0, hi129_0⟩ := at_L1 (Kd.S_reads' HO_7.out).2.2 x15_1 p129 q129
                                                  obtain rfl : (⟨go16, 0, none⟩ : Addr) = ad129 := (by injection e129)
                                                  obtain ⟨ce129, hce129, hMe129, hcc129⟩ := Kd.S_get HO_7.out [] x15_1 p129 (by first | exact q129 | exact of_decide_eq_true (by first | (with_reducible assumption) | assumption) | (have e_ := (Kd.S_reads' HO_7.out).1; omega))
                                                  obtain ⟨ve129_0, rfl, ge129_0⟩ := hMe129
                                                  have hv129_0 := hcc129 0 _ rfl
                                                  rw [Nat.add_zero, show ((Kd.slice 3 (Kd.int .i64))).sz = 1 from rfl, Nat.mul_one] at hv129_0
                                                  replace hv129_0 := Option.some.inj (hv129_0.symm.trans hx129_0)
                                                  rw [hv129_0] at ge129_0
                                                  have HL129_0 := Aside0.mk (show Kd.R (Kd.int .i64) 3 _ _ _ _ (rd_L1 x7_2 x15_1) from ge129_0)
                                                  clear hv129_0 ge129_0
                                                  have HX129_0 := Aside0.mk hx129_0
                                                  clear hcc129 hce129
                                                  (first | simp only [add_plain] at hx129_0 | simp only [add_at] at hx129_0 | simp only [Addr.add, Nat.zero_add] at hx129_0 | skip)
                                                  have HR129_0 := Aside0.mk hi129_0
                                                  have HC129_0 := Aside0.mk hl129_0
                                                  clear hi129_0 hl129_0
                                                  replace p129 := eq_true p129
                                                  replace q129 := eq_true q129
                                                  have ea_ := Option.some.inj (hx127_0.symm.trans hx129_0)
                                                  injection ea_ with ea_ en_ ec_
                                                  subst ea_
                                                  subst ec_
                                                  clear en_
                                                  have p130 : 0 ≤ ((ji40) : Int) := of_decide_eq_true (by first | (with_reducible assumption) | assumption)
                                                  have q130 : (ji40) < ((rd_L1 x7_2 x15_1).length : Int) := of_decide_eq_true (by first | (with_reducible assumption) | assumption)
                                                  obtain ⟨ad130, e130, hx130_0⟩ := Kd.at_int (by repeat (first | (with_reducible exact HR129_0.out) | (with_reducible refine Kd.C_alloc ?_ _) | (with_reducible refine Kd.C_drewN ?_ _) | (with_reducible refine Kd.C_drew ?_) | exact HR129_0.out)) (ji40) p130 q130
                                                  cases e130
                                                  replace p130 := eq_true p130
                                                  replace q130 := eq_true q130
                                                  have p43 : 0 ≤ (x29_2 : Int) := of_decide_eq_true (by first | (with_reducible assumption) | assumption)
                                                  have q43 : (x29_2 : Int) < (((rd_L1 x7_2 x15_1).length : Int) : Int) := of_decide_eq_true (by first | (with_reducible assumption) | assumption)
                                                  obtain ⟨go43, co43, eo43, gb43, gl43, cl43, HG43⟩ := Kd.R_form HL127_0.out (by omega)
                                                  (first | cases eo43 | (injection eo43 with ea_ en_ ec_; (first | subst ea_ | (injection ea_ with ea_; subst ea_)); subst ec_; clear en_))
                                                  have GB43 := Aside0.mk gb43
                                                  have GG43 := Aside0.mk HG43
                                                  clear gb43 gl43 HG43
                                                  (first | simp only [add_plain] at hx130_0 | skip)
                                                  obtain ⟨hx43_0, hf43_0⟩ := Kd.R_celln 0 HL127_0.out (x29_2 : Int) p43 q43
                                                  replace p43 := eq_true p43
                                                  replace q43 := eq_true q43
                                                  have hq45 : (x15_1 : Int) < (x7_2.length : Int) := (by have h_ : (x15_1 : Int) < ((x7_2.length : Int) : Int) := of_decide_eq_true (by first | (with_reducible assumption) | assumption); first | exact h_ | (have e_ := (Kd.S_reads' HO_7.out).1; omega) | simpa only [List.length_set, List.length_set] using h_)
                                                  obtain ⟨oki45, ce45, hcl45, hM45, hcc45, hok45, hbk45⟩ := Kd.S_borrow HO_7.out [] (x15_1 : Int) (of_decide_eq_true (by first | (with_reducible assumption) | assumption)) hq45
                                                  obtain ⟨ve45_0, rfl, ge45_0⟩ := hM45
                                                  have hv45 := hcc45 0 _ rfl
                                                  rw [Nat.add_zero, show ((Kd.slice 3 (Kd.int .i64))).sz = 1 from rfl, Nat.mul_one] at hv45
                                                  replace hv45 := Option.some.inj (hv45.symm.trans HX127_0.out)
                                                  subst hv45
                                                  clear hcc45 hcl45
                                                  replace ge45_0 := (show Kd.R (Kd.int .i64) 3 _ _ _ _ (rd_L1 x7_2 x15_1) from ge45_0)
                                                  have HP45 := Kd.R_putg ge45_0 (x29_2 : Int) (wrap64 ((rd (rd_L1 x7_2 x15_1) x29_2) + (rd (rd_L1 x7_2 x15_1) (ji40))))
                                                  rw [← Ny131.out] at HP45
                                                  have HS45 := hbk45 HP45.2 (fun k_ e_ => by injection e_ with e_; subst e_; exact ge45_0.1 _ rfl) (x' := y131) (Kd.M_row HP45.1)
                                                  rw [← Ny133.out] at HS45
                                                  have HQ45 := Aside0.mk HS45
                                                  clear HP45 HS45 hbk45 hok45
                                                  (first | simp only [add_plain] at hx128_0 | skip)
                                                  refine start_ (n := 18) (S := fun w' => w'.cell? ⟨go16, (x15_1).toNat, none⟩ = some (.slice (some (⟨go43, 0, none⟩ : Addr)) (rd_L1 x7_2 x15_1).length c127_0) ∧ w'.cell? ⟨go43, (x29_2).toNat, none⟩ = some (.int .i64 (rd (rd_L1 x7_2 x15_1) x29_2)) ∧ w'.cell? ⟨go16, (x15_1).toNat, none⟩ = some (.slice (some (⟨go43, 0, none⟩ : Addr)) (rd_L1 x7_2 x15_1).length c127_0) ∧ w'.cell? ⟨go43, ((ji40)).toNat, none⟩ = some (.int .i64 (rd (rd_L1 x7_2 x15_1) (ji40)))) (ds := [17]) #[false, false, false, false, false, false, false, false, false, false, false, false, false, false, false, false, false, false] (by kernel_rfl) rfl rfl ⟨hx127_0, hx128_0, hx129_0, hx130_0⟩ (fun hHeld => ?_); refine with_tabW impl_gridWays.tab10 impl_gridWays.bits10 (fun HT_ HW_ => ?_)
                                                  generalize wc.drew = w44 at HO_7 HB GG43 HL127_0 HL129_0 HQ45 HR127_0 HR129_0 HX127_0 HX129_0 hf43_0 hx127_0 hx128_0 hx129_0 hx130_0 hx43_0 hHeld ⊢
                                                  refine pure_ (i := 0) (N := some 34) (v := ?_) (a' := ?_) #[true, false, false, false, false, false, false, false, false, false, false, false, false, false, false, false, false, false] rfl rfl (any_of HT_.out (by kernel_rfl)) (fun _ _ _ h => h) (Or.inl ⟨by rfl, ?_⟩) ?_ ?_
                                                  rotate_left
                                                  · intro w'
                                                    go_simp
                                                    with_reducible rfl
                                                  rotate_left
                                                  · simp only [Act.put, List.setIfInBounds_toArray, List.set_cons_zero, List.set_cons_succ, i64_w, i32_w]
                                                    rfl
                                                  refine pure_ (i := 1) (N := some 35) (v := ?_) (a' := ?_) #[true, true, false, false, false, false, false, false, false, false, false, false, false, false, false, false, false, false] rfl rfl (any_of HT_.out (by kernel_rfl)) (fun _ _ _ h => h) (Or.inl ⟨by rfl, ?_⟩) ?_ ?_
                                                  rotate_left
                                                  · intro w'
                                                    go_simp
                                                    with_reducible rfl
                                                  rotate_left
                                                  · simp only [Act.put, List.setIfInBounds_toArray, List.set_cons_zero, List.set_cons_succ, i64_w, i32_w]
                                                    rfl
                                                  refine pure_ (i := 2) (N := some 36) (v := ?_) (a' := ?_) #[true, true, true, false, false, false, false, false, false, false, false, false, false, false, false, false, false, false] rfl rfl (any_of HT_.out (by kernel_rfl)) (fun _ _ _ h => h) (Or.inl ⟨by rfl, ?_⟩) ?_ ?_
                                                  rotate_left
                                                  · intro w'
                                                    go_simp
                                                    with_reducible rfl
                                                  rotate_left
                                                  · simp only [Act.put, List.setIfInBounds_toArray, List.set_cons_zero, List.set_cons_succ, i64_w, i32_w]
                                                    rfl
                                                  refine pure_ (i := 4) (N := some 38) (v := ?_) (a' := ?_) #[true, true, true, false, true, false, false, false, false, false, false, false, false, false, false, false, false, false] rfl rfl (any_of HT_.out (by kernel_rfl)) (fun _ _ _ h => h) (Or.inl ⟨by rfl, ?_⟩) ?_ ?_
                                                  rotate_left
                                                  · intro w'
                                                    go_simp
                                                    with_reducible rfl
                                                  rotate_left
                                                  · simp only [Act.put, List.setIfInBounds_toArray, List.set_cons_zero, List.set_cons_succ, i64_w, i32_w]
                                                    rfl
                                                  refine pure_ (i := 7) (N := some 41) (v := ?_) (a' := ?_) #[true, true, true, false, true, false, false, true, false, false, false, false, false, false, false, false, false, false] rfl rfl (any_of HT_.out (by kernel_rfl)) (fun _ _ _ h => h) (Or.inl ⟨by rfl, ?_⟩) ?_ ?_
                                                  rotate_left
                                                  · intro w'
                                                    go_simp
                                                    with_reducible rfl
                                                  rotate_left
                                                  · simp only [Act.put, List.setIfInBounds_toArray, List.set_cons_zero, List.set_cons_succ, i64_w, i32_w]
                                                    rfl
                                                  refine pure_ (i := 8) (N := some 42) (v := ?_) (a' := ?_) #[true, true, true, false, true, false, false, true, true, false, false, false, false, false, false, false, false, false] rfl rfl (any_of HT_.out (by kernel_rfl)) (fun _ _ _ h => h) (Or.inl ⟨by rfl, ?_⟩) ?_ ?_
                                                  rotate_left
                                                  · intro w'
                                                    go_simp
                                                    with_reducible rfl
                                                  rotate_left
                                                  · simp only [Act.put, List.setIfInBounds_toArray, List.set_cons_zero, List.set_cons_succ, i64_w, i32_w]
                                                    rfl
                                                  refine pure_ (i := 9) (N := some 43) (v := ?_) (a' := ?_) #[true, true, true, false, true, false, false, true, true, true, false, false, false, false, false, false, false, false] rfl rfl (any_of HT_.out (by kernel_rfl)) (fun _ _ _ h => h) (Or.inl ⟨by rfl, ?_⟩) ?_ ?_
                                                  rotate_left
                                                  · intro w'
                                                    go_simp
                                                    with_reducible rfl
                                                  rotate_left
                                                  · simp only [Act.put, List.setIfInBounds_toArray, List.set_cons_zero, List.set_cons_succ, i64_w, i32_w]
                                                    rfl
                                                  refine pure_ (i := 11) (N := some 45) (v := ?_) (a' := ?_) #[true, true, true, false, true, false, false, true, true, true, false, true, false, false, false, false, false, false] rfl rfl (any_of HT_.out (by kernel_rfl)) (fun _ _ _ h => h) (Or.inl ⟨by rfl, ?_⟩) ?_ ?_
                                                  rotate_left
                                                  · intro w'
                                                    go_simp
                                                    with_reducible rfl
                                                  rotate_left
                                                  · simp only [Act.put, List.setIfInBounds_toArray, List.set_cons_zero, List.set_cons_succ, i64_w, i32_w]
                                                    rfl
                                                  refine pure_ (i := 12) (N := some 46) (v := ?_) (a' := ?_) #[true, true, true, false, true, false, false, true, true, true, false, true, true, false, false, false, false, false] rfl rfl (any_of HT_.out (by kernel_rfl)) (fun _ _ _ h => h) (Or.inl ⟨by rfl, ?_⟩) ?_ ?_
                                                  rotate_left
                                                  · intro w'
                                                    go_simp
                                                    with_reducible rfl
                                                  rotate_left
                                                  · simp only [Act.put, List.setIfInBounds_toArray, List.set_cons_zero, List.set_cons_succ, i64_w, i32_w]
                                                    rfl
                                                  refine take_ (i := 3) (N := some 37) (v := ?_) (a' := ?_) #[true, true, true, true, true, false, false, true, true, true, false, true, true, false, false, false, false, false] rfl rfl (take_ofW HT_.out HW_.out (by kernel_rfl)) (fun _ _ _ h => h) (Or.inl ⟨by rfl, ?_⟩) hHeld ?_ ?_
                                                  rotate_left
                                                  · rintro w' ⟨s0, s1, s2, s3⟩
                                                    go_simp
                                                    with_reducible rfl
                                                  rotate_left
                                                  · simp only [Act.put, List.setIfInBounds_toArray, List.set_cons_zero, List.set_cons_succ, i64_w, i32_w]
                                                    rfl
                                                  refine pure_ (i := 5) (N := some 39) (v := ?_) (a' := ?_) #[true, true, true, true, true, true, false, true, true, true, false, true, true, false, false, false, false, false] rfl rfl (any_of HT_.out (by kernel_rfl)) (fun _ _ _ h => h) (Or.inl ⟨by rfl, ?_⟩) ?_ ?_
                                                  rotate_left
                                                  · intro w'
                                                    go_simp
                                                    with_reducible rfl
                                                  rotate_left
                                                  · simp only [Act.put, List.setIfInBounds_toArray, List.set_cons_zero, List.set_cons_succ, i64_w, i32_w]
                                                    rfl
                                                  refine take_ (i := 6) (N := some 40) (v := ?_) (a' := ?_) #[true, true, true, true, true, true, true, true, true, true, false, true, true, false, false, false, false, false] rfl rfl (take_ofW HT_.out HW_.out (by kernel_rfl)) (fun _ _ _ h => h) (Or.inl ⟨by rfl, ?_⟩) hHeld ?_ ?_
                                                  rotate_left
                                                  · rintro w' ⟨s0, s1, s2, s3⟩
                                                    go_simp
                                                    with_reducible rfl
                                                  rotate_left
                                                  · simp only [Act.put, List.setIfInBounds_toArray, List.set_cons_zero, List.set_cons_succ, i64_w, i32_w]
                                                    rfl
                                                  refine take_ (i := 10) (N := some 44) (v := ?_) (a' := ?_) #[true, true, true, true, true, true, true, true, true, true, true, true, true, false, false, false, false, false] rfl rfl (take_ofW HT_.out HW_.out (by kernel_rfl)) (fun _ _ _ h => h) (Or.inl ⟨by rfl, ?_⟩) hHeld ?_ ?_
                                                  rotate_left
                                                  · rintro w' ⟨s0, s1, s2, s3⟩
                                                    go_simp
                                                    with_reducible rfl
                                                  rotate_left
                                                  · simp only [Act.put, List.setIfInBounds_toArray, List.set_cons_zero, List.set_cons_succ, i64_w, i32_w]
                                                    rfl
                                                  refine pure_ (i := 13) (N := some 47) (v := ?_) (a' := ?_) #[true, true, true, true, true, true, true, true, true, true, true, true, true, true, false, false, false, false] rfl rfl (any_of HT_.out (by kernel_rfl)) (fun _ _ _ h => h) (Or.inl ⟨by rfl, ?_⟩) ?_ ?_
                                                  rotate_left
                                                  · intro w'
                                                    go_simp
                                                    with_reducible rfl
                                                  rotate_left
                                                  · simp only [Act.put, List.setIfInBounds_toArray, List.set_cons_zero, List.set_cons_succ, i64_w, i32_w]
                                                    rfl
                                                  refine take_ (i := 14) (N := some 48) (v := ?_) (a' := ?_) #[true, true, true, true, true, true, true, true, true, true, true, true, true, true, true, false, false, false] rfl rfl (take_ofW HT_.out HW_.out (by kernel_rfl)) (fun _ _ _ h => h) (Or.inl ⟨by rfl, ?_⟩) hHeld ?_ ?_
                                                  rotate_left
                                                  · rintro w' ⟨s0, s1, s2, s3⟩
                                                    go_simp
                                                    with_reducible rfl
                                                  rotate_left
                                                  · simp only [Act.put, List.setIfInBounds_toArray, List.set_cons_zero, List.set_cons_succ, i64_w, i32_w]
                                                    rfl
                                                  refine pure_ (i := 15) (N := some 49) (v := ?_) (a' := ?_) #[true, true, true, true, true, true, true, true, true, true, true, true, true, true, true, true, false, false] rfl rfl (any_of HT_.out (by kernel_rfl)) (fun _ _ _ h => h) (Or.inl ⟨by rfl, ?_⟩) ?_ ?_
                                                  rotate_left
                                                  · intro w'
                                                    go_simp
                                                    with_reducible rfl
                                                  rotate_left
                                                  · simp only [Act.put, List.setIfInBounds_toArray, List.set_cons_zero, List.set_cons_succ, i64_w, i32_w]
                                                    rfl
                                                  refine pure_ (i := 16) (N := some 50) (v := ?_) (a' := ?_) #[true, true, true, true, true, true, true, true, true, true, true, true, true, true, true, true, true, false] rfl rfl (any_of HT_.out (by kernel_rfl)) (fun _ _ _ h => h) (Or.inl ⟨by rfl, ?_⟩) ?_ ?_
                                                  rotate_left
                                                  · intro w'
                                                    go_simp
                                                    with_reducible rfl
                                                  rotate_left
                                                  · simp only [Act.put, List.setIfInBounds_toArray, List.set_cons_zero, List.set_cons_succ, i64_w, i32_w]
                                                    rfl
                                                  refine last_ (i := 17) (N := none) #[true, true, true, true, true, true, true, true, true, true, true, true, true, true, true, true, true, true] rfl rfl (one_of HT_.out (by kernel_rfl)) (by decide) (fun K hK => ?_)
                                                  refine skip_ (w1 := ?_) (by rfl) rfl ?_ ?_
                                                  rotate_left
                                                  · go_simp
                                                    rfl
                                                  refine hK.out _ _ ?_
                                                  clear hK K
                                                  refine done_ (done_of HT_.out (by kernel_rfl)) ?_
                                                  try go_wp2
                                                  go_meet
                                                  case rel => exact ⟨_, (y133), H', ⟨by have := HK1.out; have := HK2.out; have := HJ23.out; first | omega | exact Nat.le_refl _⟩, ⟨by (try simp only [hl7_1]); (try simp only [hl7_2]); (with_reducible repeat (first | apply Kd.S_alloc | apply Kd.S_drewN | apply Kd.S_drew)); exact HQ45.out⟩, ⟨by repeat (first | (with_reducible first | exact HB.out | apply below_alloc | apply pw_below_drewN | apply below_drew1 | refine below_set ?_ GB43.out) | exact HB.out)⟩⟩
                                                · rw [if_neg c42] at H
                                                  exact absurd H (by simp)
                                              · rw [if_neg c41] at H
                                                exact absurd H (by simp)
                                            · rw [if_neg c39] at H
                                              exact absurd H (by simp)
                                          · rw [if_neg c38] at H
                                            exact absurd H (by simp)
                                        · rw [if_neg c37] at H
                                          exact absurd H (by simp)
                                      · rw [if_neg c36] at H
                                        exact absurd H (by simp)
                                    · rw [if_neg c35] at H
                                      have c35b0 : decide (0 < x29_2) = false := decide_eq_false c35
                                      clear c35
                                      (first | rw [c35b0] | (simp only [i64_w, i32_w]; rw [c35b0]) | skip)
                                      have H' := Aside0.mk H
                                      clear H
                                      go_wp2
                                      go_meet
                                      case rel => exact ⟨_, (x7_2), H', ⟨by have := HK1.out; have := HK2.out; have := HJ23.out; first | omega | exact Nat.le_refl _⟩, ⟨by (try simp only [hl7_1]); (try simp only [hl7_2]); (with_reducible repeat (first | apply Kd.S_alloc | apply Kd.S_drewN | apply Kd.S_drew)); exact HO_7.out⟩, ⟨by repeat (first | (with_reducible first | exact HB.out | apply below_alloc | apply pw_below_drewN | apply below_drew1) | exact HB.out)⟩⟩
                                  case rest =>
                                    clear HC34
                                    try clear c1
                                    try clear p1
                                    try clear q1
                                    try clear hx1
                                    try clear c2
                                    try clear p2
                                    try clear c3
                                    try clear p3
                                    try clear q3
                                    try clear hx3
                                    try clear hf3
                                    try clear c4
                                    try clear p4
                                    try clear q4
                                    try clear hx4
                                    try clear hf4
                                    try clear c5
                                    try clear c5b0
                                    try clear c5b1
                                    try clear c6
                                    try clear c6b0
                                    try clear c6b1
                                    try clear p6
                                    try clear c10
                                    try clear c10b0
                                    try clear c12
                                    try clear c12b0
                                    try clear c12b1
                                    try clear p12
                                    try clear q12
                                    try clear hx12
                                    try clear c13
                                    try clear c13b0
                                    try clear c13b1
                                    try clear p13
                                    try clear q13
                                    try clear hx13
                                    try clear c14
                                    try clear c14b0
                                    try clear c15
                                    try clear c15b0
                                    try clear c16
                                    try clear p16
                                    try clear q16
                                    try clear hx16
                                    try clear hf16
                                    try clear c19
                                    try clear hx19
                                    try clear hf19
                                    try clear c21
                                    try clear c21b0
                                    try clear c23
                                    try clear c25
                                    try clear c25b0
                                    try clear c25b1
                                    try clear c26
                                    try clear c27
                                    try clear c27b0
                                    try clear c28
                                    try clear c28b0
                                    try clear c29
                                    try clear c29b0
                                    try clear c30
                                    try clear c30b0
                                    try clear p31
                                    try clear q31
                                    try clear hx31
                                    try clear hf31
                                    try clear c32
                                    try clear q32
                                    try clear c35
                                    try clear c35b0
                                    try clear c36
                                    try clear c36b0
                                    try clear c37
                                    try clear c37b0
                                    try clear c38
                                    try clear c38b0
                                    try clear c39
                                    try clear c39b0
                                    try clear c41
                                    try clear c41b0
                                    try clear c42
                                    try clear c42b0
                                    try clear p43
                                    try clear q43
                                    try clear hx43
                                    try clear hf43
                                    try clear c45
                                    try clear q45
                                    try clear hx121_0
                                    try clear hx123_0
                                    try clear hx127_0
                                    try clear hx128_0
                                    try clear hx129_0
                                    try clear hx130_0
                                    try clear hx16_0
                                    try clear hx19_0
                                    try clear hx31_0
                                    try clear hx43_0
                                    try clear p1
                                    try clear p12
                                    try clear p121
                                    try clear p123
                                    try clear p127
                                    try clear p128
                                    try clear p129
                                    try clear p130
                                    try clear p16
                                    try clear p2
                                    try clear p31
                                    try clear p43
                                    try clear p6
                                    try clear q1
                                    try clear q12
                                    try clear q121
                                    try clear q123
                                    try clear q127
                                    try clear q128
                                    try clear q129
                                    try clear q130
                                    try clear q16
                                    try clear q31
                                    try clear q43
                                    obtain ⟨kq, x7_33, HA, HJ33, HO_7, HB⟩ := hcut
                                    have hl7_33 := (Kd.S_reads' HO_7.out).1
                                    rw [hl7_33] at HO_7
                                    (try simp only [hl7_33])
                                    cases kq with
                                    | zero => exact absurd HA.out (by simp [impl_gridWays.j3])
                                    | succ kj33 =>
                                      have H := HA.out
                                      clear HA
                                      simp only [impl_gridWays.j3] at H
                                      by_cases c47 : x15_1 > 0
                                      · rw [if_pos c47] at H
                                        have c47b0 : decide (0 < x15_1) = true := decide_eq_true c47
                                        clear c47
                                        by_cases c48 : 0 ≤ x15_1
                                        · rw [if_pos c48] at H
                                          have c48b0 : decide (0 ≤ x15_1) = true := decide_eq_true c48
                                          clear c48
                                          by_cases c49 : x15_1 < (x7_33.length : Int)
                                          · rw [if_pos c49] at H
                                            have c49b0 : decide (x15_1 < (x7_33.length : Int)) = true := decide_eq_true c49
                                            (try simp only [hl7_1] at c49b0)
                                            (try simp only [hl7_2] at c49b0)
                                            (try simp only [hl7_33] at c49b0)
                                            clear c49
                                            by_cases c50 : 0 ≤ x29_2
                                            · rw [if_pos c50] at H
                                              have c50b0 : decide (0 ≤ x29_2) = true := decide_eq_true c50
                                              clear c50
                                              by_cases c51 : x29_2 < ((rd_L1 x7_33 x15_1).length : Int)
                                              · rw [if_pos c51] at H
                                                have c51b0 : decide (x29_2 < ((rd_L1 x7_33 x15_1).length : Int)) = true := decide_eq_true c51
                                                (try simp only [hl7_1] at c51b0)
                                                (try simp only [hl7_2] at c51b0)
                                                (try simp only [hl7_33] at c51b0)
                                                clear c51
                                                obtain ⟨ji52, hji52⟩ : ∃ j_ : Int, (wrap64 (x15_1 - 1)) = j_ := ⟨_, rfl⟩
                                                replace H : (if 0 ≤ (ji52) then (if (ji52) < (x7_33.length : Int) then (if x29_2 < ((rd_L1 x7_33 (ji52)).length : Int) then ((some (x7_33.set (x15_1 : Int).toNat ((rd_L1 x7_33 x15_1).set (x29_2 : Int).toNat (wrap64 ((rd (rd_L1 x7_33 x15_1) x29_2) + (rd (rd_L1 x7_33 (ji52)) x29_2)))) : List (List Int))).bind fun y140 => (if x29_2 > 0 then (if x29_2 < ((rd_L1 y140 x15_1).length : Int) then (if 0 ≤ (wrap64 (x29_2 - 1)) then (if (wrap64 (x29_2 - 1)) < ((rd_L1 y140 (ji52)).length : Int) then (impl_gridWays.l1 kj33 a0 a1 (y140.set (x15_1 : Int).toNat ((rd_L1 y140 x15_1).set (x29_2 : Int).toNat (wrap64 ((rd (rd_L1 y140 x15_1) x29_2) + (rd (rd_L1 y140 (ji52)) (wrap64 (x29_2 - 1))))))) x15_1 (y112.length : Int) x15_1 ((rd_L1 y120 x15_1).length : Int) (wrap64 (x29_2 + 1))) else (none)) else (none)) else (none)) else (impl_gridWays.l1 kj33 a0 a1 y140 x15_1 (y112.length : Int) x15_1 ((rd_L1 y120 x15_1).length : Int) (wrap64 (x29_2 + 1))))) else (none)) else (none)) else (none)) = some r := by first | (rw [hji52] at H; exact H) | (simp only [hji52] at H ⊢; exact H)
                                                have hji52w : (IntKind.i64.wrap (x15_1 - 1)) = ji52 := (i64_w _).trans hji52
                                                by_cases c53 : 0 ≤ (ji52)
                                                · rw [if_pos c53] at H
                                                  have c53b0 : decide (0 ≤ (ji52)) = true := decide_eq_true c53
                                                  clear c53
                                                  by_cases c54 : (ji52) < (x7_33.length : Int)
                                                  · rw [if_pos c54] at H
                                                    have c54b0 : decide ((ji52) < (x7_33.length : Int)) = true := decide_eq_true c54
                                                    (try simp only [hl7_1] at c54b0)
                                                    (try simp only [hl7_2] at c54b0)
                                                    (try simp only [hl7_33] at c54b0)
                                                    clear c54
                                                    by_cases c55 : x29_2 < ((rd_L1 x7_33 (ji52)).length : Int)
                                                    · rw [if_pos c55] at H
                                                      have c55b0 : decide (x29_2 < ((rd_L1 x7_33 (ji52)).length : Int)) = true := decide_eq_true c55
                                                      (try simp only [hl7_1] at c55b0)
                                                      (try simp only [hl7_2] at c55b0)
                                                      (try simp only [hl7_33] at c55b0)
                                                      clear c55
                                                      obtain ⟨y138, hy138⟩ : ∃ y_ : List Int, y_ = ((rd_L1 x7_33 x15_1).set (x29_2 : Int).toNat (wrap64 ((rd (rd_L1 x7_33 x15_1) x29_2) + (rd (rd_L1 x7_33 (ji52)) x29_2)))) := ⟨_, rfl⟩
                                                      replace H : ((some (x7_33.set (x15_1 : Int).toNat y138 : List (List Int))).bind fun y140 => (if x29_2 > 0 then (if x29_2 < ((rd_L1 y140 x15_1).length : Int) then (if 0 ≤ (wrap64 (x29_2 - 1)) then (if (wrap64 (x29_2 - 1)) < ((rd_L1 y140 (ji52)).length : Int) then (impl_gridWays.l1 kj33 a0 a1 (y140.set (x15_1 : Int).toNat ((rd_L1 y140 x15_1).set (x29_2 : Int).toNat (wrap64 ((rd (rd_L1 y140 x15_1) x29_2) + (rd (rd_L1 y140 (ji52)) (wrap64 (x29_2 - 1))))))) x15_1 (y112.length : Int) x15_1 ((rd_L1 y120 x15_1).length : Int) (wrap64 (x29_2 + 1))) else (none)) else (none)) else (none)) else (impl_gridWays.l1 kj33 a0 a1 y140 x15_1 (y112.length : Int) x15_1 ((rd_L1 y120 x15_1).length : Int) (wrap64 (x29_2 + 1))))) = some r := by first | (rw [hy138]; with_reducible exact H) | (have H2_ := (Option.bind_some _ _).symm.trans H; rw [hy138]; with_reducible exact H2_) | (have H2_ := (Option.bind_some _ _).symm.trans H; with_reducible exact H2_) | with_reducible exact H | (rw [hy138]; exact H) | exact H
                                                      have Ny138 := Aside0.mk hy138
                                                      clear hy138
                                                      obtain ⟨y140, hy140⟩ : ∃ y_ : List (List Int), y_ = (x7_33.set (x15_1 : Int).toNat y138) := ⟨_, rfl⟩
                                                      replace H : (if x29_2 > 0 then (if x29_2 < ((rd_L1 y140 x15_1).length : Int) then (if 0 ≤ (wrap64 (x29_2 - 1)) then (if (wrap64 (x29_2 - 1)) < ((rd_L1 y140 (ji52)).length : Int) then (impl_gridWays.l1 kj33 a0 a1 (y140.set (x15_1 : Int).toNat ((rd_L1 y140 x15_1).set (x29_2 : Int).toNat (wrap64 ((rd (rd_L1 y140 x15_1) x29_2) + (rd (rd_L1 y140 (ji52)) (wrap64 (x29_2 - 1))))))) x15_1 (y112.length : Int) x15_1 ((rd_L1 y120 x15_1).length : Int) (wrap64 (x29_2 + 1))) else (none)) else (none)) else (none)) else (impl_gridWays.l1 kj33 a0 a1 y140 x15_1 (y112.length : Int) x15_1 ((rd_L1 y120 x15_1).length : Int) (wrap64 (x29_2 + 1)))) = some r := by first | (rw [hy140]; with_reducible exact H) | (have H2_ := (Option.bind_some _ _).symm.trans H; rw [hy140]; with_reducible exact H2_) | (have H2_ := (Option.bind_some _ _).symm.trans H; with_reducible exact H2_) | with_reducible exact H | (rw [hy140]; exact H) | exact H
                                                      have Ny140 := Aside0.mk hy140
                                                      clear hy140
                                                      by_cases c57 : x29_2 > 0
                                                      · rw [if_pos c57] at H
                                                        have c57b0 : decide (0 < x29_2) = true := decide_eq_true c57
                                                        clear c57
                                                        by_cases c58 : x29_2 < ((rd_L1 y140 x15_1).length : Int)
                                                        · rw [if_pos c58] at H
                                                          have c58b0 : decide (x29_2 < ((rd_L1 y140 x15_1).length : Int)) = true := decide_eq_true c58
                                                          (try simp only [hl7_1] at c58b0)
                                                          (try simp only [hl7_2] at c58b0)
                                                          (try simp only [hl7_33] at c58b0)
                                                          clear c58
                                                          try clear hji40w
                                                          try clear hji40
                                                          obtain ⟨ji59, hji59⟩ : ∃ j_ : Int, (wrap64 (x29_2 - 1)) = j_ := ⟨_, rfl⟩
                                                          replace H : (if 0 ≤ (ji59) then (if (ji59) < ((rd_L1 y140 (ji52)).length : Int) then (impl_gridWays.l1 kj33 a0 a1 (y140.set (x15_1 : Int).toNat ((rd_L1 y140 x15_1).set (x29_2 : Int).toNat (wrap64 ((rd (rd_L1 y140 x15_1) x29_2) + (rd (rd_L1 y140 (ji52)) (ji59)))))) x15_1 (y112.length : Int) x15_1 ((rd_L1 y120 x15_1).length : Int) (wrap64 (x29_2 + 1))) else (none)) else (none)) = some r := by first | (rw [hji59] at H; exact H) | (simp only [hji59] at H ⊢; exact H)
                                                          have hji59w : (IntKind.i64.wrap (x29_2 - 1)) = ji59 := (i64_w _).trans hji59
                                                          by_cases c60 : 0 ≤ (ji59)
                                                          · rw [if_pos c60] at H
                                                            have c60b0 : decide (0 ≤ (ji59)) = true := decide_eq_true c60
                                                            clear c60
                                                            by_cases c61 : (ji59) < ((rd_L1 y140 (ji52)).length : Int)
                                                            · rw [if_pos c61] at H
                                                              have c61b0 : decide ((ji59) < ((rd_L1 y140 (ji52)).length : Int)) = true := decide_eq_true c61
                                                              (try simp only [hl7_1] at c61b0)
                                                              (try simp only [hl7_2] at c61b0)
                                                              (try simp only [hl7_33] at c61b0)
                                                              clear c61
                                                              obtain ⟨y145, hy145⟩ : ∃ y_ : List Int, y_ = ((rd_L1 y140 x15_1).set (x29_2 : Int).toNat (wrap64 ((rd (rd_L1 y140 x15_1) x29_2) + (rd (rd_L1 y140 (ji52)) (ji59))))) := ⟨_, rfl⟩
                                                              replace H : (impl_gridWays.l1 kj33 a0 a1 (y140.set (x15_1 : Int).toNat y145) x15_1 (y112.length : Int) x15_1 ((rd_L1 y120 x15_1).length : Int) (wrap64 (x29_2 + 1))) = some r := by first | (rw [hy145]; with_reducible exact H) | (have H2_ := (Option.bind_some _ _).symm.trans H; rw [hy145]; with_reducible exact H2_) | (have H2_ := (Option.bind_some _ _).symm.trans H; with_reducible exact H2_) | with_reducible exact H | (rw [hy145]; exact H) | exact H
                                                              have Ny145 := Aside0.mk hy145
                                                              clear hy145
                                                              obtain ⟨y147, hy147⟩ : ∃ y_ : List (List Int), y_ = (y140.set (x15_1 : Int).toNat y145) := ⟨_, rfl⟩
                                                              replace H : (impl_gridWays.l1 kj33 a0 a1 y147 x15_1 (y112.length : Int) x15_1 ((rd_L1 y120 x15_1).length : Int) (wrap64 (x29_2 + 1))) = some r := by first | (rw [hy147]; with_reducible exact H) | (have H2_ := (Option.bind_some _ _).symm.trans H; rw [hy147]; with_reducible exact H2_) | (have H2_ := (Option.bind_some _ _).symm.trans H; with_reducible exact H2_) | with_reducible exact H | (rw [hy147]; exact H) | exact H
                                                              have Ny147 := Aside0.mk hy147
                                                              clear hy147
                                                              have H' := Aside0.mk H
                                                              clear H
                                                              try go_wp2
                                                              have n0_ := Aside0.mk (Kd.S_drew HO_7.out)
                                                              have n1_ := Aside0.mk (below_drew1 HB.out)
                                                              clear HO_7
                                                              clear HB
                                                              have HO_7 := n0_
                                                              have HB := n1_
                                                              clear n0_ n1_
                                                              have p134 : 0 ≤ (x15_1 : Int) := of_decide_eq_true (by first | (with_reducible assumption) | assumption)
                                                              have q134 : x15_1 < (x7_33.length : Int) := of_decide_eq_true (by first | (with_reducible assumption) | assumption)
                                                              obtain ⟨ad134, A134_0, c134_0, e134, hx134_0, hl134_0, hi134_0⟩ := at_L1 (Kd.S_reads' HO_7.out).2.2 x15_1 p134 q134
                                                              obtain rfl : (⟨go16, 0, none⟩ : Addr) = ad134 := (by injection e134)
                                                              obtain ⟨ce134, hce134, hMe134, hcc134⟩ := Kd.S_get HO_7.out [] x15_1 p134 (by first | exact q134 | exact of_decide_eq_true (by first | (with_reducible assumption) | assumption) | (have e_ := (Kd.S_reads' HO_7.out).1; omega))
                                                              obtain ⟨ve134_0, rfl, ge134_0⟩ := hMe134
                                                              have hv134_0 := hcc134 0 _ rfl
                                                              rw [Nat.add_zero, show ((Kd.slice 3 (Kd.int .i64))).sz = 1 from rfl, Nat.mul_one] at hv134_0
                                                              replace hv134_0 := Option.some.inj (hv134_0.symm.trans hx134_0)
                                                              rw [hv134_0] at ge134_0
                                                              have HL134_0 := Aside0.mk (show Kd.R (Kd.int .i64) 3 _ _ _ _ (rd_L1 x7_33 x15_1) from ge134_0)
                                                              clear hv134_0 ge134_0
                                                              have HX134_0 := Aside0.mk hx134_0
                                                              clear hcc134 hce134
                                                              (first | simp only [add_plain] at hx134_0 | simp only [add_at] at hx134_0 | simp only [Addr.add, Nat.zero_add] at hx134_0 | skip)
                                                              have HR134_0 := Aside0.mk hi134_0
                                                              have HC134_0 := Aside0.mk hl134_0
                                                              clear hi134_0 hl134_0
                                                              replace p134 := eq_true p134
                                                              replace q134 := eq_true q134
                                                              have p135 : 0 ≤ (x29_2 : Int) := of_decide_eq_true (by first | (with_reducible assumption) | assumption)
                                                              have q135 : x29_2 < ((rd_L1 x7_33 x15_1).length : Int) := of_decide_eq_true (by first | (with_reducible assumption) | assumption)
                                                              obtain ⟨ad135, e135, hx135_0⟩ := Kd.at_int (by repeat (first | (with_reducible exact HR134_0.out) | (with_reducible refine Kd.C_alloc ?_ _) | (with_reducible refine Kd.C_drewN ?_ _) | (with_reducible refine Kd.C_drew ?_) | exact HR134_0.out)) x29_2 p135 q135
                                                              cases e135
                                                              replace p135 := eq_true p135
                                                              replace q135 := eq_true q135
                                                              have p136 : 0 ≤ ((ji52) : Int) := of_decide_eq_true (by first | (with_reducible assumption) | assumption)
                                                              have q136 : (ji52) < (x7_33.length : Int) := of_decide_eq_true (by first | (with_reducible assumption) | assumption)
                                                              obtain ⟨ad136, A136_0, c136_0, e136, hx136_0, hl136_0, hi136_0⟩ := at_L1 (Kd.S_reads' HO_7.out).2.2 (ji52) p136 q136
                                                              obtain rfl : (⟨go16, 0, none⟩ : Addr) = ad136 := (by injection e136)
                                                              obtain ⟨ce136, hce136, hMe136, hcc136⟩ := Kd.S_get HO_7.out [] (ji52) p136 (by first | exact q136 | exact of_decide_eq_true (by first | (with_reducible assumption) | assumption) | (have e_ := (Kd.S_reads' HO_7.out).1; omega))
                                                              obtain ⟨ve136_0, rfl, ge136_0⟩ := hMe136
                                                              have hv136_0 := hcc136 0 _ rfl
                                                              rw [Nat.add_zero, show ((Kd.slice 3 (Kd.int .i64))).sz = 1 from rfl, Nat.mul_one] at hv136_0
                                                              replace hv136_0 := Option.some.inj (hv136_0.symm.trans hx136_0)
                                                              rw [hv136_0] at ge136_0
                                                              have HL136_0 := Aside0.mk (show Kd.R (Kd.int .i64) 3 _ _ _ _ (rd_L1 x7_33 (ji52)) from ge136_0)
                                                              clear hv136_0 ge136_0
                                                              have HX136_0 := Aside0.mk hx136_0
                                                              clear hcc136 hce136
                                                              (first | simp only [add_plain] at hx136_0 | simp only [add_at] at hx136_0 | simp only [Addr.add, Nat.zero_add] at hx136_0 | skip)
                                                              have HR136_0 := Aside0.mk hi136_0
                                                              have HC136_0 := Aside0.mk hl136_0
                                                              clear hi136_0 hl136_0
                                                              replace p136 := eq_true p136
                                                              replace q136 := eq_true q136
                                                              have p137 : 0 ≤ (x29_2 : Int) := of_decide_eq_true (by first | (with_reducible assumption) | assumption)
                                                              have q137 : x29_2 < ((rd_L1 x7_33 (ji52)).length : Int) := of_decide_eq_true (by first | (with_reducible assumption) | assumption)
                                                              obtain ⟨ad137, e137, hx137_0⟩ := Kd.at_int (by repeat (first | (with_reducible exact HR136_0.out) | (with_reducible refine Kd.C_alloc ?_ _) | (with_reducible refine Kd.C_drewN ?_ _) | (with_reducible refine Kd.C_drew ?_) | exact HR136_0.out)) x29_2 p137 q137
                                                              cases e137
                                                              replace p137 := eq_true p137
                                                              replace q137 := eq_true q137
                                                              have p56 : 0 ≤ (x29_2 : Int) := of_decide_eq_true (by first | (with_reducible assumption) | assumption)
                                                              have q56 : (x29_2 : Int) < (((rd_L1 x7_33 x15_1).length : Int) : Int) := of_decide_eq_true (by first | (with_reducible assumption) | assumption)
                                                              obtain ⟨go56, co56, eo56, gb56, gl56, cl56, HG56⟩ := Kd.R_form HL134_0.out (by omega)
                                                              (first | cases eo56 | (injection eo56 with ea_ en_ ec_; (first | subst ea_ | (injection ea_ with ea_; subst ea_)); subst ec_; clear en_))
                                                              have GB56 := Aside0.mk gb56
                                                              have GG56 := Aside0.mk HG56
                                                              clear gb56 gl56 HG56
                                                              (first | simp only [add_plain] at hx135_0 | skip)
                                                              obtain ⟨hx56_0, hf56_0⟩ := Kd.R_celln 0 HL134_0.out (x29_2 : Int) p56 q56
                                                              replace p56 := eq_true p56
                                                              replace q56 := eq_true q56
                                                              have hq64 : (x15_1 : Int) < (x7_33.length : Int) := (by have h_ : (x15_1 : Int) < ((x7_33.length : Int) : Int) := of_decide_eq_true (by first | (with_reducible assumption) | assumption); first | exact h_ | (have e_ := (Kd.S_reads' HO_7.out).1; omega) | simpa only [List.length_set, List.length_set] using h_)
                                                              obtain ⟨oki64, ce64, hcl64, hM64, hcc64, hok64, hbk64⟩ := Kd.S_borrow HO_7.out [] (x15_1 : Int) (of_decide_eq_true (by first | (with_reducible assumption) | assumption)) hq64
                                                              obtain ⟨ve64_0, rfl, ge64_0⟩ := hM64
                                                              have hv64 := hcc64 0 _ rfl
                                                              rw [Nat.add_zero, show ((Kd.slice 3 (Kd.int .i64))).sz = 1 from rfl, Nat.mul_one] at hv64
                                                              replace hv64 := Option.some.inj (hv64.symm.trans HX134_0.out)
                                                              subst hv64
                                                              clear hcc64 hcl64
                                                              replace ge64_0 := (show Kd.R (Kd.int .i64) 3 _ _ _ _ (rd_L1 x7_33 x15_1) from ge64_0)
                                                              have HP64 := Kd.R_putg ge64_0 (x29_2 : Int) (wrap64 ((rd (rd_L1 x7_33 x15_1) x29_2) + (rd (rd_L1 x7_33 (ji52)) x29_2)))
                                                              rw [← Ny138.out] at HP64
                                                              have HS64 := hbk64 HP64.2 (fun k_ e_ => by injection e_ with e_; subst e_; exact ge64_0.1 _ rfl) (x' := y138) (Kd.M_row HP64.1)
                                                              rw [← Ny140.out] at HS64
                                                              have HQ64 := Aside0.mk HS64
                                                              clear HP64 HS64 hbk64 hok64
                                                              refine start_ (n := 18) (S := fun w' => w'.cell? ⟨go16, (x15_1).toNat, none⟩ = some (.slice (some (⟨go56, 0, none⟩ : Addr)) (rd_L1 x7_33 x15_1).length c134_0) ∧ w'.cell? ⟨go56, (x29_2).toNat, none⟩ = some (.int .i64 (rd (rd_L1 x7_33 x15_1) x29_2)) ∧ w'.cell? ⟨go16, ((ji52)).toNat, none⟩ = some (.slice (some ad137) (rd_L1 x7_33 (ji52)).length c136_0) ∧ w'.cell? (ad137.add (x29_2).toNat) = some (.int .i64 (rd (rd_L1 x7_33 (ji52)) x29_2))) (ds := [17]) #[false, false, false, false, false, false, false, false, false, false, false, false, false, false, false, false, false, false] (by kernel_rfl) rfl rfl ⟨hx134_0, hx135_0, hx136_0, hx137_0⟩ (fun hHeld => ?_); refine with_tabW impl_gridWays.tab12 impl_gridWays.bits12 (fun HT_ HW_ => ?_)
                                                              generalize wc.drew = w63 at HO_7 HB GG56 HL134_0 HL136_0 HQ64 HR134_0 HR136_0 HX134_0 HX136_0 hf56_0 hx134_0 hx135_0 hx136_0 hx137_0 hx56_0 hHeld ⊢
                                                              refine pure_ (i := 0) (N := some 53) (v := ?_) (a' := ?_) #[true, false, false, false, false, false, false, false, false, false, false, false, false, false, false, false, false, false] rfl rfl (any_of HT_.out (by kernel_rfl)) (fun _ _ _ h => h) (Or.inl ⟨by rfl, ?_⟩) ?_ ?_
                                                              rotate_left
                                                              · intro w'
                                                                go_simp
                                                                with_reducible rfl
                                                              rotate_left
                                                              · simp only [Act.put, List.setIfInBounds_toArray, List.set_cons_zero, List.set_cons_succ, i64_w, i32_w]
                                                                rfl
                                                              refine pure_ (i := 1) (N := some 54) (v := ?_) (a' := ?_) #[true, true, false, false, false, false, false, false, false, false, false, false, false, false, false, false, false, false] rfl rfl (any_of HT_.out (by kernel_rfl)) (fun _ _ _ h => h) (Or.inl ⟨by rfl, ?_⟩) ?_ ?_
                                                              rotate_left
                                                              · intro w'
                                                                go_simp
                                                                with_reducible rfl
                                                              rotate_left
                                                              · simp only [Act.put, List.setIfInBounds_toArray, List.set_cons_zero, List.set_cons_succ, i64_w, i32_w]
                                                                rfl
                                                              refine pure_ (i := 2) (N := some 55) (v := ?_) (a' := ?_) #[true, true, true, false, false, false, false, false, false, false, false, false, false, false, false, false, false, false] rfl rfl (any_of HT_.out (by kernel_rfl)) (fun _ _ _ h => h) (Or.inl ⟨by rfl, ?_⟩) ?_ ?_
                                                              rotate_left
                                                              · intro w'
                                                                go_simp
                                                                with_reducible rfl
                                                              rotate_left
                                                              · simp only [Act.put, List.setIfInBounds_toArray, List.set_cons_zero, List.set_cons_succ, i64_w, i32_w]
                                                                rfl
                                                              refine pure_ (i := 4) (N := some 57) (v := ?_) (a' := ?_) #[true, true, true, false, true, false, false, false, false, false, false, false, false, false, false, false, false, false] rfl rfl (any_of HT_.out (by kernel_rfl)) (fun _ _ _ h => h) (Or.inl ⟨by rfl, ?_⟩) ?_ ?_
                                                              rotate_left
                                                              · intro w'
                                                                go_simp
                                                                with_reducible rfl
                                                              rotate_left
                                                              · simp only [Act.put, List.setIfInBounds_toArray, List.set_cons_zero, List.set_cons_succ, i64_w, i32_w]
                                                                rfl
                                                              refine pure_ (i := 7) (N := some 60) (v := ?_) (a' := ?_) #[true, true, true, false, true, false, false, true, false, false, false, false, false, false, false, false, false, false] rfl rfl (any_of HT_.out (by kernel_rfl)) (fun _ _ _ h => h) (Or.inl ⟨by rfl, ?_⟩) ?_ ?_
                                                              rotate_left
                                                              · intro w'
                                                                go_simp
                                                                with_reducible rfl
                                                              rotate_left
                                                              · simp only [Act.put, List.setIfInBounds_toArray, List.set_cons_zero, List.set_cons_succ, i64_w, i32_w]
                                                                rfl
                                                              refine pure_ (i := 8) (N := some 61) (v := ?_) (a' := ?_) #[true, true, true, false, true, false, false, true, true, false, false, false, false, false, false, false, false, false] rfl rfl (any_of HT_.out (by kernel_rfl)) (fun _ _ _ h => h) (Or.inl ⟨by rfl, ?_⟩) ?_ ?_
                                                              rotate_left
                                                              · intro w'
                                                                go_simp
                                                                with_reducible rfl
                                                              rotate_left
                                                              · simp only [Act.put, List.setIfInBounds_toArray, List.set_cons_zero, List.set_cons_succ, i64_w, i32_w]
                                                                rfl
                                                              refine pure_ (i := 9) (N := some 62) (v := ?_) (a' := ?_) #[true, true, true, false, true, false, false, true, true, true, false, false, false, false, false, false, false, false] rfl rfl (any_of HT_.out (by kernel_rfl)) (fun _ _ _ h => h) (Or.inl ⟨by rfl, ?_⟩) ?_ ?_
                                                              rotate_left
                                                              · intro w'
                                                                go_simp
                                                                with_reducible rfl
                                                              rotate_left
                                                              · simp only [Act.put, List.setIfInBounds_toArray, List.set_cons_zero, List.set_cons_succ, i64_w, i32_w]
                                                                rfl
                                                              refine pure_ (i := 10) (N := some 63) (v := ?_) (a' := ?_) #[true, true, true, false, true, false, false, true, true, true, true, false, false, false, false, false, false, false] rfl rfl (any_of HT_.out (by kernel_rfl)) (fun _ _ _ h => h) (Or.inl ⟨by rfl, ?_⟩) ?_ ?_
                                                              rotate_left
                                                              · intro w'
                                                                go_simp
                                                                with_reducible rfl
                                                              rotate_left
                                                              · simp only [Act.put, List.setIfInBounds_toArray, List.set_cons_zero, List.set_cons_succ, i64_w, i32_w]
                                                                rfl
                                                              refine pure_ (i := 12) (N := some 65) (v := ?_) (a' := ?_) #[true, true, true, false, true, false, false, true, true, true, true, false, true, false, false, false, false, false] rfl rfl (any_of HT_.out (by kernel_rfl)) (fun _ _ _ h => h) (Or.inl ⟨by rfl, ?_⟩) ?_ ?_
                                                              rotate_left
                                                              · intro w'
                                                                go_simp
                                                                with_reducible rfl
                                                              rotate_left
                                                              · simp only [Act.put, List.setIfInBounds_toArray, List.set_cons_zero, List.set_cons_succ, i64_w, i32_w]
                                                                rfl
                                                              refine take_ (i := 3) (N := some 56) (v := ?_) (a' := ?_) #[true, true, true, true, true, false, false, true, true, true, true, false, true, false, false, false, false, false] rfl rfl (take_ofW HT_.out HW_.out (by kernel_rfl)) (fun _ _ _ h => h) (Or.inl ⟨by rfl, ?_⟩) hHeld ?_ ?_
                                                              rotate_left
                                                              · rintro w' ⟨s0, s1, s2, s3⟩
                                                                go_simp
                                                                with_reducible rfl
                                                              rotate_left
                                                              · simp only [Act.put, List.setIfInBounds_toArray, List.set_cons_zero, List.set_cons_succ, i64_w, i32_w]
                                                                rfl
                                                              refine pure_ (i := 5) (N := some 58) (v := ?_) (a' := ?_) #[true, true, true, true, true, true, false, true, true, true, true, false, true, false, false, false, false, false] rfl rfl (any_of HT_.out (by kernel_rfl)) (fun _ _ _ h => h) (Or.inl ⟨by rfl, ?_⟩) ?_ ?_
                                                              rotate_left
                                                              · intro w'
                                                                go_simp
                                                                with_reducible rfl
                                                              rotate_left
                                                              · simp only [Act.put, List.setIfInBounds_toArray, List.set_cons_zero, List.set_cons_succ, i64_w, i32_w]
                                                                rfl
                                                              refine take_ (i := 6) (N := some 59) (v := ?_) (a' := ?_) #[true, true, true, true, true, true, true, true, true, true, true, false, true, false, false, false, false, false] rfl rfl (take_ofW HT_.out HW_.out (by kernel_rfl)) (fun _ _ _ h => h) (Or.inl ⟨by rfl, ?_⟩) hHeld ?_ ?_
                                                              rotate_left
                                                              · rintro w' ⟨s0, s1, s2, s3⟩
                                                                go_simp
                                                                with_reducible rfl
                                                              rotate_left
                                                              · simp only [Act.put, List.setIfInBounds_toArray, List.set_cons_zero, List.set_cons_succ, i64_w, i32_w]
                                                                rfl
                                                              refine take_ (i := 11) (N := some 64) (v := ?_) (a' := ?_) #[true, true, true, true, true, true, true, true, true, true, true, true, true, false, false, false, false, false] rfl rfl (take_ofW HT_.out HW_.out (by kernel_rfl)) (fun _ _ _ h => h) (Or.inl ⟨by rfl, ?_⟩) hHeld ?_ ?_
                                                              rotate_left
                                                              · rintro w' ⟨s0, s1, s2, s3⟩
                                                                go_simp
                                                                with_reducible rfl
                                                              rotate_left
                                                              · simp only [Act.put, List.setIfInBounds_toArray, List.set_cons_zero, List.set_cons_succ, i64_w, i32_w]
                                                                rfl
                                                              refine pure_ (i := 13) (N := some 66) (v := ?_) (a' := ?_) #[true, true, true, true, true, true, true, true, true, true, true, true, true, true, false, false, false, false] rfl rfl (any_of HT_.out (by kernel_rfl)) (fun _ _ _ h => h) (Or.inl ⟨by rfl, ?_⟩) ?_ ?_
                                                              rotate_left
                                                              · intro w'
                                                                go_simp
                                                                with_reducible rfl
                                                              rotate_left
                                                              · simp only [Act.put, List.setIfInBounds_toArray, List.set_cons_zero, List.set_cons_succ, i64_w, i32_w]
                                                                rfl
                                                              refine take_ (i := 14) (N := some 67) (v := ?_) (a' := ?_) #[true, true, true, true, true, true, true, true, true, true, true, true, true, true, true, false, false, false] rfl rfl (take_ofW HT_.out HW_.out (by kernel_rfl)) (fun _ _ _ h => h) (Or.inl ⟨by rfl, ?_⟩) hHeld ?_ ?_
                                                              rotate_left
                                                              · rintro w' ⟨s0, s1, s2, s3⟩
                                                                go_simp
                                                                with_reducible rfl
                                                              rotate_left
                                                              · simp only [Act.put, List.setIfInBounds_toArray, List.set_cons_zero, List.set_cons_succ, i64_w, i32_w]
                                                                rfl
                                                              refine pure_ (i := 15) (N := some 68) (v := ?_) (a' := ?_) #[true, true, true, true, true, true, true, true, true, true, true, true, true, true, true, true, false, false] rfl rfl (any_of HT_.out (by kernel_rfl)) (fun _ _ _ h => h) (Or.inl ⟨by rfl, ?_⟩) ?_ ?_
                                                              rotate_left
                                                              · intro w'
                                                                go_simp
                                                                with_reducible rfl
                                                              rotate_left
                                                              · simp only [Act.put, List.setIfInBounds_toArray, List.set_cons_zero, List.set_cons_succ, i64_w, i32_w]
                                                                rfl
                                                              refine pure_ (i := 16) (N := some 69) (v := ?_) (a' := ?_) #[true, true, true, true, true, true, true, true, true, true, true, true, true, true, true, true, true, false] rfl rfl (any_of HT_.out (by kernel_rfl)) (fun _ _ _ h => h) (Or.inl ⟨by rfl, ?_⟩) ?_ ?_
                                                              rotate_left
                                                              · intro w'
                                                                go_simp
                                                                with_reducible rfl
                                                              rotate_left
                                                              · simp only [Act.put, List.setIfInBounds_toArray, List.set_cons_zero, List.set_cons_succ, i64_w, i32_w]
                                                                rfl
                                                              refine last_ (i := 17) (N := none) #[true, true, true, true, true, true, true, true, true, true, true, true, true, true, true, true, true, true] rfl rfl (one_of HT_.out (by kernel_rfl)) (by decide) (fun K hK => ?_)
                                                              refine skip_ (w1 := ?_) (by rfl) rfl ?_ ?_
                                                              rotate_left
                                                              · go_simp
                                                                rfl
                                                              refine hK.out _ _ ?_
                                                              clear hK K
                                                              refine done_ (done_of HT_.out (by kernel_rfl)) ?_
                                                              try go_wp2
                                                              have n0_ : Aside0 (Kd.S (Kd.slice 3 (Kd.int .i64)) 32 (w63.setCell ⟨go56, (x29_2 : Int).toNat, none⟩ (.int .i64 (wrap64 ((rd (rd_L1 x7_33 x15_1) x29_2) + (rd (rd_L1 x7_33 (ji52)) x29_2))))) w.heap.size (fun _ => True) (.slice (some ⟨go16, 0, none⟩) x7_33.length co9) y140) := ⟨by (with_reducible repeat (first | apply Kd.S_alloc | apply Kd.S_drewN | apply Kd.S_drew)); exact HQ64.out⟩
                                                              have n1_ : Aside0 (Below w.heap.size w (w63.setCell ⟨go56, (x29_2 : Int).toNat, none⟩ (.int .i64 (wrap64 ((rd (rd_L1 x7_33 x15_1) x29_2) + (rd (rd_L1 x7_33 (ji52)) x29_2)))))) := ⟨by repeat (first | (with_reducible first | exact HB.out | apply below_alloc | apply pw_below_drewN | apply below_drew1 | refine below_set ?_ GB56.out) | exact HB.out)⟩
                                                              (try clear HO_7)
                                                              (try clear HB)
                                                              generalize (w63.setCell ⟨go56, (x29_2 : Int).toNat, none⟩ (.int .i64 (wrap64 ((rd (rd_L1 x7_33 x15_1) x29_2) + (rd (rd_L1 x7_33 (ji52)) x29_2))))) = w66 at n0_ n1_ ⊢
                                                              have HO_7 := n0_
                                                              have HB := n1_
                                                              clear n0_ n1_
                                                              have n0_ := Aside0.mk (Kd.S_drew HO_7.out)
                                                              have n1_ := Aside0.mk (below_drew1 HB.out)
                                                              clear HO_7
                                                              clear HB
                                                              have HO_7 := n0_
                                                              have HB := n1_
                                                              clear n0_ n1_
                                                              have p141 : 0 ≤ (x15_1 : Int) := of_decide_eq_true (by first | (with_reducible assumption) | assumption)
                                                              have q141 : x15_1 < (y140.length : Int) := (by have h_ : (x15_1 : Int) < ((x7_33.length : Int) : Int) := of_decide_eq_true (by first | (with_reducible assumption) | assumption); first | (have e_ := (Kd.S_reads' HO_7.out).1; omega) | simpa only [Ny140.out, List.length_set] using h_)
                                                              have ql141 : ((x15_1 : Int) < ((x7_33.length : Int) : Int)) = True := eq_true (of_decide_eq_true (by first | (with_reducible assumption) | assumption))
                                                              obtain ⟨ad141, A141_0, c141_0, e141, hx141_0, hl141_0, hi141_0⟩ := at_L1 (Kd.S_reads' HO_7.out).2.2 x15_1 p141 q141
                                                              obtain rfl : (⟨go16, 0, none⟩ : Addr) = ad141 := (by injection e141)
                                                              obtain ⟨ce141, hce141, hMe141, hcc141⟩ := Kd.S_get HO_7.out [] x15_1 p141 (by first | exact q141 | exact of_decide_eq_true (by first | (with_reducible assumption) | assumption) | (have e_ := (Kd.S_reads' HO_7.out).1; omega))
                                                              obtain ⟨ve141_0, rfl, ge141_0⟩ := hMe141
                                                              have hv141_0 := hcc141 0 _ rfl
                                                              rw [Nat.add_zero, show ((Kd.slice 3 (Kd.int .i64))).sz = 1 from rfl, Nat.mul_one] at hv141_0
                                                              replace hv141_0 := Option.some.inj (hv141_0.symm.trans hx141_0)
                                                              rw [hv141_0] at ge141_0
                                                              have HL141_0 := Aside0.mk (show Kd.R (Kd.int .i64) 3 _ _ _ _ (rd_L1 y140 x15_1) from ge141_0)
                                                              clear hv141_0 ge141_0
                                                              have HX141_0 := Aside0.mk hx141_0
                                                              clear hcc141 hce141
                                                              (first | simp only [add_plain] at hx141_0 | simp only [add_at] at hx141_0 | simp only [Addr.add, Nat.zero_add] at hx141_0 | skip)
                                                              have HR141_0 := Aside0.mk hi141_0
                                                              have HC141_0 := Aside0.mk hl141_0
                                                              clear hi141_0 hl141_0
                                                              replace p141 := eq_true p141
                                                              replace q141 := eq_true q141
                                                              have p142 : 0 ≤ (x29_2 : Int) := of_decide_eq_true (by first | (with_reducible assumption) | assumption)
                                                              have q142 : x29_2 < ((rd_L1 y140 x15_1).length : Int) := of_decide_eq_true (by first | (with_reducible assumption) | assumption)
                                                              obtain ⟨ad142, e142, hx142_0⟩ := Kd.at_int (by repeat (first | (with_reducible exact HR141_0.out) | (with_reducible refine Kd.C_alloc ?_ _) | (with_reducible refine Kd.C_drewN ?_ _) | (with_reducible refine Kd.C_drew ?_) | exact HR141_0.out)) x29_2 p142 q142
                                                              cases e142
                                                              replace p142 := eq_true p142
                                                              replace q142 := eq_true q142
                                                              have p143 : 0 ≤ ((ji52) : Int) := of_decide_eq_true (by first | (with_reducible assumption) | assumption)
                                                              have q143 : (ji52) < (y140.length : Int) := (by have h_ : ((ji52) : Int) < ((x7_33.length : Int) : Int) := of_decide_eq_true (by first | (with_reducible assumption) | assumption); first | (have e_ := (Kd.S_reads' HO_7.out).1; omega) | simpa only [Ny140.out, List.length_set] using h_)
                                                              have ql143 : (((ji52) : Int) < ((x7_33.length : Int) : Int)) = True := eq_true (of_decide_eq_true (by first | (with_reducible assumption) | assumption))
                                                              obtain ⟨ad143, A143_0, c143_0, e143, hx143_0, hl143_0, hi143_0⟩ := at_L1 (Kd.S_reads' HO_7.out).2.2 (ji52) p143 q143
                                                              obtain rfl : (⟨go16, 0, none⟩ : Addr) = ad143 := (by injection e143)
                                                              obtain ⟨ce143, hce143, hMe143, hcc143⟩ := Kd.S_get HO_7.out [] (ji52) p143 (by first | exact q143 | exact of_decide_eq_true (by first | (with_reducible assumption) | assumption) | (have e_ := (Kd.S_reads' HO_7.out).1; omega))
                                                              obtain ⟨ve143_0, rfl, ge143_0⟩ := hMe143
                                                              have hv143_0 := hcc143 0 _ rfl
                                                              rw [Nat.add_zero, show ((Kd.slice 3 (Kd.int .i64))).sz = 1 from rfl, Nat.mul_one] at hv143_0
                                                              replace hv143_0 := Option.some.inj (hv143_0.symm.trans hx143_0)
                                                              rw [hv143_0] at ge143_0
                                                              have HL143_0 := Aside0.mk (show Kd.R (Kd.int .i64) 3 _ _ _ _ (rd_L1 y140 (ji52)) from ge143_0)
                                                              clear hv143_0 ge143_0
                                                              have HX143_0 := Aside0.mk hx143_0
                                                              clear hcc143 hce143
                                                              (first | simp only [add_plain] at hx143_0 | simp only [add_at] at hx143_0 | simp only [Addr.add, Nat.zero_add] at hx143_0 | skip)
                                                              have HR143_0 := Aside0.mk hi143_0
                                                              have HC143_0 := Aside0.mk hl143_0
                                                              clear hi143_0 hl143_0
                                                              replace p143 := eq_true p143
                                                              replace q143 := eq_true q143
                                                              have p144 : 0 ≤ ((ji59) : Int) := of_decide_eq_true (by first | (with_reducible assumption) | assumption)
                                                              have q144 : (ji59) < ((rd_L1 y140 (ji52)).length : Int) := of_decide_eq_true (by first | (with_reducible assumption) | assumption)
                                                              obtain ⟨ad144, e144, hx144_0⟩ := Kd.at_int (by repeat (first | (with_reducible exact HR143_0.out) | (with_reducible refine Kd.C_alloc ?_ _) | (with_reducible refine Kd.C_drewN ?_ _) | (with_reducible refine Kd.C_drew ?_) | exact HR143_0.out)) (ji59) p144 q144
                                                              cases e144
                                                              replace p144 := eq_true p144
                                                              replace q144 := eq_true q144
                                                              have p62 : 0 ≤ (x29_2 : Int) := of_decide_eq_true (by first | (with_reducible assumption) | assumption)
                                                              have q62 : (x29_2 : Int) < (((rd_L1 y140 x15_1).length : Int) : Int) := of_decide_eq_true (by first | (with_reducible assumption) | assumption)
                                                              obtain ⟨go62, co62, eo62, gb62, gl62, cl62, HG62⟩ := Kd.R_form HL141_0.out (by omega)
                                                              (first | cases eo62 | (injection eo62 with ea_ en_ ec_; (first | subst ea_ | (injection ea_ with ea_; subst ea_)); subst ec_; clear en_))
                                                              have GB62 := Aside0.mk gb62
                                                              have GG62 := Aside0.mk HG62
                                                              clear gb62 gl62 HG62
                                                              (first | simp only [add_plain] at hx142_0 | skip)
                                                              obtain ⟨hx62_0, hf62_0⟩ := Kd.R_celln 0 HL141_0.out (x29_2 : Int) p62 q62
                                                              replace p62 := eq_true p62
                                                              replace q62 := eq_true q62
                                                              have hq68 : (x15_1 : Int) < (x7_33.length : Int) := (by have h_ : (x15_1 : Int) < ((x7_33.length : Int) : Int) := of_decide_eq_true (by first | (with_reducible assumption) | assumption); first | exact h_ | (have e_ := (Kd.S_reads' HO_7.out).1; omega) | simpa only [Ny140.out, List.length_set] using h_)
                                                              obtain ⟨oki68, ce68, hcl68, hM68, hcc68, hok68, hbk68⟩ := Kd.S_borrow HO_7.out [] (x15_1 : Int) (of_decide_eq_true (by first | (with_reducible assumption) | assumption)) hq68
                                                              obtain ⟨ve68_0, rfl, ge68_0⟩ := hM68
                                                              have hv68 := hcc68 0 _ rfl
                                                              rw [Nat.add_zero, show ((Kd.slice 3 (Kd.int .i64))).sz = 1 from rfl, Nat.mul_one] at hv68
                                                              replace hv68 := Option.some.inj (hv68.symm.trans HX141_0.out)
                                                              subst hv68
                                                              clear hcc68 hcl68
                                                              replace ge68_0 := (show Kd.R (Kd.int .i64) 3 _ _ _ _ (rd_L1 y140 x15_1) from ge68_0)
                                                              have HP68 := Kd.R_putg ge68_0 (x29_2 : Int) (wrap64 ((rd (rd_L1 y140 x15_1) x29_2) + (rd (rd_L1 y140 (ji52)) (ji59))))
                                                              rw [← Ny145.out] at HP68
                                                              have HS68 := hbk68 HP68.2 (fun k_ e_ => by injection e_ with e_; subst e_; exact ge68_0.1 _ rfl) (x' := y145) (Kd.M_row HP68.1)
                                                              rw [← Ny147.out] at HS68
                                                              have HQ68 := Aside0.mk HS68
                                                              clear HP68 HS68 hbk68 hok68
                                                              refine start_ (n := 19) (S := fun w' => w'.cell? ⟨go16, (x15_1).toNat, none⟩ = some (.slice (some (⟨go62, 0, none⟩ : Addr)) (rd_L1 y140 x15_1).length c141_0) ∧ w'.cell? ⟨go62, (x29_2).toNat, none⟩ = some (.int .i64 (rd (rd_L1 y140 x15_1) x29_2)) ∧ w'.cell? ⟨go16, ((ji52)).toNat, none⟩ = some (.slice (some ad144) (rd_L1 y140 (ji52)).length c143_0) ∧ w'.cell? (ad144.add ((ji59)).toNat) = some (.int .i64 (rd (rd_L1 y140 (ji52)) (ji59)))) (ds := [18]) #[false, false, false, false, false, false, false, false, false, false, false, false, false, false, false, false, false, false, false] (by kernel_rfl) rfl rfl ⟨hx141_0, hx142_0, hx143_0, hx144_0⟩ (fun hHeld => ?_); refine with_tabW impl_gridWays.tab14 impl_gridWays.bits14 (fun HT_ HW_ => ?_)
                                                              generalize w66.drew = w67 at HO_7 HB GG62 HL141_0 HL143_0 HQ64 HQ68 HR141_0 HR143_0 HX141_0 HX143_0 hf62_0 hx141_0 hx142_0 hx143_0 hx144_0 hx62_0 hHeld ⊢
                                                              refine pure_ (i := 0) (N := some 76) (v := ?_) (a' := ?_) #[true, false, false, false, false, false, false, false, false, false, false, false, false, false, false, false, false, false, false] rfl rfl (any_of HT_.out (by kernel_rfl)) (fun _ _ _ h => h) (Or.inl ⟨by rfl, ?_⟩) ?_ ?_
                                                              rotate_left
                                                              · intro w'
                                                                go_simp
                                                                with_reducible rfl
                                                              rotate_left
                                                              · simp only [Act.put, List.setIfInBounds_toArray, List.set_cons_zero, List.set_cons_succ, i64_w, i32_w]
                                                                rfl
                                                              refine pure_ (i := 1) (N := some 77) (v := ?_) (a' := ?_) #[true, true, false, false, false, false, false, false, false, false, false, false, false, false, false, false, false, false, false] rfl rfl (any_of HT_.out (by kernel_rfl)) (fun _ _ _ h => h) (Or.inl ⟨by rfl, ?_⟩) ?_ ?_
                                                              rotate_left
                                                              · intro w'
                                                                go_simp
                                                                with_reducible rfl
                                                              rotate_left
                                                              · simp only [Act.put, List.setIfInBounds_toArray, List.set_cons_zero, List.set_cons_succ, i64_w, i32_w]
                                                                rfl
                                                              refine pure_ (i := 2) (N := some 78) (v := ?_) (a' := ?_) #[true, true, true, false, false, false, false, false, false, false, false, false, false, false, false, false, false, false, false] rfl rfl (any_of HT_.out (by kernel_rfl)) (fun _ _ _ h => h) (Or.inl ⟨by rfl, ?_⟩) ?_ ?_
                                                              rotate_left
                                                              · intro w'
                                                                go_simp
                                                                with_reducible rfl
                                                              rotate_left
                                                              · simp only [Act.put, List.setIfInBounds_toArray, List.set_cons_zero, List.set_cons_succ, i64_w, i32_w]
                                                                rfl
                                                              refine pure_ (i := 4) (N := some 80) (v := ?_) (a' := ?_) #[true, true, true, false, true, false, false, false, false, false, false, false, false, false, false, false, false, false, false] rfl rfl (any_of HT_.out (by kernel_rfl)) (fun _ _ _ h => h) (Or.inl ⟨by rfl, ?_⟩) ?_ ?_
                                                              rotate_left
                                                              · intro w'
                                                                go_simp
                                                                with_reducible rfl
                                                              rotate_left
                                                              · simp only [Act.put, List.setIfInBounds_toArray, List.set_cons_zero, List.set_cons_succ, i64_w, i32_w]
                                                                rfl
                                                              refine pure_ (i := 7) (N := some 83) (v := ?_) (a' := ?_) #[true, true, true, false, true, false, false, true, false, false, false, false, false, false, false, false, false, false, false] rfl rfl (any_of HT_.out (by kernel_rfl)) (fun _ _ _ h => h) (Or.inl ⟨by rfl, ?_⟩) ?_ ?_
                                                              rotate_left
                                                              · intro w'
                                                                go_simp
                                                                with_reducible rfl
                                                              rotate_left
                                                              · simp only [Act.put, List.setIfInBounds_toArray, List.set_cons_zero, List.set_cons_succ, i64_w, i32_w]
                                                                rfl
                                                              refine pure_ (i := 8) (N := some 84) (v := ?_) (a' := ?_) #[true, true, true, false, true, false, false, true, true, false, false, false, false, false, false, false, false, false, false] rfl rfl (any_of HT_.out (by kernel_rfl)) (fun _ _ _ h => h) (Or.inl ⟨by rfl, ?_⟩) ?_ ?_
                                                              rotate_left
                                                              · intro w'
                                                                go_simp
                                                                with_reducible rfl
                                                              rotate_left
                                                              · simp only [Act.put, List.setIfInBounds_toArray, List.set_cons_zero, List.set_cons_succ, i64_w, i32_w]
                                                                rfl
                                                              refine pure_ (i := 9) (N := some 85) (v := ?_) (a' := ?_) #[true, true, true, false, true, false, false, true, true, true, false, false, false, false, false, false, false, false, false] rfl rfl (any_of HT_.out (by kernel_rfl)) (fun _ _ _ h => h) (Or.inl ⟨by rfl, ?_⟩) ?_ ?_
                                                              rotate_left
                                                              · intro w'
                                                                go_simp
                                                                with_reducible rfl
                                                              rotate_left
                                                              · simp only [Act.put, List.setIfInBounds_toArray, List.set_cons_zero, List.set_cons_succ, i64_w, i32_w]
                                                                rfl
                                                              refine pure_ (i := 10) (N := some 86) (v := ?_) (a' := ?_) #[true, true, true, false, true, false, false, true, true, true, true, false, false, false, false, false, false, false, false] rfl rfl (any_of HT_.out (by kernel_rfl)) (fun _ _ _ h => h) (Or.inl ⟨by rfl, ?_⟩) ?_ ?_
                                                              rotate_left
                                                              · intro w'
                                                                go_simp
                                                                with_reducible rfl
                                                              rotate_left
                                                              · simp only [Act.put, List.setIfInBounds_toArray, List.set_cons_zero, List.set_cons_succ, i64_w, i32_w]
                                                                rfl
                                                              refine pure_ (i := 12) (N := some 88) (v := ?_) (a' := ?_) #[true, true, true, false, true, false, false, true, true, true, true, false, true, false, false, false, false, false, false] rfl rfl (any_of HT_.out (by kernel_rfl)) (fun _ _ _ h => h) (Or.inl ⟨by rfl, ?_⟩) ?_ ?_
                                                              rotate_left
                                                              · intro w'
                                                                go_simp
                                                                with_reducible rfl
                                                              rotate_left
                                                              · simp only [Act.put, List.setIfInBounds_toArray, List.set_cons_zero, List.set_cons_succ, i64_w, i32_w]
                                                                rfl
                                                              refine pure_ (i := 13) (N := some 89) (v := ?_) (a' := ?_) #[true, true, true, false, true, false, false, true, true, true, true, false, true, true, false, false, false, false, false] rfl rfl (any_of HT_.out (by kernel_rfl)) (fun _ _ _ h => h) (Or.inl ⟨by rfl, ?_⟩) ?_ ?_
                                                              rotate_left
                                                              · intro w'
                                                                go_simp
                                                                with_reducible rfl
                                                              rotate_left
                                                              · simp only [Act.put, List.setIfInBounds_toArray, List.set_cons_zero, List.set_cons_succ, i64_w, i32_w]
                                                                rfl
                                                              refine take_ (i := 3) (N := some 79) (v := ?_) (a' := ?_) #[true, true, true, true, true, false, false, true, true, true, true, false, true, true, false, false, false, false, false] rfl rfl (take_ofW HT_.out HW_.out (by kernel_rfl)) (fun _ _ _ h => h) (Or.inl ⟨by rfl, ?_⟩) hHeld ?_ ?_
                                                              rotate_left
                                                              · rintro w' ⟨s0, s1, s2, s3⟩
                                                                go_simp
                                                                with_reducible rfl
                                                              rotate_left
                                                              · simp only [Act.put, List.setIfInBounds_toArray, List.set_cons_zero, List.set_cons_succ, i64_w, i32_w]
                                                                rfl
                                                              refine pure_ (i := 5) (N := some 81) (v := ?_) (a' := ?_) #[true, true, true, true, true, true, false, true, true, true, true, false, true, true, false, false, false, false, false] rfl rfl (any_of HT_.out (by kernel_rfl)) (fun _ _ _ h => h) (Or.inl ⟨by rfl, ?_⟩) ?_ ?_
                                                              rotate_left
                                                              · intro w'
                                                                go_simp
                                                                with_reducible rfl
                                                              rotate_left
                                                              · simp only [Act.put, List.setIfInBounds_toArray, List.set_cons_zero, List.set_cons_succ, i64_w, i32_w]
                                                                rfl
                                                              refine take_ (i := 6) (N := some 82) (v := ?_) (a' := ?_) #[true, true, true, true, true, true, true, true, true, true, true, false, true, true, false, false, false, false, false] rfl rfl (take_ofW HT_.out HW_.out (by kernel_rfl)) (fun _ _ _ h => h) (Or.inl ⟨by rfl, ?_⟩) hHeld ?_ ?_
                                                              rotate_left
                                                              · rintro w' ⟨s0, s1, s2, s3⟩
                                                                go_simp
                                                                with_reducible rfl
                                                              rotate_left
                                                              · simp only [Act.put, List.setIfInBounds_toArray, List.set_cons_zero, List.set_cons_succ, i64_w, i32_w]
                                                                rfl
                                                              refine take_ (i := 11) (N := some 87) (v := ?_) (a' := ?_) #[true, true, true, true, true, true, true, true, true, true, true, true, true, true, false, false, false, false, false] rfl rfl (take_ofW HT_.out HW_.out (by kernel_rfl)) (fun _ _ _ h => h) (Or.inl ⟨by rfl, ?_⟩) hHeld ?_ ?_
                                                              rotate_left
                                                              · rintro w' ⟨s0, s1, s2, s3⟩
                                                                go_simp
                                                                with_reducible rfl
                                                              rotate_left
                                                              · simp only [Act.put, List.setIfInBounds_toArray, List.set_cons_zero, List.set_cons_succ, i64_w, i32_w]
                                                                rfl
                                                              refine pure_ (i := 14) (N := some 90) (v := ?_) (a' := ?_) #[true, true, true, true, true, true, true, true, true, true, true, true, true, true, true, false, false, false, false] rfl rfl (any_of HT_.out (by kernel_rfl)) (fun _ _ _ h => h) (Or.inl ⟨by rfl, ?_⟩) ?_ ?_
                                                              rotate_left
                                                              · intro w'
                                                                go_simp
                                                                with_reducible rfl
                                                              rotate_left
                                                              · simp only [Act.put, List.setIfInBounds_toArray, List.set_cons_zero, List.set_cons_succ, i64_w, i32_w]
                                                                rfl
                                                              refine take_ (i := 15) (N := some 91) (v := ?_) (a' := ?_) #[true, true, true, true, true, true, true, true, true, true, true, true, true, true, true, true, false, false, false] rfl rfl (take_ofW HT_.out HW_.out (by kernel_rfl)) (fun _ _ _ h => h) (Or.inl ⟨by rfl, ?_⟩) hHeld ?_ ?_
                                                              rotate_left
                                                              · rintro w' ⟨s0, s1, s2, s3⟩
                                                                go_simp
                                                                with_reducible rfl
                                                              rotate_left
                                                              · simp only [Act.put, List.setIfInBounds_toArray, List.set_cons_zero, List.set_cons_succ, i64_w, i32_w]
                                                                rfl
                                                              refine pure_ (i := 16) (N := some 92) (v := ?_) (a' := ?_) #[true, true, true, true, true, true, true, true, true, true, true, true, true, true, true, true, true, false, false] rfl rfl (any_of HT_.out (by kernel_rfl)) (fun _ _ _ h => h) (Or.inl ⟨by rfl, ?_⟩) ?_ ?_
                                                              rotate_left
                                                              · intro w'
                                                                go_simp
                                                                with_reducible rfl
                                                              rotate_left
                                                              · simp only [Act.put, List.setIfInBounds_toArray, List.set_cons_zero, List.set_cons_succ, i64_w, i32_w]
                                                                rfl
                                                              refine pure_ (i := 17) (N := some 93) (v := ?_) (a' := ?_) #[true, true, true, true, true, true, true, true, true, true, true, true, true, true, true, true, true, true, false] rfl rfl (any_of HT_.out (by kernel_rfl)) (fun _ _ _ h => h) (Or.inl ⟨by rfl, ?_⟩) ?_ ?_
                                                              rotate_left
                                                              · intro w'
                                                                go_simp
                                                                with_reducible rfl
                                                              rotate_left
                                                              · simp only [Act.put, List.setIfInBounds_toArray, List.set_cons_zero, List.set_cons_succ, i64_w, i32_w]
                                                                rfl
                                                              refine last_ (i := 18) (N := none) #[true, true, true, true, true, true, true, true, true, true, true, true, true, true, true, true, true, true, true] rfl rfl (one_of HT_.out (by kernel_rfl)) (by decide) (fun K hK => ?_)
                                                              refine skip_ (w1 := ?_) (by rfl) rfl ?_ ?_
                                                              rotate_left
                                                              · go_simp
                                                                rfl
                                                              refine hK.out _ _ ?_
                                                              clear hK K
                                                              refine done_ (done_of HT_.out (by kernel_rfl)) ?_
                                                              try go_wp2
                                                              (try simp only [← hl7_2, ← hl7_33])
                                                              go_roundg kj33
                                                              case measure => have := HK1.out; have := HK2.out; have := HJ23.out; have := HJ33.out; omega
                                                              case rel => exact ⟨(y147), (wrap64 (x29_2 + 1)), (by first | rfl | (simp; done) | (simp [*]; done)), H', ⟨by have := HK1.out; have := HK2.out; have := HJ23.out; have := HJ33.out; omega⟩, ⟨by (try simp only [hl7_1]); (try simp only [hl7_2]); (try simp only [hl7_33]); (with_reducible repeat (first | apply Kd.S_alloc | apply Kd.S_drewN | apply Kd.S_drew)); exact HQ68.out⟩, ⟨by repeat (first | (with_reducible first | exact HB.out | apply below_alloc | apply pw_below_drewN | apply below_drew1 | refine below_set ?_ GB62.out) | exact HB.out)⟩⟩
                                                            · rw [if_neg c61] at H
                                                              exact absurd H (by simp)
                                                          · rw [if_neg c60] at H
                                                            exact absurd H (by simp)
                                                        · rw [if_neg c58] at H
                                                          exact absurd H (by simp)
                                                      · rw [if_neg c57] at H
                                                        have c57b0 : decide (0 < x29_2) = false := decide_eq_false c57
                                                        clear c57
                                                        have H' := Aside0.mk H
                                                        clear H
                                                        try go_wp2
                                                        have n0_ := Aside0.mk (Kd.S_drew HO_7.out)
                                                        have n1_ := Aside0.mk (below_drew1 HB.out)
                                                        clear HO_7
                                                        clear HB
                                                        have HO_7 := n0_
                                                        have HB := n1_
                                                        clear n0_ n1_
                                                        have p134 : 0 ≤ (x15_1 : Int) := of_decide_eq_true (by first | (with_reducible assumption) | assumption)
                                                        have q134 : x15_1 < (x7_33.length : Int) := of_decide_eq_true (by first | (with_reducible assumption) | assumption)
                                                        obtain ⟨ad134, A134_0, c134_0, e134, hx134_0, hl134_0, hi134_0⟩ := at_L1 (Kd.S_reads' HO_7.out).2.2 x15_1 p134 q134
                                                        obtain rfl : (⟨go16, 0, none⟩ : Addr) = ad134 := (by injection e134)
                                                        obtain ⟨ce134, hce134, hMe134, hcc134⟩ := Kd.S_get HO_7.out [] x15_1 p134 (by first | exact q134 | exact of_decide_eq_true (by first | (with_reducible assumption) | assumption) | (have e_ := (Kd.S_reads' HO_7.out).1; omega))
                                                        obtain ⟨ve134_0, rfl, ge134_0⟩ := hMe134
                                                        have hv134_0 := hcc134 0 _ rfl
                                                        rw [Nat.add_zero, show ((Kd.slice 3 (Kd.int .i64))).sz = 1 from rfl, Nat.mul_one] at hv134_0
                                                        replace hv134_0 := Option.some.inj (hv134_0.symm.trans hx134_0)
                                                        rw [hv134_0] at ge134_0
                                                        have HL134_0 := Aside0.mk (show Kd.R (Kd.int .i64) 3 _ _ _ _ (rd_L1 x7_33 x15_1) from ge134_0)
                                                        clear hv134_0 ge134_0
                                                        have HX134_0 := Aside0.mk hx134_0
                                                        clear hcc134 hce134
                                                        (first | simp only [add_plain] at hx134_0 | simp only [add_at] at hx134_0 | simp only [Addr.add, Nat.zero_add] at hx134_0 | skip)
                                                        have HR134_0 := Aside0.mk hi134_0
                                                        have HC134_0 := Aside0.mk hl134_0
                                                        clear hi134_0 hl134_0
                                                        replace p134 := eq_true p134
                                                        replace q134 := eq_true q134
                                                        have p135 : 0 ≤ (x29_2 : Int) := of_decide_eq_true (by first | (with_reducible assumption) | assumption)
                                                        have q135 : x29_2 < ((rd_L1 x7_33 x15_1).length : Int) := of_decide_eq_true (by first | (with_reducible assumption) | assumption)
                                                        obtain ⟨ad135, e135, hx135_0⟩ := Kd.at_int (by repeat (first | (with_reducible exact HR134_0.out) | (with_reducible refine Kd.C_alloc ?_ _) | (with_reducible refine Kd.C_drewN ?_ _) | (with_reducible refine Kd.C_drew ?_) | exact HR134_0.out)) x29_2 p135 q135
                                                        cases e135
                                                        replace p135 := eq_true p135
                                                        replace q135 := eq_true q135
                                                        have p136 : 0 ≤ ((ji52) : Int) := of_decide_eq_true (by first | (with_reducible assumption) | assumption)
                                                        have q136 : (ji52) < (x7_33.length : Int) := of_decide_eq_true (by first | (with_reducible assumption) | assumption)
                                                        obtain ⟨ad136, A136_0, c136_0, e136, hx136_0, hl136_0, hi136_0⟩ := at_L1 (Kd.S_reads' HO_7.out).2.2 (ji52) p136 q136
                                                        obtain rfl : (⟨go16, 0, none⟩ : Addr) = ad136 := (by injection e136)
                                                        obtain ⟨ce136, hce136, hMe136, hcc136⟩ := Kd.S_get HO_7.out [] (ji52) p136 (by first | exact q136 | exact of_decide_eq_true (by first | (with_reducible assumption) | assumption) | (have e_ := (Kd.S_reads' HO_7.out).1; omega))
                                                        obtain ⟨ve136_0, rfl, ge136_0⟩ := hMe136
                                                        have hv136_0 := hcc136 0 _ rfl
                                                        rw [Nat.add_zero, show ((Kd.slice 3 (Kd.int .i64))).sz = 1 from rfl, Nat.mul_one] at hv136_0
                                                        replace hv136_0 := Option.some.inj (hv136_0.symm.trans hx136_0)
                                                        rw [hv136_0] at ge136_0
                                                        have HL136_0 := Aside0.mk (show Kd.R (Kd.int .i64) 3 _ _ _ _ (rd_L1 x7_33 (ji52)) from ge136_0)
                                                        clear hv136_0 ge136_0
                                                        have HX136_0 := Aside0.mk hx136_0
                                                        clear hcc136 hce136
                                                        (first | simp only [add_plain] at hx136_0 | simp only [add_at] at hx136_0 | simp only [Addr.add, Nat.zero_add] at hx136_0 | skip)
                                                        have HR136_0 := Aside0.mk hi136_0
                                                        have HC136_0 := Aside0.mk hl136_0
                                                        clear hi136_0 hl136_0
                                                        replace p136 := eq_true p136
                                                        replace q136 := eq_true q136
                                                        have p137 : 0 ≤ (x29_2 : Int) := of_decide_eq_true (by first | (with_reducible assumption) | assumption)
                                                        have q137 : x29_2 < ((rd_L1 x7_33 (ji52)).length : Int) := of_decide_eq_true (by first | (with_reducible assumption) | assumption)
                                                        obtain ⟨ad137, e137, hx137_0⟩ := Kd.at_int (by repeat (first | (with_reducible exact HR136_0.out) | (with_reducible refine Kd.C_alloc ?_ _) | (with_reducible refine Kd.C_drewN ?_ _) | (with_reducible refine Kd.C_drew ?_) | exact HR136_0.out)) x29_2 p137 q137
                                                        cases e137
                                                        replace p137 := eq_true p137
                                                        replace q137 := eq_true q137
                                                        have p56 : 0 ≤ (x29_2 : Int) := of_decide_eq_true (by first | (with_reducible assumption) | assumption)
                                                        have q56 : (x29_2 : Int) < (((rd_L1 x7_33 x15_1).length : Int) : Int) := of_decide_eq_true (by first | (with_reducible assumption) | assumption)
                                                        obtain ⟨go56, co56, eo56, gb56, gl56, cl56, HG56⟩ := Kd.R_form HL134_0.out (by omega)
                                                        (first | cases eo56 | (injection eo56 with ea_ en_ ec_; (first | subst ea_ | (injection ea_ with ea_; subst ea_)); subst ec_; clear en_))
                                                        have GB56 := Aside0.mk gb56
                                                        have GG56 := Aside0.mk HG56
                                                        clear gb56 gl56 HG56
                                                        (first | simp only [add_plain] at hx135_0 | skip)
                                                        obtain ⟨hx56_0, hf56_0⟩ := Kd.R_celln 0 HL134_0.out (x29_2 : Int) p56 q56
                                                        replace p56 := eq_true p56
                                                        replace q56 := eq_true q56
                                                        have hq71 : (x15_1 : Int) < (x7_33.length : Int) := (by have h_ : (x15_1 : Int) < ((x7_33.length : Int) : Int) := of_decide_eq_true (by first | (with_reducible assumption) | assumption); first | exact h_ | (have e_ := (Kd.S_reads' HO_7.out).1; omega) | simpa only [List.length_set, List.length_set] using h_)
                                                        obtain ⟨oki71, ce71, hcl71, hM71, hcc71, hok71, hbk71⟩ := Kd.S_borrow HO_7.out [] (x15_1 : Int) (of_decide_eq_true (by first | (with_reducible assumption) | assumption)) hq71
                                                        obtain ⟨ve71_0, rfl, ge71_0⟩ := hM71
                                                        have hv71 := hcc71 0 _ rfl
                                                        rw [Nat.add_zero, show ((Kd.slice 3 (Kd.int .i64))).sz = 1 from rfl, Nat.mul_one] at hv71
                                                        replace hv71 := Option.some.inj (hv71.symm.trans HX134_0.out)
                                                        subst hv71
                                                        clear hcc71 hcl71
                                                        replace ge71_0 := (show Kd.R (Kd.int .i64) 3 _ _ _ _ (rd_L1 x7_33 x15_1) from ge71_0)
                                                        have HP71 := Kd.R_putg ge71_0 (x29_2 : Int) (wrap64 ((rd (rd_L1 x7_33 x15_1) x29_2) + (rd (rd_L1 x7_33 (ji52)) x29_2)))
                                                        rw [← Ny138.out] at HP71
                                                        have HS71 := hbk71 HP71.2 (fun k_ e_ => by injection e_ with e_; subst e_; exact ge71_0.1 _ rfl) (x' := y138) (Kd.M_row HP71.1)
                                                        rw [← Ny140.out] at HS71
                                                        have HQ71 := Aside0.mk HS71
                                                        clear HP71 HS71 hbk71 hok71
                                                        refine start_ (n := 18) (S := fun w' => w'.cell? ⟨go16, (x15_1).toNat, none⟩ = some (.slice (some (⟨go56, 0, none⟩ : Addr)) (rd_L1 x7_33 x15_1).length c134_0) ∧ w'.cell? ⟨go56, (x29_2).toNat, none⟩ = some (.int .i64 (rd (rd_L1 x7_33 x15_1) x29_2)) ∧ w'.cell? ⟨go16, ((ji52)).toNat, none⟩ = some (.slice (some ad137) (rd_L1 x7_33 (ji52)).length c136_0) ∧ w'.cell? (ad137.add (x29_2).toNat) = some (.int .i64 (rd (rd_L1 x7_33 (ji52)) x29_2))) (ds := [17]) #[false, false, false, false, false, false, false, false, false, false, false, false, false, false, false, false, false, false] (by kernel_rfl) rfl rfl ⟨hx134_0, hx135_0, hx136_0, hx137_0⟩ (fun hHeld => ?_); refine with_tabW impl_gridWays.tab12 impl_gridWays.bits12 (fun HT_ HW_ => ?_)
                                                        generalize wc.drew = w70 at HO_7 HB GG56 HL134_0 HL136_0 HQ71 HR134_0 HR136_0 HX134_0 HX136_0 hf56_0 hx134_0 hx135_0 hx136_0 hx137_0 hx56_0 hHeld ⊢
                                                        refine pure_ (i := 0) (N := some 53) (v := ?_) (a' := ?_) #[true, false, false, false, false, false, false, false, false, false, false, false, false, false, false, false, false, false] rfl rfl (any_of HT_.out (by kernel_rfl)) (fun _ _ _ h => h) (Or.inl ⟨by rfl, ?_⟩) ?_ ?_
                                                        rotate_left
                                                        · intro w'
                                                          go_simp
                                                          with_reducible rfl
                                                        rotate_left
                                                        · simp only [Act.put, List.setIfInBounds_toArray, List.set_cons_zero, List.set_cons_succ, i64_w, i32_w]
                                                          rfl
                                                        refine pure_ (i := 1) (N := some 54) (v := ?_) (a' := ?_) #[true, true, false, false, false, false, false, false, false, false, false, false, false, false, false, false, false, false] rfl rfl (any_of HT_.out (by kernel_rfl)) (fun _ _ _ h => h) (Or.inl ⟨by rfl, ?_⟩) ?_ ?_
                                                        rotate_left
                                                        · intro w'
                                                          go_simp
                                                          with_reducible rfl
                                                        rotate_left
                                                        · simp only [Act.put, List.setIfInBounds_toArray, List.set_cons_zero, List.set_cons_succ, i64_w, i32_w]
                                                          rfl
                                                        refine pure_ (i := 2) (N := some 55) (v := ?_) (a' := ?_) #[true, true, true, false, false, false, false, false, false, false, false, false, false, false, false, false, false, false] rfl rfl (any_of HT_.out (by kernel_rfl)) (fun _ _ _ h => h) (Or.inl ⟨by rfl, ?_⟩) ?_ ?_
                                                        rotate_left
                                                        · intro w'
                                                          go_simp
                                                          with_reducible rfl
                                                        rotate_left
                                                        · simp only [Act.put, List.setIfInBounds_toArray, List.set_cons_zero, List.set_cons_succ, i64_w, i32_w]
                                                          rfl
                                                        refine pure_ (i := 4) (N := some 57) (v := ?_) (a' := ?_) #[true, true, true, false, true, false, false, false, false, false, false, false, false, false, false, false, false, false] rfl rfl (any_of HT_.out (by kernel_rfl)) (fun _ _ _ h => h) (Or.inl ⟨by rfl, ?_⟩) ?_ ?_
                                                        rotate_left
                                                        · intro w'
                                                          go_simp
                                                          with_reducible rfl
                                                        rotate_left
                                                        · simp only [Act.put, List.setIfInBounds_toArray, List.set_cons_zero, List.set_cons_succ, i64_w, i32_w]
                                                          rfl
                                                        refine pure_ (i := 7) (N := some 60) (v := ?_) (a' := ?_) #[true, true, true, false, true, false, false, true, false, false, false, false, false, false, false, false, false, false] rfl rfl (any_of HT_.out (by kernel_rfl)) (fun _ _ _ h => h) (Or.inl ⟨by rfl, ?_⟩) ?_ ?_
                                                        rotate_left
                                                        · intro w'
                                                          go_simp
                                                          with_reducible rfl
                                                        rotate_left
                                                        · simp only [Act.put, List.setIfInBounds_toArray, List.set_cons_zero, List.set_cons_succ, i64_w, i32_w]
                                                          rfl
                                                        refine pure_ (i := 8) (N := some 61) (v := ?_) (a' := ?_) #[true, true, true, false, true, false, false, true, true, false, false, false, false, false, false, false, false, false] rfl rfl (any_of HT_.out (by kernel_rfl)) (fun _ _ _ h => h) (Or.inl ⟨by rfl, ?_⟩) ?_ ?_
                                                        rotate_left
                                                        · intro w'
                                                          go_simp
                                                          with_reducible rfl
                                                        rotate_left
                                                        · simp only [Act.put, List.setIfInBounds_toArray, List.set_cons_zero, List.set_cons_succ, i64_w, i32_w]
                                                          rfl
                                                        refine pure_ (i := 9) (N := some 62) (v := ?_) (a' := ?_) #[true, true, true, false, true, false, false, true, true, true, false, false, false, false, false, false, false, false] rfl rfl (any_of HT_.out (by kernel_rfl)) (fun _ _ _ h => h) (Or.inl ⟨by rfl, ?_⟩) ?_ ?_
                                                        rotate_left
                                                        · intro w'
                                                          go_simp
                                                          with_reducible rfl
                                                        rotate_left
                                                        · simp only [Act.put, List.setIfInBounds_toArray, List.set_cons_zero, List.set_cons_succ, i64_w, i32_w]
                                                          rfl
                                                        refine pure_ (i := 10) (N := some 63) (v := ?_) (a' := ?_) #[true, true, true, false, true, false, false, true, true, true, true, false, false, false, false, false, false, false] rfl rfl (any_of HT_.out (by kernel_rfl)) (fun _ _ _ h => h) (Or.inl ⟨by rfl, ?_⟩) ?_ ?_
                                                        rotate_left
                                                        · intro w'
                                                          go_simp
                                                          with_reducible rfl
                                                        rotate_left
                                                        · simp only [Act.put, List.setIfInBounds_toArray, List.set_cons_zero, List.set_cons_succ, i64_w, i32_w]
                                                          rfl
                                                        refine pure_ (i := 12) (N := some 65) (v := ?_) (a' := ?_) #[true, true, true, false, true, false, false, true, true, true, true, false, true, false, false, false, false, false] rfl rfl (any_of HT_.out (by kernel_rfl)) (fun _ _ _ h => h) (Or.inl ⟨by rfl, ?_⟩) ?_ ?_
                                                        rotate_left
                                                        · intro w'
                                                          go_simp
                                                          with_reducible rfl
                                                        rotate_left
                                                        · simp only [Act.put, List.setIfInBounds_toArray, List.set_cons_zero, List.set_cons_succ, i64_w, i32_w]
                                                          rfl
                                                        refine take_ (i := 3) (N := some 56) (v := ?_) (a' := ?_) #[true, true, true, true, true, false, false, true, true, true, true, false, true, false, false, false, false, false] rfl rfl (take_ofW HT_.out HW_.out (by kernel_rfl)) (fun _ _ _ h => h) (Or.inl ⟨by rfl, ?_⟩) hHeld ?_ ?_
                                                        rotate_left
                                                        · rintro w' ⟨s0, s1, s2, s3⟩
                                                          go_simp
                                                          with_reducible rfl
                                                        rotate_left
                                                        · simp only [Act.put, List.setIfInBounds_toArray, List.set_cons_zero, List.set_cons_succ, i64_w, i32_w]
                                                          rfl
                                                        refine pure_ (i := 5) (N := some 58) (v := ?_) (a' := ?_) #[true, true, true, true, true, true, false, true, true, true, true, false, true, false, false, false, false, false] rfl rfl (any_of HT_.out (by kernel_rfl)) (fun _ _ _ h => h) (Or.inl ⟨by rfl, ?_⟩) ?_ ?_
                                                        rotate_left
                                                        · intro w'
                                                          go_simp
                                                          with_reducible rfl
                                                        rotate_left
                                                        · simp only [Act.put, List.setIfInBounds_toArray, List.set_cons_zero, List.set_cons_succ, i64_w, i32_w]
                                                          rfl
                                                        refine take_ (i := 6) (N := some 59) (v := ?_) (a' := ?_) #[true, true, true, true, true, true, true, true, true, true, true, false, true, false, false, false, false, false] rfl rfl (take_ofW HT_.out HW_.out (by kernel_rfl)) (fun _ _ _ h => h) (Or.inl ⟨by rfl, ?_⟩) hHeld ?_ ?_
                                                        rotate_left
                                                        · rintro w' ⟨s0, s1, s2, s3⟩
                                                          go_simp
                                                          with_reducible rfl
                                                        rotate_left
                                                        · simp only [Act.put, List.setIfInBounds_toArray, List.set_cons_zero, List.set_cons_succ, i64_w, i32_w]
                                                          rfl
                                                        refine take_ (i := 11) (N := some 64) (v := ?_) (a' := ?_) #[true, true, true, true, true, true, true, true, true, true, true, true, true, false, false, false, false, false] rfl rfl (take_ofW HT_.out HW_.out (by kernel_rfl)) (fun _ _ _ h => h) (Or.inl ⟨by rfl, ?_⟩) hHeld ?_ ?_
                                                        rotate_left
                                                        · rintro w' ⟨s0, s1, s2, s3⟩
                                                          go_simp
                                                          with_reducible rfl
                                                        rotate_left
                                                        · simp only [Act.put, List.setIfInBounds_toArray, List.set_cons_zero, List.set_cons_succ, i64_w, i32_w]
                                                          rfl
                                                        refine pure_ (i := 13) (N := some 66) (v := ?_) (a' := ?_) #[true, true, true, true, true, true, true, true, true, true, true, true, true, true, false, false, false, false] rfl rfl (any_of HT_.out (by kernel_rfl)) (fun _ _ _ h => h) (Or.inl ⟨by rfl, ?_⟩) ?_ ?_
                                                        rotate_left
                                                        · intro w'
                                                          go_simp
                                                          with_reducible rfl
                                                        rotate_left
                                                        · simp only [Act.put, List.setIfInBounds_toArray, List.set_cons_zero, List.set_cons_succ, i64_w, i32_w]
                                                          rfl
                                                        refine take_ (i := 14) (N := some 67) (v := ?_) (a' := ?_) #[true, true, true, true, true, true, true, true, true, true, true, true, true, true, true, false, false, false] rfl rfl (take_ofW HT_.out HW_.out (by kernel_rfl)) (fun _ _ _ h => h) (Or.inl ⟨by rfl, ?_⟩) hHeld ?_ ?_
                                                        rotate_left
                                                        · rintro w' ⟨s0, s1, s2, s3⟩
                                                          go_simp
                                                          with_reducible rfl
                                                        rotate_left
                                                        · simp only [Act.put, List.setIfInBounds_toArray, List.set_cons_zero, List.set_cons_succ, i64_w, i32_w]
                                                          rfl
                                                        refine pure_ (i := 15) (N := some 68) (v := ?_) (a' := ?_) #[true, true, true, true, true, true, true, true, true, true, true, true, true, true, true, true, false, false] rfl rfl (any_of HT_.out (by kernel_rfl)) (fun _ _ _ h => h) (Or.inl ⟨by rfl, ?_⟩) ?_ ?_
                                                        rotate_left
                                                        · intro w'
                                                          go_simp
                                                          with_reducible rfl
                                                        rotate_left
                                                        · simp only [Act.put, List.setIfInBounds_toArray, List.set_cons_zero, List.set_cons_succ, i64_w, i32_w]
                                                          rfl
                                                        refine pure_ (i := 16) (N := some 69) (v := ?_) (a' := ?_) #[true, true, true, true, true, true, true, true, true, true, true, true, true, true, true, true, true, false] rfl rfl (any_of HT_.out (by kernel_rfl)) (fun _ _ _ h => h) (Or.inl ⟨by rfl, ?_⟩) ?_ ?_
                                                        rotate_left
                                                        · intro w'
                                                          go_simp
                                                          with_reducible rfl
                                                        rotate_left
                                                        · simp only [Act.put, List.setIfInBounds_toArray, List.set_cons_zero, List.set_cons_succ, i64_w, i32_w]
                                                          rfl
                                                        refine last_ (i := 17) (N := none) #[true, true, true, true, true, true, true, true, true, true, true, true, true, true, true, true, true, true] rfl rfl (one_of HT_.out (by kernel_rfl)) (by decide) (fun K hK => ?_)
                                                        refine skip_ (w1 := ?_) (by rfl) rfl ?_ ?_
                                                        rotate_left
                                                        · go_simp
                                                          rfl
                                                        refine hK.out _ _ ?_
                                                        clear hK K
                                                        refine done_ (done_of HT_.out (by kernel_rfl)) ?_
                                                        try go_wp2
                                                        (try simp only [← hl7_2, ← hl7_33])
                                                        go_roundg kj33
                                                        case measure => have := HK1.out; have := HK2.out; have := HJ23.out; have := HJ33.out; omega
                                                        case rel => exact ⟨(y140), (wrap64 (x29_2 + 1)), (by first | rfl | (simp; done) | (simp [*]; done)), H', ⟨by have := HK1.out; have := HK2.out; have := HJ23.out; have := HJ33.out; omega⟩, ⟨by (try simp only [hl7_1]); (try simp only [hl7_2]); (try simp only [hl7_33]); (with_reducible repeat (first | apply Kd.S_alloc | apply Kd.S_drewN | apply Kd.S_drew)); exact HQ71.out⟩, ⟨by repeat (first | (with_reducible first | exact HB.out | apply below_alloc | apply pw_below_drewN | apply below_drew1 | refine below_set ?_ GB56.out) | exact HB.out)⟩⟩
                                                    · rw [if_neg c55] at H
                                                      exact absurd H (by simp)
                                                  · rw [if_neg c54] at H
                                                    exact absurd H (by simp)
                                                · rw [if_neg c53] at H
                                                  exact absurd H (by simp)
                                              · rw [if_neg c51] at H
                                                exact absurd H (by simp)
                                            · rw [if_neg c50] at H
                                              exact absurd H (by simp)
                                          · rw [if_neg c49] at H
                                            exact absurd H (by simp)
                                        · rw [if_neg c48] at H
                                          exact absurd H (by simp)
                                      · rw [if_neg c47] at H
                                        have c47b0 : decide (0 < x15_1) = false := decide_eq_false c47
                                        clear c47
                                        by_cases c73 : x29_2 > 0
                                        · rw [if_pos c73] at H
                                          have c73b0 : decide (0 < x29_2) = true := decide_eq_true c73
                                          clear c73
                                          have H' := Aside0.mk H
                                          clear H
                                          go_wp2
                                          (try simp only [← hl7_2, ← hl7_33])
                                          go_roundg kj33
                                          case measure => have := HK1.out; have := HK2.out; have := HJ23.out; have := HJ33.out; omega
                                          case rel => exact ⟨(x7_33), (wrap64 (x29_2 + 1)), (by first | rfl | (simp; done) | (simp [*]; done)), H', ⟨by have := HK1.out; have := HK2.out; have := HJ23.out; have := HJ33.out; omega⟩, ⟨by (try simp only [hl7_1]); (try simp only [hl7_2]); (try simp only [hl7_33]); (with_reducible repeat (first | apply Kd.S_alloc | apply Kd.S_drewN | apply Kd.S_drew)); exact HO_7.out⟩, ⟨by repeat (first | (with_reducible first | exact HB.out | apply below_alloc | apply pw_below_drewN | apply below_drew1) | exact HB.out)⟩⟩
                                        · rw [if_neg c73] at H
                                          have c73b0 : decide (0 < x29_2) = false := decide_eq_false c73
                                          clear c73
                                          have H' := Aside0.mk H
                                          clear H
                                          go_wp2
                                          (try simp only [← hl7_2, ← hl7_33])
                                          go_roundg kj33
                                          case measure => have := HK1.out; have := HK2.out; have := HJ23.out; have := HJ33.out; omega
                                          case rel => exact ⟨(x7_33), (wrap64 (x29_2 + 1)), (by first | rfl | (simp; done) | (simp [*]; done)), H', ⟨by have := HK1.out; have := HK2.out; have := HJ23.out; have := HJ33.out; omega⟩, ⟨by (try simp only [hl7_1]); (try simp only [hl7_2]); (try simp only [hl7_33]); (with_reducible repeat (first | apply Kd.S_alloc | apply Kd.S_drewN | apply Kd.S_drew)); exact HO_7.out⟩, ⟨by repeat (first | (with_reducible first | exact HB.out | apply below_alloc | apply pw_below_drewN | apply below_drew1) | exact HB.out)⟩⟩
                          · replace c23 := Bool.eq_false_iff.mpr c23
                            subst c23
                            have H1 : (impl_gridWays.l1 k2 a0 a1 x7_2 x15_1 (y112.length : Int) x15_1 ((rd_L1 y120 x15_1).length : Int) (wrap64 (x29_2 + 1))) = some r := by rw [if_neg (show ¬ (false = true) by decide)] at H; exact H
                            clear H
                            have H := H1
                            clear H1
                            have H' := Aside0.mk H
                            clear H
                            go_wp2_with (first | ((with_reducible refine gate_calleeV rfl ?_); refine goesLV_ (some 98) rfl rfl Try.func29 (by kernel_rfl) rfl #[.int .i64 x29_2, .int .i64 x15_1] rfl (by first | rfl | (simp [Act.eval]; done)) (by (try simp only [List.map_toArray, List.map_cons, List.map_nil]); first | done | rfl | (simp only [List.length_drop, List.length_take]; rfl)) ?_; (with_reducible refine (impl_CountDelannoy_1.calls x29_2 x15_1 false _ A22.out).mono ?_); rintro e w' ⟨rfl, ⟨nd, rfl⟩⟩; refine ⟨_, rfl, ?_⟩))
                            (try simp only [← hl7_2])
                            go_roundg k2
                            case measure => have := HK1.out; have := HK2.out; omega
                            case rel => exact ⟨(x7_2), (wrap64 (x29_2 + 1)), (by first | rfl | (simp; done) | (simp [*]; done)), H', ⟨by have := HK1.out; have := HK2.out; omega⟩, ⟨by (try simp only [hl7_1]); (try simp only [hl7_2]); (with_reducible repeat (first | apply Kd.S_alloc | apply Kd.S_drewN | apply Kd.S_drew)); exact HO_7.out⟩, ⟨by repeat (first | (with_reducible first | exact HB.out | apply below_alloc | apply pw_below_drewN | apply below_drew1) | exact HB.out)⟩⟩
                        · rw [if_neg c21] at H
                          have c21b0 : decide (x29_2 < ((rd_L1 y120 x15_1).length : Int)) = false := decide_eq_false c21
                          (try simp only [hl7_1] at c21b0)
                          (try simp only [hl7_2] at c21b0)
                          clear c21
                          have H' := Aside0.mk H
                          clear H
                          go_wp2
                          (try simp only [← hl7_1, ← hl7_2])
                          go_roundg k2
                          case measure => have := HK1.out; have := HK2.out; omega
                          case rel => exact ⟨(x7_2), (wrap64 (x15_1 + 1)), (by first | rfl | (simp; done) | (simp [*]; done)), H', ⟨by have := HK1.out; have := HK2.out; omega⟩, ⟨by (try simp only [hl7_1]); (try simp only [hl7_2]); (with_reducible repeat (first | apply Kd.S_alloc | apply Kd.S_drewN | apply Kd.S_drew)); exact HO_7.out⟩, ⟨by repeat (first | (with_reducible first | exact HB.out | apply below_alloc | apply pw_below_drewN | apply below_drew1) | exact HB.out)⟩⟩
                  · rw [if_neg c15] at H
                    exact absurd H (by simp)
                · rw [if_neg c14] at H
                  exact absurd H (by simp)
              · rw [if_neg c13] at H
                exact absurd H (by simp)
            · rw [if_neg c12] at H
              exact absurd H (by simp)
          · rw [if_neg c10] at H
            have c10b0 : decide (x15_1 < (y112.length : Int)) = false := decide_eq_false c10
            (try simp only [hl7_1] at c10b0)
            clear c10
            by_cases c74 : 0 ≤ a1
            · rw [if_pos c74] at H
              have c74b0 : decide (0 ≤ a1) = true := decide_eq_true c74
              clear c74
              by_cases c75 : a1 < (x7_1.length : Int)
              · rw [if_pos c75] at H
                have c75b0 : decide (a1 < (x7_1.length : Int)) = true := decide_eq_true c75
                (try simp only [hl7_1] at c75b0)
                clear c75
                by_cases c76 : 0 ≤ a0
                · rw [if_pos c76] at H
                  have c76b0 : decide (0 ≤ a0) = true := decide_eq_true c76
                  clear c76
                  by_cases c77 : a0 < ((rd_L1 x7_1 a1).length : Int)
                  · rw [if_pos c77] at H
                    have c77b0 : decide (a0 < ((rd_L1 x7_1 a1).length : Int)) = true := decide_eq_true c77
                    (try simp only [hl7_1] at c77b0)
                    clear c77
                    obtain rfl := Option.some.inj H
                    have p115 : 0 ≤ (a1 : Int) := of_decide_eq_true (by first | (with_reducible assumption) | assumption)
                    have q115 : a1 < (x7_1.length : Int) := of_decide_eq_true (by first | (with_reducible assumption) | assumption)
                    obtain ⟨ad115, A115_0, c115_0, e115, hx115_0, hl115_0, hi115_0⟩ := at_L1 (Kd.S_reads' HO_7.out).2.2 a1 p115 q115
                    cases e115
                    obtain ⟨ce115, hce115, hMe115, hcc115⟩ := Kd.S_get HO_7.out [] a1 p115 (by first | exact q115 | exact of_decide_eq_true (by first | (with_reducible assumption) | assumption) | (have e_ := (Kd.S_reads' HO_7.out).1; omega))
                    obtain ⟨ve115_0, rfl, ge115_0⟩ := hMe115
                    have hv115_0 := hcc115 0 _ rfl
                    rw [Nat.add_zero, show ((Kd.slice 3 (Kd.int .i64))).sz = 1 from rfl, Nat.mul_one] at hv115_0
                    replace hv115_0 := Option.some.inj (hv115_0.symm.trans hx115_0)
                    rw [hv115_0] at ge115_0
                    have HL115_0 := Aside0.mk (show Kd.R (Kd.int .i64) 3 _ _ _ _ (rd_L1 x7_1 a1) from ge115_0)
                    clear hv115_0 ge115_0
                    have HX115_0 := Aside0.mk hx115_0
                    clear hcc115 hce115
                    have HR115_0 := Aside0.mk hi115_0
                    have HC115_0 := Aside0.mk hl115_0
                    clear hi115_0 hl115_0
                    replace p115 := eq_true p115
                    replace q115 := eq_true q115
                    have p116 : 0 ≤ (a0 : Int) := of_decide_eq_true (by first | (with_reducible assumption) | assumption)
                    have q116 : a0 < ((rd_L1 x7_1 a1).length : Int) := of_decide_eq_true (by first | (with_reducible assumption) | assumption)
                    obtain ⟨ad116, e116, hx116_0⟩ := Kd.at_int (by repeat (first | (with_reducible exact HR115_0.out) | (with_reducible refine Kd.C_alloc ?_ _) | (with_reducible refine Kd.C_drewN ?_ _) | (with_reducible refine Kd.C_drew ?_) | exact HR115_0.out)) a0 p116 q116
                    cases e116
                    replace p116 := eq_true p116
                    replace q116 := eq_true q116
                    go_wp2
                    go_ret
                    exact ⟨by first | rfl | (simp [errW_none, errW_some] <;> rfl) | (simp only [← hji4]; first | rfl | (simp [errW_none, errW_some] <;> rfl)) | (simp [*, errW_none, errW_some] <;> rfl), by repeat (first | (with_reducible first | exact HB.out | apply below_alloc | apply pw_below_drewN | apply below_drew1) | exact HB.out)⟩
                  · rw [if_neg c77] at H
                    exact absurd H (by simp)
                · rw [if_neg c76] at H
                  exact absurd H (by simp)
              · rw [if_neg c75] at H
                exact absurd H (by simp)
            · rw [if_neg c74] at H
              exact absurd H (by simp)
    · rw [if_neg c6] at H
      exact absurd H (by simp)
  · rw [if_neg c5] at H
    exact absurd H (by simp)

end Go.Proofs.Ytobdaglkdnfnlaa.OFnExactCountDelannoy
