/- The functions that 'FnRuinInTime' runs, each as a function over numbers and lists, with the proof that the Go text comes to its answers. No condition. -/
import Derived.Test.YtoglhflnfkmkcaaOFnRuinInTimex0
namespace Go.Proofs.Ytoglhflnfkmkcaa.OFnRuinInTime
open Go.Proofs.Ytoglhflnfkmkcaa.Stub
open Go.RowKit Go.Proofs.YtoglhflnfkmkcaaW.PrintWords Go.Proofs.YtoglhflnfkmkcaaW.PrintLast Go.Proofs.YtoglhflnfkmkcaaW.PrintMore
attribute [local go_sem] max2_int min2_int max_two min_two max_three min_three max_four min_four   -- for this text's walks alone
set_option linter.unusedVariables false
set_option linter.unusedSimpArgs false

theorem y1a7 {α : Type} (l : List α) (i : Nat) (a : α) : l.toArray.setIfInBounds i a = (l.set i a).toArray := List.setIfInBounds_toArray l i a
theorem y2a7 {α : Type} {x : α} {xs : List α} {b : α} : (x :: xs).set 0 b = b :: xs := List.set_cons_zero
theorem y3a7 {α : Type} {x : α} {xs : List α} {n : Nat} {b : α} : (x :: xs).set (n + 1) b = x :: xs.set n b := List.set_cons_succ
theorem Aa7q {p : Prop} (h : p) : Aside0 p := Aside0.mk h
theorem Za71 {p : Prop} (h : p := by first | (with_reducible assumption) | assumption) : p := h
theorem Za72 {p : Prop} (h : p := by kernel_rfl) : p := h
theorem Hb7 {p : Prop} (h : p := by repeat (first | (with_reducible first | exact HB.out | apply below_alloc | apply pw_below_drewN | apply below_drew1 | refine below_set ?_ GE253.out) | exact HB.out)) : p := h
theorem bb7 {w0 w w1 : World} {g : Nat} {o : Obj} (_ : Aside0 (w0.heap[g]? = some o)) (h : w.heap[g]? = some o) (hb : Below w.heap.size w w1) : Aside0 (w1.heap[g]? = some o) := Aa7q (blk_below h hb)
theorem nb7 {w0 w : World} {g q : Nat} {o : Obj} (_ : Aside0 (w0.heap[g]? = some o)) (h : w.heap[g]? = some o) (hg : q = w.heap.size) : Aside0 (g ≠ q) := Aa7q (by rw [hg]; exact Nat.ne_of_lt (blk_lt h))
theorem mb7 {w0 w : World} {g q : Nat} {o : Obj} (_ : Aside0 (w0.heap[g]? = some o)) (h : w.heap[g]? = some o) (hg : q = w.heap.size) : Aside0 (q ≠ g) := Aa7q (by rw [hg]; exact Nat.ne_of_gt (blk_lt h))
theorem sb7 {w w1 : World} {q : Nat} (h : Below w.heap.size w w1) (hg : q = w1.heap.size) : Aside0 (w.heap.size ≤ q) := Aa7q (by rw [hg]; exact below_size h)
theorem tb7 {w w1 w2 : World} (h : Below w.heap.size w w1) (hb : Below w1.heap.size w1 w2) : Aside0 (Below w.heap.size w w2) := Aa7q (below_step h hb)
theorem Ub7253 {p : Prop} (h : p := by repeat (first | (with_reducible first | exact BK253.out | refine blk_drewN ?_ _ | refine blk_drew ?_ | refine blk_alloc ?_ _) | exact BK253.out)) : p := h
/-! ### spec_ruHeld: function 27 -/
mutual
def spec_ruHeld.l0 : Nat → Int → Int → List Int → Int → Int → Option (List Int)
  | 0, _, _, _, _, _ => none
  | k + 1, x1, x3, x9, x254000, x254001 => if x3 > 0 then (if 0 ≤ (wrap64 (x1 + 1)) then (if (wrap64 (x1 + 1) : Int).toNat ≤ 35184372088832 then (spec_ruHeld.l1 k x1 x3 (List.replicate (wrap64 (x1 + 1) : Int).toNat 0) x9 (x9.length : Int) 0 x254000 x254001) else (none)) else (none)) else (some x9)
def spec_ruHeld.l1 : Nat → Int → Int → List Int → List Int → Int → Int → Int → Int → Option (List Int)
  | 0, _, _, _, _, _, _, _, _ => none
  | k + 1, x1, x3, x10, x26, x27, x28, x254000, x254001 => if x28 < x27 then (if 0 ≤ x28 then (if x28 < (x26.length : Int) then (if x28 = 0 then (if x28 < (x10.length : Int) then (spec_ruHeld.l1 k x1 x3 (x10.set (x28 : Int).toNat (wrap64 ((rd x10 x28) + (wrap64 ((rd x26 x28) * x254001))))) x26 x27 (wrap64 (x28 + 1)) x254000 x254001) else (none)) else (if x28 = x1 then (if x28 < (x10.length : Int) then (spec_ruHeld.l1 k x1 x3 (x10.set (x28 : Int).toNat (wrap64 ((rd x10 x28) + (wrap64 ((rd x26 x28) * x254001))))) x26 x27 (wrap64 (x28 + 1)) x254000 x254001) else (none)) else (if 0 ≤ (wrap64 (x28 + 1)) then (if (wrap64 (x28 + 1)) < (x10.length : Int) then ((some (x10.set ((wrap64 (x28 + 1)) : Int).toNat (wrap64 ((rd x10 (wrap64 (x28 + 1))) + (wrap64 ((rd x26 x28) * x254000)))) : List Int)).bind fun y267 => (if 0 ≤ (wrap64 (x28 - 1)) then (if (wrap64 (x28 - 1)) < (x10.length : Int) then (spec_ruHeld.l1 k x1 x3 (y267.set ((wrap64 (x28 - 1)) : Int).toNat (wrap64 ((rd y267 (wrap64 (x28 - 1))) + (wrap64 ((rd x26 x28) * (wrap64 (x254001 - x254000))))))) x26 x27 (wrap64 (x28 + 1)) x254000 x254001) else (none)) else (none))) else (none)) else (none)))) else (none)) else (none)) else (spec_ruHeld.l0 k x1 (wrap64 (x3 - 1)) x10 x254000 x254001)
end
def spec_ruHeld.f (k : Nat) (a0 : Int) (a1 : Int) (a2_0 : Int) (a2_1 : Int) (a3 : Int) : Option (List Int) := if 0 ≤ (wrap64 (a1 + 1)) then (if (wrap64 (a1 + 1) : Int).toNat ≤ 35184372088832 then ((some (List.replicate (wrap64 (a1 + 1) : Int).toNat 0 : List Int)).bind fun y254 => (if 0 ≤ a0 then (if a0 < (y254.length : Int) then (spec_ruHeld.l0 k a1 a3 (y254.set (a0 : Int).toNat 1) a2_0 a2_1) else (none)) else (none))) else (none)) else (none)
theorem spec_ruHeld.mono_l : ∀ k, (∀ y0 y1 y2 y3 y4, LeO (spec_ruHeld.l0 k y0 y1 y2 y3 y4) (spec_ruHeld.l0 (k + 1) y0 y1 y2 y3 y4)) ∧ (∀ y0 y1 y2 y3 y4 y5 y6 y7, LeO (spec_ruHeld.l1 k y0 y1 y2 y3 y4 y5 y6 y7) (spec_ruHeld.l1 (k + 1) y0 y1 y2 y3 y4 y5 y6 y7))
  | 0 => ⟨fun _ _ _ _ _ r h => by simp [spec_ruHeld.l0] at h, fun _ _ _ _ _ _ _ _ r h => by simp [spec_ruHeld.l1] at h⟩
  | k + 1 => by
    obtain ⟨ih0, ih1⟩ := spec_ruHeld.mono_l k
    refine ⟨?_, ?_⟩
    · intro y0 y1 y2 y3 y4
      unfold spec_ruHeld.l0
      repeat' first
      | (with_reducible exact ih0 _ _ _ _ _)
      | (with_reducible exact ih1 _ _ _ _ _ _ _ _)
      | (with_reducible exact LeO.refl _)
      | (with_reducible exact LeO.none _)
      | (with_reducible refine LeO.ite ?_ ?_)
      | (with_reducible refine LeO.bind ?_ (fun _ => ?_))
      | exact ih0 _ _ _ _ _
      | exact ih1 _ _ _ _ _ _ _ _
      | exact LeO.none _
      | refine LeO.ite ?_ ?_
      | refine LeO.bind ?_ (fun _ => ?_)
    · intro y0 y1 y2 y3 y4 y5 y6 y7
      unfold spec_ruHeld.l1
      repeat' first
      | (with_reducible exact ih0 _ _ _ _ _)
      | (with_reducible exact ih1 _ _ _ _ _ _ _ _)
      | (with_reducible exact LeO.refl _)
      | (with_reducible exact LeO.none _)
      | (with_reducible refine LeO.ite ?_ ?_)
      | (with_reducible refine LeO.bind ?_ (fun _ => ?_))
      | exact ih0 _ _ _ _ _
      | exact ih1 _ _ _ _ _ _ _ _
      | exact LeO.none _
      | refine LeO.ite ?_ ?_
      | refine LeO.bind ?_ (fun _ => ?_)
theorem spec_ruHeld.mono : ∀ a0 a1 a2 a3 a4 k, LeO (spec_ruHeld.f k a0 a1 a2 a3 a4) (spec_ruHeld.f (k + 1) a0 a1 a2 a3 a4) := by
  intro a0 a1 a2 a3 a4 k
  obtain ⟨ih0, ih1⟩ := spec_ruHeld.mono_l k
  unfold spec_ruHeld.f
  repeat' first
      | (with_reducible exact ih0 _ _ _ _ _)
      | (with_reducible exact ih1 _ _ _ _ _ _ _ _)
      | (with_reducible exact LeO.refl _)
      | (with_reducible exact LeO.none _)
      | (with_reducible refine LeO.ite ?_ ?_)
      | (with_reducible refine LeO.bind ?_ (fun _ => ?_))
      | exact ih0 _ _ _ _ _
      | exact ih1 _ _ _ _ _ _ _ _
      | exact LeO.none _
      | refine LeO.ite ?_ ?_
      | refine LeO.bind ?_ (fun _ => ?_)
def spec_ruHeld.T10 : Bool × List (List Nat × List Nat) := (true, [([], []), ([], []), ([0, 1], [0, 1]), ([2], [2]), ([], []), ([], []), ([5], [5]), ([4, 6], [4, 6]), ([3, 7], [3, 7]), ([0, 1, 0, 1, 2, 3, 4, 5, 6, 7, 8], [0, 1]), ([9, 8, 0, 1, 2, 3, 4, 5, 6, 7, 8], [8, 9])])
def spec_ruHeld.B10 : List Nat := [0, 0, 3, 7, 0, 0, 32, 112, 255, 511, 1023]
theorem spec_ruHeld.tab10 : rtab .any (opsOf Try.f27 10) = spec_ruHeld.T10 := by kernel_rfl
theorem spec_ruHeld.bits10 : waitsOk spec_ruHeld.T10.2 spec_ruHeld.B10 = true := by kernel_rfl
def spec_ruHeld.T11 : Bool × List (List Nat × List Nat) := (true, [([], []), ([], []), ([1], [1]), ([0, 2], [0, 2]), ([3], [3]), ([], []), ([], []), ([6], [6]), ([5, 7], [5, 7]), ([4, 8], [4, 8]), ([0, 2, 0, 1, 2, 3, 4, 5, 6, 7, 8, 9], [0, 2]), ([10, 9, 0, 1, 2, 3, 4, 5, 6, 7, 8, 9], [9, 10])])
def spec_ruHeld.B11 : List Nat := [0, 0, 2, 7, 15, 0, 0, 64, 224, 511, 1023, 2047]
theorem spec_ruHeld.tab11 : rtab .any (opsOf Try.f27 11) = spec_ruHeld.T11 := by kernel_rfl
theorem spec_ruHeld.bits11 : waitsOk spec_ruHeld.T11.2 spec_ruHeld.B11 = true := by kernel_rfl
def spec_ruHeld.T12 : Bool × List (List Nat × List Nat) := (true, [([], []), ([], []), ([1], [1]), ([0, 2], [0, 2]), ([3], [3]), ([], []), ([], []), ([6], [6]), ([], []), ([8], [8]), ([7, 9], [7, 9]), ([5, 10], [5, 10]), ([4, 11], [4, 11]), ([0, 2, 0, 1, 2, 3, 4, 5, 6, 7, 8, 9, 10, 11, 12], [0, 2]), ([13, 12, 0, 1, 2, 3, 4, 5, 6, 7, 8, 9, 10, 11, 12], [12, 13])])
def spec_ruHeld.B12 : List Nat := [0, 0, 2, 7, 15, 0, 0, 64, 0, 256, 960, 2016, 4095, 8191, 16383]
theorem spec_ruHeld.tab12 : rtab .any (opsOf Try.f27 12) = spec_ruHeld.T12 := by kernel_rfl
theorem spec_ruHeld.bits12 : waitsOk spec_ruHeld.T12.2 spec_ruHeld.B12 = true := by kernel_rfl
set_option maxHeartbeats 8000000 in
set_option maxRecDepth 100000 in
theorem spec_ruHeld.calls (k : Nat) (a0 : Int) (a1 : Int) (a2_0 : Int) (a2_1 : Int) (a3 : Int) (r : List Int) (w : World) (h : spec_ruHeld.f k a0 a1 a2_0 a2_1 a3 = some r) :
  Calls Try.prog 27 #[.int .i64 a0, .int .i64 a1, .agg #[.int .i64 a2_0, .int .i64 a2_1], .int .i64 a3] w fun e w' => ∃ v0_ : Value, e = .returned (v0_) ∧ Kd.R (Kd.int .i64) 3 w' w.heap.size (fun _ => True) v0_ r ∧ Below w.heap.size w w' := by
 have hu25 := Try.underlying25
 have HB := Aa7q (Below.refl w.heap.size w)
 have H : (if 0 ≤ (wrap64 (a1 + 1)) then (if (wrap64 (a1 + 1) : Int).toNat ≤ 35184372088832 then ((some (List.replicate (wrap64 (a1 + 1) : Int).toNat 0 : List Int)).bind fun y254 => (if 0 ≤ a0 then (if a0 < (y254.length : Int) then (spec_ruHeld.l0 k a1 a3 (y254.set (a0 : Int).toNat 1) a2_0 a2_1) else (none)) else (none))) else (none)) else (none)) = some r := h
 clear h
 obtain ⟨ji5, hji5⟩ : ∃ j_ : Int, (wrap64 (a1 + 1)) = j_ := ⟨_, rfl⟩
 replace H : (if 0 ≤ (ji5) then (if (ji5 : Int).toNat ≤ 35184372088832 then ((some (List.replicate (ji5 : Int).toNat 0 : List Int)).bind fun y254 => (if 0 ≤ a0 then (if a0 < (y254.length : Int) then (spec_ruHeld.l0 k a1 a3 (y254.set (a0 : Int).toNat 1) a2_0 a2_1) else (none)) else (none))) else (none)) else (none)) = some r := by first | (rw [hji5] at H; exact H) | (simp only [hji5] at H ⊢; exact H)
 have hji5w : (IntKind.i64.wrap (a1 + 1)) = ji5 := (i64_w _).trans hji5
 by_cases c6 : 0 ≤ (ji5)
 rotate_left
 ·
  rw [if_neg c6] at H
  exact absurd H (by simp)
 rw [if_pos c6] at H
 have c6b0 := eq_true c6
 have c6b1 : decide (0 ≤ (ji5)) = true := decide_eq_true c6
 clear c6
 by_cases c7 : (ji5 : Int).toNat ≤ 35184372088832
 rotate_left
 ·
  rw [if_neg c7] at H
  exact absurd H (by simp)
 rw [if_pos c7] at H
 have c7b0 := eq_true c7
 have c7b1 : decide ((ji5 : Int).toNat ≤ 35184372088832) = true := decide_eq_true c7
 clear c7
 obtain ⟨y254, hy254⟩ : ∃ y_ : List Int, y_ = (List.replicate (ji5 : Int).toNat 0) := ⟨_, rfl⟩
 replace H : (if 0 ≤ a0 then (if a0 < (y254.length : Int) then (spec_ruHeld.l0 k a1 a3 (y254.set (a0 : Int).toNat 1) a2_0 a2_1) else (none)) else (none)) = some r := by first | (rw [hy254]; with_reducible exact H) | (have H2_ := (Option.bind_some _ _).symm.trans H; rw [hy254]; with_reducible exact H2_) | (have H2_ := (Option.bind_some _ _).symm.trans H; with_reducible exact H2_) | with_reducible exact H | (rw [hy254]; exact H) | exact H
 have Ny254 := Aa7q hy254
 clear hy254
 by_cases c8 : 0 ≤ a0
 rotate_left
 ·
  rw [if_neg c8] at H
  exact absurd H (by simp)
 rw [if_pos c8] at H
 have c8b0 : decide (0 ≤ a0) = true := decide_eq_true c8
 clear c8
 by_cases c9 : a0 < (y254.length : Int)
 rotate_left
 ·
  rw [if_neg c9] at H
  exact absurd H (by simp)
 rw [if_pos c9] at H
 have c9b0 : decide (a0 < (y254.length : Int)) = true := decide_eq_true c9
 clear c9
 obtain ⟨y257, hy257⟩ : ∃ y_ : List Int, y_ = (y254.set (a0 : Int).toNat 1) := ⟨_, rfl⟩
 replace H : (spec_ruHeld.l0 k a1 a3 y257 a2_0 a2_1) = some r := by first | (rw [hy257]; with_reducible exact H) | (have H2_ := (Option.bind_some _ _).symm.trans H; rw [hy257]; with_reducible exact H2_) | (have H2_ := (Option.bind_some _ _).symm.trans H; with_reducible exact H2_) | with_reducible exact H | (rw [hy257]; exact H) | exact H
 have Ny257 := Aa7q hy257
 clear hy257
 have H' := Aa7q H
 clear H
 go_enter Try.func27, Try.ntmps27
 go_wp2_with (first | ((with_reducible refine gate_dst (N := 6) rfl ?_); refine box_event ?hg (N := 6) ?hd (cs := #[.int .i64 a2_0, .int .i64 a2_1]) (t := 25) ?hr ?_; (case hd => rfl); (case hg => rfl); (case hr => first | (go_simp; done) | (go_simp; rfl)); intro g253 hg w11 hbox hb; have BK253 := Aa7q (hbox); have GE253 := sb7 Hb7 hg; replace HB := tb7 Hb7 hb; clear hb hbox hg) | ((with_reducible refine gate_dst (N := 15) rfl ?_); refine Kd.R_make (Kd.int .i64) _ 3 rfl (N := 15) rfl 42 _ _ rfl ji5 rfl rfl Try.underlying42 (.int .i64 0) 8 info3 rfl (by decide) (by omega) 0 (ok := fun _ => True) (okp := fun _ => True) rfl (fun _ hk => hk) trivial (of_decide_eq_true Za71) (Nat.le_trans (Nat.mul_le_mul_right _ (of_decide_eq_true Za71 : ji5.toNat ≤ 35184372088832)) (by omega)) (Below.refl _ _) (Nat.le_refl _) ?_; intro v255 w12 ho13 hb hg_ hnew_; clear hg_ hnew_; (first | rw [← Ny254.out] at ho13 | (simp only [Int.reduceToNat] at ho13; rw [← Ny254.out] at ho13)); have HO256 := Aa7q (Kd.R_lower ho13 (below_size Hb7)); replace BK253 := bb7 BK253 Ub7253 hb; replace HB := tb7 Hb7 hb; clear hb ho13; have p10 : 0 ≤ (a0 : Int) := of_decide_eq_true Za71; have q10 : (a0 : Int) < ((y254.length : Int) : Int) := of_decide_eq_true Za71; obtain ⟨go10, co10, eo10, g10, gl10, cl10, HG10⟩ := Kd.R_form HO256.out (by omega); (first | cases eo10 | (injection eo10 with ea_ en_ ec_; (first | subst ea_ | (injection ea_ with ea_; subst ea_)); subst ec_; clear en_)); have GB10 := Aa7q g10; have GG10 := Aa7q HG10; clear g10 gl10 HG10; obtain ⟨hx10_0, hf10_0⟩ := Kd.R_celln 0 HO256.out (a0 : Int) p10 q10; replace p10 := eq_true p10; replace q10 := eq_true q10; obtain ⟨hy14_, hz14_⟩ := Kd.R_celln 0 HO256.out (a0 : Int) (of_decide_eq_true Za71) (of_decide_eq_true Za71); have HP14 := Kd.R_putg HO256.out (a0 : Int) 1) | ((with_reducible refine gate_store (t := 3) (p := 18) rfl ?_); refine store_event (t := 3) (p := 18) (v := ?vo_w15) (w1 := (w12.setCell ⟨go10, (a0 : Int).toNat, none⟩ (.int .i64 1))) ?hg ?ho ?hn ?hr ?_; (case ho => rfl); (case hg => rfl); (case hn => rfl); (case hr => first | (go_simp; done) | (go_simp; rfl)); intro w15 hw; have hg : w12.grownBy w15 (some go10) := (by rw [hw]; exact HP14.2); have hp_ : Kd.R (Kd.int .i64) 3 w15 w.heap.size (fun _ => True) (.slice (some ⟨go10, 0, none⟩) y254.length co10) y257 := (by rw [hw, Ny257.out]; exact HP14.1); clear HP14; replace BK253 := Aa7q (blk_grown (g := g253) (o := .cells #[.int .i64 a2_0, .int .i64 a2_1] 25 (0, 0)) Ub7253 hg (Kd.R_ne HO256.out BK253.out (by decide))); replace HO256 := Aa7q (hp_); replace HB := Aa7q ((by rw [hw]; exact below_set (HB.out) GB10.out : Below w.heap.size w w15)); clear hg hw hp_))
 go_loopg [3, 9] k (fun kq v3 v9 w' => ∃ (x3_1 : Int) (x9_1 : List Int), v3 = .int .i64 x3_1 ∧ Aside0 (spec_ruHeld.l0 kq a1 x3_1 x9_1 a2_0 a2_1 = some r) ∧ Aside0 (kq ≤ k) ∧ Aside0 (Kd.R (Kd.int .i64) 3 w' w.heap.size (fun _ => True) v9 x9_1) ∧ Aside0 (w'.heap[g253]? = some (.cells #[.int .i64 a2_0, .int .i64 a2_1] 25 (0, 0))) ∧ Aside0 (Below w.heap.size w w'))
 case atStart => exact ⟨(a3), (y257), (by first | rfl | (simp; done) | (simp [*]; done) | (simp only [i64_w]; done)), H', ⟨Nat.le_refl _⟩, ⟨by (with_reducible repeat (first | apply Kd.R_alloc | apply Kd.R_drewN | apply Kd.R_drew)); exact HO256.out⟩, ⟨Ub7253⟩, ⟨Hb7⟩⟩
 clear H'
 try clear p1
 try clear q1
 try clear hx1
 try clear c2
 try clear p2
 try clear c6
 try clear c6b0
 try clear c6b1
 try clear p6
 try clear c7
 try clear c7b0
 try clear c7b1
 try clear c8
 try clear c8b0
 try clear c9
 try clear c9b0
 try clear p10
 try clear q10
 try clear hx10
 try clear hf10
 try clear hx10_0
 try clear p10
 try clear q10
 obtain ⟨x3_1, x9_1, rfl, HA, HK1, HO_9, BK253, HB⟩ := hrel
 obtain _ | k1 := gk
 · exact absurd HA.out (by simp [spec_ruHeld.l0])
 have H := HA.out
 clear HA
 simp only [spec_ruHeld.l0] at H
 by_cases c16 : x3_1 > 0
 rotate_left
 ·
  rw [if_neg c16] at H
  have c16b0 : decide (0 < x3_1) = false := decide_eq_false c16
  clear c16
  obtain rfl := Option.some.inj H
  go_wp2
  go_ret
  exact ⟨_, by first | rfl | (simp [errW_none, errW_some] <;> rfl) | (simp only [← hji5]; first | rfl | (simp [errW_none, errW_some] <;> rfl)) | (simp [*, errW_none, errW_some] <;> rfl), by (with_reducible repeat (first | apply Kd.R_alloc | apply Kd.R_drewN | apply Kd.R_drew)); exact HO_9.out, Hb7⟩
 rw [if_pos c16] at H
 have c16b0 : decide (0 < x3_1) = true := decide_eq_true c16
 clear c16
 try clear hji5w
 try clear hji5
 obtain ⟨ji17, hji17⟩ : ∃ j_ : Int, (wrap64 (a1 + 1)) = j_ := ⟨_, rfl⟩
 replace H : (if 0 ≤ (ji17) then (if (ji17 : Int).toNat ≤ 35184372088832 then (spec_ruHeld.l1 k1 a1 x3_1 (List.replicate (ji17 : Int).toNat 0) x9_1 (x9_1.length : Int) 0 a2_0 a2_1) else (none)) else (none)) = some r := by first | (rw [hji17] at H; exact H) | (simp only [hji17] at H ⊢; exact H)
 have hji17w : (IntKind.i64.wrap (a1 + 1)) = ji17 := (i64_w _).trans hji17
 by_cases c18 : 0 ≤ (ji17)
 rotate_left
 ·
  rw [if_neg c18] at H
  exact absurd H (by simp)
 rw [if_pos c18] at H
 have c18b0 := eq_true c18
 have c18b1 : decide (0 ≤ (ji17)) = true := decide_eq_true c18
 clear c18
 by_cases c19 : (ji17 : Int).toNat ≤ 35184372088832
 rotate_left
 ·
  rw [if_neg c19] at H
  exact absurd H (by simp)
 rw [if_pos c19] at H
 have c19b0 := eq_true c19
 have c19b1 : decide ((ji17 : Int).toNat ≤ 35184372088832) = true := decide_eq_true c19
 clear c19
 obtain ⟨y258, hy258⟩ : ∃ y_ : List Int, y_ = (List.replicate (ji17 : Int).toNat 0) := ⟨_, rfl⟩
 replace H : (spec_ruHeld.l1 k1 a1 x3_1 y258 x9_1 (x9_1.length : Int) 0 a2_0 a2_1) = some r := by first | (rw [hy258]; with_reducible exact H) | (have H2_ := (Option.bind_some _ _).symm.trans H; rw [hy258]; with_reducible exact H2_) | (have H2_ := (Option.bind_some _ _).symm.trans H; with_reducible exact H2_) | with_reducible exact H | (rw [hy258]; exact H) | exact H
 have Ny258 := Aa7q hy258
 clear hy258
 have H' := Aa7q H
 clear H
 go_wp2_with (first | ((with_reducible refine gate_dst (N := 25) rfl ?_); refine Kd.R_make (Kd.int .i64) _ 3 rfl (N := 25) rfl 42 _ _ rfl ji17 rfl rfl Try.underlying42 (.int .i64 0) 8 info3 rfl (by decide) (by omega) 0 (ok := fun _ => True) (okp := fun _ => True) rfl (fun _ hk => hk) trivial (of_decide_eq_true Za71) (Nat.le_trans (Nat.mul_le_mul_right _ (of_decide_eq_true Za71 : ji17.toNat ≤ 35184372088832)) (by omega)) (Below.refl _ _) (Nat.le_refl _) ?_; intro v259 w20 ho21 hb hg_ hnew_; clear hg_ hnew_; (first | rw [← Ny258.out] at ho21 | (simp only [Int.reduceToNat] at ho21; rw [← Ny258.out] at ho21)); have HO260 := Aa7q (Kd.R_lower (Kd.R_new' ho21 (Kd.R_lt (by (with_reducible repeat (first | apply Kd.R_alloc | apply Kd.R_drewN | apply Kd.R_drew)); exact HO_9.out))) (below_size Hb7)); replace HO_9 := Aa7q (Kd.R_elder' (by (with_reducible repeat (first | apply Kd.R_alloc | apply Kd.R_drewN | apply Kd.R_drew)); exact HO_9.out) (Kd.R_base ho21) hb); replace BK253 := bb7 BK253 Ub7253 hb; replace HB := tb7 Hb7 hb; clear hb ho21; obtain ⟨Ao22, co22, eo22⟩ := Kd.R_slice HO_9.out; subst eo22))
 go_loopg [28] k1 (fun kq v28 w' => ∃ (x10_2 : List Int) (x28_2 : Int), v28 = .int .i64 x28_2 ∧ Aside0 (spec_ruHeld.l1 kq a1 x3_1 x10_2 x9_1 (x9_1.length : Int) x28_2 a2_0 a2_1 = some r) ∧ Aside0 (kq ≤ k1) ∧ Aside0 (Kd.R (Kd.int .i64) 3 w' w.heap.size (fun k_ => some k_ ≠ ((.slice Ao22 x9_1.length co22) : Value).ownBlock) v259 x10_2) ∧ Aside0 (Kd.R (Kd.int .i64) 3 w' w.heap.size (fun k_ => some k_ ≠ (v259 : Value).ownBlock) (.slice Ao22 x9_1.length co22) x9_1) ∧ Aside0 (w'.heap[g253]? = some (.cells #[.int .i64 a2_0, .int .i64 a2_1] 25 (0, 0))) ∧ Aside0 (Below w.heap.size w w'))
 case atStart => exact ⟨(y258), (0), (by first | rfl | (simp; done) | (simp [*]; done) | (simp only [i64_w]; done)), H', ⟨Nat.le_refl _⟩, ⟨by (with_reducible repeat (first | apply Kd.R_alloc | apply Kd.R_drewN | apply Kd.R_drew)); exact Kd.R_mono HO260.out (fun _ hk => hk.2)⟩, ⟨by (with_reducible repeat (first | apply Kd.R_alloc | apply Kd.R_drewN | apply Kd.R_drew)); exact Kd.R_mono HO_9.out (fun _ hk => hk.2)⟩, ⟨Ub7253⟩, ⟨Hb7⟩⟩
 clear H'
 try clear c1
 try clear p1
 try clear q1
 try clear hx1
 try clear c2
 try clear p2
 try clear c6
 try clear c6b0
 try clear c6b1
 try clear p6
 try clear c7
 try clear c7b0
 try clear c7b1
 try clear c8
 try clear c8b0
 try clear c9
 try clear c9b0
 try clear p10
 try clear q10
 try clear hx10
 try clear hf10
 try clear c16
 try clear c16b0
 try clear c18
 try clear c18b0
 try clear c18b1
 try clear c19
 try clear c19b0
 try clear c19b1
 try clear hx10_0
 try clear p1
 try clear p10
 try clear p2
 try clear p6
 try clear q1
 try clear q10
 obtain ⟨x10_2, x28_2, rfl, HA, HK2, HO_10, HO_26, BK253, HB⟩ := hrel
 obtain _ | k2 := gk
 · exact absurd HA.out (by simp [spec_ruHeld.l1])
 have H := HA.out
 clear HA
 simp only [spec_ruHeld.l1] at H
 by_cases c23 : x28_2 < (x9_1.length : Int)
 rotate_left
 ·
  rw [if_neg c23] at H
  have c23b0 : decide (x28_2 < (x9_1.length : Int)) = false := decide_eq_false c23
  clear c23
  have H' := Aa7q H
  clear H
  go_wp2
  go_roundg k2
  case measure => have := HK1.out; have := HK2.out; omega
  case rel => exact ⟨(wrap64 (x3_1 - 1)), (x10_2), (by first | rfl | (simp; done) | (simp [*]; done) | (simp only [i64_w]; done)), H', ⟨by have := HK1.out; have := HK2.out; omega⟩, ⟨by (with_reducible repeat (first | apply Kd.R_alloc | apply Kd.R_drewN | apply Kd.R_drew)); exact Kd.R_mono HO_10.out (fun _ hk => trivial)⟩, ⟨Ub7253⟩, ⟨Hb7⟩⟩
 rw [if_pos c23] at H
 have c23b0 : decide (x28_2 < (x9_1.length : Int)) = true := decide_eq_true c23
 clear c23
 by_cases c24 : 0 ≤ x28_2
 rotate_left
 ·
  rw [if_neg c24] at H
  exact absurd H (by simp)
 rw [if_pos c24] at H
 have c24b0 : decide (0 ≤ x28_2) = true := decide_eq_true c24
 clear c24
 by_cases c25 : x28_2 < (x9_1.length : Int)
 rotate_left
 ·
  rw [if_neg c25] at H
  exact absurd H (by simp)
 rw [if_pos c25] at H
 have c25b0 : decide (x28_2 < (x9_1.length : Int)) = true := decide_eq_true c25
 clear c25
 by_cases c26 : x28_2 = 0
 ·
  rw [if_pos c26] at H
  have c26b0 : (x28_2 == 0) = true := beq_iff_eq.mpr c26
  have c26b1 : (x28_2 != 0) = false := bne_eq_false_iff_eq.mpr c26
  clear c26
  by_cases c27 : x28_2 < (x10_2.length : Int)
  rotate_left
  ·
   rw [if_neg c27] at H
   exact absurd H (by simp)
  rw [if_pos c27] at H
  have c27b0 : decide (x28_2 < (x10_2.length : Int)) = true := decide_eq_true c27
  clear c27
  obtain ⟨y263, hy263⟩ : ∃ y_ : List Int, y_ = (x10_2.set (x28_2 : Int).toNat (wrap64 ((rd x10_2 x28_2) + (wrap64 ((rd x9_1 x28_2) * a2_1))))) := ⟨_, rfl⟩
  replace H : (spec_ruHeld.l1 k2 a1 x3_1 y263 x9_1 (x9_1.length : Int) (wrap64 (x28_2 + 1)) a2_0 a2_1) = some r := by first | (rw [hy263]; with_reducible exact H) | (have H2_ := (Option.bind_some _ _).symm.trans H; rw [hy263]; with_reducible exact H2_) | (have H2_ := (Option.bind_some _ _).symm.trans H; with_reducible exact H2_) | with_reducible exact H | (rw [hy263]; exact H) | exact H
  have Ny263 := Aa7q hy263
  clear hy263
  have H' := Aa7q H
  clear H
  have p261 : 0 ≤ (x28_2 : Int) := of_decide_eq_true Za71
  have q261 : x28_2 < (x9_1.length : Int) := of_decide_eq_true Za71
  obtain ⟨ad261, e261, hx261_0⟩ := Kd.at_int (Kd.R_reads' HO_26.out).2.2 x28_2 p261 q261
  cases e261
  replace p261 := eq_true p261
  replace q261 := eq_true q261
  try go_wp2
  replace HO_10 := Aa7q (Kd.R_drew HO_10.out)
  replace HO_26 := Aa7q (Kd.R_drew HO_26.out)
  replace BK253 := Aa7q (blk_drew BK253.out)
  replace HB := Aa7q (below_drew1 HB.out)
  obtain ⟨Ao30, co30, eo30⟩ := Kd.R_slice HO_10.out
  (first | subst eo30 | (injection eo30 with f1_ f2_ f3_; have f4_ := f1_.symm; have f5_ := f3_.symm; clear f1_ f2_ f3_; subst f4_; subst f5_))
  have p262 : 0 ≤ (x28_2 : Int) := of_decide_eq_true Za71
  have q262 : x28_2 < (x10_2.length : Int) := of_decide_eq_true Za71
  obtain ⟨ad262, e262, hx262_0⟩ := Kd.at_int (Kd.R_reads' HO_10.out).2.2 x28_2 p262 q262
  cases e262
  replace p262 := eq_true p262
  replace q262 := eq_true q262
  have p28 : 0 ≤ (x28_2 : Int) := of_decide_eq_true Za71
  have q28 : (x28_2 : Int) < ((x10_2.length : Int) : Int) := of_decide_eq_true Za71
  obtain ⟨go28, co28, eo28, g28, gl28, cl28, HG28⟩ := Kd.R_form HO_10.out (by omega)
  (first | cases eo28 | (injection eo28 with ea_ en_ ec_; (first | subst ea_ | (injection ea_ with ea_; subst ea_)); subst ec_; clear en_))
  have GB28 := Aa7q g28
  have GG28 := Aa7q HG28
  clear g28 gl28 HG28
  (first | simp only [add_plain] at hx262_0 | skip)
  obtain ⟨hx28_0, hf28_0⟩ := Kd.R_celln 0 HO_10.out (x28_2 : Int) p28 q28
  replace p28 := eq_true p28
  replace q28 := eq_true q28
  have HP31 := Kd.R_putn HO_10.out (x28_2 : Int) (wrap64 ((rd x10_2 x28_2) + (wrap64 ((rd x9_1 x28_2) * a2_1))))
  rw [← Ny263.out] at HP31
  have HQ31 := Aa7q HP31
  clear HP31
  refine start_ (n := 11) (S := fun w' => w'.cell? ⟨g253, 0, none⟩ = some (.int .i64 a2_0) ∧ w'.cell? ⟨g253, 1, none⟩ = some (.int .i64 a2_1) ∧ w'.cell? ⟨go28, (x28_2).toNat, none⟩ = some (.int .i64 (rd x10_2 x28_2))) (ds := [10]) #[false, false, false, false, false, false, false, false, false, false, false] Za72 rfl rfl ⟨(blk_cell BK253.out 0).trans rfl, (blk_cell BK253.out 1).trans rfl, hx262_0⟩ (fun hHeld => ?_); refine with_tabW spec_ruHeld.tab10 spec_ruHeld.bits10 (fun HT_ HW_ => ?_)
  generalize wr.drew = w29 at HO_10 HO_26 BK253 HB GG28 HQ31 hf28_0 hx262_0 hx28_0 hHeld ⊢
  refine pure_ (i := 0) (N := some 40) (v := ?_) (a' := ?_) #[true, false, false, false, false, false, false, false, false, false, false] rfl rfl (any_of HT_.out Za72) (fun _ _ _ h => h) (Or.inl ⟨by rfl, ?_⟩) ?_ ?_
  rotate_left
  ·
   intro w'
   go_simp
   with_reducible rfl
  rotate_left
  ·
   simp only [Act.put, y1a7, y2a7, y3a7, i64_w, i32_w]
   rfl
  refine pure_ (i := 1) (N := some 41) (v := ?_) (a' := ?_) #[true, true, false, false, false, false, false, false, false, false, false] rfl rfl (any_of HT_.out Za72) (fun _ _ _ h => h) (Or.inl ⟨by rfl, ?_⟩) ?_ ?_
  rotate_left
  ·
   intro w'
   go_simp
   with_reducible rfl
  rotate_left
  ·
   simp only [Act.put, y1a7, y2a7, y3a7, i64_w, i32_w]
   rfl
  refine pure_ (i := 2) (N := some 42) (v := ?_) (a' := ?_) #[true, true, true, false, false, false, false, false, false, false, false] rfl rfl (any_of HT_.out Za72) (fun _ _ _ h => h) (Or.inl ⟨by rfl, ?_⟩) ?_ ?_
  rotate_left
  ·
   intro w'
   go_simp
   with_reducible rfl
  rotate_left
  ·
   simp only [Act.put, y1a7, y2a7, y3a7, i64_w, i32_w]
   rfl
  refine pure_ (i := 4) (N := some 44) (v := ?_) (a' := ?_) #[true, true, true, false, true, false, false, false, false, false, false] rfl rfl (any_of HT_.out Za72) (fun _ _ _ h => h) (Or.inl ⟨by rfl, ?_⟩) ?_ ?_
  rotate_left
  ·
   intro w'
   go_simp
   with_reducible rfl
  rotate_left
  ·
   simp only [Act.put, y1a7, y2a7, y3a7, i64_w, i32_w]
   rfl
  refine pure_ (i := 5) (N := some 45) (v := ?_) (a' := ?_) #[true, true, true, false, true, true, false, false, false, false, false] rfl rfl (any_of HT_.out Za72) (fun _ _ _ h => h) (Or.inl ⟨by rfl, ?_⟩) ?_ ?_
  rotate_left
  ·
   intro w'
   go_simp
   with_reducible rfl
  rotate_left
  ·
   simp only [Act.put, y1a7, y2a7, y3a7, i64_w, i32_w]
   rfl
  refine take_ (i := 3) (N := some 43) (v := ?_) (a' := ?_) #[true, true, true, true, true, true, false, false, false, false, false] rfl rfl (take_ofW HT_.out HW_.out Za72) (fun _ _ _ h => h) (Or.inl ⟨by rfl, ?_⟩) hHeld ?_ ?_
  rotate_left
  ·
   rintro w' ⟨s0, s1, s2⟩
   go_simp
   with_reducible rfl
  rotate_left
  ·
   simp only [Act.put, y1a7, y2a7, y3a7, i64_w, i32_w]
   rfl
  refine take_ (i := 6) (N := some 46) (v := ?_) (a' := ?_) #[true, true, true, true, true, true, true, false, false, false, false] rfl rfl (take_ofW HT_.out HW_.out Za72) (fun _ _ _ h => h) (Or.inl ⟨by rfl, ?_⟩) hHeld ?_ ?_
  rotate_left
  ·
   rintro w' ⟨s0, s1, s2⟩
   go_simp
   with_reducible rfl
  rotate_left
  ·
   simp only [Act.put, y1a7, y2a7, y3a7, i64_w, i32_w]
   rfl
  refine pure_ (i := 7) (N := some 47) (v := ?_) (a' := ?_) #[true, true, true, true, true, true, true, true, false, false, false] rfl rfl (any_of HT_.out Za72) (fun _ _ _ h => h) (Or.inl ⟨by rfl, ?_⟩) ?_ ?_
  rotate_left
  ·
   intro w'
   go_simp
   with_reducible rfl
  rotate_left
  ·
   simp only [Act.put, y1a7, y2a7, y3a7, i64_w, i32_w]
   rfl
  refine pure_ (i := 8) (N := some 48) (v := ?_) (a' := ?_) #[true, true, true, true, true, true, true, true, true, false, false] rfl rfl (any_of HT_.out Za72) (fun _ _ _ h => h) (Or.inl ⟨by rfl, ?_⟩) ?_ ?_
  rotate_left
  ·
   intro w'
   go_simp
   with_reducible rfl
  rotate_left
  ·
   simp only [Act.put, y1a7, y2a7, y3a7, i64_w, i32_w]
   rfl
  refine pure_ (i := 9) (N := some 49) (v := ?_) (a' := ?_) #[true, true, true, true, true, true, true, true, true, true, false] rfl rfl (any_of HT_.out Za72) (fun _ _ _ h => h) (Or.inl ⟨by rfl, ?_⟩) ?_ ?_
  rotate_left
  ·
   intro w'
   go_simp
   with_reducible rfl
  rotate_left
  ·
   simp only [Act.put, y1a7, y2a7, y3a7, i64_w, i32_w]
   rfl
  refine last_ (i := 10) (N := none) #[true, true, true, true, true, true, true, true, true, true, true] rfl rfl (one_of HT_.out Za72) (by decide) (fun K hK => ?_)
  refine skip_ (w1 := ?_) (by rfl) rfl ?_ ?_
  rotate_left
  ·
   go_simp
   rfl
  refine hK.out _ _ ?_
  clear hK K
  refine done_ (done_of HT_.out Za72) ?_
  try go_wp2
  go_roundg k2
  case measure => have := HK1.out; have := HK2.out; omega
  case rel => exact ⟨(y263), (wrap64 (x28_2 + 1)), (by first | rfl | (simp; done) | (simp [*]; done) | (simp only [i64_w]; done)), H', ⟨by have := HK1.out; have := HK2.out; omega⟩, ⟨by (with_reducible repeat (first | apply Kd.R_alloc | apply Kd.R_drewN | apply Kd.R_drew)); exact HQ31.out⟩, ⟨by (with_reducible repeat (first | apply Kd.R_alloc | apply Kd.R_drewN | apply Kd.R_drew)); exact Kd.R_mono (Kd.R_far (p := ⟨go28, (x28_2 : Int).toNat, none⟩) (Kd.R_mono HO_26.out (fun k_ hk => (⟨hk, fun e_ => hk (by rw [e_]; rfl)⟩ : _ ∧ k_ ≠ go28))) (fun _ hk => hk.2) (.int .i64 (wrap64 ((rd x10_2 x28_2) + (wrap64 ((rd x9_1 x28_2) * a2_1)))))) (fun _ hk => hk.1)⟩, ⟨by (with_reducible repeat (first | refine blk_drewN ?_ _ | refine blk_drew ?_ | refine blk_alloc ?_ _)); refine blk_far ?_ (by have h_ := Kd.R_ne HO_10.out BK253.out (by decide); intro e_; exact h_ (by rw [e_]; rfl)) _; (with_reducible repeat (first | refine blk_drewN ?_ _ | refine blk_drew ?_ | refine blk_alloc ?_ _)); exact BK253.out⟩, ⟨by repeat (first | (with_reducible first | exact HB.out | apply below_alloc | apply pw_below_drewN | apply below_drew1 | refine below_set ?_ GB28.out | refine below_set ?_ GE253.out) | exact HB.out)⟩⟩
 rw [if_neg c26] at H
 have c26b0 : (x28_2 == 0) = false := beq_eq_false_iff_ne.mpr c26
 have c26b1 : (x28_2 != 0) = true := bne_iff_ne.mpr c26
 by_cases c32 : x28_2 = a1
 ·
  rw [if_pos c32] at H
  have c32b0 : (x28_2 == a1) = true := beq_iff_eq.mpr c32
  have c32b1 : (x28_2 != a1) = false := bne_eq_false_iff_eq.mpr c32
  clear c32
  by_cases c33 : x28_2 < (x10_2.length : Int)
  rotate_left
  ·
   rw [if_neg c33] at H
   exact absurd H (by simp)
  rw [if_pos c33] at H
  have c33b0 : decide (x28_2 < (x10_2.length : Int)) = true := decide_eq_true c33
  clear c33
  obtain ⟨y265, hy265⟩ : ∃ y_ : List Int, y_ = (x10_2.set (x28_2 : Int).toNat (wrap64 ((rd x10_2 x28_2) + (wrap64 ((rd x9_1 x28_2) * a2_1))))) := ⟨_, rfl⟩
  replace H : (spec_ruHeld.l1 k2 a1 x3_1 y265 x9_1 (x9_1.length : Int) (wrap64 (x28_2 + 1)) a2_0 a2_1) = some r := by first | (rw [hy265]; with_reducible exact H) | (have H2_ := (Option.bind_some _ _).symm.trans H; rw [hy265]; with_reducible exact H2_) | (have H2_ := (Option.bind_some _ _).symm.trans H; with_reducible exact H2_) | with_reducible exact H | (rw [hy265]; exact H) | exact H
  have Ny265 := Aa7q hy265
  clear hy265
  have H' := Aa7q H
  clear H
  have p261 : 0 ≤ (x28_2 : Int) := of_decide_eq_true Za71
  have q261 : x28_2 < (x9_1.length : Int) := of_decide_eq_true Za71
  obtain ⟨ad261, e261, hx261_0⟩ := Kd.at_int (Kd.R_reads' HO_26.out).2.2 x28_2 p261 q261
  cases e261
  replace p261 := eq_true p261
  replace q261 := eq_true q261
  try go_wp2
  replace HO_10 := Aa7q (Kd.R_drew HO_10.out)
  replace HO_26 := Aa7q (Kd.R_drew HO_26.out)
  replace BK253 := Aa7q (blk_drew BK253.out)
  replace HB := Aa7q (below_drew1 HB.out)
  obtain ⟨Ao36, co36, eo36⟩ := Kd.R_slice HO_10.out
  (first | subst eo36 | (injection eo36 with f1_ f2_ f3_; have f4_ := f1_.symm; have f5_ := f3_.symm; clear f1_ f2_ f3_; subst f4_; subst f5_))
  have p264 : 0 ≤ (x28_2 : Int) := of_decide_eq_true Za71
  have q264 : x28_2 < (x10_2.length : Int) := of_decide_eq_true Za71
  obtain ⟨ad264, e264, hx264_0⟩ := Kd.at_int (Kd.R_reads' HO_10.out).2.2 x28_2 p264 q264
  cases e264
  replace p264 := eq_true p264
  replace q264 := eq_true q264
  have p34 : 0 ≤ (x28_2 : Int) := of_decide_eq_true Za71
  have q34 : (x28_2 : Int) < ((x10_2.length : Int) : Int) := of_decide_eq_true Za71
  obtain ⟨go34, co34, eo34, g34, gl34, cl34, HG34⟩ := Kd.R_form HO_10.out (by omega)
  (first | cases eo34 | (injection eo34 with ea_ en_ ec_; (first | subst ea_ | (injection ea_ with ea_; subst ea_)); subst ec_; clear en_))
  have GB34 := Aa7q g34
  have GG34 := Aa7q HG34
  clear g34 gl34 HG34
  (first | simp only [add_plain] at hx264_0 | skip)
  obtain ⟨hx34_0, hf34_0⟩ := Kd.R_celln 0 HO_10.out (x28_2 : Int) p34 q34
  replace p34 := eq_true p34
  replace q34 := eq_true q34
  have HP37 := Kd.R_putn HO_10.out (x28_2 : Int) (wrap64 ((rd x10_2 x28_2) + (wrap64 ((rd x9_1 x28_2) * a2_1))))
  rw [← Ny265.out] at HP37
  have HQ37 := Aa7q HP37
  clear HP37
  refine start_ (n := 11) (S := fun w' => w'.cell? ⟨g253, 0, none⟩ = some (.int .i64 a2_0) ∧ w'.cell? ⟨g253, 1, none⟩ = some (.int .i64 a2_1) ∧ w'.cell? ⟨go34, (x28_2).toNat, none⟩ = some (.int .i64 (rd x10_2 x28_2))) (ds := [10]) #[false, false, false, false, false, false, false, false, false, false, false] Za72 rfl rfl ⟨(blk_cell BK253.out 0).trans rfl, (blk_cell BK253.out 1).trans rfl, hx264_0⟩ (fun hHeld => ?_); refine with_tabW spec_ruHeld.tab10 spec_ruHeld.bits10 (fun HT_ HW_ => ?_)
  generalize wr.drew = w35 at HO_10 HO_26 BK253 HB GG34 HQ37 hf34_0 hx264_0 hx34_0 hHeld ⊢
  refine pure_ (i := 0) (N := some 40) (v := ?_) (a' := ?_) #[true, false, false, false, false, false, false, false, false, false, false] rfl rfl (any_of HT_.out Za72) (fun _ _ _ h => h) (Or.inl ⟨by rfl, ?_⟩) ?_ ?_
  rotate_left
  ·
   intro w'
   go_simp
   with_reducible rfl
  rotate_left
  ·
   simp only [Act.put, y1a7, y2a7, y3a7, i64_w, i32_w]
   rfl
  refine pure_ (i := 1) (N := some 41) (v := ?_) (a' := ?_) #[true, true, false, false, false, false, false, false, false, false, false] rfl rfl (any_of HT_.out Za72) (fun _ _ _ h => h) (Or.inl ⟨by rfl, ?_⟩) ?_ ?_
  rotate_left
  ·
   intro w'
   go_simp
   with_reducible rfl
  rotate_left
  ·
   simp only [Act.put, y1a7, y2a7, y3a7, i64_w, i32_w]
   rfl
  refine pure_ (i := 2) (N := some 42) (v := ?_) (a' := ?_) #[true, true, true, false, false, false, false, false, false, false, false] rfl rfl (any_of HT_.out Za72) (fun _ _ _ h => h) (Or.inl ⟨by rfl, ?_⟩) ?_ ?_
  rotate_left
  ·
   intro w'
   go_simp
   with_reducible rfl
  rotate_left
  ·
   simp only [Act.put, y1a7, y2a7, y3a7, i64_w, i32_w]
   rfl
  refine pure_ (i := 4) (N := some 44) (v := ?_) (a' := ?_) #[true, true, true, false, true, false, false, false, false, false, false] rfl rfl (any_of HT_.out Za72) (fun _ _ _ h => h) (Or.inl ⟨by rfl, ?_⟩) ?_ ?_
  rotate_left
  ·
   intro w'
   go_simp
   with_reducible rfl
  rotate_left
  ·
   simp only [Act.put, y1a7, y2a7, y3a7, i64_w, i32_w]
   rfl
  refine pure_ (i := 5) (N := some 45) (v := ?_) (a' := ?_) #[true, true, true, false, true, true, false, false, false, false, false] rfl rfl (any_of HT_.out Za72) (fun _ _ _ h => h) (Or.inl ⟨by rfl, ?_⟩) ?_ ?_
  rotate_left
  ·
   intro w'
   go_simp
   with_reducible rfl
  rotate_left
  ·
   simp only [Act.put, y1a7, y2a7, y3a7, i64_w, i32_w]
   rfl
  refine take_ (i := 3) (N := some 43) (v := ?_) (a' := ?_) #[true, true, true, true, true, true, false, false, false, false, false] rfl rfl (take_ofW HT_.out HW_.out Za72) (fun _ _ _ h => h) (Or.inl ⟨by rfl, ?_⟩) hHeld ?_ ?_
  rotate_left
  ·
   rintro w' ⟨s0, s1, s2⟩
   go_simp
   with_reducible rfl
  rotate_left
  ·
   simp only [Act.put, y1a7, y2a7, y3a7, i64_w, i32_w]
   rfl
  refine take_ (i := 6) (N := some 46) (v := ?_) (a' := ?_) #[true, true, true, true, true, true, true, false, false, false, false] rfl rfl (take_ofW HT_.out HW_.out Za72) (fun _ _ _ h => h) (Or.inl ⟨by rfl, ?_⟩) hHeld ?_ ?_
  rotate_left
  ·
   rintro w' ⟨s0, s1, s2⟩
   go_simp
   with_reducible rfl
  rotate_left
  ·
   simp only [Act.put, y1a7, y2a7, y3a7, i64_w, i32_w]
   rfl
  refine pure_ (i := 7) (N := some 47) (v := ?_) (a' := ?_) #[true, true, true, true, true, true, true, true, false, false, false] rfl rfl (any_of HT_.out Za72) (fun _ _ _ h => h) (Or.inl ⟨by rfl, ?_⟩) ?_ ?_
  rotate_left
  ·
   intro w'
   go_simp
   with_reducible rfl
  rotate_left
  ·
   simp only [Act.put, y1a7, y2a7, y3a7, i64_w, i32_w]
   rfl
  refine pure_ (i := 8) (N := some 48) (v := ?_) (a' := ?_) #[true, true, true, true, true, true, true, true, true, false, false] rfl rfl (any_of HT_.out Za72) (fun _ _ _ h => h) (Or.inl ⟨by rfl, ?_⟩) ?_ ?_
  rotate_left
  ·
   intro w'
   go_simp
   with_reducible rfl
  rotate_left
  ·
   simp only [Act.put, y1a7, y2a7, y3a7, i64_w, i32_w]
   rfl
  refine pure_ (i := 9) (N := some 49) (v := ?_) (a' := ?_) #[true, true, true, true, true, true, true, true, true, true, false] rfl rfl (any_of HT_.out Za72) (fun _ _ _ h => h) (Or.inl ⟨by rfl, ?_⟩) ?_ ?_
  rotate_left
  ·
   intro w'
   go_simp
   with_reducible rfl
  rotate_left
  ·
   simp only [Act.put, y1a7, y2a7, y3a7, i64_w, i32_w]
   rfl
  refine last_ (i := 10) (N := none) #[true, true, true, true, true, true, true, true, true, true, true] rfl rfl (one_of HT_.out Za72) (by decide) (fun K hK => ?_)
  refine skip_ (w1 := ?_) (by rfl) rfl ?_ ?_
  rotate_left
  ·
   go_simp
   rfl
  refine hK.out _ _ ?_
  clear hK K
  refine done_ (done_of HT_.out Za72) ?_
  try go_wp2
  go_roundg k2
  case measure => have := HK1.out; have := HK2.out; omega
  case rel => exact ⟨(y265), (wrap64 (x28_2 + 1)), (by first | rfl | (simp; done) | (simp [*]; done) | (simp only [i64_w]; done)), H', ⟨by have := HK1.out; have := HK2.out; omega⟩, ⟨by (with_reducible repeat (first | apply Kd.R_alloc | apply Kd.R_drewN | apply Kd.R_drew)); exact HQ37.out⟩, ⟨by (with_reducible repeat (first | apply Kd.R_alloc | apply Kd.R_drewN | apply Kd.R_drew)); exact Kd.R_mono (Kd.R_far (p := ⟨go34, (x28_2 : Int).toNat, none⟩) (Kd.R_mono HO_26.out (fun k_ hk => (⟨hk, fun e_ => hk (by rw [e_]; rfl)⟩ : _ ∧ k_ ≠ go34))) (fun _ hk => hk.2) (.int .i64 (wrap64 ((rd x10_2 x28_2) + (wrap64 ((rd x9_1 x28_2) * a2_1)))))) (fun _ hk => hk.1)⟩, ⟨by (with_reducible repeat (first | refine blk_drewN ?_ _ | refine blk_drew ?_ | refine blk_alloc ?_ _)); refine blk_far ?_ (by have h_ := Kd.R_ne HO_10.out BK253.out (by decide); intro e_; exact h_ (by rw [e_]; rfl)) _; (with_reducible repeat (first | refine blk_drewN ?_ _ | refine blk_drew ?_ | refine blk_alloc ?_ _)); exact BK253.out⟩, ⟨by repeat (first | (with_reducible first | exact HB.out | apply below_alloc | apply pw_below_drewN | apply below_drew1 | refine below_set ?_ GB34.out | refine below_set ?_ GE253.out) | exact HB.out)⟩⟩
 rw [if_neg c32] at H
 have c32b0 : (x28_2 == a1) = false := beq_eq_false_iff_ne.mpr c32
 have c32b1 : (x28_2 != a1) = true := bne_iff_ne.mpr c32
 obtain ⟨ji38, hji38⟩ : ∃ j_ : Int, (wrap64 (x28_2 + 1)) = j_ := ⟨_, rfl⟩
 replace H : (if 0 ≤ (ji38) then (if (ji38) < (x10_2.length : Int) then ((some (x10_2.set ((ji38) : Int).toNat (wrap64 ((rd x10_2 (ji38)) + (wrap64 ((rd x9_1 x28_2) * a2_0)))) : List Int)).bind fun y267 => (if 0 ≤ (wrap64 (x28_2 - 1)) then (if (wrap64 (x28_2 - 1)) < (x10_2.length : Int) then (spec_ruHeld.l1 k2 a1 x3_1 (y267.set ((wrap64 (x28_2 - 1)) : Int).toNat (wrap64 ((rd y267 (wrap64 (x28_2 - 1))) + (wrap64 ((rd x9_1 x28_2) * (wrap64 (a2_1 - a2_0))))))) x9_1 (x9_1.length : Int) ji38 a2_0 a2_1) else (none)) else (none))) else (none)) else (none)) = some r := by first | (rw [hji38] at H; exact H) | (simp only [hji38] at H ⊢; exact H)
 have hji38w : (IntKind.i64.wrap (x28_2 + 1)) = ji38 := (i64_w _).trans hji38
 by_cases c39 : 0 ≤ (ji38)
 rotate_left
 ·
  rw [if_neg c39] at H
  exact absurd H (by simp)
 rw [if_pos c39] at H
 have c39b0 : decide (0 ≤ (ji38)) = true := decide_eq_true c39
 clear c39
 by_cases c40 : (ji38) < (x10_2.length : Int)
 rotate_left
 ·
  rw [if_neg c40] at H
  exact absurd H (by simp)
 rw [if_pos c40] at H
 have c40b0 : decide ((ji38) < (x10_2.length : Int)) = true := decide_eq_true c40
 clear c40
 obtain ⟨y267, hy267⟩ : ∃ y_ : List Int, y_ = (x10_2.set ((ji38) : Int).toNat (wrap64 ((rd x10_2 (ji38)) + (wrap64 ((rd x9_1 x28_2) * a2_0))))) := ⟨_, rfl⟩
 replace H : (if 0 ≤ (wrap64 (x28_2 - 1)) then (if (wrap64 (x28_2 - 1)) < (x10_2.length : Int) then (spec_ruHeld.l1 k2 a1 x3_1 (y267.set ((wrap64 (x28_2 - 1)) : Int).toNat (wrap64 ((rd y267 (wrap64 (x28_2 - 1))) + (wrap64 ((rd x9_1 x28_2) * (wrap64 (a2_1 - a2_0))))))) x9_1 (x9_1.length : Int) ji38 a2_0 a2_1) else (none)) else (none)) = some r := by first | (rw [hy267]; with_reducible exact H) | (have H2_ := (Option.bind_some _ _).symm.trans H; rw [hy267]; with_reducible exact H2_) | (have H2_ := (Option.bind_some _ _).symm.trans H; with_reducible exact H2_) | with_reducible exact H | (rw [hy267]; exact H) | exact H
 have Ny267 := Aa7q hy267
 clear hy267
 obtain ⟨ji42, hji42⟩ : ∃ j_ : Int, (wrap64 (x28_2 - 1)) = j_ := ⟨_, rfl⟩
 replace H : (if 0 ≤ (ji42) then (if (ji42) < (x10_2.length : Int) then (spec_ruHeld.l1 k2 a1 x3_1 (y267.set ((ji42) : Int).toNat (wrap64 ((rd y267 (ji42)) + (wrap64 ((rd x9_1 x28_2) * (wrap64 (a2_1 - a2_0))))))) x9_1 (x9_1.length : Int) ji38 a2_0 a2_1) else (none)) else (none)) = some r := by first | (rw [hji42] at H; exact H) | (simp only [hji42] at H ⊢; exact H)
 have hji42w : (IntKind.i64.wrap (x28_2 - 1)) = ji42 := (i64_w _).trans hji42
 by_cases c43 : 0 ≤ (ji42)
 rotate_left
 ·
  rw [if_neg c43] at H
  exact absurd H (by simp)
 rw [if_pos c43] at H
 have c43b0 : decide (0 ≤ (ji42)) = true := decide_eq_true c43
 clear c43
 by_cases c44 : (ji42) < (x10_2.length : Int)
 rotate_left
 ·
  rw [if_neg c44] at H
  exact absurd H (by simp)
 rw [if_pos c44] at H
 have c44b0 : decide ((ji42) < (x10_2.length : Int)) = true := decide_eq_true c44
 clear c44
 obtain ⟨y269, hy269⟩ : ∃ y_ : List Int, y_ = (y267.set ((ji42) : Int).toNat (wrap64 ((rd y267 (ji42)) + (wrap64 ((rd x9_1 x28_2) * (wrap64 (a2_1 - a2_0))))))) := ⟨_, rfl⟩
 replace H : (spec_ruHeld.l1 k2 a1 x3_1 y269 x9_1 (x9_1.length : Int) ji38 a2_0 a2_1) = some r := by first | (rw [hy269]; with_reducible exact H) | (have H2_ := (Option.bind_some _ _).symm.trans H; rw [hy269]; with_reducible exact H2_) | (have H2_ := (Option.bind_some _ _).symm.trans H; with_reducible exact H2_) | with_reducible exact H | (rw [hy269]; exact H) | exact H
 have Ny269 := Aa7q hy269
 clear hy269
 have H' := Aa7q H
 clear H
 have p261 : 0 ≤ (x28_2 : Int) := of_decide_eq_true Za71
 have q261 : x28_2 < (x9_1.length : Int) := of_decide_eq_true Za71
 obtain ⟨ad261, e261, hx261_0⟩ := Kd.at_int (Kd.R_reads' HO_26.out).2.2 x28_2 p261 q261
 cases e261
 replace p261 := eq_true p261
 replace q261 := eq_true q261
 try go_wp2
 replace HO_10 := Aa7q (Kd.R_drew HO_10.out)
 replace HO_26 := Aa7q (Kd.R_drew HO_26.out)
 replace BK253 := Aa7q (blk_drew BK253.out)
 replace HB := Aa7q (below_drew1 HB.out)
 obtain ⟨Ao47, co47, eo47⟩ := Kd.R_slice HO_10.out
 (first | subst eo47 | (injection eo47 with f1_ f2_ f3_; have f4_ := f1_.symm; have f5_ := f3_.symm; clear f1_ f2_ f3_; subst f4_; subst f5_))
 have p266 : 0 ≤ ((ji38) : Int) := of_decide_eq_true Za71
 have q266 : (ji38) < (x10_2.length : Int) := of_decide_eq_true Za71
 obtain ⟨ad266, e266, hx266_0⟩ := Kd.at_int (Kd.R_reads' HO_10.out).2.2 (ji38) p266 q266
 cases e266
 replace p266 := eq_true p266
 replace q266 := eq_true q266
 have p41 : 0 ≤ ((ji38) : Int) := of_decide_eq_true Za71
 have q41 : ((ji38) : Int) < ((x10_2.length : Int) : Int) := of_decide_eq_true Za71
 obtain ⟨go41, co41, eo41, g41, gl41, cl41, HG41⟩ := Kd.R_form HO_10.out (by omega)
 (first | cases eo41 | (injection eo41 with ea_ en_ ec_; (first | subst ea_ | (injection ea_ with ea_; subst ea_)); subst ec_; clear en_))
 have GB41 := Aa7q g41
 have GG41 := Aa7q HG41
 clear g41 gl41 HG41
 (first | simp only [add_plain] at hx266_0 | skip)
 obtain ⟨hx41_0, hf41_0⟩ := Kd.R_celln 0 HO_10.out ((ji38) : Int) p41 q41
 replace p41 := eq_true p41
 replace q41 := eq_true q41
 have HP48 := Kd.R_putn HO_10.out ((ji38) : Int) (wrap64 ((rd x10_2 (ji38)) + (wrap64 ((rd x9_1 x28_2) * a2_0))))
 rw [← Ny267.out] at HP48
 have HQ48 := Aa7q HP48
 clear HP48
 refine start_ (n := 12) (S := fun w' => w'.cell? ⟨g253, 0, none⟩ = some (.int .i64 a2_0) ∧ w'.cell? ⟨g253, 1, none⟩ = some (.int .i64 a2_1) ∧ w'.cell? ⟨go41, ((ji38)).toNat, none⟩ = some (.int .i64 (rd x10_2 (ji38)))) (ds := [11]) #[false, false, false, false, false, false, false, false, false, false, false, false] Za72 rfl rfl ⟨(blk_cell BK253.out 0).trans rfl, (blk_cell BK253.out 1).trans rfl, hx266_0⟩ (fun hHeld => ?_); refine with_tabW spec_ruHeld.tab11 spec_ruHeld.bits11 (fun HT_ HW_ => ?_)
 generalize wr.drew = w46 at HO_10 HO_26 BK253 HB GG41 HQ48 hf41_0 hx266_0 hx41_0 hHeld ⊢
 refine pure_ (i := 0) (N := some 50) (v := ?_) (a' := ?_) #[true, false, false, false, false, false, false, false, false, false, false, false] rfl rfl (any_of HT_.out Za72) (fun _ _ _ h => h) (Or.inl ⟨by rfl, ?_⟩) ?_ ?_
 rotate_left
 ·
  intro w'
  go_simp
  with_reducible rfl
 rotate_left
 ·
  simp only [Act.put, y1a7, y2a7, y3a7, i64_w, i32_w]
  rfl
 refine pure_ (i := 1) (N := some 51) (v := ?_) (a' := ?_) #[true, true, false, false, false, false, false, false, false, false, false, false] rfl rfl (any_of HT_.out Za72) (fun _ _ _ h => h) (Or.inl ⟨by rfl, ?_⟩) ?_ ?_
 rotate_left
 ·
  intro w'
  go_simp
  with_reducible rfl
 rotate_left
 ·
  simp only [Act.put, y1a7, y2a7, y3a7, i64_w, i32_w]
  rfl
 refine pure_ (i := 2) (N := some 52) (v := ?_) (a' := ?_) #[true, true, true, false, false, false, false, false, false, false, false, false] rfl rfl (any_of HT_.out Za72) (fun _ _ _ h => h) (Or.inl ⟨by rfl, ?_⟩) ?_ ?_
 rotate_left
 ·
  intro w'
  go_simp
  with_reducible rfl
 rotate_left
 ·
  simp only [Act.put, y1a7, y2a7, y3a7, i64_w, i32_w]
  rfl
 refine pure_ (i := 3) (N := some 53) (v := ?_) (a' := ?_) #[true, true, true, true, false, false, false, false, false, false, false, false] rfl rfl (any_of HT_.out Za72) (fun _ _ _ h => h) (Or.inl ⟨by rfl, ?_⟩) ?_ ?_
 rotate_left
 ·
  intro w'
  go_simp
  with_reducible rfl
 rotate_left
 ·
  simp only [Act.put, y1a7, y2a7, y3a7, i64_w, i32_w]
  rfl
 refine pure_ (i := 5) (N := some 55) (v := ?_) (a' := ?_) #[true, true, true, true, false, true, false, false, false, false, false, false] rfl rfl (any_of HT_.out Za72) (fun _ _ _ h => h) (Or.inl ⟨by rfl, ?_⟩) ?_ ?_
 rotate_left
 ·
  intro w'
  go_simp
  with_reducible rfl
 rotate_left
 ·
  simp only [Act.put, y1a7, y2a7, y3a7, i64_w, i32_w]
  rfl
 refine pure_ (i := 6) (N := some 56) (v := ?_) (a' := ?_) #[true, true, true, true, false, true, true, false, false, false, false, false] rfl rfl (any_of HT_.out Za72) (fun _ _ _ h => h) (Or.inl ⟨by rfl, ?_⟩) ?_ ?_
 rotate_left
 ·
  intro w'
  go_simp
  with_reducible rfl
 rotate_left
 ·
  simp only [Act.put, y1a7, y2a7, y3a7, i64_w, i32_w]
  rfl
 refine take_ (i := 4) (N := some 54) (v := ?_) (a' := ?_) #[true, true, true, true, true, true, true, false, false, false, false, false] rfl rfl (take_ofW HT_.out HW_.out Za72) (fun _ _ _ h => h) (Or.inl ⟨by rfl, ?_⟩) hHeld ?_ ?_
 rotate_left
 ·
  rintro w' ⟨s0, s1, s2⟩
  go_simp
  with_reducible rfl
 rotate_left
 ·
  simp only [Act.put, y1a7, y2a7, y3a7, i64_w, i32_w]
  rfl
 refine take_ (i := 7) (N := some 57) (v := ?_) (a' := ?_) #[true, true, true, true, true, true, true, true, false, false, false, false] rfl rfl (take_ofW HT_.out HW_.out Za72) (fun _ _ _ h => h) (Or.inl ⟨by rfl, ?_⟩) hHeld ?_ ?_
 rotate_left
 ·
  rintro w' ⟨s0, s1, s2⟩
  go_simp
  with_reducible rfl
 rotate_left
 ·
  simp only [Act.put, y1a7, y2a7, y3a7, i64_w, i32_w]
  rfl
 refine pure_ (i := 8) (N := some 58) (v := ?_) (a' := ?_) #[true, true, true, true, true, true, true, true, true, false, false, false] rfl rfl (any_of HT_.out Za72) (fun _ _ _ h => h) (Or.inl ⟨by rfl, ?_⟩) ?_ ?_
 rotate_left
 ·
  intro w'
  go_simp
  with_reducible rfl
 rotate_left
 ·
  simp only [Act.put, y1a7, y2a7, y3a7, i64_w, i32_w]
  rfl
 refine pure_ (i := 9) (N := some 59) (v := ?_) (a' := ?_) #[true, true, true, true, true, true, true, true, true, true, false, false] rfl rfl (any_of HT_.out Za72) (fun _ _ _ h => h) (Or.inl ⟨by rfl, ?_⟩) ?_ ?_
 rotate_left
 ·
  intro w'
  go_simp
  with_reducible rfl
 rotate_left
 ·
  simp only [Act.put, y1a7, y2a7, y3a7, i64_w, i32_w]
  rfl
 refine pure_ (i := 10) (N := some 60) (v := ?_) (a' := ?_) #[true, true, true, true, true, true, true, true, true, true, true, false] rfl rfl (any_of HT_.out Za72) (fun _ _ _ h => h) (Or.inl ⟨by rfl, ?_⟩) ?_ ?_
 rotate_left
 ·
  intro w'
  go_simp
  with_reducible rfl
 rotate_left
 ·
  simp only [Act.put, y1a7, y2a7, y3a7, i64_w, i32_w]
  rfl
 refine last_ (i := 11) (N := none) #[true, true, true, true, true, true, true, true, true, true, true, true] rfl rfl (one_of HT_.out Za72) (by decide) (fun K hK => ?_)
 refine skip_ (w1 := ?_) (by rfl) rfl ?_ ?_
 rotate_left
 ·
  go_simp
  rfl
 refine hK.out _ _ ?_
 clear hK K
 refine done_ (done_of HT_.out Za72) ?_
 try go_wp2
 have n0_ : Aside0 (Kd.R (Kd.int .i64) 3 (w46.setCell ⟨go41, ((ji38) : Int).toNat, none⟩ (.int .i64 (wrap64 ((rd x10_2 (ji38)) + (wrap64 ((rd x9_1 x28_2) * a2_0)))))) w.heap.size (fun k_ => some k_ ≠ (.slice (some ad261) x9_1.length co22 : Value).ownBlock) (.slice (some ⟨go41, 0, none⟩) x10_2.length co47) y267) := ⟨by (with_reducible repeat (first | apply Kd.R_alloc | apply Kd.R_drewN | apply Kd.R_drew)); exact HQ48.out⟩
 have n1_ : Aside0 (Kd.R (Kd.int .i64) 3 (w46.setCell ⟨go41, ((ji38) : Int).toNat, none⟩ (.int .i64 (wrap64 ((rd x10_2 (ji38)) + (wrap64 ((rd x9_1 x28_2) * a2_0)))))) w.heap.size (fun k_ => some k_ ≠ (.slice (some ⟨go41, 0, none⟩) x10_2.length co47 : Value).ownBlock) (.slice (some ad261) x9_1.length co22) x9_1) := ⟨by (with_reducible repeat (first | apply Kd.R_alloc | apply Kd.R_drewN | apply Kd.R_drew)); exact Kd.R_mono (Kd.R_far (p := ⟨go41, ((ji38) : Int).toNat, none⟩) (Kd.R_mono HO_26.out (fun k_ hk => (⟨hk, fun e_ => hk (by rw [e_]; rfl)⟩ : _ ∧ k_ ≠ go41))) (fun _ hk => hk.2) (.int .i64 (wrap64 ((rd x10_2 (ji38)) + (wrap64 ((rd x9_1 x28_2) * a2_0)))))) (fun _ hk => hk.1)⟩
 have n2_ : Aside0 ((w46.setCell ⟨go41, ((ji38) : Int).toNat, none⟩ (.int .i64 (wrap64 ((rd x10_2 (ji38)) + (wrap64 ((rd x9_1 x28_2) * a2_0)))))).heap[g253]? = some (.cells #[.int .i64 a2_0, .int .i64 a2_1] 25 (0, 0))) := ⟨by (with_reducible repeat (first | refine blk_drewN ?_ _ | refine blk_drew ?_ | refine blk_alloc ?_ _)); refine blk_far ?_ (by have h_ := Kd.R_ne HO_10.out BK253.out (by decide); intro e_; exact h_ (by rw [e_]; rfl)) _; (with_reducible repeat (first | refine blk_drewN ?_ _ | refine blk_drew ?_ | refine blk_alloc ?_ _)); exact BK253.out⟩
 have n3_ : Aside0 (Below w.heap.size w (w46.setCell ⟨go41, ((ji38) : Int).toNat, none⟩ (.int .i64 (wrap64 ((rd x10_2 (ji38)) + (wrap64 ((rd x9_1 x28_2) * a2_0))))))) := ⟨by repeat (first | (with_reducible first | exact HB.out | apply below_alloc | apply pw_below_drewN | apply below_drew1 | refine below_set ?_ GB41.out | refine below_set ?_ GE253.out) | exact HB.out)⟩
 (try clear HO_10)
 (try clear HO_26)
 (try clear BK253)
 (try clear HB)
 generalize (w46.setCell ⟨go41, ((ji38) : Int).toNat, none⟩ (.int .i64 (wrap64 ((rd x10_2 (ji38)) + (wrap64 ((rd x9_1 x28_2) * a2_0)))))) = w49 at n0_ n1_ n2_ n3_ ⊢
 have HO_10 := n0_
 have HO_26 := n1_
 have BK253 := n2_
 have HB := n3_
 clear n0_ n1_ n2_ n3_
 replace HO_10 := Aa7q (Kd.R_drew HO_10.out)
 replace HO_26 := Aa7q (Kd.R_drew HO_26.out)
 replace BK253 := Aa7q (blk_drew BK253.out)
 replace HB := Aa7q (below_drew1 HB.out)
 have p268 : 0 ≤ ((ji42) : Int) := of_decide_eq_true Za71
 have q268 : (ji42) < (y267.length : Int) := (by have h_ : ((ji42) : Int) < ((x10_2.length : Int) : Int) := of_decide_eq_true Za71; first | (have e_ := (Kd.R_reads' HO_10.out).1; omega) | simpa only [Ny267.out, List.length_set] using h_)
 have ql268 : (((ji42) : Int) < ((x10_2.length : Int) : Int)) = True := eq_true (of_decide_eq_true Za71)
 obtain ⟨ad268, e268, hx268_0⟩ := Kd.at_int (Kd.R_reads' HO_10.out).2.2 (ji42) p268 q268
 obtain rfl : (⟨go41, 0, none⟩ : Addr) = ad268 := (by injection e268)
 (first | simp only [add_plain] at hx268_0 | simp only [add_at] at hx268_0 | simp only [Addr.add, Nat.zero_add] at hx268_0 | skip)
 replace p268 := eq_true p268
 replace q268 := eq_true q268
 have p45 : 0 ≤ ((ji42) : Int) := of_decide_eq_true Za71
 have q45 : ((ji42) : Int) < ((x10_2.length : Int) : Int) := of_decide_eq_true Za71
 obtain ⟨hx45_0, hf45_0⟩ := Kd.R_celln 0 HO_10.out ((ji42) : Int) p45 q45
 replace p45 := eq_true p45
 replace q45 := eq_true q45
 have HP51 := Kd.R_putn HO_10.out ((ji42) : Int) (wrap64 ((rd y267 (ji42)) + (wrap64 ((rd x9_1 x28_2) * (wrap64 (a2_1 - a2_0))))))
 rw [← Ny269.out] at HP51
 have HQ51 := Aa7q HP51
 clear HP51
 refine start_ (n := 15) (S := fun w' => w'.cell? ⟨g253, 0, none⟩ = some (.int .i64 a2_0) ∧ w'.cell? ⟨g253, 1, none⟩ = some (.int .i64 a2_1) ∧ w'.cell? ⟨go41, ((ji42)).toNat, none⟩ = some (.int .i64 (rd y267 (ji42)))) (ds := [14]) #[false, false, false, false, false, false, false, false, false, false, false, false, false, false, false] Za72 rfl rfl ⟨(blk_cell BK253.out 0).trans rfl, (blk_cell BK253.out 1).trans rfl, hx268_0⟩ (fun hHeld => ?_); refine with_tabW spec_ruHeld.tab12 spec_ruHeld.bits12 (fun HT_ HW_ => ?_)
 generalize w49.drew = w50 at HO_10 HO_26 BK253 HB HQ48 HQ51 hf45_0 hx268_0 hx45_0 hHeld ⊢
 refine pure_ (i := 0) (N := some 61) (v := ?_) (a' := ?_) #[true, false, false, false, false, false, false, false, false, false, false, false, false, false, false] rfl rfl (any_of HT_.out Za72) (fun _ _ _ h => h) (Or.inl ⟨by rfl, ?_⟩) ?_ ?_
 rotate_left
 ·
  intro w'
  go_simp
  with_reducible rfl
 rotate_left
 ·
  simp only [Act.put, y1a7, y2a7, y3a7, i64_w, i32_w]
  rfl
 refine pure_ (i := 1) (N := some 62) (v := ?_) (a' := ?_) #[true, true, false, false, false, false, false, false, false, false, false, false, false, false, false] rfl rfl (any_of HT_.out Za72) (fun _ _ _ h => h) (Or.inl ⟨by rfl, ?_⟩) ?_ ?_
 rotate_left
 ·
  intro w'
  go_simp
  with_reducible rfl
 rotate_left
 ·
  simp only [Act.put, y1a7, y2a7, y3a7, i64_w, i32_w]
  rfl
 refine pure_ (i := 2) (N := some 63) (v := ?_) (a' := ?_) #[true, true, true, false, false, false, false, false, false, false, false, false, false, false, false] rfl rfl (any_of HT_.out Za72) (fun _ _ _ h => h) (Or.inl ⟨by rfl, ?_⟩) ?_ ?_
 rotate_left
 ·
  intro w'
  go_simp
  with_reducible rfl
 rotate_left
 ·
  simp only [Act.put, y1a7, y2a7, y3a7, i64_w, i32_w]
  rfl
 refine pure_ (i := 3) (N := some 64) (v := ?_) (a' := ?_) #[true, true, true, true, false, false, false, false, false, false, false, false, false, false, false] rfl rfl (any_of HT_.out Za72) (fun _ _ _ h => h) (Or.inl ⟨by rfl, ?_⟩) ?_ ?_
 rotate_left
 ·
  intro w'
  go_simp
  with_reducible rfl
 rotate_left
 ·
  simp only [Act.put, y1a7, y2a7, y3a7, i64_w, i32_w]
  rfl
 refine pure_ (i := 5) (N := some 66) (v := ?_) (a' := ?_) #[true, true, true, true, false, true, false, false, false, false, false, false, false, false, false] rfl rfl (any_of HT_.out Za72) (fun _ _ _ h => h) (Or.inl ⟨by rfl, ?_⟩) ?_ ?_
 rotate_left
 ·
  intro w'
  go_simp
  with_reducible rfl
 rotate_left
 ·
  simp only [Act.put, y1a7, y2a7, y3a7, i64_w, i32_w]
  rfl
 refine pure_ (i := 6) (N := some 67) (v := ?_) (a' := ?_) #[true, true, true, true, false, true, true, false, false, false, false, false, false, false, false] rfl rfl (any_of HT_.out Za72) (fun _ _ _ h => h) (Or.inl ⟨by rfl, ?_⟩) ?_ ?_
 rotate_left
 ·
  intro w'
  go_simp
  with_reducible rfl
 rotate_left
 ·
  simp only [Act.put, y1a7, y2a7, y3a7, i64_w, i32_w]
  rfl
 refine pure_ (i := 8) (N := some 69) (v := ?_) (a' := ?_) #[true, true, true, true, false, true, true, false, true, false, false, false, false, false, false] rfl rfl (any_of HT_.out Za72) (fun _ _ _ h => h) (Or.inl ⟨by rfl, ?_⟩) ?_ ?_
 rotate_left
 ·
  intro w'
  go_simp
  with_reducible rfl
 rotate_left
 ·
  simp only [Act.put, y1a7, y2a7, y3a7, i64_w, i32_w]
  rfl
 refine take_ (i := 4) (N := some 65) (v := ?_) (a' := ?_) #[true, true, true, true, true, true, true, false, true, false, false, false, false, false, false] rfl rfl (take_ofW HT_.out HW_.out Za72) (fun _ _ _ h => h) (Or.inl ⟨by rfl, ?_⟩) hHeld ?_ ?_
 rotate_left
 ·
  rintro w' ⟨s0, s1, s2⟩
  go_simp
  with_reducible rfl
 rotate_left
 ·
  simp only [Act.put, y1a7, y2a7, y3a7, i64_w, i32_w]
  rfl
 refine take_ (i := 7) (N := some 68) (v := ?_) (a' := ?_) #[true, true, true, true, true, true, true, true, true, false, false, false, false, false, false] rfl rfl (take_ofW HT_.out HW_.out Za72) (fun _ _ _ h => h) (Or.inl ⟨by rfl, ?_⟩) hHeld ?_ ?_
 rotate_left
 ·
  rintro w' ⟨s0, s1, s2⟩
  go_simp
  with_reducible rfl
 rotate_left
 ·
  simp only [Act.put, y1a7, y2a7, y3a7, i64_w, i32_w]
  rfl
 refine take_ (i := 9) (N := some 70) (v := ?_) (a' := ?_) #[true, true, true, true, true, true, true, true, true, true, false, false, false, false, false] rfl rfl (take_ofW HT_.out HW_.out Za72) (fun _ _ _ h => h) (Or.inl ⟨by rfl, ?_⟩) hHeld ?_ ?_
 rotate_left
 ·
  rintro w' ⟨s0, s1, s2⟩
  go_simp
  with_reducible rfl
 rotate_left
 ·
  simp only [Act.put, y1a7, y2a7, y3a7, i64_w, i32_w]
  rfl
 refine pure_ (i := 10) (N := some 71) (v := ?_) (a' := ?_) #[true, true, true, true, true, true, true, true, true, true, true, false, false, false, false] rfl rfl (any_of HT_.out Za72) (fun _ _ _ h => h) (Or.inl ⟨by rfl, ?_⟩) ?_ ?_
 rotate_left
 ·
  intro w'
  go_simp
  with_reducible rfl
 rotate_left
 ·
  simp only [Act.put, y1a7, y2a7, y3a7, i64_w, i32_w]
  rfl
 refine pure_ (i := 11) (N := some 72) (v := ?_) (a' := ?_) #[true, true, true, true, true, true, true, true, true, true, true, true, false, false, false] rfl rfl (any_of HT_.out Za72) (fun _ _ _ h => h) (Or.inl ⟨by rfl, ?_⟩) ?_ ?_
 rotate_left
 ·
  intro w'
  go_simp
  with_reducible rfl
 rotate_left
 ·
  simp only [Act.put, y1a7, y2a7, y3a7, i64_w, i32_w]
  rfl
 refine pure_ (i := 12) (N := some 73) (v := ?_) (a' := ?_) #[true, true, true, true, true, true, true, true, true, true, true, true, true, false, false] rfl rfl (any_of HT_.out Za72) (fun _ _ _ h => h) (Or.inl ⟨by rfl, ?_⟩) ?_ ?_
 rotate_left
 ·
  intro w'
  go_simp
  with_reducible rfl
 rotate_left
 ·
  simp only [Act.put, y1a7, y2a7, y3a7, i64_w, i32_w]
  rfl
 refine pure_ (i := 13) (N := some 74) (v := ?_) (a' := ?_) #[true, true, true, true, true, true, true, true, true, true, true, true, true, true, false] rfl rfl (any_of HT_.out Za72) (fun _ _ _ h => h) (Or.inl ⟨by rfl, ?_⟩) ?_ ?_
 rotate_left
 ·
  intro w'
  go_simp
  with_reducible rfl
 rotate_left
 ·
  simp only [Act.put, y1a7, y2a7, y3a7, i64_w, i32_w]
  rfl
 refine last_ (i := 14) (N := none) #[true, true, true, true, true, true, true, true, true, true, true, true, true, true, true] rfl rfl (one_of HT_.out Za72) (by decide) (fun K hK => ?_)
 refine skip_ (w1 := ?_) (by rfl) rfl ?_ ?_
 rotate_left
 ·
  go_simp
  rfl
 refine hK.out _ _ ?_
 clear hK K
 refine done_ (done_of HT_.out Za72) ?_
 try go_wp2
 go_roundg k2
 case measure => have := HK1.out; have := HK2.out; omega
 case rel => exact ⟨(y269), (ji38), (by first | rfl | (simp; done) | (simp only [← hji38] <;> (first | rfl | simp)) | (simp [*]; done)), H', ⟨by have := HK1.out; have := HK2.out; omega⟩, ⟨by (with_reducible repeat (first | apply Kd.R_alloc | apply Kd.R_drewN | apply Kd.R_drew)); exact HQ51.out⟩, ⟨by (with_reducible repeat (first | apply Kd.R_alloc | apply Kd.R_drewN | apply Kd.R_drew)); exact Kd.R_mono (Kd.R_far (p := ⟨go41, ((ji42) : Int).toNat, none⟩) (Kd.R_mono HO_26.out (fun k_ hk => (⟨hk, fun e_ => hk (by rw [e_]; rfl)⟩ : _ ∧ k_ ≠ go41))) (fun _ hk => hk.2) (.int .i64 (wrap64 ((rd y267 (ji42)) + (wrap64 ((rd x9_1 x28_2) * (wrap64 (a2_1 - a2_0)))))))) (fun _ hk => hk.1)⟩, ⟨by (with_reducible repeat (first | refine blk_drewN ?_ _ | refine blk_drew ?_ | refine blk_alloc ?_ _)); refine blk_far ?_ (by have h_ := Kd.R_ne HO_10.out BK253.out (by decide); intro e_; exact h_ (by rw [e_]; rfl)) _; (with_reducible repeat (first | refine blk_drewN ?_ _ | refine blk_drew ?_ | refine blk_alloc ?_ _)); exact BK253.out⟩, ⟨by repeat (first | (with_reducible first | exact HB.out | apply below_alloc | apply pw_below_drewN | apply below_drew1 | refine below_set ?_ GB41.out | refine below_set ?_ GE253.out) | exact HB.out)⟩⟩
end Go.Proofs.Ytoglhflnfkmkcaa.OFnRuinInTime
