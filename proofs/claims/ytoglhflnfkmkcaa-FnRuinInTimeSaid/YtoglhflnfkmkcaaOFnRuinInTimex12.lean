/- The functions that 'FnRuinInTime' runs, each as a function over numbers and lists, with the proof that the Go text comes to its answers. No condition. -/
import Derived.Test.YtoglhflnfkmkcaaOFnRuinInTimex0
import Derived.Test.YtoglhflnfkmkcaaOFnRuinInTimex3
import Derived.Test.YtoglhflnfkmkcaaOFnRuinInTimex5
namespace Go.Proofs.Ytoglhflnfkmkcaa.OFnRuinInTime
open Go.Proofs.Ytoglhflnfkmkcaa.Stub
open Go.RowKit Go.Proofs.YtoglhflnfkmkcaaW.PrintWords Go.Proofs.YtoglhflnfkmkcaaW.PrintLast Go.Proofs.YtoglhflnfkmkcaaW.PrintMore
attribute [local go_sem] max2_int min2_int max_two min_two max_three min_three max_four min_four   -- for this text's walks alone
set_option linter.unusedVariables false
set_option linter.unusedSimpArgs false

theorem y1a12 {α : Type} (l : List α) (i : Nat) (a : α) : l.toArray.setIfInBounds i a = (l.set i a).toArray := List.setIfInBounds_toArray l i a
theorem y2a12 {α : Type} {x : α} {xs : List α} {b : α} : (x :: xs).set 0 b = b :: xs := List.set_cons_zero
theorem y3a12 {α : Type} {x : α} {xs : List α} {n : Nat} {b : α} : (x :: xs).set (n + 1) b = x :: xs.set n b := List.set_cons_succ
theorem Aa12q {p : Prop} (h : p) : Aside0 p := Aside0.mk h
theorem Za121 {p : Prop} (h : p := by (try simp only [List.map_toArray, List.map_cons, List.map_nil]); first | done | rfl | (simp only [List.length_drop, List.length_take]; rfl)) : p := h
theorem Za122 {p : Prop} (h : p := by first | (with_reducible assumption) | assumption) : p := h
theorem Hb12 {p : Prop} (h : p := by repeat (first | (with_reducible first | exact HB.out | apply below_alloc | apply pw_below_drewN | apply below_drew1) | exact HB.out)) : p := h
theorem bb12 {w0 w w1 : World} {g : Nat} {o : Obj} (_ : Aside0 (w0.heap[g]? = some o)) (h : w.heap[g]? = some o) (hb : Below w.heap.size w w1) : Aside0 (w1.heap[g]? = some o) := Aa12q (blk_below h hb)
theorem nb12 {w0 w : World} {g q : Nat} {o : Obj} (_ : Aside0 (w0.heap[g]? = some o)) (h : w.heap[g]? = some o) (hg : q = w.heap.size) : Aside0 (g ≠ q) := Aa12q (by rw [hg]; exact Nat.ne_of_lt (blk_lt h))
theorem mb12 {w0 w : World} {g q : Nat} {o : Obj} (_ : Aside0 (w0.heap[g]? = some o)) (h : w.heap[g]? = some o) (hg : q = w.heap.size) : Aside0 (q ≠ g) := Aa12q (by rw [hg]; exact Nat.ne_of_gt (blk_lt h))
theorem sb12 {w w1 : World} {q : Nat} (h : Below w.heap.size w w1) (hg : q = w1.heap.size) : Aside0 (w.heap.size ≤ q) := Aa12q (by rw [hg]; exact below_size h)
theorem tb12 {w w1 w2 : World} (h : Below w.heap.size w w1) (hb : Below w1.heap.size w1 w2) : Aside0 (Below w.heap.size w w2) := Aa12q (below_step h hb)
/-! ### spec_CountWins: function 19 -/
mutual
def spec_CountWins.j0 : Nat → Int → Int → Int → Bool → Option (Int × Bool)
  | 0, _, _, _, _ => none
  | k + 1, x0, x1, x2, x25 => if x25 = true then (some (0, false)) else (if 0 ≤ (wrap64 (x1 + 1)) then (if (wrap64 (x1 + 1) : Int).toNat ≤ 35184372088832 then ((some (List.replicate (wrap64 (x1 + 1) : Int).toNat 0 : List Int)).bind fun y378 => (if 0 ≤ x0 then (if x0 < (y378.length : Int) then (spec_CountWins.l0 k x1 x2 (y378.set (x0 : Int).toNat 1)) else (none)) else (none))) else (none)) else (none))
def spec_CountWins.l0 : Nat → Int → Int → List Int → Option (Int × Bool)
  | 0, _, _, _ => none
  | k + 1, x1, x2, x8 => if x2 > 0 then (if 0 ≤ (wrap64 (x1 + 1)) then (if (wrap64 (x1 + 1) : Int).toNat ≤ 35184372088832 then (spec_CountWins.l1 k x1 x2 x8 (List.replicate (wrap64 (x1 + 1) : Int).toNat 0) 1) else (none)) else (none)) else (if 0 ≤ x1 then (if x1 < (x8.length : Int) then (some (rd x8 x1, true)) else (none)) else (none))
def spec_CountWins.l1 : Nat → Int → Int → List Int → List Int → Int → Option (Int × Bool)
  | 0, _, _, _, _, _ => none
  | k + 1, x1, x2, x8, x9, x10 => if x10 < x1 then (if 0 ≤ (wrap64 (x10 + 1)) then (if (wrap64 (x10 + 1)) < (x9.length : Int) then (if 0 ≤ x10 then (if x10 < (x8.length : Int) then ((some (x9.set ((wrap64 (x10 + 1)) : Int).toNat (wrap64 ((rd x9 (wrap64 (x10 + 1))) + (rd x8 x10))) : List Int)).bind fun y388 => (if 0 ≤ (wrap64 (x10 - 1)) then (if (wrap64 (x10 - 1)) < (x9.length : Int) then (spec_CountWins.l1 k x1 x2 x8 (y388.set ((wrap64 (x10 - 1)) : Int).toNat (wrap64 ((rd y388 (wrap64 (x10 - 1))) + (rd x8 x10)))) (wrap64 (x10 + 1))) else (none)) else (none))) else (none)) else (none)) else (none)) else (none)) else (spec_CountWins.l0 k x1 (wrap64 (x2 - 1)) x9)
end
def spec_CountWins.f (k : Nat) (a0 : Int) (a1 : Int) (a2 : Int) : Option (Int × Bool) := (spec_l1In.f a1 1 12).bind fun t375 => (if t375 = true then ((spec_l1In.f a0 1 (wrap64 (a1 - 1))).bind fun t376 => (if t376 = true then ((spec_l1In.f a2 0 18).bind fun t377 => (spec_CountWins.j0 k a0 a1 a2 (!t377))) else (spec_CountWins.j0 k a0 a1 a2 true))) else (spec_CountWins.j0 k a0 a1 a2 true))
theorem spec_CountWins.mono_l : ∀ k, (∀ y0 y1 y2 y3, LeO (spec_CountWins.j0 k y0 y1 y2 y3) (spec_CountWins.j0 (k + 1) y0 y1 y2 y3)) ∧ (∀ y0 y1 y2, LeO (spec_CountWins.l0 k y0 y1 y2) (spec_CountWins.l0 (k + 1) y0 y1 y2)) ∧ (∀ y0 y1 y2 y3 y4, LeO (spec_CountWins.l1 k y0 y1 y2 y3 y4) (spec_CountWins.l1 (k + 1) y0 y1 y2 y3 y4))
  | 0 => ⟨fun _ _ _ _ r h => by simp [spec_CountWins.j0] at h, fun _ _ _ r h => by simp [spec_CountWins.l0] at h, fun _ _ _ _ _ r h => by simp [spec_CountWins.l1] at h⟩
  | k + 1 => by
    obtain ⟨ih0, ih1, ih2⟩ := spec_CountWins.mono_l k
    refine ⟨?_, ?_, ?_⟩
    · intro y0 y1 y2 y3
      unfold spec_CountWins.j0
      repeat' first
      | (with_reducible exact ih0 _ _ _ _)
      | (with_reducible exact ih1 _ _ _)
      | (with_reducible exact ih2 _ _ _ _ _)
      | (with_reducible exact LeO.refl _)
      | (with_reducible exact LeO.none _)
      | (with_reducible refine LeO.ite ?_ ?_)
      | (with_reducible refine LeO.bind ?_ (fun _ => ?_))
      | exact ih0 _ _ _ _
      | exact ih1 _ _ _
      | exact ih2 _ _ _ _ _
      | exact LeO.none _
      | refine LeO.ite ?_ ?_
      | refine LeO.bind ?_ (fun _ => ?_)
    · intro y0 y1 y2
      unfold spec_CountWins.l0
      repeat' first
      | (with_reducible exact ih0 _ _ _ _)
      | (with_reducible exact ih1 _ _ _)
      | (with_reducible exact ih2 _ _ _ _ _)
      | (with_reducible exact LeO.refl _)
      | (with_reducible exact LeO.none _)
      | (with_reducible refine LeO.ite ?_ ?_)
      | (with_reducible refine LeO.bind ?_ (fun _ => ?_))
      | exact ih0 _ _ _ _
      | exact ih1 _ _ _
      | exact ih2 _ _ _ _ _
      | exact LeO.none _
      | refine LeO.ite ?_ ?_
      | refine LeO.bind ?_ (fun _ => ?_)
    · intro y0 y1 y2 y3 y4
      unfold spec_CountWins.l1
      repeat' first
      | (with_reducible exact ih0 _ _ _ _)
      | (with_reducible exact ih1 _ _ _)
      | (with_reducible exact ih2 _ _ _ _ _)
      | (with_reducible exact LeO.refl _)
      | (with_reducible exact LeO.none _)
      | (with_reducible refine LeO.ite ?_ ?_)
      | (with_reducible refine LeO.bind ?_ (fun _ => ?_))
      | exact ih0 _ _ _ _
      | exact ih1 _ _ _
      | exact ih2 _ _ _ _ _
      | exact LeO.none _
      | refine LeO.ite ?_ ?_
      | refine LeO.bind ?_ (fun _ => ?_)
theorem spec_CountWins.mono : ∀ a0 a1 a2 k, LeO (spec_CountWins.f k a0 a1 a2) (spec_CountWins.f (k + 1) a0 a1 a2) := by
  intro a0 a1 a2 k
  obtain ⟨ih0, ih1, ih2⟩ := spec_CountWins.mono_l k
  unfold spec_CountWins.f
  repeat' first
      | (with_reducible exact ih0 _ _ _ _)
      | (with_reducible exact ih1 _ _ _)
      | (with_reducible exact ih2 _ _ _ _ _)
      | (with_reducible exact LeO.refl _)
      | (with_reducible exact LeO.none _)
      | (with_reducible refine LeO.ite ?_ ?_)
      | (with_reducible refine LeO.bind ?_ (fun _ => ?_))
      | exact ih0 _ _ _ _
      | exact ih1 _ _ _
      | exact ih2 _ _ _ _ _
      | exact LeO.none _
      | refine LeO.ite ?_ ?_
      | refine LeO.bind ?_ (fun _ => ?_)
def spec_CountWins.T11 : Bool × List (List Nat × List Nat) := (true, [([], []), ([], []), ([1], [1]), ([0, 2], [0, 2]), ([3], [3]), ([], []), ([], []), ([5, 6], [5, 6]), ([7], [7]), ([4, 8], [4, 8]), ([0, 2, 0, 1, 2, 3, 4, 5, 6, 7, 8, 9], [0, 2]), ([10, 9, 0, 1, 2, 3, 4, 5, 6, 7, 8, 9], [9, 10])])
def spec_CountWins.B11 : List Nat := [0, 0, 2, 7, 15, 0, 0, 96, 224, 511, 1023, 2047]
theorem spec_CountWins.tab11 : rtab .any (opsOf Try.f19 11) = spec_CountWins.T11 := by kernel_rfl
theorem spec_CountWins.bits11 : waitsOk spec_CountWins.T11.2 spec_CountWins.B11 = true := by kernel_rfl
def spec_CountWins.T12 : Bool × List (List Nat × List Nat) := (true, [([], []), ([], []), ([1], [1]), ([0, 2], [0, 2]), ([3], [3]), ([], []), ([], []), ([5, 6], [5, 6]), ([7], [7]), ([4, 8], [4, 8]), ([0, 2, 0, 1, 2, 3, 4, 5, 6, 7, 8, 9], [0, 2]), ([10, 9, 0, 1, 2, 3, 4, 5, 6, 7, 8, 9], [9, 10])])
def spec_CountWins.B12 : List Nat := [0, 0, 2, 7, 15, 0, 0, 96, 224, 511, 1023, 2047]
theorem spec_CountWins.tab12 : rtab .any (opsOf Try.f19 12) = spec_CountWins.T12 := by kernel_rfl
theorem spec_CountWins.bits12 : waitsOk spec_CountWins.T12.2 spec_CountWins.B12 = true := by kernel_rfl
set_option maxHeartbeats 8000000 in
set_option maxRecDepth 100000 in
theorem spec_CountWins.calls (k : Nat) (a0 : Int) (a1 : Int) (a2 : Int) (r1 : Int) (r2 : Bool) (w : World) (h : spec_CountWins.f k a0 a1 a2 = some (r1, r2)) :
  Calls Try.prog 19 #[.int .i64 a0, .int .i64 a1, .int .i64 a2] w fun e w' => e = .returned (.tuple #[.int .i64 r1, .bool r2]) ∧ Below w.heap.size w w' := by
 have HB := Aa12q (Below.refl w.heap.size w)
 have H : ((spec_l1In.f a1 1 12).bind fun t375 => (if t375 = true then ((spec_l1In.f a0 1 (wrap64 (a1 - 1))).bind fun t376 => (if t376 = true then ((spec_l1In.f a2 0 18).bind fun t377 => (spec_CountWins.j0 k a0 a1 a2 (!t377))) else (spec_CountWins.j0 k a0 a1 a2 true))) else (spec_CountWins.j0 k a0 a1 a2 true))) = some (r1, r2) := h
 clear h
 have HC4 := Aa12q H
 clear H
 go_enter Try.func19, Try.ntmps19
 go_upto_region 1 with (fail)
 go_cut [25] (fun v25 wc => ∃ (kq : Nat) (x25_3 : Bool), v25 = .bool x25_3 ∧ Aside0 (spec_CountWins.j0 kq a0 a1 a2 x25_3 = some (r1, r2)) ∧ Aside0 (kq ≤ k) ∧ Aside0 (Below w.heap.size w wc))
 case first =>
  have H := HC4.out
  clear HC4
  replace H := Option.bind_eq_some_iff.mp H
  obtain ⟨t375, A50, H⟩ := H
  replace H : (if t375 = true then ((spec_l1In.f a0 1 (wrap64 (a1 - 1))).bind fun t376 => (if t376 = true then ((spec_l1In.f a2 0 18).bind fun t377 => (spec_CountWins.j0 k a0 a1 a2 (!t377))) else (spec_CountWins.j0 k a0 a1 a2 true))) else (spec_CountWins.j0 k a0 a1 a2 true)) = some (r1, r2) := H
  have A5 := Aa12q A50
  clear A50
  by_cases c6 : t375 = true
  rotate_left
  ·
   replace c6 := Bool.eq_false_iff.mpr c6
   subst c6
   have H1 : (spec_CountWins.j0 k a0 a1 a2 true) = some (r1, r2) := by rw [if_neg (show ¬ (false = true) by decide)] at H; exact H
   clear H
   have H := H1
   clear H1
   have H' := Aa12q H
   clear H
   go_wp2_with (first | ((with_reducible refine gate_callee (f := 33) rfl ?_); refine goesL_ (some 12) rfl rfl Try.func33 (by kernel_rfl) rfl #[.int .i64 a1, .int .i64 1, .int .i64 12] rfl Za121 ?_; (with_reducible refine (spec_l1In.calls a1 1 12 false _ A5.out).mono ?_); rintro e w' ⟨rfl, ⟨nd, rfl⟩⟩; refine ⟨_, rfl, ?_⟩))
   go_meet
   case rel => exact ⟨_, (true), (by first | rfl | (simp; done) | (simp [*]; done) | (simp only [i64_w]; done)), H', ⟨by first | omega | exact Nat.le_refl _⟩, ⟨Hb12⟩⟩
  subst c6
  have H1 : ((spec_l1In.f a0 1 (wrap64 (a1 - 1))).bind fun t376 => (if t376 = true then ((spec_l1In.f a2 0 18).bind fun t377 => (spec_CountWins.j0 k a0 a1 a2 (!t377))) else (spec_CountWins.j0 k a0 a1 a2 true))) = some (r1, r2) := by rw [if_pos rfl] at H; exact H
  clear H
  have H := H1
  clear H1
  replace H := Option.bind_eq_some_iff.mp H
  obtain ⟨t376, A70, H⟩ := H
  replace H : (if t376 = true then ((spec_l1In.f a2 0 18).bind fun t377 => (spec_CountWins.j0 k a0 a1 a2 (!t377))) else (spec_CountWins.j0 k a0 a1 a2 true)) = some (r1, r2) := H
  have A7 := Aa12q A70
  clear A70
  by_cases c8 : t376 = true
  rotate_left
  ·
   replace c8 := Bool.eq_false_iff.mpr c8
   subst c8
   have H1 : (spec_CountWins.j0 k a0 a1 a2 true) = some (r1, r2) := by rw [if_neg (show ¬ (false = true) by decide)] at H; exact H
   clear H
   have H := H1
   clear H1
   have H' := Aa12q H
   clear H
   go_wp2_with (first | ((with_reducible refine gate_callee (f := 33) rfl ?_); refine goesL_ (some 12) rfl rfl Try.func33 (by kernel_rfl) rfl #[.int .i64 a1, .int .i64 1, .int .i64 12] rfl Za121 ?_; (with_reducible refine (spec_l1In.calls a1 1 12 true _ A5.out).mono ?_); rintro e w' ⟨rfl, ⟨nd, rfl⟩⟩; refine ⟨_, rfl, ?_⟩) | (go_at_call 33; (with_reducible refine (spec_l1In.calls a0 1 (wrap64 (a1 - 1)) false _ A7.out).mono ?_); rintro e w' ⟨rfl, ⟨nd, rfl⟩⟩))
   go_meet
   case rel => exact ⟨_, (true), (by first | rfl | (simp; done) | (simp [*]; done) | (simp only [i64_w]; done)), H', ⟨by first | omega | exact Nat.le_refl _⟩, ⟨Hb12⟩⟩
  subst c8
  have H1 : ((spec_l1In.f a2 0 18).bind fun t377 => (spec_CountWins.j0 k a0 a1 a2 (!t377))) = some (r1, r2) := by rw [if_pos rfl] at H; exact H
  clear H
  have H := H1
  clear H1
  replace H := Option.bind_eq_some_iff.mp H
  obtain ⟨t377, A90, H⟩ := H
  replace H : (spec_CountWins.j0 k a0 a1 a2 (!t377)) = some (r1, r2) := H
  have A9 := Aa12q A90
  clear A90
  have H' := Aa12q H
  clear H
  go_wp2_with (first | ((with_reducible refine gate_callee (f := 33) rfl ?_); refine goesL_ (some 12) rfl rfl Try.func33 (by kernel_rfl) rfl #[.int .i64 a1, .int .i64 1, .int .i64 12] rfl Za121 ?_; (with_reducible refine (spec_l1In.calls a1 1 12 true _ A5.out).mono ?_); rintro e w' ⟨rfl, ⟨nd, rfl⟩⟩; refine ⟨_, rfl, ?_⟩) | (go_at_call 33; (with_reducible refine (spec_l1In.calls a0 1 (wrap64 (a1 - 1)) true _ A7.out).mono ?_); rintro e w' ⟨rfl, ⟨nd, rfl⟩⟩) | (go_at_call 33; (with_reducible refine (spec_l1In.calls a2 0 18 t377 _ A9.out).mono ?_); rintro e w' ⟨rfl, ⟨nd, rfl⟩⟩))
  go_meet
  case rel => exact ⟨_, (!t377), (by first | rfl | (simp; done) | (simp [*]; done) | (simp only [i64_w]; done)), H', ⟨by first | omega | exact Nat.le_refl _⟩, ⟨Hb12⟩⟩
 clear HC4
 try clear c1
 try clear p2
 try clear c3
 try clear c6
 try clear p6
 try clear c8
 obtain ⟨kq, x25_3, rfl, HA, HJ3, HB⟩ := hcut
 obtain _ | kj3 := kq
 · exact absurd HA.out (by simp [spec_CountWins.j0])
 have H := HA.out
 clear HA
 simp only [spec_CountWins.j0] at H
 by_cases c10 : x25_3 = true
 ·
  subst c10
  have H1 : (some (0, false)) = some (r1, r2) := by rw [if_pos rfl] at H; exact H
  clear H
  have H := H1
  clear H1
  simp only [Option.some.injEq, Prod.mk.injEq] at H
  obtain ⟨rfl, rfl⟩ := H
  go_wp2
  go_ret2
  exact ⟨by first | rfl | (simp [errW_none, errW_some] <;> rfl) | (simp [*, errW_none, errW_some] <;> rfl), Hb12⟩
 replace c10 := Bool.eq_false_iff.mpr c10
 subst c10
 have H1 : (if 0 ≤ (wrap64 (a1 + 1)) then (if (wrap64 (a1 + 1) : Int).toNat ≤ 35184372088832 then ((some (List.replicate (wrap64 (a1 + 1) : Int).toNat 0 : List Int)).bind fun y378 => (if 0 ≤ a0 then (if a0 < (y378.length : Int) then (spec_CountWins.l0 kj3 a1 a2 (y378.set (a0 : Int).toNat 1)) else (none)) else (none))) else (none)) else (none)) = some (r1, r2) := by rw [if_neg (show ¬ (false = true) by decide)] at H; exact H
 clear H
 have H := H1
 clear H1
 obtain ⟨ji11, hji11⟩ : ∃ j_ : Int, (wrap64 (a1 + 1)) = j_ := ⟨_, rfl⟩
 replace H : (if 0 ≤ (ji11) then (if (ji11 : Int).toNat ≤ 35184372088832 then ((some (List.replicate (ji11 : Int).toNat 0 : List Int)).bind fun y378 => (if 0 ≤ a0 then (if a0 < (y378.length : Int) then (spec_CountWins.l0 kj3 a1 a2 (y378.set (a0 : Int).toNat 1)) else (none)) else (none))) else (none)) else (none)) = some (r1, r2) := by first | (rw [hji11] at H; exact H) | (simp only [hji11] at H ⊢; exact H)
 have hji11w : (IntKind.i64.wrap (a1 + 1)) = ji11 := (i64_w _).trans hji11
 by_cases c12 : 0 ≤ (ji11)
 rotate_left
 ·
  rw [if_neg c12] at H
  exact absurd H (by simp)
 rw [if_pos c12] at H
 have c12b0 := eq_true c12
 have c12b1 : decide (0 ≤ (ji11)) = true := decide_eq_true c12
 clear c12
 by_cases c13 : (ji11 : Int).toNat ≤ 35184372088832
 rotate_left
 ·
  rw [if_neg c13] at H
  exact absurd H (by simp)
 rw [if_pos c13] at H
 have c13b0 := eq_true c13
 have c13b1 : decide ((ji11 : Int).toNat ≤ 35184372088832) = true := decide_eq_true c13
 clear c13
 obtain ⟨y378, hy378⟩ : ∃ y_ : List Int, y_ = (List.replicate (ji11 : Int).toNat 0) := ⟨_, rfl⟩
 replace H : (if 0 ≤ a0 then (if a0 < (y378.length : Int) then (spec_CountWins.l0 kj3 a1 a2 (y378.set (a0 : Int).toNat 1)) else (none)) else (none)) = some (r1, r2) := by first | (rw [hy378]; with_reducible exact H) | (have H2_ := (Option.bind_some _ _).symm.trans H; rw [hy378]; with_reducible exact H2_) | (have H2_ := (Option.bind_some _ _).symm.trans H; with_reducible exact H2_) | with_reducible exact H | (rw [hy378]; exact H) | exact H
 have Ny378 := Aa12q hy378
 clear hy378
 by_cases c14 : 0 ≤ a0
 rotate_left
 ·
  rw [if_neg c14] at H
  exact absurd H (by simp)
 rw [if_pos c14] at H
 have c14b0 : decide (0 ≤ a0) = true := decide_eq_true c14
 clear c14
 by_cases c15 : a0 < (y378.length : Int)
 rotate_left
 ·
  rw [if_neg c15] at H
  exact absurd H (by simp)
 rw [if_pos c15] at H
 have c15b0 : decide (a0 < (y378.length : Int)) = true := decide_eq_true c15
 clear c15
 obtain ⟨y381, hy381⟩ : ∃ y_ : List Int, y_ = (y378.set (a0 : Int).toNat 1) := ⟨_, rfl⟩
 replace H : (spec_CountWins.l0 kj3 a1 a2 y381) = some (r1, r2) := by first | (rw [hy381]; with_reducible exact H) | (have H2_ := (Option.bind_some _ _).symm.trans H; rw [hy381]; with_reducible exact H2_) | (have H2_ := (Option.bind_some _ _).symm.trans H; with_reducible exact H2_) | with_reducible exact H | (rw [hy381]; exact H) | exact H
 have Ny381 := Aa12q hy381
 clear hy381
 have H' := Aa12q H
 clear H
 go_wp2_with (first | ((with_reducible refine gate_dst (N := 28) rfl ?_); refine Kd.R_make (Kd.int .i64) _ 3 rfl (N := 28) rfl 42 _ _ rfl ji11 rfl rfl Try.underlying42 (.int .i64 0) 8 info3 rfl (by decide) (by omega) 0 (ok := fun _ => True) (okp := fun _ => True) rfl (fun _ hk => hk) trivial (of_decide_eq_true Za122) (Nat.le_trans (Nat.mul_le_mul_right _ (of_decide_eq_true Za122 : ji11.toNat ≤ 35184372088832)) (by omega)) (Below.refl _ _) (Nat.le_refl _) ?_; intro v379 w17 ho18 hb hg_ hnew_; clear hg_ hnew_; (first | rw [← Ny378.out] at ho18 | (simp only [Int.reduceToNat] at ho18; rw [← Ny378.out] at ho18)); have HO380 := Aa12q (Kd.R_lower ho18 (below_size Hb12)); replace HB := tb12 Hb12 hb; clear hb ho18; have p16 : 0 ≤ (a0 : Int) := of_decide_eq_true Za122; have q16 : (a0 : Int) < ((y378.length : Int) : Int) := of_decide_eq_true Za122; obtain ⟨go16, co16, eo16, g16, gl16, cl16, HG16⟩ := Kd.R_form HO380.out (by omega); (first | cases eo16 | (injection eo16 with ea_ en_ ec_; (first | subst ea_ | (injection ea_ with ea_; subst ea_)); subst ec_; clear en_)); have GB16 := Aa12q g16; have GG16 := Aa12q HG16; clear g16 gl16 HG16; obtain ⟨hx16_0, hf16_0⟩ := Kd.R_celln 0 HO380.out (a0 : Int) p16 q16; replace p16 := eq_true p16; replace q16 := eq_true q16; obtain ⟨hy19_, hz19_⟩ := Kd.R_celln 0 HO380.out (a0 : Int) (of_decide_eq_true Za122) (of_decide_eq_true Za122); have HP19 := Kd.R_putg HO380.out (a0 : Int) 1) | ((with_reducible refine gate_store (t := 3) (p := 31) rfl ?_); refine store_event (t := 3) (p := 31) (v := ?vo_w20) (w1 := (w17.setCell ⟨go16, (a0 : Int).toNat, none⟩ (.int .i64 1))) ?hg ?ho ?hn ?hr ?_; (case ho => rfl); (case hg => rfl); (case hn => rfl); (case hr => first | (go_simp; done) | (go_simp; rfl)); intro w20 hw; have hg : w17.grownBy w20 (some go16) := (by rw [hw]; exact HP19.2); have hp_ : Kd.R (Kd.int .i64) 3 w20 w.heap.size (fun _ => True) (.slice (some ⟨go16, 0, none⟩) y378.length co16) y381 := (by rw [hw, Ny381.out]; exact HP19.1); clear HP19; replace HO380 := Aa12q (hp_); replace HB := Aa12q ((by rw [hw]; exact below_set (HB.out) GB16.out : Below w.heap.size w w20)); clear hg hw hp_))
 go_loopg [2, 8] kj3 (fun kq v2 v8 w' => ∃ (x2_2 : Int) (x8_2 : List Int), v2 = .int .i64 x2_2 ∧ Aside0 (spec_CountWins.l0 kq a1 x2_2 x8_2 = some (r1, r2)) ∧ Aside0 (kq ≤ kj3) ∧ Aside0 (Kd.R (Kd.int .i64) 3 w' w.heap.size (fun _ => True) v8 x8_2) ∧ Aside0 (Below w.heap.size w w'))
 case atStart => exact ⟨(a2), (y381), (by first | rfl | (simp; done) | (simp [*]; done) | (simp only [i64_w]; done)), H', ⟨Nat.le_refl _⟩, ⟨by (with_reducible repeat (first | apply Kd.R_alloc | apply Kd.R_drewN | apply Kd.R_drew)); exact HO380.out⟩, ⟨Hb12⟩⟩
 clear H'
 try clear c1
 try clear p1
 try clear q1
 try clear hx1
 try clear p2
 try clear c3
 try clear c6
 try clear p6
 try clear c8
 try clear c10
 try clear c12
 try clear c12b0
 try clear c12b1
 try clear c13
 try clear c13b0
 try clear c13b1
 try clear c14
 try clear c14b0
 try clear c15
 try clear c15b0
 try clear p16
 try clear q16
 try clear hx16
 try clear hf16
 try clear c19
 try clear hx16_0
 try clear p16
 try clear p2
 try clear p6
 try clear q16
 obtain ⟨x2_2, x8_2, rfl, HA, HK2, HO_8, HB⟩ := hrel
 obtain _ | k2 := gk
 · exact absurd HA.out (by simp [spec_CountWins.l0])
 have H := HA.out
 clear HA
 simp only [spec_CountWins.l0] at H
 by_cases c21 : x2_2 > 0
 rotate_left
 ·
  rw [if_neg c21] at H
  have c21b0 : decide (0 < x2_2) = false := decide_eq_false c21
  clear c21
  by_cases c45 : 0 ≤ a1
  rotate_left
  ·
   rw [if_neg c45] at H
   exact absurd H (by simp)
  rw [if_pos c45] at H
  have c45b0 : decide (0 ≤ a1) = true := decide_eq_true c45
  clear c45
  by_cases c46 : a1 < (x8_2.length : Int)
  rotate_left
  ·
   rw [if_neg c46] at H
   exact absurd H (by simp)
  rw [if_pos c46] at H
  have c46b0 : decide (a1 < (x8_2.length : Int)) = true := decide_eq_true c46
  clear c46
  simp only [Option.some.injEq, Prod.mk.injEq] at H
  obtain ⟨rfl, rfl⟩ := H
  obtain ⟨Ao47, co47, eo47⟩ := Kd.R_slice HO_8.out
  subst eo47
  have p382 : 0 ≤ (a1 : Int) := of_decide_eq_true Za122
  have q382 : a1 < (x8_2.length : Int) := of_decide_eq_true Za122
  obtain ⟨ad382, e382, hx382_0⟩ := Kd.at_int (Kd.R_reads' HO_8.out).2.2 a1 p382 q382
  cases e382
  replace p382 := eq_true p382
  replace q382 := eq_true q382
  go_wp2
  go_ret2
  exact ⟨by first | rfl | (simp [errW_none, errW_some] <;> rfl) | (simp only [← hji11]; first | rfl | (simp [errW_none, errW_some] <;> rfl)) | (simp [*, errW_none, errW_some] <;> rfl), Hb12⟩
 rw [if_pos c21] at H
 have c21b0 : decide (0 < x2_2) = true := decide_eq_true c21
 clear c21
 try clear hji11w
 try clear hji11
 obtain ⟨ji22, hji22⟩ : ∃ j_ : Int, (wrap64 (a1 + 1)) = j_ := ⟨_, rfl⟩
 replace H : (if 0 ≤ (ji22) then (if (ji22 : Int).toNat ≤ 35184372088832 then (spec_CountWins.l1 k2 a1 x2_2 x8_2 (List.replicate (ji22 : Int).toNat 0) 1) else (none)) else (none)) = some (r1, r2) := by first | (rw [hji22] at H; exact H) | (simp only [hji22] at H ⊢; exact H)
 have hji22w : (IntKind.i64.wrap (a1 + 1)) = ji22 := (i64_w _).trans hji22
 by_cases c23 : 0 ≤ (ji22)
 rotate_left
 ·
  rw [if_neg c23] at H
  exact absurd H (by simp)
 rw [if_pos c23] at H
 have c23b0 := eq_true c23
 have c23b1 : decide (0 ≤ (ji22)) = true := decide_eq_true c23
 clear c23
 by_cases c24 : (ji22 : Int).toNat ≤ 35184372088832
 rotate_left
 ·
  rw [if_neg c24] at H
  exact absurd H (by simp)
 rw [if_pos c24] at H
 have c24b0 := eq_true c24
 have c24b1 : decide ((ji22 : Int).toNat ≤ 35184372088832) = true := decide_eq_true c24
 clear c24
 obtain ⟨y383, hy383⟩ : ∃ y_ : List Int, y_ = (List.replicate (ji22 : Int).toNat 0) := ⟨_, rfl⟩
 replace H : (spec_CountWins.l1 k2 a1 x2_2 x8_2 y383 1) = some (r1, r2) := by first | (rw [hy383]; with_reducible exact H) | (have H2_ := (Option.bind_some _ _).symm.trans H; rw [hy383]; with_reducible exact H2_) | (have H2_ := (Option.bind_some _ _).symm.trans H; with_reducible exact H2_) | with_reducible exact H | (rw [hy383]; exact H) | exact H
 have Ny383 := Aa12q hy383
 clear hy383
 have H' := Aa12q H
 clear H
 go_wp2_with (first | ((with_reducible refine gate_dst (N := 38) rfl ?_); refine Kd.R_make (Kd.int .i64) _ 3 rfl (N := 38) rfl 42 _ _ rfl ji22 rfl rfl Try.underlying42 (.int .i64 0) 8 info3 rfl (by decide) (by omega) 0 (ok := fun _ => True) (okp := fun _ => True) rfl (fun _ hk => hk) trivial (of_decide_eq_true Za122) (Nat.le_trans (Nat.mul_le_mul_right _ (of_decide_eq_true Za122 : ji22.toNat ≤ 35184372088832)) (by omega)) (Below.refl _ _) (Nat.le_refl _) ?_; intro v384 w25 ho26 hb hg_ hnew_; clear hg_ hnew_; (first | rw [← Ny383.out] at ho26 | (simp only [Int.reduceToNat] at ho26; rw [← Ny383.out] at ho26)); have HO385 := Aa12q (Kd.R_lower (Kd.R_new' ho26 (Kd.R_lt (by (with_reducible repeat (first | apply Kd.R_alloc | apply Kd.R_drewN | apply Kd.R_drew)); exact HO_8.out))) (below_size Hb12)); replace HO_8 := Aa12q (Kd.R_elder' (by (with_reducible repeat (first | apply Kd.R_alloc | apply Kd.R_drewN | apply Kd.R_drew)); exact HO_8.out) (Kd.R_base ho26) hb); replace HB := tb12 Hb12 hb; clear hb ho26))
 go_loopg [10] k2 (fun kq v10 w' => ∃ (x9_3 : List Int) (x10_3 : Int), v10 = .int .i64 x10_3 ∧ Aside0 (spec_CountWins.l1 kq a1 x2_2 x8_2 x9_3 x10_3 = some (r1, r2)) ∧ Aside0 (kq ≤ k2) ∧ Aside0 (Kd.R (Kd.int .i64) 3 w' w.heap.size (fun k_ => some k_ ≠ (v384 : Value).ownBlock) u8 x8_2) ∧ Aside0 (Kd.R (Kd.int .i64) 3 w' w.heap.size (fun k_ => some k_ ≠ (u8 : Value).ownBlock) v384 x9_3) ∧ Aside0 (Below w.heap.size w w'))
 case atStart => exact ⟨(y383), (1), (by first | rfl | (simp; done) | (simp [*]; done) | (simp only [i64_w]; done)), H', ⟨Nat.le_refl _⟩, ⟨by (with_reducible repeat (first | apply Kd.R_alloc | apply Kd.R_drewN | apply Kd.R_drew)); exact Kd.R_mono HO_8.out (fun _ hk => hk.2)⟩, ⟨by (with_reducible repeat (first | apply Kd.R_alloc | apply Kd.R_drewN | apply Kd.R_drew)); exact Kd.R_mono HO385.out (fun _ hk => hk.2)⟩, ⟨Hb12⟩⟩
 clear H'
 try clear c1
 try clear p1
 try clear q1
 try clear hx1
 try clear c2
 try clear p2
 try clear c3
 try clear c6
 try clear p6
 try clear c8
 try clear c10
 try clear c12
 try clear c12b0
 try clear c12b1
 try clear c13
 try clear c13b0
 try clear c13b1
 try clear c14
 try clear c14b0
 try clear c15
 try clear c15b0
 try clear p16
 try clear q16
 try clear hx16
 try clear hf16
 try clear c19
 try clear c21
 try clear c21b0
 try clear c23
 try clear c23b0
 try clear c23b1
 try clear c24
 try clear c24b0
 try clear c24b1
 try clear hx16_0
 try clear p1
 try clear p16
 try clear p2
 try clear p6
 try clear q1
 try clear q16
 obtain ⟨x9_3, x10_3, rfl, HA, HK3, HO_8, HO_9, HB⟩ := hrel
 obtain _ | k3 := gk
 · exact absurd HA.out (by simp [spec_CountWins.l1])
 have H := HA.out
 clear HA
 simp only [spec_CountWins.l1] at H
 by_cases c27 : x10_3 < a1
 rotate_left
 ·
  rw [if_neg c27] at H
  have c27b0 : decide (x10_3 < a1) = false := decide_eq_false c27
  clear c27
  have H' := Aa12q H
  clear H
  go_wp2
  go_roundg k3
  case measure => have := HJ3.out; have := HK2.out; have := HK3.out; omega
  case rel => exact ⟨(wrap64 (x2_2 - 1)), (x9_3), (by first | rfl | (simp; done) | (simp [*]; done) | (simp only [i64_w]; done)), H', ⟨by have := HJ3.out; have := HK2.out; have := HK3.out; omega⟩, ⟨by (with_reducible repeat (first | apply Kd.R_alloc | apply Kd.R_drewN | apply Kd.R_drew)); exact Kd.R_mono HO_9.out (fun _ hk => trivial)⟩, ⟨Hb12⟩⟩
 rw [if_pos c27] at H
 have c27b0 : decide (x10_3 < a1) = true := decide_eq_true c27
 clear c27
 obtain ⟨ji28, hji28⟩ : ∃ j_ : Int, (wrap64 (x10_3 + 1)) = j_ := ⟨_, rfl⟩
 replace H : (if 0 ≤ (ji28) then (if (ji28) < (x9_3.length : Int) then (if 0 ≤ x10_3 then (if x10_3 < (x8_2.length : Int) then ((some (x9_3.set ((ji28) : Int).toNat (wrap64 ((rd x9_3 (ji28)) + (rd x8_2 x10_3))) : List Int)).bind fun y388 => (if 0 ≤ (wrap64 (x10_3 - 1)) then (if (wrap64 (x10_3 - 1)) < (x9_3.length : Int) then (spec_CountWins.l1 k3 a1 x2_2 x8_2 (y388.set ((wrap64 (x10_3 - 1)) : Int).toNat (wrap64 ((rd y388 (wrap64 (x10_3 - 1))) + (rd x8_2 x10_3)))) ji28) else (none)) else (none))) else (none)) else (none)) else (none)) else (none)) = some (r1, r2) := by first | (rw [hji28] at H; exact H) | (simp only [hji28] at H ⊢; exact H)
 have hji28w : (IntKind.i64.wrap (x10_3 + 1)) = ji28 := (i64_w _).trans hji28
 by_cases c29 : 0 ≤ (ji28)
 rotate_left
 ·
  rw [if_neg c29] at H
  exact absurd H (by simp)
 rw [if_pos c29] at H
 have c29b0 : decide (0 ≤ (ji28)) = true := decide_eq_true c29
 clear c29
 by_cases c30 : (ji28) < (x9_3.length : Int)
 rotate_left
 ·
  rw [if_neg c30] at H
  exact absurd H (by simp)
 rw [if_pos c30] at H
 have c30b0 : decide ((ji28) < (x9_3.length : Int)) = true := decide_eq_true c30
 clear c30
 by_cases c31 : 0 ≤ x10_3
 rotate_left
 ·
  rw [if_neg c31] at H
  exact absurd H (by simp)
 rw [if_pos c31] at H
 have c31b0 : decide (0 ≤ x10_3) = true := decide_eq_true c31
 clear c31
 by_cases c32 : x10_3 < (x8_2.length : Int)
 rotate_left
 ·
  rw [if_neg c32] at H
  exact absurd H (by simp)
 rw [if_pos c32] at H
 have c32b0 : decide (x10_3 < (x8_2.length : Int)) = true := decide_eq_true c32
 clear c32
 obtain ⟨y388, hy388⟩ : ∃ y_ : List Int, y_ = (x9_3.set ((ji28) : Int).toNat (wrap64 ((rd x9_3 (ji28)) + (rd x8_2 x10_3)))) := ⟨_, rfl⟩
 replace H : (if 0 ≤ (wrap64 (x10_3 - 1)) then (if (wrap64 (x10_3 - 1)) < (x9_3.length : Int) then (spec_CountWins.l1 k3 a1 x2_2 x8_2 (y388.set ((wrap64 (x10_3 - 1)) : Int).toNat (wrap64 ((rd y388 (wrap64 (x10_3 - 1))) + (rd x8_2 x10_3)))) ji28) else (none)) else (none)) = some (r1, r2) := by first | (rw [hy388]; with_reducible exact H) | (have H2_ := (Option.bind_some _ _).symm.trans H; rw [hy388]; with_reducible exact H2_) | (have H2_ := (Option.bind_some _ _).symm.trans H; with_reducible exact H2_) | with_reducible exact H | (rw [hy388]; exact H) | exact H
 have Ny388 := Aa12q hy388
 clear hy388
 obtain ⟨ji34, hji34⟩ : ∃ j_ : Int, (wrap64 (x10_3 - 1)) = j_ := ⟨_, rfl⟩
 replace H : (if 0 ≤ (ji34) then (if (ji34) < (x9_3.length : Int) then (spec_CountWins.l1 k3 a1 x2_2 x8_2 (y388.set ((ji34) : Int).toNat (wrap64 ((rd y388 (ji34)) + (rd x8_2 x10_3)))) ji28) else (none)) else (none)) = some (r1, r2) := by first | (rw [hji34] at H; exact H) | (simp only [hji34] at H ⊢; exact H)
 have hji34w : (IntKind.i64.wrap (x10_3 - 1)) = ji34 := (i64_w _).trans hji34
 by_cases c35 : 0 ≤ (ji34)
 rotate_left
 ·
  rw [if_neg c35] at H
  exact absurd H (by simp)
 rw [if_pos c35] at H
 have c35b0 : decide (0 ≤ (ji34)) = true := decide_eq_true c35
 clear c35
 by_cases c36 : (ji34) < (x9_3.length : Int)
 rotate_left
 ·
  rw [if_neg c36] at H
  exact absurd H (by simp)
 rw [if_pos c36] at H
 have c36b0 : decide ((ji34) < (x9_3.length : Int)) = true := decide_eq_true c36
 clear c36
 obtain ⟨y391, hy391⟩ : ∃ y_ : List Int, y_ = (y388.set ((ji34) : Int).toNat (wrap64 ((rd y388 (ji34)) + (rd x8_2 x10_3)))) := ⟨_, rfl⟩
 replace H : (spec_CountWins.l1 k3 a1 x2_2 x8_2 y391 ji28) = some (r1, r2) := by first | (rw [hy391]; with_reducible exact H) | (have H2_ := (Option.bind_some _ _).symm.trans H; rw [hy391]; with_reducible exact H2_) | (have H2_ := (Option.bind_some _ _).symm.trans H; with_reducible exact H2_) | with_reducible exact H | (rw [hy391]; exact H) | exact H
 have Ny391 := Aa12q hy391
 clear hy391
 have H' := Aa12q H
 clear H
 try go_wp2
 replace HO_8 := Aa12q (Kd.R_drew HO_8.out)
 replace HO_9 := Aa12q (Kd.R_drew HO_9.out)
 replace HB := Aa12q (below_drew1 HB.out)
 obtain ⟨Ao39, co39, eo39⟩ := Kd.R_slice HO_9.out
 (first | subst eo39 | (injection eo39 with f1_ f2_ f3_; have f4_ := f1_.symm; have f5_ := f3_.symm; clear f1_ f2_ f3_; subst f4_; subst f5_))
 have p386 : 0 ≤ ((ji28) : Int) := of_decide_eq_true Za122
 have q386 : (ji28) < (x9_3.length : Int) := of_decide_eq_true Za122
 obtain ⟨ad386, e386, hx386_0⟩ := Kd.at_int (Kd.R_reads' HO_9.out).2.2 (ji28) p386 q386
 cases e386
 replace p386 := eq_true p386
 replace q386 := eq_true q386
 obtain ⟨Ao40, co40, eo40⟩ := Kd.R_slice HO_8.out
 (first | subst eo40 | (injection eo40 with f1_ f2_ f3_; have f4_ := f1_.symm; have f5_ := f3_.symm; clear f1_ f2_ f3_; subst f4_; subst f5_))
 have p387 : 0 ≤ (x10_3 : Int) := of_decide_eq_true Za122
 have q387 : x10_3 < (x8_2.length : Int) := of_decide_eq_true Za122
 obtain ⟨ad387, e387, hx387_0⟩ := Kd.at_int (Kd.R_reads' HO_8.out).2.2 x10_3 p387 q387
 cases e387
 replace p387 := eq_true p387
 replace q387 := eq_true q387
 have p33 : 0 ≤ ((ji28) : Int) := of_decide_eq_true Za122
 have q33 : ((ji28) : Int) < ((x9_3.length : Int) : Int) := of_decide_eq_true Za122
 obtain ⟨go33, co33, eo33, g33, gl33, cl33, HG33⟩ := Kd.R_form HO_9.out (by omega)
 (first | cases eo33 | (injection eo33 with ea_ en_ ec_; (first | subst ea_ | (injection ea_ with ea_; subst ea_)); subst ec_; clear en_))
 have GB33 := Aa12q g33
 have GG33 := Aa12q HG33
 clear g33 gl33 HG33
 (first | simp only [add_plain] at hx386_0 | skip)
 obtain ⟨hx33_0, hf33_0⟩ := Kd.R_celln 0 HO_9.out ((ji28) : Int) p33 q33
 replace p33 := eq_true p33
 replace q33 := eq_true q33
 have HP41 := Kd.R_putn HO_9.out ((ji28) : Int) (wrap64 ((rd x9_3 (ji28)) + (rd x8_2 x10_3)))
 rw [← Ny388.out] at HP41
 have HQ41 := Aa12q HP41
 clear HP41
 refine start_ (n := 12) (S := fun w' => w'.cell? ⟨go33, ((ji28)).toNat, none⟩ = some (.int .i64 (rd x9_3 (ji28))) ∧ w'.cell? (ad387.add (x10_3).toNat) = some (.int .i64 (rd x8_2 x10_3))) (ds := [11]) #[false, false, false, false, false, false, false, false, false, false, false, false] (by kernel_rfl) rfl rfl ⟨hx386_0, hx387_0⟩ (fun hHeld => ?_); refine with_tabW spec_CountWins.tab11 spec_CountWins.bits11 (fun HT_ HW_ => ?_)
 generalize wr.drew = w38 at HO_8 HO_9 HB GG33 HQ41 hf33_0 hx33_0 hx386_0 hx387_0 hHeld ⊢
 refine pure_ (i := 0) (N := some 44) (v := ?_) (a' := ?_) #[true, false, false, false, false, false, false, false, false, false, false, false] rfl rfl (any_of HT_.out (by kernel_rfl)) (fun _ _ _ h => h) (Or.inl ⟨by rfl, ?_⟩) ?_ ?_
 rotate_left
 ·
  intro w'
  go_simp
  with_reducible rfl
 rotate_left
 ·
  simp only [Act.put, y1a12, y2a12, y3a12, i64_w, i32_w]
  rfl
 refine pure_ (i := 1) (N := some 45) (v := ?_) (a' := ?_) #[true, true, false, false, false, false, false, false, false, false, false, false] rfl rfl (any_of HT_.out (by kernel_rfl)) (fun _ _ _ h => h) (Or.inl ⟨by rfl, ?_⟩) ?_ ?_
 rotate_left
 ·
  intro w'
  go_simp
  with_reducible rfl
 rotate_left
 ·
  simp only [Act.put, y1a12, y2a12, y3a12, i64_w, i32_w]
  rfl
 refine pure_ (i := 2) (N := some 46) (v := ?_) (a' := ?_) #[true, true, true, false, false, false, false, false, false, false, false, false] rfl rfl (any_of HT_.out (by kernel_rfl)) (fun _ _ _ h => h) (Or.inl ⟨by rfl, ?_⟩) ?_ ?_
 rotate_left
 ·
  intro w'
  go_simp
  with_reducible rfl
 rotate_left
 ·
  simp only [Act.put, y1a12, y2a12, y3a12, i64_w, i32_w]
  rfl
 refine pure_ (i := 3) (N := some 47) (v := ?_) (a' := ?_) #[true, true, true, true, false, false, false, false, false, false, false, false] rfl rfl (any_of HT_.out (by kernel_rfl)) (fun _ _ _ h => h) (Or.inl ⟨by rfl, ?_⟩) ?_ ?_
 rotate_left
 ·
  intro w'
  go_simp
  with_reducible rfl
 rotate_left
 ·
  simp only [Act.put, y1a12, y2a12, y3a12, i64_w, i32_w]
  rfl
 refine pure_ (i := 5) (N := some 49) (v := ?_) (a' := ?_) #[true, true, true, true, false, true, false, false, false, false, false, false] rfl rfl (any_of HT_.out (by kernel_rfl)) (fun _ _ _ h => h) (Or.inl ⟨by rfl, ?_⟩) ?_ ?_
 rotate_left
 ·
  intro w'
  go_simp
  with_reducible rfl
 rotate_left
 ·
  simp only [Act.put, y1a12, y2a12, y3a12, i64_w, i32_w]
  rfl
 refine pure_ (i := 6) (N := some 50) (v := ?_) (a' := ?_) #[true, true, true, true, false, true, true, false, false, false, false, false] rfl rfl (any_of HT_.out (by kernel_rfl)) (fun _ _ _ h => h) (Or.inl ⟨by rfl, ?_⟩) ?_ ?_
 rotate_left
 ·
  intro w'
  go_simp
  with_reducible rfl
 rotate_left
 ·
  simp only [Act.put, y1a12, y2a12, y3a12, i64_w, i32_w]
  rfl
 refine pure_ (i := 7) (N := some 51) (v := ?_) (a' := ?_) #[true, true, true, true, false, true, true, true, false, false, false, false] rfl rfl (any_of HT_.out (by kernel_rfl)) (fun _ _ _ h => h) (Or.inl ⟨by rfl, ?_⟩) ?_ ?_
 rotate_left
 ·
  intro w'
  go_simp
  with_reducible rfl
 rotate_left
 ·
  simp only [Act.put, y1a12, y2a12, y3a12, i64_w, i32_w]
  rfl
 refine take_ (i := 4) (N := some 48) (v := ?_) (a' := ?_) #[true, true, true, true, true, true, true, true, false, false, false, false] rfl rfl (take_ofW HT_.out HW_.out (by kernel_rfl)) (fun _ _ _ h => h) (Or.inl ⟨by rfl, ?_⟩) hHeld ?_ ?_
 rotate_left
 ·
  rintro w' ⟨s0, s1⟩
  go_simp
  with_reducible rfl
 rotate_left
 ·
  simp only [Act.put, y1a12, y2a12, y3a12, i64_w, i32_w]
  rfl
 refine take_ (i := 8) (N := some 52) (v := ?_) (a' := ?_) #[true, true, true, true, true, true, true, true, true, false, false, false] rfl rfl (take_ofW HT_.out HW_.out (by kernel_rfl)) (fun _ _ _ h => h) (Or.inl ⟨by rfl, ?_⟩) hHeld ?_ ?_
 rotate_left
 ·
  rintro w' ⟨s0, s1⟩
  go_simp
  with_reducible rfl
 rotate_left
 ·
  simp only [Act.put, y1a12, y2a12, y3a12, i64_w, i32_w]
  rfl
 refine pure_ (i := 9) (N := some 53) (v := ?_) (a' := ?_) #[true, true, true, true, true, true, true, true, true, true, false, false] rfl rfl (any_of HT_.out (by kernel_rfl)) (fun _ _ _ h => h) (Or.inl ⟨by rfl, ?_⟩) ?_ ?_
 rotate_left
 ·
  intro w'
  go_simp
  with_reducible rfl
 rotate_left
 ·
  simp only [Act.put, y1a12, y2a12, y3a12, i64_w, i32_w]
  rfl
 refine pure_ (i := 10) (N := some 54) (v := ?_) (a' := ?_) #[true, true, true, true, true, true, true, true, true, true, true, false] rfl rfl (any_of HT_.out (by kernel_rfl)) (fun _ _ _ h => h) (Or.inl ⟨by rfl, ?_⟩) ?_ ?_
 rotate_left
 ·
  intro w'
  go_simp
  with_reducible rfl
 rotate_left
 ·
  simp only [Act.put, y1a12, y2a12, y3a12, i64_w, i32_w]
  rfl
 refine last_ (i := 11) (N := none) #[true, true, true, true, true, true, true, true, true, true, true, true] rfl rfl (one_of HT_.out (by kernel_rfl)) (by decide) (fun K hK => ?_)
 refine skip_ (w1 := ?_) (by rfl) rfl ?_ ?_
 rotate_left
 ·
  go_simp
  rfl
 refine hK.out _ _ ?_
 clear hK K
 refine done_ (done_of HT_.out (by kernel_rfl)) ?_
 try go_wp2
 have n0_ : Aside0 (Kd.R (Kd.int .i64) 3 (w38.setCell ⟨go33, ((ji28) : Int).toNat, none⟩ (.int .i64 (wrap64 ((rd x9_3 (ji28)) + (rd x8_2 x10_3))))) w.heap.size (fun k_ => some k_ ≠ (.slice (some ⟨go33, 0, none⟩) x9_3.length co39 : Value).ownBlock) (.slice (some ad387) x8_2.length co40) x8_2) := ⟨by (with_reducible repeat (first | apply Kd.R_alloc | apply Kd.R_drewN | apply Kd.R_drew)); exact Kd.R_mono (Kd.R_far (p := ⟨go33, ((ji28) : Int).toNat, none⟩) (Kd.R_mono HO_8.out (fun k_ hk => (⟨hk, fun e_ => hk (by rw [e_]; rfl)⟩ : _ ∧ k_ ≠ go33))) (fun _ hk => hk.2) (.int .i64 (wrap64 ((rd x9_3 (ji28)) + (rd x8_2 x10_3))))) (fun _ hk => hk.1)⟩
 have n1_ : Aside0 (Kd.R (Kd.int .i64) 3 (w38.setCell ⟨go33, ((ji28) : Int).toNat, none⟩ (.int .i64 (wrap64 ((rd x9_3 (ji28)) + (rd x8_2 x10_3))))) w.heap.size (fun k_ => some k_ ≠ (.slice (some ad387) x8_2.length co40 : Value).ownBlock) (.slice (some ⟨go33, 0, none⟩) x9_3.length co39) y388) := ⟨by (with_reducible repeat (first | apply Kd.R_alloc | apply Kd.R_drewN | apply Kd.R_drew)); exact HQ41.out⟩
 have n2_ : Aside0 (Below w.heap.size w (w38.setCell ⟨go33, ((ji28) : Int).toNat, none⟩ (.int .i64 (wrap64 ((rd x9_3 (ji28)) + (rd x8_2 x10_3)))))) := ⟨by repeat (first | (with_reducible first | exact HB.out | apply below_alloc | apply pw_below_drewN | apply below_drew1 | refine below_set ?_ GB33.out) | exact HB.out)⟩
 (try clear HO_8)
 (try clear HO_9)
 (try clear HB)
 generalize (w38.setCell ⟨go33, ((ji28) : Int).toNat, none⟩ (.int .i64 (wrap64 ((rd x9_3 (ji28)) + (rd x8_2 x10_3))))) = w42 at n0_ n1_ n2_ ⊢
 have HO_8 := n0_
 have HO_9 := n1_
 have HB := n2_
 clear n0_ n1_ n2_
 replace HO_8 := Aa12q (Kd.R_drew HO_8.out)
 replace HO_9 := Aa12q (Kd.R_drew HO_9.out)
 replace HB := Aa12q (below_drew1 HB.out)
 have p389 : 0 ≤ ((ji34) : Int) := of_decide_eq_true Za122
 have q389 : (ji34) < (y388.length : Int) := (by have h_ : ((ji34) : Int) < ((x9_3.length : Int) : Int) := of_decide_eq_true Za122; first | (have e_ := (Kd.R_reads' HO_9.out).1; omega) | simpa only [Ny388.out, List.length_set] using h_)
 have ql389 : (((ji34) : Int) < ((x9_3.length : Int) : Int)) = True := eq_true (of_decide_eq_true Za122)
 obtain ⟨ad389, e389, hx389_0⟩ := Kd.at_int (Kd.R_reads' HO_9.out).2.2 (ji34) p389 q389
 obtain rfl : (⟨go33, 0, none⟩ : Addr) = ad389 := (by injection e389)
 (first | simp only [add_plain] at hx389_0 | simp only [add_at] at hx389_0 | simp only [Addr.add, Nat.zero_add] at hx389_0 | skip)
 replace p389 := eq_true p389
 replace q389 := eq_true q389
 have p390 : 0 ≤ (x10_3 : Int) := of_decide_eq_true Za122
 have q390 : x10_3 < (x8_2.length : Int) := of_decide_eq_true Za122
 obtain ⟨ad390, e390, hx390_0⟩ := Kd.at_int (Kd.R_reads' HO_8.out).2.2 x10_3 p390 q390
 obtain rfl : ad387 = ad390 := (by injection e390)
 replace p390 := eq_true p390
 replace q390 := eq_true q390
 have p37 : 0 ≤ ((ji34) : Int) := of_decide_eq_true Za122
 have q37 : ((ji34) : Int) < ((x9_3.length : Int) : Int) := of_decide_eq_true Za122
 obtain ⟨hx37_0, hf37_0⟩ := Kd.R_celln 0 HO_9.out ((ji34) : Int) p37 q37
 replace p37 := eq_true p37
 replace q37 := eq_true q37
 have HP44 := Kd.R_putn HO_9.out ((ji34) : Int) (wrap64 ((rd y388 (ji34)) + (rd x8_2 x10_3)))
 rw [← Ny391.out] at HP44
 have HQ44 := Aa12q HP44
 clear HP44
 refine start_ (n := 12) (S := fun w' => w'.cell? ⟨go33, ((ji34)).toNat, none⟩ = some (.int .i64 (rd y388 (ji34))) ∧ w'.cell? (ad387.add (x10_3).toNat) = some (.int .i64 (rd x8_2 x10_3))) (ds := [11]) #[false, false, false, false, false, false, false, false, false, false, false, false] (by kernel_rfl) rfl rfl ⟨hx389_0, hx390_0⟩ (fun hHeld => ?_); refine with_tabW spec_CountWins.tab12 spec_CountWins.bits12 (fun HT_ HW_ => ?_)
 generalize w42.drew = w43 at HO_8 HO_9 HB HQ41 HQ44 hf37_0 hx37_0 hx389_0 hx390_0 hHeld ⊢
 refine pure_ (i := 0) (N := some 55) (v := ?_) (a' := ?_) #[true, false, false, false, false, false, false, false, false, false, false, false] rfl rfl (any_of HT_.out (by kernel_rfl)) (fun _ _ _ h => h) (Or.inl ⟨by rfl, ?_⟩) ?_ ?_
 rotate_left
 ·
  intro w'
  go_simp
  with_reducible rfl
 rotate_left
 ·
  simp only [Act.put, y1a12, y2a12, y3a12, i64_w, i32_w]
  rfl
 refine pure_ (i := 1) (N := some 56) (v := ?_) (a' := ?_) #[true, true, false, false, false, false, false, false, false, false, false, false] rfl rfl (any_of HT_.out (by kernel_rfl)) (fun _ _ _ h => h) (Or.inl ⟨by rfl, ?_⟩) ?_ ?_
 rotate_left
 ·
  intro w'
  go_simp
  with_reducible rfl
 rotate_left
 ·
  simp only [Act.put, y1a12, y2a12, y3a12, i64_w, i32_w]
  rfl
 refine pure_ (i := 2) (N := some 57) (v := ?_) (a' := ?_) #[true, true, true, false, false, false, false, false, false, false, false, false] rfl rfl (any_of HT_.out (by kernel_rfl)) (fun _ _ _ h => h) (Or.inl ⟨by rfl, ?_⟩) ?_ ?_
 rotate_left
 ·
  intro w'
  go_simp
  with_reducible rfl
 rotate_left
 ·
  simp only [Act.put, y1a12, y2a12, y3a12, i64_w, i32_w]
  rfl
 refine pure_ (i := 3) (N := some 58) (v := ?_) (a' := ?_) #[true, true, true, true, false, false, false, false, false, false, false, false] rfl rfl (any_of HT_.out (by kernel_rfl)) (fun _ _ _ h => h) (Or.inl ⟨by rfl, ?_⟩) ?_ ?_
 rotate_left
 ·
  intro w'
  go_simp
  with_reducible rfl
 rotate_left
 ·
  simp only [Act.put, y1a12, y2a12, y3a12, i64_w, i32_w]
  rfl
 refine pure_ (i := 5) (N := some 60) (v := ?_) (a' := ?_) #[true, true, true, true, false, true, false, false, false, false, false, false] rfl rfl (any_of HT_.out (by kernel_rfl)) (fun _ _ _ h => h) (Or.inl ⟨by rfl, ?_⟩) ?_ ?_
 rotate_left
 ·
  intro w'
  go_simp
  with_reducible rfl
 rotate_left
 ·
  simp only [Act.put, y1a12, y2a12, y3a12, i64_w, i32_w]
  rfl
 refine pure_ (i := 6) (N := some 61) (v := ?_) (a' := ?_) #[true, true, true, true, false, true, true, false, false, false, false, false] rfl rfl (any_of HT_.out (by kernel_rfl)) (fun _ _ _ h => h) (Or.inl ⟨by rfl, ?_⟩) ?_ ?_
 rotate_left
 ·
  intro w'
  go_simp
  with_reducible rfl
 rotate_left
 ·
  simp only [Act.put, y1a12, y2a12, y3a12, i64_w, i32_w]
  rfl
 refine pure_ (i := 7) (N := some 62) (v := ?_) (a' := ?_) #[true, true, true, true, false, true, true, true, false, false, false, false] rfl rfl (any_of HT_.out (by kernel_rfl)) (fun _ _ _ h => h) (Or.inl ⟨by rfl, ?_⟩) ?_ ?_
 rotate_left
 ·
  intro w'
  go_simp
  with_reducible rfl
 rotate_left
 ·
  simp only [Act.put, y1a12, y2a12, y3a12, i64_w, i32_w]
  rfl
 refine take_ (i := 4) (N := some 59) (v := ?_) (a' := ?_) #[true, true, true, true, true, true, true, true, false, false, false, false] rfl rfl (take_ofW HT_.out HW_.out (by kernel_rfl)) (fun _ _ _ h => h) (Or.inl ⟨by rfl, ?_⟩) hHeld ?_ ?_
 rotate_left
 ·
  rintro w' ⟨s0, s1⟩
  go_simp
  with_reducible rfl
 rotate_left
 ·
  simp only [Act.put, y1a12, y2a12, y3a12, i64_w, i32_w]
  rfl
 refine take_ (i := 8) (N := some 63) (v := ?_) (a' := ?_) #[true, true, true, true, true, true, true, true, true, false, false, false] rfl rfl (take_ofW HT_.out HW_.out (by kernel_rfl)) (fun _ _ _ h => h) (Or.inl ⟨by rfl, ?_⟩) hHeld ?_ ?_
 rotate_left
 ·
  rintro w' ⟨s0, s1⟩
  go_simp
  with_reducible rfl
 rotate_left
 ·
  simp only [Act.put, y1a12, y2a12, y3a12, i64_w, i32_w]
  rfl
 refine pure_ (i := 9) (N := some 64) (v := ?_) (a' := ?_) #[true, true, true, true, true, true, true, true, true, true, false, false] rfl rfl (any_of HT_.out (by kernel_rfl)) (fun _ _ _ h => h) (Or.inl ⟨by rfl, ?_⟩) ?_ ?_
 rotate_left
 ·
  intro w'
  go_simp
  with_reducible rfl
 rotate_left
 ·
  simp only [Act.put, y1a12, y2a12, y3a12, i64_w, i32_w]
  rfl
 refine pure_ (i := 10) (N := some 65) (v := ?_) (a' := ?_) #[true, true, true, true, true, true, true, true, true, true, true, false] rfl rfl (any_of HT_.out (by kernel_rfl)) (fun _ _ _ h => h) (Or.inl ⟨by rfl, ?_⟩) ?_ ?_
 rotate_left
 ·
  intro w'
  go_simp
  with_reducible rfl
 rotate_left
 ·
  simp only [Act.put, y1a12, y2a12, y3a12, i64_w, i32_w]
  rfl
 refine last_ (i := 11) (N := none) #[true, true, true, true, true, true, true, true, true, true, true, true] rfl rfl (one_of HT_.out (by kernel_rfl)) (by decide) (fun K hK => ?_)
 refine skip_ (w1 := ?_) (by rfl) rfl ?_ ?_
 rotate_left
 ·
  go_simp
  rfl
 refine hK.out _ _ ?_
 clear hK K
 refine done_ (done_of HT_.out (by kernel_rfl)) ?_
 try go_wp2
 go_roundg k3
 case measure => have := HJ3.out; have := HK2.out; have := HK3.out; omega
 case rel => exact ⟨(y391), (ji28), (by first | rfl | (simp; done) | (simp only [← hji28] <;> (first | rfl | simp)) | (simp [*]; done)), H', ⟨by have := HJ3.out; have := HK2.out; have := HK3.out; omega⟩, ⟨by (with_reducible repeat (first | apply Kd.R_alloc | apply Kd.R_drewN | apply Kd.R_drew)); exact Kd.R_mono (Kd.R_far (p := ⟨go33, ((ji34) : Int).toNat, none⟩) (Kd.R_mono HO_8.out (fun k_ hk => (⟨hk, fun e_ => hk (by rw [e_]; rfl)⟩ : _ ∧ k_ ≠ go33))) (fun _ hk => hk.2) (.int .i64 (wrap64 ((rd y388 (ji34)) + (rd x8_2 x10_3))))) (fun _ hk => hk.1)⟩, ⟨by (with_reducible repeat (first | apply Kd.R_alloc | apply Kd.R_drewN | apply Kd.R_drew)); exact HQ44.out⟩, ⟨by repeat (first | (with_reducible first | exact HB.out | apply below_alloc | apply pw_below_drewN | apply below_drew1 | refine below_set ?_ GB33.out) | exact HB.out)⟩⟩
/-! ### impl_areSteps: function 34 -/
def impl_areSteps.f (a0 : Int) (a1 : Int) : Option (Bool) := (impl_in.f a0 0 40).bind fun t392 => (if t392 = true then ((impl_in.f a1 0 40).bind fun t393 => (if t393 = true then (some (decide ((wrap64 (a0 + a1)) ≤ 40))) else (some false))) else (some false))
set_option maxHeartbeats 8000000 in
set_option maxRecDepth 100000 in
theorem impl_areSteps.calls (a0 : Int) (a1 : Int) (r : Bool) (w : World) (h : impl_areSteps.f a0 a1 = some r) :
  Calls Try.prog 34 #[.int .i64 a0, .int .i64 a1] w fun e w' => e = .returned (.bool r) ∧ Drawn0 w w' := by
 have H : ((impl_in.f a0 0 40).bind fun t392 => (if t392 = true then ((impl_in.f a1 0 40).bind fun t393 => (if t393 = true then (some (decide ((wrap64 (a0 + a1)) ≤ 40))) else (some false))) else (some false))) = some r := h
 clear h
 replace H := Option.bind_eq_some_iff.mp H
 obtain ⟨t392, A30, H⟩ := H
 replace H : (if t392 = true then ((impl_in.f a1 0 40).bind fun t393 => (if t393 = true then (some (decide ((wrap64 (a0 + a1)) ≤ 40))) else (some false))) else (some false)) = some r := H
 have A3 := Aa12q A30
 clear A30
 by_cases c4 : t392 = true
 rotate_left
 ·
  replace c4 := Bool.eq_false_iff.mpr c4
  subst c4
  have H1 : (some false) = some r := by rw [if_neg (show ¬ (false = true) by decide)] at H; exact H
  clear H
  have H := H1
  clear H1
  obtain rfl := Option.some.inj H
  go_enter Try.func34, Try.ntmps34
  go_wp2_with (first | ((with_reducible refine gate_callee (f := 30) rfl ?_); refine goesL_ (some 6) rfl rfl Try.func30 (by kernel_rfl) rfl #[.int .i64 a0, .int .i64 0, .int .i64 40] rfl Za121 ?_; (with_reducible refine (impl_in.calls a0 0 40 false _ A3.out).mono ?_); rintro e w' ⟨rfl, ⟨nd, rfl⟩⟩; refine ⟨_, rfl, ?_⟩))
  go_ret
  exact ⟨by first | rfl | (simp; done) | (simp [*]; done), by repeat (first | exact Drawn0.refl _ | apply Drawn0.step)⟩
 subst c4
 have H1 : ((impl_in.f a1 0 40).bind fun t393 => (if t393 = true then (some (decide ((wrap64 (a0 + a1)) ≤ 40))) else (some false))) = some r := by rw [if_pos rfl] at H; exact H
 clear H
 have H := H1
 clear H1
 replace H := Option.bind_eq_some_iff.mp H
 obtain ⟨t393, A50, H⟩ := H
 replace H : (if t393 = true then (some (decide ((wrap64 (a0 + a1)) ≤ 40))) else (some false)) = some r := H
 have A5 := Aa12q A50
 clear A50
 by_cases c6 : t393 = true
 ·
  subst c6
  have H1 : (some (decide ((wrap64 (a0 + a1)) ≤ 40))) = some r := by rw [if_pos rfl] at H; exact H
  clear H
  have H := H1
  clear H1
  obtain rfl := Option.some.inj H
  go_enter Try.func34, Try.ntmps34
  go_wp2_with (first | ((with_reducible refine gate_callee (f := 30) rfl ?_); refine goesL_ (some 6) rfl rfl Try.func30 (by kernel_rfl) rfl #[.int .i64 a0, .int .i64 0, .int .i64 40] rfl Za121 ?_; (with_reducible refine (impl_in.calls a0 0 40 true _ A3.out).mono ?_); rintro e w' ⟨rfl, ⟨nd, rfl⟩⟩; refine ⟨_, rfl, ?_⟩) | (go_at_call 30; (with_reducible refine (impl_in.calls a1 0 40 true _ A5.out).mono ?_); rintro e w' ⟨rfl, ⟨nd, rfl⟩⟩))
  go_ret
  exact ⟨by first | rfl | (simp; done) | (simp [*]; done), by repeat (first | exact Drawn0.refl _ | apply Drawn0.step)⟩
 replace c6 := Bool.eq_false_iff.mpr c6
 subst c6
 have H1 : (some false) = some r := by rw [if_neg (show ¬ (false = true) by decide)] at H; exact H
 clear H
 have H := H1
 clear H1
 obtain rfl := Option.some.inj H
 go_enter Try.func34, Try.ntmps34
 go_wp2_with (first | ((with_reducible refine gate_callee (f := 30) rfl ?_); refine goesL_ (some 6) rfl rfl Try.func30 (by kernel_rfl) rfl #[.int .i64 a0, .int .i64 0, .int .i64 40] rfl Za121 ?_; (with_reducible refine (impl_in.calls a0 0 40 true _ A3.out).mono ?_); rintro e w' ⟨rfl, ⟨nd, rfl⟩⟩; refine ⟨_, rfl, ?_⟩) | (go_at_call 30; (with_reducible refine (impl_in.calls a1 0 40 false _ A5.out).mono ?_); rintro e w' ⟨rfl, ⟨nd, rfl⟩⟩))
 go_ret
 exact ⟨by first | rfl | (simp; done) | (simp [*]; done), by repeat (first | exact Drawn0.refl _ | apply Drawn0.step)⟩
/-! ### impl_areWalls: function 35 -/
def impl_areWalls.f (a0 : Int) (a1 : Int) : Option (Bool) := (impl_in.f a0 (-40) 0).bind fun t394 => (if t394 = true then ((impl_in.f a1 0 40).bind fun t395 => (some t395)) else (some false))
set_option maxHeartbeats 8000000 in
set_option maxRecDepth 100000 in
theorem impl_areWalls.calls (a0 : Int) (a1 : Int) (r : Bool) (w : World) (h : impl_areWalls.f a0 a1 = some r) :
  Calls Try.prog 35 #[.int .i64 a0, .int .i64 a1] w fun e w' => e = .returned (.bool r) ∧ Drawn0 w w' := by
 have H : ((impl_in.f a0 (-40) 0).bind fun t394 => (if t394 = true then ((impl_in.f a1 0 40).bind fun t395 => (some t395)) else (some false))) = some r := h
 clear h
 replace H := Option.bind_eq_some_iff.mp H
 obtain ⟨t394, A30, H⟩ := H
 replace H : (if t394 = true then ((impl_in.f a1 0 40).bind fun t395 => (some t395)) else (some false)) = some r := H
 have A3 := Aa12q A30
 clear A30
 by_cases c4 : t394 = true
 rotate_left
 ·
  replace c4 := Bool.eq_false_iff.mpr c4
  subst c4
  have H1 : (some false) = some r := by rw [if_neg (show ¬ (false = true) by decide)] at H; exact H
  clear H
  have H := H1
  clear H1
  obtain rfl := Option.some.inj H
  go_enter Try.func35, Try.ntmps35
  go_wp2_with (first | ((with_reducible refine gate_callee (f := 30) rfl ?_); refine goesL_ (some 6) rfl rfl Try.func30 (by kernel_rfl) rfl #[.int .i64 a0, .int .i64 (-40), .int .i64 0] rfl Za121 ?_; (with_reducible refine (impl_in.calls a0 (-40) 0 false _ A3.out).mono ?_); rintro e w' ⟨rfl, ⟨nd, rfl⟩⟩; refine ⟨_, rfl, ?_⟩))
  go_ret
  exact ⟨by first | rfl | (simp; done) | (simp [*]; done), by repeat (first | exact Drawn0.refl _ | apply Drawn0.step)⟩
 subst c4
 have H1 : ((impl_in.f a1 0 40).bind fun t395 => (some t395)) = some r := by rw [if_pos rfl] at H; exact H
 clear H
 have H := H1
 clear H1
 replace H := Option.bind_eq_some_iff.mp H
 obtain ⟨t395, A50, H⟩ := H
 replace H : (some t395) = some r := H
 have A5 := Aa12q A50
 clear A50
 obtain rfl := Option.some.inj H
 go_enter Try.func35, Try.ntmps35
 go_wp2_with (first | ((with_reducible refine gate_callee (f := 30) rfl ?_); refine goesL_ (some 6) rfl rfl Try.func30 (by kernel_rfl) rfl #[.int .i64 a0, .int .i64 (-40), .int .i64 0] rfl Za121 ?_; (with_reducible refine (impl_in.calls a0 (-40) 0 true _ A3.out).mono ?_); rintro e w' ⟨rfl, ⟨nd, rfl⟩⟩; refine ⟨_, rfl, ?_⟩) | (go_at_call 30; (with_reducible refine (impl_in.calls a1 0 40 t395 _ A5.out).mono ?_); rintro e w' ⟨rfl, ⟨nd, rfl⟩⟩))
 go_ret
 exact ⟨by first | rfl | (simp; done) | (simp [*]; done), by repeat (first | exact Drawn0.refl _ | apply Drawn0.step)⟩
-- NOT PRINTED: function 36 (impl_between)

end Go.Proofs.Ytoglhflnfkmkcaa.OFnRuinInTime
