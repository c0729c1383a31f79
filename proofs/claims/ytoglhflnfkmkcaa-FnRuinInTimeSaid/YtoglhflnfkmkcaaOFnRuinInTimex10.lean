/- The functions that 'FnRuinInTime' runs, each as a function over numbers and lists, with the proof that the Go text comes to its answers. No condition. -/
import Derived.Test.YtoglhflnfkmkcaaOFnRuinInTimex0
import Derived.Test.YtoglhflnfkmkcaaOFnRuinInTimex1
import Derived.Test.YtoglhflnfkmkcaaOFnRuinInTimex2
import Derived.Test.YtoglhflnfkmkcaaOFnRuinInTimex3
import Derived.Test.YtoglhflnfkmkcaaOFnRuinInTimex4
import Derived.Test.YtoglhflnfkmkcaaOFnRuinInTimex5
import Derived.Test.YtoglhflnfkmkcaaOFnRuinInTimex6
import Derived.Test.YtoglhflnfkmkcaaOFnRuinInTimex7
import Derived.Test.YtoglhflnfkmkcaaOFnRuinInTimex8
namespace Go.Proofs.Ytoglhflnfkmkcaa.OFnRuinInTime
open Go.Proofs.Ytoglhflnfkmkcaa.Stub
open Go.RowKit Go.Proofs.YtoglhflnfkmkcaaW.PrintWords Go.Proofs.YtoglhflnfkmkcaaW.PrintLast Go.Proofs.YtoglhflnfkmkcaaW.PrintMore
attribute [local go_sem] max2_int min2_int max_two min_two max_three min_three max_four min_four   -- for this text's walks alone
set_option linter.unusedVariables false
set_option linter.unusedSimpArgs false

attribute [local go_sem high] eqA25
theorem y1a10 {α : Type} (l : List α) (i : Nat) (a : α) : l.toArray.setIfInBounds i a = (l.set i a).toArray := List.setIfInBounds_toArray l i a
theorem y2a10 {α : Type} {x : α} {xs : List α} {b : α} : (x :: xs).set 0 b = b :: xs := List.set_cons_zero
theorem y3a10 {α : Type} {x : α} {xs : List α} {n : Nat} {b : α} : (x :: xs).set (n + 1) b = x :: xs.set n b := List.set_cons_succ
theorem Aa10q {p : Prop} (h : p) : Aside0 p := Aside0.mk h
theorem Za101 {p : Prop} (h : p := by first | exact Kd.own_blk (Kd.R_ne HO327.out BK323.out (by decide)) | (rw [add_block]; exact Kd.own_blk (Kd.R_ne HO327.out BK323.out (by decide))) | (show (Addr.add _ _).block ≠ _; rw [add_block]; exact Kd.own_blk (Kd.R_ne HO327.out BK323.out (by decide))) | (dsimp only; exact Kd.own_blk (Kd.R_ne HO327.out BK323.out (by decide)))) : p := h
theorem Za102 {p : Prop} (h : p := by (try simp only [List.map_toArray, List.map_cons, List.map_nil]); first | done | rfl | (simp only [List.length_drop, List.length_take]; rfl)) : p := h
theorem Za103 {p : Prop} (h : p := by first | rfl | (simp; done) | (simp [*]; done) | (simp only [i64_w]; done)) : p := h
theorem Za104 {p : Prop} (h : p := by first | (with_reducible assumption) | assumption) : p := h
theorem Hb10 {p : Prop} (h : p := by repeat (first | (with_reducible first | exact HB.out | apply below_alloc | apply pw_below_drewN | apply below_drew1 | refine below_set ?_ GE322.out | refine below_set ?_ GE323.out | refine below_set ?_ GE333.out | refine below_set ?_ GE334.out | refine below_set ?_ GE349.out) | exact HB.out)) : p := h
theorem bb10 {w0 w w1 : World} {g : Nat} {o : Obj} (_ : Aside0 (w0.heap[g]? = some o)) (h : w.heap[g]? = some o) (hb : Below w.heap.size w w1) : Aside0 (w1.heap[g]? = some o) := Aa10q (blk_below h hb)
theorem nb10 {w0 w : World} {g q : Nat} {o : Obj} (_ : Aside0 (w0.heap[g]? = some o)) (h : w.heap[g]? = some o) (hg : q = w.heap.size) : Aside0 (g ≠ q) := Aa10q (by rw [hg]; exact Nat.ne_of_lt (blk_lt h))
theorem mb10 {w0 w : World} {g q : Nat} {o : Obj} (_ : Aside0 (w0.heap[g]? = some o)) (h : w.heap[g]? = some o) (hg : q = w.heap.size) : Aside0 (q ≠ g) := Aa10q (by rw [hg]; exact Nat.ne_of_gt (blk_lt h))
theorem sb10 {w w1 : World} {q : Nat} (h : Below w.heap.size w w1) (hg : q = w1.heap.size) : Aside0 (w.heap.size ≤ q) := Aa10q (by rw [hg]; exact below_size h)
theorem tb10 {w w1 w2 : World} (h : Below w.heap.size w w1) (hb : Below w1.heap.size w1 w2) : Aside0 (Below w.heap.size w w2) := Aa10q (below_step h hb)
theorem Ub10322 {p : Prop} (h : p := by repeat (first | (with_reducible first | exact BK322.out | refine blk_drewN ?_ _ | refine blk_drew ?_ | refine blk_alloc ?_ _) | exact BK322.out)) : p := h
theorem Ub10323 {p : Prop} (h : p := by repeat (first | (with_reducible first | exact BK323.out | refine blk_drewN ?_ _ | refine blk_drew ?_ | refine blk_alloc ?_ _) | exact BK323.out)) : p := h
theorem Ub10333 {p : Prop} (h : p := by repeat (first | (with_reducible first | exact BK333.out | refine blk_drewN ?_ _ | refine blk_drew ?_ | refine blk_alloc ?_ _) | exact BK333.out)) : p := h
theorem Ub10334 {p : Prop} (h : p := by repeat (first | (with_reducible first | exact BK334.out | refine blk_drewN ?_ _ | refine blk_drew ?_ | refine blk_alloc ?_ _) | exact BK334.out)) : p := h
theorem Ub10349 {p : Prop} (h : p := by repeat (first | (with_reducible first | exact BK349.out | refine blk_drewN ?_ _ | refine blk_drew ?_ | refine blk_alloc ?_ _) | exact BK349.out)) : p := h
/-! ### impl_StillPlaying: function 12 -/
def impl_StillPlaying.f (k : Nat) (a0 : Int) (a1 : Int) (a2_0 : Int) (a2_1 : Int) (a3 : Int) : Option (Int × Int × Bool) := (impl_isPart.f k a0 a1 a2_0 a2_1 a3).bind fun t324 => (if t324 = true then ((impl_held.f k a0 a1 a2_0 a2_1 a3).bind fun t325 => ((impl_power.f k a2_1 a3).bind fun t328 => (if 0 < (t325.length : Int) then (if 0 ≤ a1 then (if a1 < (t325.length : Int) then ((impl_ratio.f k (wrap64 ((wrap64 (t328 - (rd t325 0))) - (rd t325 a1))) t328).bind fun bt331 => (some (bt331.1, bt331.2, true))) else (none)) else (none)) else (none)))) else (some (0, 0, false)))
theorem impl_StillPlaying.mono : ∀ a0 a1 a2 a3 a4 k, LeO (impl_StillPlaying.f k a0 a1 a2 a3 a4) (impl_StillPlaying.f (k + 1) a0 a1 a2 a3 a4) := by
  intro a0 a1 a2 a3 a4 k
  unfold impl_StillPlaying.f
  repeat' first
      | (with_reducible exact impl_held.mono _ _ _ _ _ _)
      | (with_reducible exact impl_isPart.mono _ _ _ _ _ _)
      | (with_reducible exact impl_power.mono _ _ _)
      | (with_reducible exact impl_ratio.mono _ _ _)
      | (with_reducible exact LeO.refl _)
      | (with_reducible exact LeO.none _)
      | (with_reducible refine LeO.ite ?_ ?_)
      | (with_reducible refine LeO.bind ?_ (fun _ => ?_))
      | exact impl_held.mono _ _ _ _ _ _
      | exact impl_isPart.mono _ _ _ _ _ _
      | exact impl_power.mono _ _ _
      | exact impl_ratio.mono _ _ _
      | exact LeO.none _
      | refine LeO.ite ?_ ?_
      | refine LeO.bind ?_ (fun _ => ?_)
def impl_StillPlaying.T3 : Bool × List (List Nat × List Nat) := (true, [([], []), ([], []), ([], []), ([], []), ([0, 1, 2, 3], [0, 1, 2, 3]), ([], []), ([5], [5]), ([], []), ([6, 7, 4], [6, 7]), ([4, 8, 0, 1, 2, 3, 4], [4]), ([8, 9, 0, 1, 2, 3, 4, 5, 6, 7, 8, 9], [8])])
def impl_StillPlaying.B3 : List Nat := [0, 0, 0, 0, 15, 0, 32, 0, 255, 511, 1023]
theorem impl_StillPlaying.tab3 : rtab .any (opsOf Try.f12 3) = impl_StillPlaying.T3 := by kernel_rfl
theorem impl_StillPlaying.bits3 : waitsOk impl_StillPlaying.T3.2 impl_StillPlaying.B3 = true := by kernel_rfl
def impl_StillPlaying.T4 : Bool × List (List Nat × List Nat) := (true, [([], []), ([], []), ([1], [1]), ([2], [2]), ([0, 3], [0, 3]), ([], []), ([], []), ([5, 6], [5, 6]), ([7], [7]), ([4, 8], [4, 8]), ([], []), ([9, 10], [9, 10]), ([11, 11, 0, 1, 2, 3, 4, 5, 6, 7, 8, 9, 10, 11], [11]), ([12, 0, 1, 2, 3, 4, 5, 6, 7, 8, 9, 10, 11, 12], [])])
def impl_StillPlaying.B4 : List Nat := [0, 0, 2, 6, 15, 0, 0, 96, 224, 511, 0, 2047, 4095, 8191]
theorem impl_StillPlaying.tab4 : rtab .any (opsOf Try.f12 4) = impl_StillPlaying.T4 := by kernel_rfl
theorem impl_StillPlaying.bits4 : waitsOk impl_StillPlaying.T4.2 impl_StillPlaying.B4 = true := by kernel_rfl
set_option maxHeartbeats 8000000 in
set_option maxRecDepth 100000 in
theorem impl_StillPlaying.calls (k : Nat) (a0 : Int) (a1 : Int) (a2_0 : Int) (a2_1 : Int) (a3 : Int) (r1 : Int) (r2 : Int) (r3 : Bool) (w : World) (h : impl_StillPlaying.f k a0 a1 a2_0 a2_1 a3 = some (r1, r2, r3)) :
  Calls Try.prog 12 #[.int .i64 a0, .int .i64 a1, .agg #[.int .i64 a2_0, .int .i64 a2_1], .int .i64 a3] w fun e w' => e = .returned (.tuple #[.agg #[.int .i64 r1, .int .i64 r2], .bool r3]) ∧ Below w.heap.size w w' := by
 have hu25 := Try.underlying25
 have HB := Aa10q (Below.refl w.heap.size w)
 have H : ((impl_isPart.f k a0 a1 a2_0 a2_1 a3).bind fun t324 => (if t324 = true then ((impl_held.f k a0 a1 a2_0 a2_1 a3).bind fun t325 => ((impl_power.f k a2_1 a3).bind fun t328 => (if 0 < (t325.length : Int) then (if 0 ≤ a1 then (if a1 < (t325.length : Int) then ((impl_ratio.f k (wrap64 ((wrap64 (t328 - (rd t325 0))) - (rd t325 a1))) t328).bind fun bt331 => (some (bt331.1, bt331.2, true))) else (none)) else (none)) else (none)))) else (some (0, 0, false)))) = some (r1, r2, r3) := h
 clear h
 replace H := Option.bind_eq_some_iff.mp H
 obtain ⟨t324, A50, H⟩ := H
 replace H : (if t324 = true then ((impl_held.f k a0 a1 a2_0 a2_1 a3).bind fun t325 => ((impl_power.f k a2_1 a3).bind fun t328 => (if 0 < (t325.length : Int) then (if 0 ≤ a1 then (if a1 < (t325.length : Int) then ((impl_ratio.f k (wrap64 ((wrap64 (t328 - (rd t325 0))) - (rd t325 a1))) t328).bind fun bt331 => (some (bt331.1, bt331.2, true))) else (none)) else (none)) else (none)))) else (some (0, 0, false))) = some (r1, r2, r3) := H
 have A5 := Aa10q A50
 clear A50
 by_cases c6 : t324 = true
 rotate_left
 ·
  replace c6 := Bool.eq_false_iff.mpr c6
  subst c6
  have H1 : (some (0, 0, false)) = some (r1, r2, r3) := by rw [if_neg (show ¬ (false = true) by decide)] at H; exact H
  clear H
  have H := H1
  clear H1
  simp only [Option.some.injEq, Prod.mk.injEq] at H
  obtain ⟨rfl, rfl, rfl⟩ := H
  go_enter Try.func12, Try.ntmps12
  go_wp2_with (first | ((with_reducible refine gate_dst (N := 6) rfl ?_); refine box_event ?hg (N := 6) ?hd (cs := #[.int .i64 a2_0, .int .i64 a2_1]) (t := 25) ?hr ?_; (case hd => rfl); (case hg => rfl); (case hr => first | (go_simp; done) | (go_simp; rfl)); intro g322 hg w25 hbox hb; have BK322 := Aa10q (hbox); have GE322 := sb10 Hb10 hg; replace HB := tb10 Hb10 hb; clear hb hbox hg) | ((with_reducible refine gate_dst (N := 8) rfl ?_); refine box_event ?hg (N := 8) ?hd (cs := #[.int .i64 0, .int .i64 0]) (t := 25) ?hr ?_; (case hd => rfl); (case hg => rfl); (case hr => first | (go_simp; done) | (go_simp; rfl)); intro g323 hg w26 hbox hb; have BK323 := Aa10q (hbox); have GE323 := sb10 Hb10 hg; have NB322_323 := nb10 BK322 Ub10322 hg; have NB323_322 := mb10 BK322 Ub10322 hg; replace BK322 := bb10 BK322 Ub10322 hb; replace HB := tb10 Hb10 hb; clear hb hbox hg; have hcz28_0 : w26.cell? ⟨g322, 0, none⟩ = some (.int .i64 a2_0) := (blk_cell BK322.out 0).trans rfl; have hcz28_1 : w26.cell? ⟨g322, 1, none⟩ = some (.int .i64 a2_1) := (blk_cell BK322.out 1).trans rfl; have hfz28_0 := blk_frozen BK322.out 0; have hfz28_1 := blk_frozen BK322.out 1) | ((with_reducible refine gate_callee (f := 22) rfl ?_); refine goesL_ (some 16) rfl rfl Try.func22 (by kernel_rfl) rfl #[.int .i64 a0, .int .i64 a1, .agg #[.int .i64 a2_0, .int .i64 a2_1], .int .i64 a3] rfl Za102 ?_; (with_reducible refine (impl_isPart.calls k a0 a1 a2_0 a2_1 a3 false _ A5.out).mono ?_); rintro e w29 ⟨rfl, hb⟩; refine ⟨_, rfl, ?_⟩; replace BK322 := bb10 BK322 Ub10322 hb; replace BK323 := bb10 BK323 Ub10323 hb; replace HB := tb10 Hb10 hb; (try clear hb); (try clear hb2); (try clear hk); (try clear hi); have hcz30_0 : w29.cell? ⟨g323, 0, none⟩ = some (.int .i64 0) := (blk_cell BK323.out 0).trans rfl; have hcz30_1 : w29.cell? ⟨g323, 1, none⟩ = some (.int .i64 0) := (blk_cell BK323.out 1).trans rfl; have hfz30_0 := blk_frozen BK323.out 0; have hfz30_1 := blk_frozen BK323.out 1))
  refine bodyPost_ret (results_ct rfl _ _ g323 25 #[.int .i64 0, .int .i64 0] (0, 0) _ rfl (by (with_reducible repeat (first | refine blk_drewN ?_ _ | refine blk_drew ?_ | refine blk_alloc ?_ _)); refine blk_put (cs := #[.int .i64 0, .int .i64 0]) ?_ 1 _ rfl; (with_reducible repeat (first | refine blk_drewN ?_ _ | refine blk_drew ?_ | refine blk_alloc ?_ _)); refine blk_put (cs := #[.int .i64 0, .int .i64 0]) ?_ 0 _ rfl; (with_reducible repeat (first | refine blk_drewN ?_ _ | refine blk_drew ?_ | refine blk_alloc ?_ _)); exact BK323.out) Try.underlying25 rfl (by kernel_rfl)) rfl ?_
  exact ⟨by first | rfl | (simp [errW_none, errW_some] <;> rfl) | (simp [*, errW_none, errW_some] <;> rfl), Hb10⟩
 subst c6
 have H1 : ((impl_held.f k a0 a1 a2_0 a2_1 a3).bind fun t325 => ((impl_power.f k a2_1 a3).bind fun t328 => (if 0 < (t325.length : Int) then (if 0 ≤ a1 then (if a1 < (t325.length : Int) then ((impl_ratio.f k (wrap64 ((wrap64 (t328 - (rd t325 0))) - (rd t325 a1))) t328).bind fun bt331 => (some (bt331.1, bt331.2, true))) else (none)) else (none)) else (none)))) = some (r1, r2, r3) := by rw [if_pos rfl] at H; exact H
 clear H
 have H := H1
 clear H1
 replace H := Option.bind_eq_some_iff.mp H
 obtain ⟨t325, A70, H⟩ := H
 replace H : ((impl_power.f k a2_1 a3).bind fun t328 => (if 0 < (t325.length : Int) then (if 0 ≤ a1 then (if a1 < (t325.length : Int) then ((impl_ratio.f k (wrap64 ((wrap64 (t328 - (rd t325 0))) - (rd t325 a1))) t328).bind fun bt331 => (some (bt331.1, bt331.2, true))) else (none)) else (none)) else (none))) = some (r1, r2, r3) := H
 have A7 := Aa10q A70
 clear A70
 replace H := Option.bind_eq_some_iff.mp H
 obtain ⟨t328, A80, H⟩ := H
 replace H : (if 0 < (t325.length : Int) then (if 0 ≤ a1 then (if a1 < (t325.length : Int) then ((impl_ratio.f k (wrap64 ((wrap64 (t328 - (rd t325 0))) - (rd t325 a1))) t328).bind fun bt331 => (some (bt331.1, bt331.2, true))) else (none)) else (none)) else (none)) = some (r1, r2, r3) := H
 have A8 := Aa10q A80
 clear A80
 by_cases c9 : 0 < (t325.length : Int)
 rotate_left
 ·
  rw [if_neg c9] at H
  exact absurd H (by simp)
 rw [if_pos c9] at H
 have c9b0 : decide (0 < (t325.length : Int)) = true := decide_eq_true c9
 have c9b1 : decide (0 < t325.length) = true := decide_eq_true (by omega)
 clear c9
 by_cases c10 : 0 ≤ a1
 rotate_left
 ·
  rw [if_neg c10] at H
  exact absurd H (by simp)
 rw [if_pos c10] at H
 have c10b0 : decide (0 ≤ a1) = true := decide_eq_true c10
 clear c10
 by_cases c11 : a1 < (t325.length : Int)
 rotate_left
 ·
  rw [if_neg c11] at H
  exact absurd H (by simp)
 rw [if_pos c11] at H
 have c11b0 : decide (a1 < (t325.length : Int)) = true := decide_eq_true c11
 clear c11
 replace H := Option.bind_eq_some_iff.mp H
 obtain ⟨⟨t331, t332⟩, A120, H⟩ := H
 replace H : (some (t331, t332, true)) = some (r1, r2, r3) := H
 have A12 := Aa10q A120
 clear A120
 simp only [Option.some.injEq, Prod.mk.injEq] at H
 obtain ⟨rfl, rfl, rfl⟩ := H
 go_enter Try.func12, Try.ntmps12
 try go_wp2_with (first | ((with_reducible refine gate_dst (N := 6) rfl ?_); refine box_event ?hg (N := 6) ?hd (cs := #[.int .i64 a2_0, .int .i64 a2_1]) (t := 25) ?hr ?_; (case hd => rfl); (case hg => rfl); (case hr => first | (go_simp; done) | (go_simp; rfl)); intro g322 hg w13 hbox hb; have BK322 := Aa10q (hbox); have GE322 := sb10 Hb10 hg; replace HB := tb10 Hb10 hb; clear hb hbox hg) | ((with_reducible refine gate_dst (N := 8) rfl ?_); refine box_event ?hg (N := 8) ?hd (cs := #[.int .i64 0, .int .i64 0]) (t := 25) ?hr ?_; (case hd => rfl); (case hg => rfl); (case hr => first | (go_simp; done) | (go_simp; rfl)); intro g323 hg w14 hbox hb; have BK323 := Aa10q (hbox); have GE323 := sb10 Hb10 hg; have NB322_323 := nb10 BK322 Ub10322 hg; have NB323_322 := mb10 BK322 Ub10322 hg; replace BK322 := bb10 BK322 Ub10322 hb; replace HB := tb10 Hb10 hb; clear hb hbox hg; have hcz16_0 : w14.cell? ⟨g322, 0, none⟩ = some (.int .i64 a2_0) := (blk_cell BK322.out 0).trans rfl; have hcz16_1 : w14.cell? ⟨g322, 1, none⟩ = some (.int .i64 a2_1) := (blk_cell BK322.out 1).trans rfl; have hfz16_0 := blk_frozen BK322.out 0; have hfz16_1 := blk_frozen BK322.out 1) | ((with_reducible refine gate_callee (f := 22) rfl ?_); refine goesL_ (some 16) rfl rfl Try.func22 (by kernel_rfl) rfl #[.int .i64 a0, .int .i64 a1, .agg #[.int .i64 a2_0, .int .i64 a2_1], .int .i64 a3] rfl Za102 ?_; (with_reducible refine (impl_isPart.calls k a0 a1 a2_0 a2_1 a3 true _ A5.out).mono ?_); rintro e w17 ⟨rfl, hb⟩; refine ⟨_, rfl, ?_⟩; replace BK322 := bb10 BK322 Ub10322 hb; replace BK323 := bb10 BK323 Ub10323 hb; replace HB := tb10 Hb10 hb; (try clear hb); (try clear hb2); (try clear hk); (try clear hi)))
 replace BK322 := Aa10q (blk_drew BK322.out)
 replace BK323 := Aa10q (blk_drew BK323.out)
 replace HB := Aa10q (below_drew1 HB.out)
 refine start_ (n := 11) (S := fun w' => w'.cell? ⟨g322, 0, none⟩ = some (.int .i64 a2_0) ∧ w'.cell? ⟨g322, 1, none⟩ = some (.int .i64 a2_1)) (ds := []) #[false, false, false, false, false, false, false, false, false, false, false] (by kernel_rfl) rfl rfl ⟨(blk_cell BK322.out 0).trans rfl, (blk_cell BK322.out 1).trans rfl⟩ (fun hHeld => ?_); refine with_tabW impl_StillPlaying.tab3 impl_StillPlaying.bits3 (fun HT_ HW_ => ?_)
 generalize w17.drew = w18 at BK322 BK323 HB hHeld ⊢
 refine pure_ (i := 0) (N := some 19) (v := ?_) (a' := ?_) #[true, false, false, false, false, false, false, false, false, false, false] rfl rfl (any_of HT_.out (by kernel_rfl)) (fun _ _ _ h => h) (Or.inl ⟨by rfl, ?_⟩) ?_ ?_
 rotate_left
 ·
  intro w'
  go_simp
  with_reducible rfl
 rotate_left
 ·
  simp only [Act.put, y1a10, y2a10, y3a10, i64_w, i32_w]
  rfl
 refine pure_ (i := 1) (N := some 20) (v := ?_) (a' := ?_) #[true, true, false, false, false, false, false, false, false, false, false] rfl rfl (any_of HT_.out (by kernel_rfl)) (fun _ _ _ h => h) (Or.inl ⟨by rfl, ?_⟩) ?_ ?_
 rotate_left
 ·
  intro w'
  go_simp
  with_reducible rfl
 rotate_left
 ·
  simp only [Act.put, y1a10, y2a10, y3a10, i64_w, i32_w]
  rfl
 refine pure_ (i := 3) (N := some 22) (v := ?_) (a' := ?_) #[true, true, false, true, false, false, false, false, false, false, false] rfl rfl (any_of HT_.out (by kernel_rfl)) (fun _ _ _ h => h) (Or.inl ⟨by rfl, ?_⟩) ?_ ?_
 rotate_left
 ·
  intro w'
  go_simp
  with_reducible rfl
 rotate_left
 ·
  simp only [Act.put, y1a10, y2a10, y3a10, i64_w, i32_w]
  rfl
 refine pure_ (i := 5) (N := some 24) (v := ?_) (a' := ?_) #[true, true, false, true, false, true, false, false, false, false, false] rfl rfl (any_of HT_.out (by kernel_rfl)) (fun _ _ _ h => h) (Or.inl ⟨by rfl, ?_⟩) ?_ ?_
 rotate_left
 ·
  intro w'
  go_simp
  with_reducible rfl
 rotate_left
 ·
  simp only [Act.put, y1a10, y2a10, y3a10, i64_w, i32_w]
  rfl
 refine pure_ (i := 7) (N := some 26) (v := ?_) (a' := ?_) #[true, true, false, true, false, true, false, true, false, false, false] rfl rfl (any_of HT_.out (by kernel_rfl)) (fun _ _ _ h => h) (Or.inl ⟨by rfl, ?_⟩) ?_ ?_
 rotate_left
 ·
  intro w'
  go_simp
  with_reducible rfl
 rotate_left
 ·
  simp only [Act.put, y1a10, y2a10, y3a10, i64_w, i32_w]
  rfl
 refine take_ (i := 2) (N := some 21) (v := ?_) (a' := ?_) #[true, true, true, true, false, true, false, true, false, false, false] rfl rfl (take_ofW HT_.out HW_.out (by kernel_rfl)) (fun _ _ _ h => h) (Or.inl ⟨by rfl, ?_⟩) hHeld ?_ ?_
 rotate_left
 ·
  rintro w' ⟨s0, s1⟩
  go_simp
  with_reducible rfl
 rotate_left
 ·
  simp only [Act.put, y1a10, y2a10, y3a10, i64_w, i32_w]
  rfl
 refine take_ (i := 6) (N := some 25) (v := ?_) (a' := ?_) #[true, true, true, true, false, true, true, true, false, false, false] rfl rfl (take_ofW HT_.out HW_.out (by kernel_rfl)) (fun _ _ _ h => h) (Or.inl ⟨by rfl, ?_⟩) hHeld ?_ ?_
 rotate_left
 ·
  rintro w' ⟨s0, s1⟩
  go_simp
  with_reducible rfl
 rotate_left
 ·
  simp only [Act.put, y1a10, y2a10, y3a10, i64_w, i32_w]
  rfl
 refine one_ (i := 4) (N := some 23) #[true, true, true, true, true, true, true, true, false, false, false] rfl rfl (one_of HT_.out (by kernel_rfl)) (by decide) (fun K hK => ?_)
 refine goes_ Try.func23 (by kernel_rfl) rfl #[.int .i64 a0, .int .i64 a1, .agg #[.int .i64 a2_0, .int .i64 a2_1], .int .i64 a3] (by rfl) rfl rfl Za102 ?_
 with_reducible refine (impl_held.calls k a0 a1 a2_0 a2_1 a3 t325 _ A7.out).mono ?_
 rintro e w19 ⟨v326, rfl, ho0, hb⟩
 refine ⟨_, rfl, ?_⟩
 have HO327 := Aa10q (Kd.R_lower ho0 (below_size Hb10))
 replace BK322 := bb10 BK322 Ub10322 hb
 replace BK323 := bb10 BK323 Ub10323 hb
 replace HB := tb10 Hb10 hb
 (try clear hb)
 (try clear hb2)
 (try clear hk)
 (try clear hi)
 (try clear ho0)
 refine hK.out _ _ ⟨(blk_cell BK322.out 0).trans rfl, (blk_cell BK322.out 1).trans rfl⟩ (fun hHeld => ?_)
 clear hK K
 refine norm_ (a' := ?_) ?_ ?_
 rotate_left
 ·
  show Act.put _ (some 23) _ = _
  simp only [Act.put, y1a10, y2a10, y3a10, i64_w, i32_w]
  rfl
 refine one_ (i := 8) (N := some 27) #[true, true, true, true, true, true, true, true, true, false, false] rfl rfl (one_of HT_.out (by kernel_rfl)) (by decide) (fun K hK => ?_)
 refine goes_ Try.func25 (by kernel_rfl) rfl #[.int .i64 a2_1, .int .i64 a3] (by rfl) rfl rfl Za102 ?_
 with_reducible refine (impl_power.calls k a2_1 a3 t328 _ A8.out).mono ?_
 rintro e w' ⟨rfl, ⟨nd, rfl⟩⟩
 refine ⟨_, rfl, ?_⟩
 refine hK.out _ _ ⟨(blk_cell BK322.out 0).trans rfl, (blk_cell BK322.out 1).trans rfl⟩ (fun hHeld => ?_)
 clear hK K
 refine norm_ (a' := ?_) ?_ ?_
 rotate_left
 ·
  show Act.put _ (some 27) _ = _
  simp only [Act.put, y1a10, y2a10, y3a10, i64_w, i32_w]
  rfl
 refine pure_ (i := 9) (N := some 10) (v := ?_) (a' := ?_) #[true, true, true, true, true, true, true, true, true, true, false] rfl rfl (any_of HT_.out (by kernel_rfl)) (fun _ _ _ h => h) (Or.inl ⟨by rfl, ?_⟩) ?_ ?_
 rotate_left
 ·
  intro w'
  go_simp
  with_reducible rfl
 rotate_left
 ·
  simp only [Act.put, y1a10, y2a10, y3a10, i64_w, i32_w]
  rfl
 refine pure_ (i := 10) (N := some 11) (v := ?_) (a' := ?_) #[true, true, true, true, true, true, true, true, true, true, true] rfl rfl (any_of HT_.out (by kernel_rfl)) (fun _ _ _ h => h) (Or.inl ⟨by rfl, ?_⟩) ?_ ?_
 rotate_left
 ·
  intro w'
  go_simp
  with_reducible rfl
 rotate_left
 ·
  simp only [Act.put, y1a10, y2a10, y3a10, i64_w, i32_w]
  rfl
 refine done_ (done_of HT_.out (by kernel_rfl)) ?_
 try go_wp2
 (try (rw [drewN_self w19]; generalize hq_ : World.drewN w19 _ = w19; have n0_ : Aside0 (Kd.R (Kd.int .i64) 3 w19 w.heap.size (fun _ => True) v326 t325) := ⟨by rw [← hq_]; exact (by (with_reducible repeat (first | apply Kd.R_alloc | apply Kd.R_drewN | apply Kd.R_drew)); exact HO327.out)⟩; have n1_ : Aside0 (w19.heap[g322]? = some (.cells #[.int .i64 a2_0, .int .i64 a2_1] 25 (0, 0))) := ⟨by rw [← hq_]; exact Ub10322⟩; have n2_ : Aside0 (w19.heap[g323]? = some (.cells #[.int .i64 0, .int .i64 0] 25 (0, 0))) := ⟨by rw [← hq_]; exact Ub10323⟩; have n3_ : Aside0 (Below w.heap.size w w19) := ⟨by rw [← hq_]; exact Hb10⟩; clear HO327 BK322 BK323 HB hq_; have HO327 := n0_; have BK322 := n1_; have BK323 := n2_; have HB := n3_; clear n0_ n1_ n2_ n3_))
 (try (rw [drewN_self w19]; generalize hq_ : World.drewN w19 _ = w19; have n0_ : Aside0 (Kd.R (Kd.int .i64) 3 w19 w.heap.size (fun _ => True) v326 t325) := ⟨by rw [← hq_]; exact (by (with_reducible repeat (first | apply Kd.R_alloc | apply Kd.R_drewN | apply Kd.R_drew)); exact HO327.out)⟩; have n1_ : Aside0 (w19.heap[g322]? = some (.cells #[.int .i64 a2_0, .int .i64 a2_1] 25 (0, 0))) := ⟨by rw [← hq_]; exact Ub10322⟩; have n2_ : Aside0 (w19.heap[g323]? = some (.cells #[.int .i64 0, .int .i64 0] 25 (0, 0))) := ⟨by rw [← hq_]; exact Ub10323⟩; have n3_ : Aside0 (Below w.heap.size w w19) := ⟨by rw [← hq_]; exact Hb10⟩; clear HO327 BK322 BK323 HB hq_; have HO327 := n0_; have BK322 := n1_; have BK323 := n2_; have HB := n3_; clear n0_ n1_ n2_ n3_))
 replace HO327 := Aa10q (Kd.R_drew HO327.out)
 replace BK322 := Aa10q (blk_drew BK322.out)
 replace BK323 := Aa10q (blk_drew BK323.out)
 replace HB := Aa10q (below_drew1 HB.out)
 obtain ⟨Ao21, co21, eo21⟩ := Kd.R_slice HO327.out
 (first | subst eo21 | (injection eo21 with f1_ f2_ f3_; have f4_ := f1_.symm; have f5_ := f3_.symm; clear f1_ f2_ f3_; subst f4_; subst f5_))
 have p329 : 0 ≤ (0 : Int) := (by omega)
 have q329 : 0 < (t325.length : Int) := of_decide_eq_true Za104
 obtain ⟨ad329, e329, hx329_0⟩ := Kd.at_int (Kd.R_reads' HO327.out).2.2 0 p329 q329
 cases e329
 have qi329 : (0 < t325.length) = True := eq_true (by omega)
 (try rw [show ((0 : Int)).toNat = 0 from rfl] at hx329_0)
 (try rw [Addr.add_zero'] at hx329_0)
 replace p329 := eq_true p329
 replace q329 := eq_true q329
 have p330 : 0 ≤ (a1 : Int) := of_decide_eq_true Za104
 have q330 : a1 < (t325.length : Int) := of_decide_eq_true Za104
 obtain ⟨ad330, e330, hx330_0⟩ := Kd.at_int (Kd.R_reads' HO327.out).2.2 a1 p330 q330
 obtain rfl : ad329 = ad330 := (by injection e330)
 replace p330 := eq_true p330
 replace q330 := eq_true q330
 refine start_ (n := 14) (S := fun w' => w'.cell? ad329 = some (.int .i64 (rd t325 0)) ∧ w'.cell? (ad329.add (a1).toNat) = some (.int .i64 (rd t325 a1))) (ds := []) #[false, false, false, false, false, false, false, false, false, false, false, false, false, false] (by kernel_rfl) rfl rfl ⟨hx329_0, hx330_0⟩ (fun hHeld => ?_); refine with_tabW impl_StillPlaying.tab4 impl_StillPlaying.bits4 (fun HT_ HW_ => ?_)
 generalize w19.drew = w20 at HO327 BK322 BK323 HB hx329_0 hx330_0 hHeld ⊢
 refine pure_ (i := 0) (N := some 28) (v := ?_) (a' := ?_) #[true, false, false, false, false, false, false, false, false, false, false, false, false, false] rfl rfl (any_of HT_.out (by kernel_rfl)) (fun _ _ _ h => h) (Or.inl ⟨by rfl, ?_⟩) ?_ ?_
 rotate_left
 ·
  intro w'
  go_simp
  with_reducible rfl
 rotate_left
 ·
  simp only [Act.put, y1a10, y2a10, y3a10, i64_w, i32_w]
  rfl
 refine pure_ (i := 1) (N := some 29) (v := ?_) (a' := ?_) #[true, true, false, false, false, false, false, false, false, false, false, false, false, false] rfl rfl (any_of HT_.out (by kernel_rfl)) (fun _ _ _ h => h) (Or.inl ⟨by rfl, ?_⟩) ?_ ?_
 rotate_left
 ·
  intro w'
  go_simp
  with_reducible rfl
 rotate_left
 ·
  simp only [Act.put, y1a10, y2a10, y3a10, i64_w, i32_w]
  rfl
 refine pure_ (i := 2) (N := some 30) (v := ?_) (a' := ?_) #[true, true, true, false, false, false, false, false, false, false, false, false, false, false] rfl rfl (any_of HT_.out (by kernel_rfl)) (fun _ _ _ h => h) (Or.inl ⟨by rfl, ?_⟩) ?_ ?_
 rotate_left
 ·
  intro w'
  go_simp
  with_reducible rfl
 rotate_left
 ·
  simp only [Act.put, y1a10, y2a10, y3a10, i64_w, i32_w]
  rfl
 refine pure_ (i := 5) (N := some 33) (v := ?_) (a' := ?_) #[true, true, true, false, false, true, false, false, false, false, false, false, false, false] rfl rfl (any_of HT_.out (by kernel_rfl)) (fun _ _ _ h => h) (Or.inl ⟨by rfl, ?_⟩) ?_ ?_
 rotate_left
 ·
  intro w'
  go_simp
  with_reducible rfl
 rotate_left
 ·
  simp only [Act.put, y1a10, y2a10, y3a10, i64_w, i32_w]
  rfl
 refine pure_ (i := 6) (N := some 34) (v := ?_) (a' := ?_) #[true, true, true, false, false, true, true, false, false, false, false, false, false, false] rfl rfl (any_of HT_.out (by kernel_rfl)) (fun _ _ _ h => h) (Or.inl ⟨by rfl, ?_⟩) ?_ ?_
 rotate_left
 ·
  intro w'
  go_simp
  with_reducible rfl
 rotate_left
 ·
  simp only [Act.put, y1a10, y2a10, y3a10, i64_w, i32_w]
  rfl
 refine pure_ (i := 7) (N := some 35) (v := ?_) (a' := ?_) #[true, true, true, false, false, true, true, true, false, false, false, false, false, false] rfl rfl (any_of HT_.out (by kernel_rfl)) (fun _ _ _ h => h) (Or.inl ⟨by rfl, ?_⟩) ?_ ?_
 rotate_left
 ·
  intro w'
  go_simp
  with_reducible rfl
 rotate_left
 ·
  simp only [Act.put, y1a10, y2a10, y3a10, i64_w, i32_w]
  rfl
 refine pure_ (i := 10) (N := some 38) (v := ?_) (a' := ?_) #[true, true, true, false, false, true, true, true, false, false, true, false, false, false] rfl rfl (any_of HT_.out (by kernel_rfl)) (fun _ _ _ h => h) (Or.inl ⟨by rfl, ?_⟩) ?_ ?_
 rotate_left
 ·
  intro w'
  go_simp
  with_reducible rfl
 rotate_left
 ·
  simp only [Act.put, y1a10, y2a10, y3a10, i64_w, i32_w]
  rfl
 refine take_ (i := 3) (N := some 31) (v := ?_) (a' := ?_) #[true, true, true, true, false, true, true, true, false, false, true, false, false, false] rfl rfl (take_ofW HT_.out HW_.out (by kernel_rfl)) (fun _ _ _ h => h) (Or.inl ⟨by rfl, ?_⟩) hHeld ?_ ?_
 rotate_left
 ·
  rintro w' ⟨s0, s1⟩
  go_simp
  with_reducible rfl
 rotate_left
 ·
  simp only [Act.put, y1a10, y2a10, y3a10, i64_w, i32_w]
  rfl
 refine pure_ (i := 4) (N := some 32) (v := ?_) (a' := ?_) #[true, true, true, true, true, true, true, true, false, false, true, false, false, false] rfl rfl (any_of HT_.out (by kernel_rfl)) (fun _ _ _ h => h) (Or.inl ⟨by rfl, ?_⟩) ?_ ?_
 rotate_left
 ·
  intro w'
  go_simp
  with_reducible rfl
 rotate_left
 ·
  simp only [Act.put, y1a10, y2a10, y3a10, i64_w, i32_w]
  rfl
 refine take_ (i := 8) (N := some 36) (v := ?_) (a' := ?_) #[true, true, true, true, true, true, true, true, true, false, true, false, false, false] rfl rfl (take_ofW HT_.out HW_.out (by kernel_rfl)) (fun _ _ _ h => h) (Or.inl ⟨by rfl, ?_⟩) hHeld ?_ ?_
 rotate_left
 ·
  rintro w' ⟨s0, s1⟩
  go_simp
  with_reducible rfl
 rotate_left
 ·
  simp only [Act.put, y1a10, y2a10, y3a10, i64_w, i32_w]
  rfl
 refine pure_ (i := 9) (N := some 37) (v := ?_) (a' := ?_) #[true, true, true, true, true, true, true, true, true, true, true, false, false, false] rfl rfl (any_of HT_.out (by kernel_rfl)) (fun _ _ _ h => h) (Or.inl ⟨by rfl, ?_⟩) ?_ ?_
 rotate_left
 ·
  intro w'
  go_simp
  with_reducible rfl
 rotate_left
 ·
  simp only [Act.put, y1a10, y2a10, y3a10, i64_w, i32_w]
  rfl
 refine one_ (i := 11) (N := some 39) #[true, true, true, true, true, true, true, true, true, true, true, true, false, false] rfl rfl (one_of HT_.out (by kernel_rfl)) (by decide) (fun K hK => ?_)
 refine goes_ Try.func24 (by kernel_rfl) rfl #[.int .i64 (wrap64 ((wrap64 (t328 - (rd t325 0))) - (rd t325 a1))), .int .i64 t328] (by rfl) rfl rfl Za102 ?_
 with_reducible refine (impl_ratio.calls k (wrap64 ((wrap64 (t328 - (rd t325 0))) - (rd t325 a1))) t328 t331 t332 _ A12.out).mono ?_
 rintro e w22 ⟨rfl, hb⟩
 have HS0_ := (hb.cell (World.block_lt_of_cell? _ _ (hHeld.1))).trans (hHeld.1)
 have HS1_ := (hb.cell (World.block_lt_of_cell? _ _ (hHeld.2))).trans (hHeld.2)
 refine ⟨_, rfl, ?_⟩
 replace HO327 := Aa10q (Kd.R_below (by (with_reducible repeat (first | apply Kd.R_alloc | apply Kd.R_drewN | apply Kd.R_drew)); exact HO327.out) hb)
 replace BK322 := bb10 BK322 Ub10322 hb
 replace BK323 := bb10 BK323 Ub10323 hb
 replace HB := tb10 Hb10 hb
 (try clear hb)
 (try clear hb2)
 (try clear hk)
 (try clear hi)
 refine hK.out _ _ ⟨HS0_, HS1_⟩ (fun hHeld => ?_)
 clear hK K
 refine norm_ (a' := ?_) ?_ ?_
 rotate_left
 ·
  show Act.put _ (some 39) _ = _
  simp only [Act.put, y1a10, y2a10, y3a10, i64_w, i32_w]
  rfl
 refine one_ (i := 12) (N := none) #[true, true, true, true, true, true, true, true, true, true, true, true, true, false] rfl rfl (one_of HT_.out (by kernel_rfl)) (by decide) (fun K hK => ?_)
 have hs23 : w22.cell? ⟨g323, 0, none⟩ = some (.int .i64 0) := (blk_cell BK323.out 0).trans rfl
 have hfs23 := blk_frozen BK323.out 0
 have hns23_0 := NB322_323.out
 have hms23_0 := NB323_322.out
 have hs24 : w22.cell? ⟨g323, 1, none⟩ = some (.int .i64 0) := (blk_cell BK323.out 1).trans rfl
 have hfs24 := blk_frozen BK323.out 1
 have hns24_0 := NB322_323.out
 have hms24_0 := NB323_322.out
 refine skip_ (w1 := ?_) (by rfl) rfl ?_ ?_
 rotate_left
 ·
  go_simp
  rfl
 refine hK.out _ _ ⟨((cell_far (p := ⟨g323, _, none⟩) Za101 _).trans (((cell_far (p := ⟨g323, _, none⟩) Za101 _).trans (hHeld.1)))), ((cell_far (p := ⟨g323, _, none⟩) Za101 _).trans (((cell_far (p := ⟨g323, _, none⟩) Za101 _).trans (hHeld.2))))⟩ (fun hHeld => ?_)
 clear hK K
 refine pure_ (i := 13) (N := some 9) (v := ?_) (a' := ?_) #[true, true, true, true, true, true, true, true, true, true, true, true, true, true] rfl rfl (any_of HT_.out (by kernel_rfl)) (fun _ _ _ h => h) (Or.inl ⟨by rfl, ?_⟩) ?_ ?_
 rotate_left
 ·
  intro w'
  go_simp
  with_reducible rfl
 rotate_left
 ·
  simp only [Act.put, y1a10, y2a10, y3a10, i64_w, i32_w]
  rfl
 refine done_ (done_of HT_.out (by kernel_rfl)) ?_
 try go_wp2
 refine bodyPost_ret (results_ct rfl _ _ g323 25 #[.int .i64 t331, .int .i64 t332] (0, 0) _ rfl (by (with_reducible repeat (first | refine blk_drewN ?_ _ | refine blk_drew ?_ | refine blk_alloc ?_ _)); refine blk_put (cs := #[.int .i64 t331, .int .i64 0]) ?_ 1 _ rfl; (with_reducible repeat (first | refine blk_drewN ?_ _ | refine blk_drew ?_ | refine blk_alloc ?_ _)); refine blk_put (cs := #[.int .i64 0, .int .i64 0]) ?_ 0 _ rfl; (with_reducible repeat (first | refine blk_drewN ?_ _ | refine blk_drew ?_ | refine blk_alloc ?_ _)); exact BK323.out) Try.underlying25 rfl (by kernel_rfl)) rfl ?_
 exact ⟨by first | rfl | (simp [errW_none, errW_some] <;> rfl) | (simp [*, errW_none, errW_some] <;> rfl), Hb10⟩
/-! ### spec_StillPlaying: function 13 -/
def spec_StillPlaying.l0 : Nat → Int → Int → List Int → Int → Int → Int → Int → Option (Int × Int × Bool)
  | 0, _, _, _, _, _, _, _ => none
  | k + 1, x3, x10, x26, x27, x28, x334000, x334001 => if x28 < x27 then (if 0 ≤ x28 then (if x28 < (x26.length : Int) then (spec_StillPlaying.l0 k x3 (wrap64 (x10 + (rd x26 x28))) x26 x27 (wrap64 (x28 + 1)) x334000 x334001) else (none)) else (none)) else ((spec_ruPower.f k x334001 x3).bind fun t344 => ((spec_ruRatio.f k x10 t344).bind fun bt345 => (some (bt345.1, bt345.2, true))))
def spec_StillPlaying.f (k : Nat) (a0 : Int) (a1 : Int) (a2_0 : Int) (a2_1 : Int) (a3 : Int) : Option (Int × Int × Bool) := (spec_ruTimes.f k a0 a1 a2_0 a2_1 a3).bind fun t335 => (if t335 = true then ((spec_ruHeld.f k a0 a1 a2_0 a2_1 a3).bind fun t336 => (if 1 ≤ a1 then (if a1 ≤ (t336.length : Int) then ((some ((t336.take (a1 : Int).toNat).drop 1 : List Int)).bind fun y339 => (spec_StillPlaying.l0 k a3 0 y339 (y339.length : Int) 0 a2_0 a2_1)) else (none)) else (none))) else (some (0, 0, false)))
theorem spec_StillPlaying.mono_l : ∀ k, (∀ y0 y1 y2 y3 y4 y5 y6, LeO (spec_StillPlaying.l0 k y0 y1 y2 y3 y4 y5 y6) (spec_StillPlaying.l0 (k + 1) y0 y1 y2 y3 y4 y5 y6))
  | 0 => fun _ _ _ _ _ _ _ r h => by simp [spec_StillPlaying.l0] at h
  | k + 1 => by
    have ih0 := spec_StillPlaying.mono_l k
    · intro y0 y1 y2 y3 y4 y5 y6
      unfold spec_StillPlaying.l0
      repeat' first
      | (with_reducible exact ih0 _ _ _ _ _ _ _)
      | (with_reducible exact spec_ruHeld.mono _ _ _ _ _ _)
      | (with_reducible exact spec_ruPower.mono _ _ _)
      | (with_reducible exact spec_ruRatio.mono _ _ _)
      | (with_reducible exact spec_ruTimes.mono _ _ _ _ _ _)
      | (with_reducible exact LeO.refl _)
      | (with_reducible exact LeO.none _)
      | (with_reducible refine LeO.ite ?_ ?_)
      | (with_reducible refine LeO.bind ?_ (fun _ => ?_))
      | exact ih0 _ _ _ _ _ _ _
      | exact spec_ruHeld.mono _ _ _ _ _ _
      | exact spec_ruPower.mono _ _ _
      | exact spec_ruRatio.mono _ _ _
      | exact spec_ruTimes.mono _ _ _ _ _ _
      | exact LeO.none _
      | refine LeO.ite ?_ ?_
      | refine LeO.bind ?_ (fun _ => ?_)
theorem spec_StillPlaying.mono : ∀ a0 a1 a2 a3 a4 k, LeO (spec_StillPlaying.f k a0 a1 a2 a3 a4) (spec_StillPlaying.f (k + 1) a0 a1 a2 a3 a4) := by
  intro a0 a1 a2 a3 a4 k
  have ih0 := spec_StillPlaying.mono_l k
  unfold spec_StillPlaying.f
  repeat' first
      | (with_reducible exact ih0 _ _ _ _ _ _ _)
      | (with_reducible exact spec_ruHeld.mono _ _ _ _ _ _)
      | (with_reducible exact spec_ruPower.mono _ _ _)
      | (with_reducible exact spec_ruRatio.mono _ _ _)
      | (with_reducible exact spec_ruTimes.mono _ _ _ _ _ _)
      | (with_reducible exact LeO.refl _)
      | (with_reducible exact LeO.none _)
      | (with_reducible refine LeO.ite ?_ ?_)
      | (with_reducible refine LeO.bind ?_ (fun _ => ?_))
      | exact ih0 _ _ _ _ _ _ _
      | exact spec_ruHeld.mono _ _ _ _ _ _
      | exact spec_ruPower.mono _ _ _
      | exact spec_ruRatio.mono _ _ _
      | exact spec_ruTimes.mono _ _ _ _ _ _
      | exact LeO.none _
      | refine LeO.ite ?_ ?_
      | refine LeO.bind ?_ (fun _ => ?_)
set_option maxHeartbeats 8000000 in
set_option maxRecDepth 100000 in
theorem spec_StillPlaying.calls (k : Nat) (a0 : Int) (a1 : Int) (a2_0 : Int) (a2_1 : Int) (a3 : Int) (r1 : Int) (r2 : Int) (r3 : Bool) (w : World) (h : spec_StillPlaying.f k a0 a1 a2_0 a2_1 a3 = some (r1, r2, r3)) :
  Calls Try.prog 13 #[.int .i64 a0, .int .i64 a1, .agg #[.int .i64 a2_0, .int .i64 a2_1], .int .i64 a3] w fun e w' => e = .returned (.tuple #[.agg #[.int .i64 r1, .int .i64 r2], .bool r3]) ∧ Below w.heap.size w w' := by
 have hu25 := Try.underlying25
 have HB := Aa10q (Below.refl w.heap.size w)
 have H : ((spec_ruTimes.f k a0 a1 a2_0 a2_1 a3).bind fun t335 => (if t335 = true then ((spec_ruHeld.f k a0 a1 a2_0 a2_1 a3).bind fun t336 => (if 1 ≤ a1 then (if a1 ≤ (t336.length : Int) then ((some ((t336.take (a1 : Int).toNat).drop 1 : List Int)).bind fun y339 => (spec_StillPlaying.l0 k a3 0 y339 (y339.length : Int) 0 a2_0 a2_1)) else (none)) else (none))) else (some (0, 0, false)))) = some (r1, r2, r3) := h
 clear h
 replace H := Option.bind_eq_some_iff.mp H
 obtain ⟨t335, A50, H⟩ := H
 replace H : (if t335 = true then ((spec_ruHeld.f k a0 a1 a2_0 a2_1 a3).bind fun t336 => (if 1 ≤ a1 then (if a1 ≤ (t336.length : Int) then ((some ((t336.take (a1 : Int).toNat).drop 1 : List Int)).bind fun y339 => (spec_StillPlaying.l0 k a3 0 y339 (y339.length : Int) 0 a2_0 a2_1)) else (none)) else (none))) else (some (0, 0, false))) = some (r1, r2, r3) := H
 have A5 := Aa10q A50
 clear A50
 by_cases c6 : t335 = true
 rotate_left
 ·
  replace c6 := Bool.eq_false_iff.mpr c6
  subst c6
  have H1 : (some (0, 0, false)) = some (r1, r2, r3) := by rw [if_neg (show ¬ (false = true) by decide)] at H; exact H
  clear H
  have H := H1
  clear H1
  simp only [Option.some.injEq, Prod.mk.injEq] at H
  obtain ⟨rfl, rfl, rfl⟩ := H
  go_enter Try.func13, Try.ntmps13
  go_wp2_with (first | ((with_reducible refine gate_dst (N := 6) rfl ?_); refine box_event ?hg (N := 6) ?hd (cs := #[.int .i64 a2_0, .int .i64 a2_1]) (t := 25) ?hr ?_; (case hd => rfl); (case hg => rfl); (case hr => first | (go_simp; done) | (go_simp; rfl)); intro g333 hg w28 hbox hb; have BK333 := Aa10q (hbox); have GE333 := sb10 Hb10 hg; replace HB := tb10 Hb10 hb; clear hb hbox hg) | ((with_reducible refine gate_dst (N := 8) rfl ?_); refine box_event ?hg (N := 8) ?hd (cs := #[.int .i64 0, .int .i64 0]) (t := 25) ?hr ?_; (case hd => rfl); (case hg => rfl); (case hr => first | (go_simp; done) | (go_simp; rfl)); intro g334 hg w29 hbox hb; have BK334 := Aa10q (hbox); have GE334 := sb10 Hb10 hg; have NB333_334 := nb10 BK333 Ub10333 hg; have NB334_333 := mb10 BK333 Ub10333 hg; replace BK333 := bb10 BK333 Ub10333 hb; replace HB := tb10 Hb10 hb; clear hb hbox hg; have hcz31_0 : w29.cell? ⟨g333, 0, none⟩ = some (.int .i64 a2_0) := (blk_cell BK333.out 0).trans rfl; have hcz31_1 : w29.cell? ⟨g333, 1, none⟩ = some (.int .i64 a2_1) := (blk_cell BK333.out 1).trans rfl; have hfz31_0 := blk_frozen BK333.out 0; have hfz31_1 := blk_frozen BK333.out 1) | ((with_reducible refine gate_callee (f := 26) rfl ?_); refine goesL_ (some 17) rfl rfl Try.func26 (by kernel_rfl) rfl #[.int .i64 a0, .int .i64 a1, .agg #[.int .i64 a2_0, .int .i64 a2_1], .int .i64 a3] rfl Za102 ?_; (with_reducible refine (spec_ruTimes.calls k a0 a1 a2_0 a2_1 a3 false _ A5.out).mono ?_); rintro e w32 ⟨rfl, hb⟩; refine ⟨_, rfl, ?_⟩; replace BK333 := bb10 BK333 Ub10333 hb; replace BK334 := bb10 BK334 Ub10334 hb; replace HB := tb10 Hb10 hb; (try clear hb); (try clear hb2); (try clear hk); (try clear hi); have hcz33_0 : w32.cell? ⟨g334, 0, none⟩ = some (.int .i64 0) := (blk_cell BK334.out 0).trans rfl; have hcz33_1 : w32.cell? ⟨g334, 1, none⟩ = some (.int .i64 0) := (blk_cell BK334.out 1).trans rfl; have hfz33_0 := blk_frozen BK334.out 0; have hfz33_1 := blk_frozen BK334.out 1))
  refine bodyPost_ret (results_ct rfl _ _ g334 25 #[.int .i64 0, .int .i64 0] (0, 0) _ rfl (by (with_reducible repeat (first | refine blk_drewN ?_ _ | refine blk_drew ?_ | refine blk_alloc ?_ _)); refine blk_put (cs := #[.int .i64 0, .int .i64 0]) ?_ 1 _ rfl; (with_reducible repeat (first | refine blk_drewN ?_ _ | refine blk_drew ?_ | refine blk_alloc ?_ _)); refine blk_put (cs := #[.int .i64 0, .int .i64 0]) ?_ 0 _ rfl; (with_reducible repeat (first | refine blk_drewN ?_ _ | refine blk_drew ?_ | refine blk_alloc ?_ _)); exact BK334.out) Try.underlying25 rfl (by kernel_rfl)) rfl ?_
  exact ⟨by first | rfl | (simp [errW_none, errW_some] <;> rfl) | (simp [*, errW_none, errW_some] <;> rfl), Hb10⟩
 subst c6
 have H1 : ((spec_ruHeld.f k a0 a1 a2_0 a2_1 a3).bind fun t336 => (if 1 ≤ a1 then (if a1 ≤ (t336.length : Int) then ((some ((t336.take (a1 : Int).toNat).drop 1 : List Int)).bind fun y339 => (spec_StillPlaying.l0 k a3 0 y339 (y339.length : Int) 0 a2_0 a2_1)) else (none)) else (none))) = some (r1, r2, r3) := by rw [if_pos rfl] at H; exact H
 clear H
 have H := H1
 clear H1
 replace H := Option.bind_eq_some_iff.mp H
 obtain ⟨t336, A70, H⟩ := H
 replace H : (if 1 ≤ a1 then (if a1 ≤ (t336.length : Int) then ((some ((t336.take (a1 : Int).toNat).drop 1 : List Int)).bind fun y339 => (spec_StillPlaying.l0 k a3 0 y339 (y339.length : Int) 0 a2_0 a2_1)) else (none)) else (none)) = some (r1, r2, r3) := H
 have A7 := Aa10q A70
 clear A70
 by_cases c8 : 1 ≤ a1
 rotate_left
 ·
  rw [if_neg c8] at H
  exact absurd H (by simp)
 rw [if_pos c8] at H
 have c8b0 := eq_true c8
 have c8b1 : decide (1 ≤ a1) = true := decide_eq_true c8
 clear c8
 by_cases c9 : a1 ≤ (t336.length : Int)
 rotate_left
 ·
  rw [if_neg c9] at H
  exact absurd H (by simp)
 rw [if_pos c9] at H
 have c9b0 := eq_true c9
 have c9b1 : decide (a1 ≤ (t336.length : Int)) = true := decide_eq_true c9
 clear c9
 obtain ⟨y339, hy339⟩ : ∃ y_ : List Int, y_ = ((t336.take (a1 : Int).toNat).drop 1) := ⟨_, rfl⟩
 replace H : (spec_StillPlaying.l0 k a3 0 y339 (y339.length : Int) 0 a2_0 a2_1) = some (r1, r2, r3) := by first | (rw [hy339]; with_reducible exact H) | (have H2_ := (Option.bind_some _ _).symm.trans H; rw [hy339]; with_reducible exact H2_) | (have H2_ := (Option.bind_some _ _).symm.trans H; with_reducible exact H2_) | with_reducible exact H | (rw [hy339]; exact H) | exact H
 have Ny339 := Aa10q hy339
 clear hy339
 have H' := Aa10q H
 clear H
 go_enter Try.func13, Try.ntmps13
 go_wp2_with (first | ((with_reducible refine gate_dst (N := 6) rfl ?_); refine box_event ?hg (N := 6) ?hd (cs := #[.int .i64 a2_0, .int .i64 a2_1]) (t := 25) ?hr ?_; (case hd => rfl); (case hg => rfl); (case hr => first | (go_simp; done) | (go_simp; rfl)); intro g333 hg w10 hbox hb; have BK333 := Aa10q (hbox); have GE333 := sb10 Hb10 hg; replace HB := tb10 Hb10 hb; clear hb hbox hg) | ((with_reducible refine gate_dst (N := 8) rfl ?_); refine box_event ?hg (N := 8) ?hd (cs := #[.int .i64 0, .int .i64 0]) (t := 25) ?hr ?_; (case hd => rfl); (case hg => rfl); (case hr => first | (go_simp; done) | (go_simp; rfl)); intro g334 hg w11 hbox hb; have BK334 := Aa10q (hbox); have GE334 := sb10 Hb10 hg; have NB333_334 := nb10 BK333 Ub10333 hg; have NB334_333 := mb10 BK333 Ub10333 hg; replace BK333 := bb10 BK333 Ub10333 hb; replace HB := tb10 Hb10 hb; clear hb hbox hg; have hcz13_0 : w11.cell? ⟨g333, 0, none⟩ = some (.int .i64 a2_0) := (blk_cell BK333.out 0).trans rfl; have hcz13_1 : w11.cell? ⟨g333, 1, none⟩ = some (.int .i64 a2_1) := (blk_cell BK333.out 1).trans rfl; have hfz13_0 := blk_frozen BK333.out 0; have hfz13_1 := blk_frozen BK333.out 1) | ((with_reducible refine gate_callee (f := 26) rfl ?_); refine goesL_ (some 17) rfl rfl Try.func26 (by kernel_rfl) rfl #[.int .i64 a0, .int .i64 a1, .agg #[.int .i64 a2_0, .int .i64 a2_1], .int .i64 a3] rfl Za102 ?_; (with_reducible refine (spec_ruTimes.calls k a0 a1 a2_0 a2_1 a3 true _ A5.out).mono ?_); rintro e w14 ⟨rfl, hb⟩; refine ⟨_, rfl, ?_⟩; replace BK333 := bb10 BK333 Ub10333 hb; replace BK334 := bb10 BK334 Ub10334 hb; replace HB := tb10 Hb10 hb; (try clear hb); (try clear hb2); (try clear hk); (try clear hi); have hcz15_0 : w14.cell? ⟨g333, 0, none⟩ = some (.int .i64 a2_0) := (blk_cell BK333.out 0).trans rfl; have hcz15_1 : w14.cell? ⟨g333, 1, none⟩ = some (.int .i64 a2_1) := (blk_cell BK333.out 1).trans rfl; have hfz15_0 := blk_frozen BK333.out 0; have hfz15_1 := blk_frozen BK333.out 1) | ((with_reducible refine gate_callee (f := 27) rfl ?_); refine goesL_ (some 24) rfl rfl Try.func27 (by kernel_rfl) rfl #[.int .i64 a0, .int .i64 a1, .agg #[.int .i64 a2_0, .int .i64 a2_1], .int .i64 a3] rfl Za102 ?_; (with_reducible refine (spec_ruHeld.calls k a0 a1 a2_0 a2_1 a3 t336 _ A7.out).mono ?_); rintro e w16 ⟨v337, rfl, ho0, hb⟩; refine ⟨_, rfl, ?_⟩; have HO338 := Aa10q (Kd.R_lower ho0 (below_size Hb10)); replace BK333 := bb10 BK333 Ub10333 hb; replace BK334 := bb10 BK334 Ub10334 hb; replace HB := tb10 Hb10 hb; (try clear hb); (try clear hb2); (try clear hk); (try clear hi); (try clear ho0); obtain ⟨Ao18, co18, eo18⟩ := Kd.R_slice HO338.out; subst eo18; have q17 : (a1 : Int) ≤ ((t336.length : Int) : Int) := of_decide_eq_true Za104; obtain ⟨i017, hi017, _, hsz17, _⟩ := info_parts info3; have hroom17 : t336.length ≤ co18 := (Kd.R_reads' HO338.out).2.1; have hC17 : Kd.C (Kd.int .i64) _ Ao18 t336.length t336 := (Kd.R_reads' HO338.out).2.2; have ql17 : (1 : Int) ≤ (a1 : Int) := of_decide_eq_true Za104; have hcut17 := cut_mid (P := Try.prog) 42 3 .i64 .i64 Try.underlying42 hi017 1 hsz17 Ao18 t336.length co18 1 a1 (by omega) ql17 q17 hroom17; have hr17 := Kd.C_mid (lo := (1 : Int).toNat) (hi := (a1 : Int).toNat) (c := co18) hC17 (by omega) (by omega) hroom17; obtain ⟨A17, hA17⟩ : ∃ A1, A1 = (if co18 = (1 : Int).toNat then Ao18 else (Ao18 : Option Addr).map (·.add ((1 : Int).toNat * 1))) := ⟨_, rfl⟩; obtain ⟨c17, hc17⟩ : ∃ c1, c1 = co18 - (1 : Int).toNat := ⟨_, rfl⟩; have hy17 : y339.length = (a1 : Int).toNat - (1 : Int).toNat := (by rw [Ny339.out, List.length_drop, List.length_take] <;> omega); rw [show ((t336).take (a1 : Int).toNat).drop (1 : Int).toNat = y339 from Ny339.out.symm] at hr17; replace hr17 : Kd.C (Kd.int .i64) _ A17 y339.length y339 := (by rw [hA17]; exact hr17); rw [← hy17, ← hA17, ← hc17] at hcut17; have HR342 := Aa10q hr17; have HC342 := Aa10q (show y339.length ≤ c17 from by rw [hy17, hc17]; exact Nat.sub_le_sub_right (Nat.le_trans (by omega) hroom17) _); clear hr17 hC17 hroom17 hi017 hsz17 hc17; have KY17 := Aa10q hy17; have KA17 := Aa10q hA17; clear hy17 hA17; have KL17 := Aa10q (show (a1 : Int).toNat ≤ t336.length from by omega); have KM17 := Aa10q (show 1 ≤ (a1 : Int).toNat from by omega); replace q17 := eq_true q17))
 go_loopg [10, 28] k (fun kq v10 v28 w' => ∃ (x10_1 : Int) (x28_1 : Int), v10 = .int .i64 x10_1 ∧ v28 = .int .i64 x28_1 ∧ Aside0 (spec_StillPlaying.l0 kq a3 x10_1 y339 (y339.length : Int) x28_1 a2_0 a2_1 = some (r1, r2, r3)) ∧ Aside0 (kq ≤ k) ∧ Aside0 (w'.heap[g333]? = some (.cells #[.int .i64 a2_0, .int .i64 a2_1] 25 (0, 0))) ∧ Aside0 (w'.heap[g334]? = some (.cells #[.int .i64 0, .int .i64 0] 25 (0, 0))) ∧ Aside0 (Kd.C (Kd.int .i64) w' A17 y339.length y339) ∧ Aside0 (Below w.heap.size w w'))
 case atStart => exact ⟨(0), (0), Za103, Za103, H', ⟨Nat.le_refl _⟩, ⟨Ub10333⟩, ⟨Ub10334⟩, ⟨by repeat (first | (with_reducible exact HR342.out) | (with_reducible refine Kd.C_alloc ?_ _) | (with_reducible refine Kd.C_drewN ?_ _) | (with_reducible refine Kd.C_drew ?_) | exact HR342.out)⟩, ⟨Hb10⟩⟩
 clear H'
 try clear c1
 try clear q1
 try clear c2
 try clear p2
 try clear c6
 try clear c8
 try clear c8b0
 try clear c8b1
 try clear c9
 try clear c9b0
 try clear c9b1
 try clear c12
 try clear c13
 try clear c17
 try clear q17
 try clear hcz13_0
 try clear hcz13_1
 try clear hcz15_0
 try clear hcz15_1
 try clear hfz13_0
 try clear hfz13_1
 try clear hfz15_0
 try clear hfz15_1
 try clear q17
 obtain ⟨x10_1, x28_1, rfl, rfl, HA, HK1, BK333, BK334, HR342, HB⟩ := hrel
 obtain _ | k1 := gk
 · exact absurd HA.out (by simp [spec_StillPlaying.l0])
 have H := HA.out
 clear HA
 simp only [spec_StillPlaying.l0] at H
 by_cases c19 : x28_1 < (y339.length : Int)
 ·
  rw [if_pos c19] at H
  have c19b0 : decide (x28_1 < (y339.length : Int)) = true := decide_eq_true c19
  clear c19
  by_cases c20 : 0 ≤ x28_1
  rotate_left
  ·
   rw [if_neg c20] at H
   exact absurd H (by simp)
  rw [if_pos c20] at H
  have c20b0 : decide (0 ≤ x28_1) = true := decide_eq_true c20
  clear c20
  by_cases c21 : x28_1 < (y339.length : Int)
  rotate_left
  ·
   rw [if_neg c21] at H
   exact absurd H (by simp)
  rw [if_pos c21] at H
  have c21b0 : decide (x28_1 < (y339.length : Int)) = true := decide_eq_true c21
  clear c21
  have H' := Aa10q H
  clear H
  have p343 : 0 ≤ (x28_1 : Int) := of_decide_eq_true Za104
  have q343 : x28_1 < (y339.length : Int) := of_decide_eq_true Za104
  obtain ⟨ad343, e343, hx343_0⟩ := Kd.at_int HR342.out x28_1 p343 q343
  cases e343
  replace p343 := eq_true p343
  replace q343 := eq_true q343
  go_wp2
  go_roundg k1
  case measure => have := HK1.out; omega
  case rel => exact ⟨(wrap64 (x10_1 + (rd y339 x28_1))), (wrap64 (x28_1 + 1)), Za103, Za103, H', ⟨by have := HK1.out; omega⟩, ⟨Ub10333⟩, ⟨Ub10334⟩, ⟨by repeat (first | (with_reducible exact HR342.out) | (with_reducible refine Kd.C_alloc ?_ _) | (with_reducible refine Kd.C_drewN ?_ _) | (with_reducible refine Kd.C_drew ?_) | exact HR342.out)⟩, ⟨Hb10⟩⟩
 rw [if_neg c19] at H
 have c19b0 : decide (x28_1 < (y339.length : Int)) = false := decide_eq_false c19
 clear c19
 replace H := Option.bind_eq_some_iff.mp H
 obtain ⟨t344, A220, H⟩ := H
 replace H : ((spec_ruRatio.f k1 x10_1 t344).bind fun bt345 => (some (bt345.1, bt345.2, true))) = some (r1, r2, r3) := H
 have A22 := Aa10q A220
 clear A220
 replace H := Option.bind_eq_some_iff.mp H
 obtain ⟨⟨t345, t346⟩, A230, H⟩ := H
 replace H : (some (t345, t346, true)) = some (r1, r2, r3) := H
 have A23 := Aa10q A230
 clear A230
 simp only [Option.some.injEq, Prod.mk.injEq] at H
 obtain ⟨rfl, rfl, rfl⟩ := H
 have hcz25_0 : wr.cell? ⟨g333, 0, none⟩ = some (.int .i64 a2_0) := (blk_cell BK333.out 0).trans rfl
 have hcz25_1 : wr.cell? ⟨g333, 1, none⟩ = some (.int .i64 a2_1) := (blk_cell BK333.out 1).trans rfl
 have hfz25_0 := blk_frozen BK333.out 0
 have hfz25_1 := blk_frozen BK333.out 1
 go_wp2_with (first | ((with_reducible refine gate_callee (f := 29) rfl ?_); refine goesL_ (some 40) rfl rfl Try.func29 (by kernel_rfl) rfl #[.int .i64 a2_1, .int .i64 a3] rfl Za102 ?_; (with_reducible refine (spec_ruPower.calls k1 a2_1 a3 t344 _ A22.out).mono ?_); rintro e w' ⟨rfl, ⟨nd, rfl⟩⟩; refine ⟨_, rfl, ?_⟩; (try (rw [drewN_self wr]; generalize hq_ : World.drewN wr _ = wr; have n0_ : Aside0 (wr.heap[g333]? = some (.cells #[.int .i64 a2_0, .int .i64 a2_1] 25 (0, 0))) := ⟨by rw [← hq_]; exact Ub10333⟩; have n1_ : Aside0 (wr.heap[g334]? = some (.cells #[.int .i64 0, .int .i64 0] 25 (0, 0))) := ⟨by rw [← hq_]; exact Ub10334⟩; have n2_ : Aside0 (Below w.heap.size w wr) := ⟨by rw [← hq_]; exact Hb10⟩; clear BK333 BK334 HB hq_; have BK333 := n0_; have BK334 := n1_; have HB := n2_; clear n0_ n1_ n2_))) | ((with_reducible refine gate_callee (f := 28) rfl ?_); refine goesL_ (some 41) rfl rfl Try.func28 (by kernel_rfl) rfl #[.int .i64 x10_1, .int .i64 t344] rfl Za102 ?_; (with_reducible refine (spec_ruRatio.calls k1 x10_1 t344 t345 t346 _ A23.out).mono ?_); rintro e w26 ⟨rfl, hb⟩; refine ⟨_, rfl, ?_⟩; replace BK333 := bb10 BK333 Ub10333 hb; replace BK334 := bb10 BK334 Ub10334 hb; replace HR342 := True.intro; replace HB := tb10 Hb10 hb; (try clear hb); (try clear hb2); (try clear hk); (try clear hi); have hcz27_0 : w26.cell? ⟨g334, 0, none⟩ = some (.int .i64 0) := (blk_cell BK334.out 0).trans rfl; have hcz27_1 : w26.cell? ⟨g334, 1, none⟩ = some (.int .i64 0) := (blk_cell BK334.out 1).trans rfl; have hfz27_0 := blk_frozen BK334.out 0; have hfz27_1 := blk_frozen BK334.out 1))
 refine bodyPost_ret (results_ct rfl _ _ g334 25 #[.int .i64 t345, .int .i64 t346] (0, 0) _ rfl (by (with_reducible repeat (first | refine blk_drewN ?_ _ | refine blk_drew ?_ | refine blk_alloc ?_ _)); refine blk_put (cs := #[.int .i64 t345, .int .i64 0]) ?_ 1 _ rfl; (with_reducible repeat (first | refine blk_drewN ?_ _ | refine blk_drew ?_ | refine blk_alloc ?_ _)); refine blk_put (cs := #[.int .i64 0, .int .i64 0]) ?_ 0 _ rfl; (with_reducible repeat (first | refine blk_drewN ?_ _ | refine blk_drew ?_ | refine blk_alloc ?_ _)); exact BK334.out) Try.underlying25 rfl (by kernel_rfl)) rfl ?_
 exact ⟨by first | rfl | (simp [errW_none, errW_some] <;> rfl) | (simp [*, errW_none, errW_some] <;> rfl), Hb10⟩
/-! ### laws_yRatios: function 14 -/
def laws_yRatios.l0 : Nat → List (S25) → List (S25) → Int → Int → Option (Bool)
  | 0, _, _, _, _ => none
  | k + 1, x0, x1, x12, x13 => if x13 < x12 then (if 0 ≤ x13 then (if x13 < (x0.length : Int) then (if x13 < (x1.length : Int) then (if (!(((rd_T25 x0 x13).f0) == ((rd_T25 x1 x13).f0)) || (!(((rd_T25 x0 x13).f1) == ((rd_T25 x1 x13).f1)))) = true then (some false) else (laws_yRatios.l0 k x0 x1 x12 (wrap64 (x13 + 1)))) else (none)) else (none)) else (none)) else (some true)
def laws_yRatios.f (k : Nat) (l0 : List (S25)) (l1 : List (S25)) : Option (Bool) := if (l0.length : Int) = (l1.length : Int) then (laws_yRatios.l0 k l0 l1 (l0.length : Int) 0) else (some false)
theorem laws_yRatios.mono_l : ∀ k, (∀ y0 y1 y2 y3, LeO (laws_yRatios.l0 k y0 y1 y2 y3) (laws_yRatios.l0 (k + 1) y0 y1 y2 y3))
  | 0 => fun _ _ _ _ r h => by simp [laws_yRatios.l0] at h
  | k + 1 => by
    have ih0 := laws_yRatios.mono_l k
    · intro y0 y1 y2 y3
      unfold laws_yRatios.l0
      repeat' first
      | (with_reducible exact ih0 _ _ _ _)
      | (with_reducible exact LeO.refl _)
      | (with_reducible exact LeO.none _)
      | (with_reducible refine LeO.ite ?_ ?_)
      | (with_reducible refine LeO.bind ?_ (fun _ => ?_))
      | exact ih0 _ _ _ _
      | exact LeO.none _
      | refine LeO.ite ?_ ?_
      | refine LeO.bind ?_ (fun _ => ?_)
theorem laws_yRatios.mono : ∀ a0 a1 k, LeO (laws_yRatios.f k a0 a1) (laws_yRatios.f (k + 1) a0 a1) := by
  intro a0 a1 k
  have ih0 := laws_yRatios.mono_l k
  unfold laws_yRatios.f
  repeat' first
      | (with_reducible exact ih0 _ _ _ _)
      | (with_reducible exact LeO.refl _)
      | (with_reducible exact LeO.none _)
      | (with_reducible refine LeO.ite ?_ ?_)
      | (with_reducible refine LeO.bind ?_ (fun _ => ?_))
      | exact ih0 _ _ _ _
      | exact LeO.none _
      | refine LeO.ite ?_ ?_
      | refine LeO.bind ?_ (fun _ => ?_)
set_option maxHeartbeats 8000000 in
set_option maxRecDepth 100000 in
theorem laws_yRatios.calls (k : Nat) (A0 : Option Addr) (c0 : Nat) (l0 : List (S25)) (A1 : Option Addr) (c1 : Nat) (l1 : List (S25)) (r : Bool) (w : World) (hr0 : Kd.C k25 w A0 l0.length l0) (hc0 : l0.length ≤ c0) (hr1 : Kd.C k25 w A1 l1.length l1) (hc1 : l1.length ≤ c1) (h : laws_yRatios.f k l0 l1 = some r) :
  Calls Try.prog 14 #[.slice A0 l0.length c0, .slice A1 l1.length c1] w fun e w' => e = .returned (.bool r) ∧ Drawn0 w w' := by
 have hu25 := Try.underlying25
 have HR0 := Aa10q hr0
 have HC0 := Aa10q hc0
 clear hr0 hc0
 have HR1 := Aa10q hr1
 have HC1 := Aa10q hc1
 clear hr1 hc1
 have H : (if (l0.length : Int) = (l1.length : Int) then (laws_yRatios.l0 k l0 l1 (l0.length : Int) 0) else (some false)) = some r := h
 clear h
 by_cases c3 : (l0.length : Int) = (l1.length : Int)
 rotate_left
 ·
  rw [if_neg c3] at H
  have c3b0 : ((l0.length : Int) == (l1.length : Int)) = false := beq_eq_false_iff_ne.mpr c3
  have c3b1 : ((l0.length : Int) != (l1.length : Int)) = true := bne_iff_ne.mpr c3
  have c3b2 : (l0.length == l1.length) = false := by first | simpa using c3 | (simp at c3 ⊢; omega)
  obtain rfl := Option.some.inj H
  go_enter Try.func14, Try.ntmps14
  go_wp2
  repeat (go_quiet (fail); try go_wp2)
  go_ret
  exact ⟨by first | rfl | (simp; done) | (simp [*]; done), by repeat (first | exact Drawn0.refl _ | apply Drawn0.step)⟩
 rw [if_pos c3] at H
 have c3b0 : ((l0.length : Int) == (l1.length : Int)) = true := beq_iff_eq.mpr c3
 have c3b1 : ((l0.length : Int) != (l1.length : Int)) = false := bne_eq_false_iff_eq.mpr c3
 have c3b2 : (l0.length == l1.length) = true := by first | simpa using c3 | (simp at c3 ⊢; omega)
 clear c3
 have H' := Aa10q H
 clear H
 go_enter Try.func14, Try.ntmps14
 go_wp2
 repeat (go_quiet (fail); try go_wp2)
 go_loopg [13] k (fun kq v13 w' => ∃ (x13_1 : Int), v13 = .int .i64 x13_1 ∧ Aside0 (laws_yRatios.l0 kq l0 l1 (l0.length : Int) x13_1 = some r) ∧ Aside0 (kq ≤ k) ∧ Drawn0 w w')
 case atStart => exact ⟨(0), Za103, H', ⟨Nat.le_refl _⟩, by repeat (first | exact Drawn0.refl _ | apply Drawn0.step)⟩
 clear H'
 try clear c1
 try clear p2
 try clear c3
 try clear c3b0
 try clear c3b1
 try clear c3b2
 obtain ⟨x13_1, rfl, HA, HK1, ⟨m1, rfl⟩⟩ := hrel
 obtain _ | k1 := gk
 · exact absurd HA.out (by simp [laws_yRatios.l0])
 have H := HA.out
 clear HA
 simp only [laws_yRatios.l0] at H
 by_cases c4 : x13_1 < (l0.length : Int)
 rotate_left
 ·
  rw [if_neg c4] at H
  have c4b0 : decide (x13_1 < (l0.length : Int)) = false := decide_eq_false c4
  clear c4
  obtain rfl := Option.some.inj H
  go_wp2
  repeat (go_quiet (fail); try go_wp2)
  go_ret
  exact ⟨by first | rfl | (simp; done) | (simp [*]; done), by repeat (first | exact Drawn0.refl _ | apply Drawn0.step)⟩
 rw [if_pos c4] at H
 have c4b0 : decide (x13_1 < (l0.length : Int)) = true := decide_eq_true c4
 clear c4
 by_cases c5 : 0 ≤ x13_1
 rotate_left
 ·
  rw [if_neg c5] at H
  exact absurd H (by simp)
 rw [if_pos c5] at H
 have c5b0 : decide (0 ≤ x13_1) = true := decide_eq_true c5
 clear c5
 by_cases c6 : x13_1 < (l0.length : Int)
 rotate_left
 ·
  rw [if_neg c6] at H
  exact absurd H (by simp)
 rw [if_pos c6] at H
 have c6b0 : decide (x13_1 < (l0.length : Int)) = true := decide_eq_true c6
 clear c6
 by_cases c7 : x13_1 < (l1.length : Int)
 rotate_left
 ·
  rw [if_neg c7] at H
  exact absurd H (by simp)
 rw [if_pos c7] at H
 have c7b0 : decide (x13_1 < (l1.length : Int)) = true := decide_eq_true c7
 clear c7
 by_cases c8 : (!(((rd_T25 l0 x13_1).f0) == ((rd_T25 l1 x13_1).f0)) || (!(((rd_T25 l0 x13_1).f1) == ((rd_T25 l1 x13_1).f1)))) = true
 ·
  rw [if_pos c8] at H
  have c8b0 : (!(((rd_T25 l0 x13_1).f0) == ((rd_T25 l1 x13_1).f0)) || (!(((rd_T25 l0 x13_1).f1) == ((rd_T25 l1 x13_1).f1)))) = true := c8
  clear c8
  obtain rfl := Option.some.inj H
  have p347 : 0 ≤ (x13_1 : Int) := of_decide_eq_true Za104
  have q347 : x13_1 < (l0.length : Int) := of_decide_eq_true Za104
  obtain ⟨ad347, e347, hx347_0, hx347_1⟩ := at_T25 HR0.out x13_1 p347 q347
  cases e347
  replace p347 := eq_true p347
  replace q347 := eq_true q347
  have p348 : 0 ≤ (x13_1 : Int) := of_decide_eq_true Za104
  have q348 : x13_1 < (l1.length : Int) := of_decide_eq_true Za104
  obtain ⟨ad348, e348, hx348_0, hx348_1⟩ := at_T25 HR1.out x13_1 p348 q348
  cases e348
  replace p348 := eq_true p348
  replace q348 := eq_true q348
  go_wp2
  repeat (go_quiet (fail); try go_wp2)
  go_ret
  exact ⟨by first | rfl | (simp; done) | (simp [*]; done), by repeat (first | exact Drawn0.refl _ | apply Drawn0.step)⟩
 rw [if_neg c8] at H
 have c8b0 : (!(((rd_T25 l0 x13_1).f0) == ((rd_T25 l1 x13_1).f0)) || (!(((rd_T25 l0 x13_1).f1) == ((rd_T25 l1 x13_1).f1)))) = false := by simpa using c8
 clear c8
 have H' := Aa10q H
 clear H
 have p347 : 0 ≤ (x13_1 : Int) := of_decide_eq_true Za104
 have q347 : x13_1 < (l0.length : Int) := of_decide_eq_true Za104
 obtain ⟨ad347, e347, hx347_0, hx347_1⟩ := at_T25 HR0.out x13_1 p347 q347
 cases e347
 replace p347 := eq_true p347
 replace q347 := eq_true q347
 have p348 : 0 ≤ (x13_1 : Int) := of_decide_eq_true Za104
 have q348 : x13_1 < (l1.length : Int) := of_decide_eq_true Za104
 obtain ⟨ad348, e348, hx348_0, hx348_1⟩ := at_T25 HR1.out x13_1 p348 q348
 cases e348
 replace p348 := eq_true p348
 replace q348 := eq_true q348
 go_wp2
 repeat (go_quiet (fail); try go_wp2)
 go_roundg k1
 case measure => have := HK1.out; omega
 case rel => exact ⟨(wrap64 (x13_1 + 1)), Za103, H', ⟨by have := HK1.out; omega⟩, by repeat (first | exact Drawn0.refl _ | apply Drawn0.step)⟩
/-! ### laws_yPower: function 15 -/
def laws_yPower.l0 : Nat → Int → Int → Int → Option (Int)
  | 0, _, _, _ => none
  | k + 1, x0, x1, x5 => if x1 > 0 then (laws_yPower.l0 k x0 (wrap64 (x1 - 1)) (wrap64 (x5 * x0))) else (some x5)
def laws_yPower.f (k : Nat) (a0 : Int) (a1 : Int) : Option (Int) := laws_yPower.l0 k a0 a1 1
theorem laws_yPower.mono_l : ∀ k, (∀ y0 y1 y2, LeO (laws_yPower.l0 k y0 y1 y2) (laws_yPower.l0 (k + 1) y0 y1 y2))
  | 0 => fun _ _ _ r h => by simp [laws_yPower.l0] at h
  | k + 1 => by
    have ih0 := laws_yPower.mono_l k
    · intro y0 y1 y2
      unfold laws_yPower.l0
      repeat' first
      | (with_reducible exact ih0 _ _ _)
      | (with_reducible exact LeO.refl _)
      | (with_reducible exact LeO.none _)
      | (with_reducible refine LeO.ite ?_ ?_)
      | (with_reducible refine LeO.bind ?_ (fun _ => ?_))
      | exact ih0 _ _ _
      | exact LeO.none _
      | refine LeO.ite ?_ ?_
      | refine LeO.bind ?_ (fun _ => ?_)
theorem laws_yPower.mono : ∀ a0 a1 k, LeO (laws_yPower.f k a0 a1) (laws_yPower.f (k + 1) a0 a1) := by
  intro a0 a1 k
  have ih0 := laws_yPower.mono_l k
  unfold laws_yPower.f
  repeat' first
      | (with_reducible exact ih0 _ _ _)
      | (with_reducible exact LeO.refl _)
      | (with_reducible exact LeO.none _)
      | (with_reducible refine LeO.ite ?_ ?_)
      | (with_reducible refine LeO.bind ?_ (fun _ => ?_))
      | exact ih0 _ _ _
      | exact LeO.none _
      | refine LeO.ite ?_ ?_
      | refine LeO.bind ?_ (fun _ => ?_)
set_option maxHeartbeats 8000000 in
set_option maxRecDepth 100000 in
theorem laws_yPower.calls (k : Nat) (a0 : Int) (a1 : Int) (r : Int) (w : World) (h : laws_yPower.f k a0 a1 = some r) :
  Calls Try.prog 15 #[.int .i64 a0, .int .i64 a1] w fun e w' => e = .returned (.int .i64 r) ∧ Drawn0 w w' := by
 have H : (laws_yPower.l0 k a0 a1 1) = some r := h
 clear h
 have H' := Aa10q H
 clear H
 go_enter Try.func15, Try.ntmps15
 go_wp2
 go_loopg [1, 5] k (fun kq v1 v5 w' => ∃ (x1_1 : Int) (x5_1 : Int), v1 = .int .i64 x1_1 ∧ v5 = .int .i64 x5_1 ∧ Aside0 (laws_yPower.l0 kq a0 x1_1 x5_1 = some r) ∧ Aside0 (kq ≤ k) ∧ Drawn0 w w')
 case atStart => exact ⟨(a1), (1), Za103, Za103, H', ⟨Nat.le_refl _⟩, by repeat (first | exact Drawn0.refl _ | apply Drawn0.step)⟩
 clear H'
 try clear c1
 try clear p2
 obtain ⟨x1_1, x5_1, rfl, rfl, HA, HK1, ⟨m1, rfl⟩⟩ := hrel
 obtain _ | k1 := gk
 · exact absurd HA.out (by simp [laws_yPower.l0])
 have H := HA.out
 clear HA
 simp only [laws_yPower.l0] at H
 by_cases c3 : x1_1 > 0
 rotate_left
 ·
  rw [if_neg c3] at H
  have c3b0 : decide (0 < x1_1) = false := decide_eq_false c3
  clear c3
  obtain rfl := Option.some.inj H
  go_wp2
  go_ret
  exact ⟨by first | rfl | (simp; done) | (simp [*]; done), by repeat (first | exact Drawn0.refl _ | apply Drawn0.step)⟩
 rw [if_pos c3] at H
 have c3b0 : decide (0 < x1_1) = true := decide_eq_true c3
 clear c3
 have H' := Aa10q H
 clear H
 go_wp2
 go_roundg k1
 case measure => have := HK1.out; omega
 case rel => exact ⟨(wrap64 (x1_1 - 1)), (wrap64 (x5_1 * a0)), Za103, Za103, H', ⟨by have := HK1.out; omega⟩, by repeat (first | exact Drawn0.refl _ | apply Drawn0.step)⟩
/-! ### laws_yTimes: function 16 -/
def laws_yTimes.f (a0_0 : Int) (a0_1 : Int) (a1 : Int) : Option (Int) := if a0_1 < 1 then (some (-1)) else (if a0_1 = 0 then (none) else (if (Int.tmod a1 a0_1) = 0 then (some (wrap64 (a0_0 * (wrap64 (Int.tdiv a1 a0_1))))) else (some (-1))))
set_option maxHeartbeats 8000000 in
set_option maxRecDepth 100000 in
theorem laws_yTimes.calls (a0_0 : Int) (a0_1 : Int) (a1 : Int) (r : Int) (w : World) (h : laws_yTimes.f a0_0 a0_1 a1 = some r) :
  Calls Try.prog 16 #[.agg #[.int .i64 a0_0, .int .i64 a0_1], .int .i64 a1] w fun e w' => e = .returned (.int .i64 r) ∧ Below w.heap.size w w' := by
 have hu25 := Try.underlying25
 have HB := Aa10q (Below.refl w.heap.size w)
 have H : (if a0_1 < 1 then (some (-1)) else (if a0_1 = 0 then (none) else (if (Int.tmod a1 a0_1) = 0 then (some (wrap64 (a0_0 * (wrap64 (Int.tdiv a1 a0_1))))) else (some (-1))))) = some r := h
 clear h
 by_cases c3 : a0_1 < 1
 ·
  rw [if_pos c3] at H
  have c3b0 : decide (a0_1 < 1) = true := decide_eq_true c3
  clear c3
  obtain rfl := Option.some.inj H
  go_enter Try.func16, Try.ntmps16
  go_wp2_with (first | ((with_reducible refine gate_dst (N := 2) rfl ?_); refine box_event ?hg (N := 2) ?hd (cs := #[.int .i64 a0_0, .int .i64 a0_1]) (t := 25) ?hr ?_; (case hd => rfl); (case hg => rfl); (case hr => first | (go_simp; done) | (go_simp; rfl)); intro g349 hg w4 hbox hb; have BK349 := Aa10q (hbox); have GE349 := sb10 Hb10 hg; replace HB := tb10 Hb10 hb; clear hb hbox hg; have hcz5_0 : w4.cell? ⟨g349, 0, none⟩ = some (.int .i64 a0_0) := (blk_cell BK349.out 0).trans rfl; have hcz5_1 : w4.cell? ⟨g349, 1, none⟩ = some (.int .i64 a0_1) := (blk_cell BK349.out 1).trans rfl; have hfz5_0 := blk_frozen BK349.out 0; have hfz5_1 := blk_frozen BK349.out 1))
  repeat (go_quiet (first | ((with_reducible refine gate_dst (N := 2) rfl ?_); refine box_event ?hg (N := 2) ?hd (cs := #[.int .i64 a0_0, .int .i64 a0_1]) (t := 25) ?hr ?_; (case hd => rfl); (case hg => rfl); (case hr => first | (go_simp; done) | (go_simp; rfl)); intro g349 hg w4 hbox hb; have n0_ := tb10 Hb10 hb; have n1_ := Aa10q (hbox); have n2_ := sb10 Hb10 hg; have n3_ := sb10 Hb10 hg; clear HB; have HB := n0_; have BK349 := n1_; have GW349 := n2_; have GE349 := n3_; clear n0_ n1_ n2_ n3_; clear hb hbox hg; have hcz5_0 : w4.cell? ⟨g349, 0, none⟩ = some (.int .i64 a0_0) := (blk_cell BK349.out 0).trans rfl; have hcz5_1 : w4.cell? ⟨g349, 1, none⟩ = some (.int .i64 a0_1) := (blk_cell BK349.out 1).trans rfl; have hfz5_0 := blk_frozen BK349.out 0; have hfz5_1 := blk_frozen BK349.out 1)); try go_wp2_with (first | ((with_reducible refine gate_dst (N := 2) rfl ?_); refine box_event ?hg (N := 2) ?hd (cs := #[.int .i64 a0_0, .int .i64 a0_1]) (t := 25) ?hr ?_; (case hd => rfl); (case hg => rfl); (case hr => first | (go_simp; done) | (go_simp; rfl)); intro g349 hg w4 hbox hb; have n0_ := tb10 Hb10 hb; have n1_ := Aa10q (hbox); have n2_ := sb10 Hb10 hg; have n3_ := sb10 Hb10 hg; clear HB; have HB := n0_; have BK349 := n1_; have GW349 := n2_; have GE349 := n3_; clear n0_ n1_ n2_ n3_; clear hb hbox hg; have hcz5_0 : w4.cell? ⟨g349, 0, none⟩ = some (.int .i64 a0_0) := (blk_cell BK349.out 0).trans rfl; have hcz5_1 : w4.cell? ⟨g349, 1, none⟩ = some (.int .i64 a0_1) := (blk_cell BK349.out 1).trans rfl; have hfz5_0 := blk_frozen BK349.out 0; have hfz5_1 := blk_frozen BK349.out 1)))
  go_ret
  exact ⟨by first | rfl | (simp [errW_none, errW_some] <;> rfl) | (simp [*, errW_none, errW_some] <;> rfl), Hb10⟩
 rw [if_neg c3] at H
 have c3b0 : decide (a0_1 < 1) = false := decide_eq_false c3
 clear c3
 by_cases c6 : a0_1 = 0
 ·
  rw [if_pos c6] at H
  exact absurd H (by simp)
 rw [if_neg c6] at H
 have c6b0 : (a0_1 == 0) = false := beq_eq_false_iff_ne.mpr c6
 have c6b1 : (a0_1 != 0) = true := bne_iff_ne.mpr c6
 by_cases c7 : (Int.tmod a1 a0_1) = 0
 ·
  rw [if_pos c7] at H
  have c7b0 : ((Int.tmod a1 a0_1) == 0) = true := beq_iff_eq.mpr c7
  have c7b1 : ((Int.tmod a1 a0_1) != 0) = false := bne_eq_false_iff_eq.mpr c7
  clear c7
  obtain rfl := Option.some.inj H
  go_enter Try.func16, Try.ntmps16
  go_wp2_with (first | ((with_reducible refine gate_dst (N := 2) rfl ?_); refine box_event ?hg (N := 2) ?hd (cs := #[.int .i64 a0_0, .int .i64 a0_1]) (t := 25) ?hr ?_; (case hd => rfl); (case hg => rfl); (case hr => first | (go_simp; done) | (go_simp; rfl)); intro g349 hg w8 hbox hb; have BK349 := Aa10q (hbox); have GE349 := sb10 Hb10 hg; replace HB := tb10 Hb10 hb; clear hb hbox hg; have hcz9_0 : w8.cell? ⟨g349, 0, none⟩ = some (.int .i64 a0_0) := (blk_cell BK349.out 0).trans rfl; have hcz9_1 : w8.cell? ⟨g349, 1, none⟩ = some (.int .i64 a0_1) := (blk_cell BK349.out 1).trans rfl; have hfz9_0 := blk_frozen BK349.out 0; have hfz9_1 := blk_frozen BK349.out 1))
  repeat (go_quiet (first | ((with_reducible refine gate_dst (N := 2) rfl ?_); refine box_event ?hg (N := 2) ?hd (cs := #[.int .i64 a0_0, .int .i64 a0_1]) (t := 25) ?hr ?_; (case hd => rfl); (case hg => rfl); (case hr => first | (go_simp; done) | (go_simp; rfl)); intro g349 hg w8 hbox hb; have n0_ := tb10 Hb10 hb; have n1_ := Aa10q (hbox); have n2_ := sb10 Hb10 hg; have n3_ := sb10 Hb10 hg; clear HB; have HB := n0_; have BK349 := n1_; have GW349 := n2_; have GE349 := n3_; clear n0_ n1_ n2_ n3_; clear hb hbox hg; have hcz9_0 : w8.cell? ⟨g349, 0, none⟩ = some (.int .i64 a0_0) := (blk_cell BK349.out 0).trans rfl; have hcz9_1 : w8.cell? ⟨g349, 1, none⟩ = some (.int .i64 a0_1) := (blk_cell BK349.out 1).trans rfl; have hfz9_0 := blk_frozen BK349.out 0; have hfz9_1 := blk_frozen BK349.out 1)); try go_wp2_with (first | ((with_reducible refine gate_dst (N := 2) rfl ?_); refine box_event ?hg (N := 2) ?hd (cs := #[.int .i64 a0_0, .int .i64 a0_1]) (t := 25) ?hr ?_; (case hd => rfl); (case hg => rfl); (case hr => first | (go_simp; done) | (go_simp; rfl)); intro g349 hg w8 hbox hb; have n0_ := tb10 Hb10 hb; have n1_ := Aa10q (hbox); have n2_ := sb10 Hb10 hg; have n3_ := sb10 Hb10 hg; clear HB; have HB := n0_; have BK349 := n1_; have GW349 := n2_; have GE349 := n3_; clear n0_ n1_ n2_ n3_; clear hb hbox hg; have hcz9_0 : w8.cell? ⟨g349, 0, none⟩ = some (.int .i64 a0_0) := (blk_cell BK349.out 0).trans rfl; have hcz9_1 : w8.cell? ⟨g349, 1, none⟩ = some (.int .i64 a0_1) := (blk_cell BK349.out 1).trans rfl; have hfz9_0 := blk_frozen BK349.out 0; have hfz9_1 := blk_frozen BK349.out 1)))
  go_ret
  exact ⟨by first | rfl | (simp [errW_none, errW_some] <;> rfl) | (simp [*, errW_none, errW_some] <;> rfl), Hb10⟩
 rw [if_neg c7] at H
 have c7b0 : ((Int.tmod a1 a0_1) == 0) = false := beq_eq_false_iff_ne.mpr c7
 have c7b1 : ((Int.tmod a1 a0_1) != 0) = true := bne_iff_ne.mpr c7
 obtain rfl := Option.some.inj H
 go_enter Try.func16, Try.ntmps16
 go_wp2_with (first | ((with_reducible refine gate_dst (N := 2) rfl ?_); refine box_event ?hg (N := 2) ?hd (cs := #[.int .i64 a0_0, .int .i64 a0_1]) (t := 25) ?hr ?_; (case hd => rfl); (case hg => rfl); (case hr => first | (go_simp; done) | (go_simp; rfl)); intro g349 hg w10 hbox hb; have BK349 := Aa10q (hbox); have GE349 := sb10 Hb10 hg; replace HB := tb10 Hb10 hb; clear hb hbox hg; have hcz11_0 : w10.cell? ⟨g349, 0, none⟩ = some (.int .i64 a0_0) := (blk_cell BK349.out 0).trans rfl; have hcz11_1 : w10.cell? ⟨g349, 1, none⟩ = some (.int .i64 a0_1) := (blk_cell BK349.out 1).trans rfl; have hfz11_0 := blk_frozen BK349.out 0; have hfz11_1 := blk_frozen BK349.out 1))
 repeat (go_quiet (first | ((with_reducible refine gate_dst (N := 2) rfl ?_); refine box_event ?hg (N := 2) ?hd (cs := #[.int .i64 a0_0, .int .i64 a0_1]) (t := 25) ?hr ?_; (case hd => rfl); (case hg => rfl); (case hr => first | (go_simp; done) | (go_simp; rfl)); intro g349 hg w10 hbox hb; have n0_ := tb10 Hb10 hb; have n1_ := Aa10q (hbox); have n2_ := sb10 Hb10 hg; have n3_ := sb10 Hb10 hg; clear HB; have HB := n0_; have BK349 := n1_; have GW349 := n2_; have GE349 := n3_; clear n0_ n1_ n2_ n3_; clear hb hbox hg; have hcz11_0 : w10.cell? ⟨g349, 0, none⟩ = some (.int .i64 a0_0) := (blk_cell BK349.out 0).trans rfl; have hcz11_1 : w10.cell? ⟨g349, 1, none⟩ = some (.int .i64 a0_1) := (blk_cell BK349.out 1).trans rfl; have hfz11_0 := blk_frozen BK349.out 0; have hfz11_1 := blk_frozen BK349.out 1)); try go_wp2_with (first | ((with_reducible refine gate_dst (N := 2) rfl ?_); refine box_event ?hg (N := 2) ?hd (cs := #[.int .i64 a0_0, .int .i64 a0_1]) (t := 25) ?hr ?_; (case hd => rfl); (case hg => rfl); (case hr => first | (go_simp; done) | (go_simp; rfl)); intro g349 hg w10 hbox hb; have n0_ := tb10 Hb10 hb; have n1_ := Aa10q (hbox); have n2_ := sb10 Hb10 hg; have n3_ := sb10 Hb10 hg; clear HB; have HB := n0_; have BK349 := n1_; have GW349 := n2_; have GE349 := n3_; clear n0_ n1_ n2_ n3_; clear hb hbox hg; have hcz11_0 : w10.cell? ⟨g349, 0, none⟩ = some (.int .i64 a0_0) := (blk_cell BK349.out 0).trans rfl; have hcz11_1 : w10.cell? ⟨g349, 1, none⟩ = some (.int .i64 a0_1) := (blk_cell BK349.out 1).trans rfl; have hfz11_0 := blk_frozen BK349.out 0; have hfz11_1 := blk_frozen BK349.out 1)))
 go_ret
 exact ⟨by first | rfl | (simp [errW_none, errW_some] <;> rfl) | (simp [*, errW_none, errW_some] <;> rfl), Hb10⟩
end Go.Proofs.Ytoglhflnfkmkcaa.OFnRuinInTime
