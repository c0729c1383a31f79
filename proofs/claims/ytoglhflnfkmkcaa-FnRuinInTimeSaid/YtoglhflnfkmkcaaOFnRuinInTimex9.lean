/- The functions that 'FnRuinInTime' runs, each as a function over numbers and lists, with the proof that the Go text comes to its answers. No condition. -/
import Derived.Test.YtoglhflnfkmkcaaOFnRuinInTimex0
import Derived.Test.YtoglhflnfkmkcaaOFnRuinInTimex2
import Derived.Test.YtoglhflnfkmkcaaOFnRuinInTimex3
import Derived.Test.YtoglhflnfkmkcaaOFnRuinInTimex4
import Derived.Test.YtoglhflnfkmkcaaOFnRuinInTimex5
import Derived.Test.YtoglhflnfkmkcaaOFnRuinInTimex6
import Derived.Test.YtoglhflnfkmkcaaOFnRuinInTimex7
import Derived.Test.YtoglhflnfkmkcaaOFnRuinInTimex8
namespace Go.Proofs.Ytoglhflnfkmkcaa.OFnRuinInTime
open Go.Proofs.Ytoglhflnfkmkcaa.Stub
open Go.RowKit Go.Proofs.YtoglhflnfkmkcaaW.PrintWords Go.Proofs.YtoglhflnfkmkcaaW.PrintLast Go.Proofs.YtoglhflnfkmkcaaW.PrintMore
attribute [local go_sem] max2_int min2_int max_two min_two max_three min_three max_four min_four   -- for this text's walks alone
set_option linter.unusedVariables false
set_option linter.unusedSimpArgs false

theorem y1a9 {α : Type} (l : List α) (i : Nat) (a : α) : l.toArray.setIfInBounds i a = (l.set i a).toArray := List.setIfInBounds_toArray l i a
theorem y2a9 {α : Type} {x : α} {xs : List α} {b : α} : (x :: xs).set 0 b = b :: xs := List.set_cons_zero
theorem y3a9 {α : Type} {x : α} {xs : List α} {n : Nat} {b : α} : (x :: xs).set (n + 1) b = x :: xs.set n b := List.set_cons_succ
theorem Aa9q {p : Prop} (h : p) : Aside0 p := Aside0.mk h
theorem Za91 {p : Prop} (h : p := by (try simp only [List.map_toArray, List.map_cons, List.map_nil]); first | done | rfl | (simp only [List.length_drop, List.length_take]; rfl)) : p := h
theorem Za92 {p : Prop} (h : p := by kernel_rfl) : p := h
theorem Hb9 {p : Prop} (h : p := by repeat (first | (with_reducible first | exact HB.out | apply below_alloc | apply pw_below_drewN | apply below_drew1 | refine below_set ?_ GE302.out | refine below_set ?_ GE303.out | refine below_set ?_ GE312.out | refine below_set ?_ GE313.out) | exact HB.out)) : p := h
theorem bb9 {w0 w w1 : World} {g : Nat} {o : Obj} (_ : Aside0 (w0.heap[g]? = some o)) (h : w.heap[g]? = some o) (hb : Below w.heap.size w w1) : Aside0 (w1.heap[g]? = some o) := Aa9q (blk_below h hb)
theorem nb9 {w0 w : World} {g q : Nat} {o : Obj} (_ : Aside0 (w0.heap[g]? = some o)) (h : w.heap[g]? = some o) (hg : q = w.heap.size) : Aside0 (g ≠ q) := Aa9q (by rw [hg]; exact Nat.ne_of_lt (blk_lt h))
theorem mb9 {w0 w : World} {g q : Nat} {o : Obj} (_ : Aside0 (w0.heap[g]? = some o)) (h : w.heap[g]? = some o) (hg : q = w.heap.size) : Aside0 (q ≠ g) := Aa9q (by rw [hg]; exact Nat.ne_of_gt (blk_lt h))
theorem sb9 {w w1 : World} {q : Nat} (h : Below w.heap.size w w1) (hg : q = w1.heap.size) : Aside0 (w.heap.size ≤ q) := Aa9q (by rw [hg]; exact below_size h)
theorem tb9 {w w1 w2 : World} (h : Below w.heap.size w w1) (hb : Below w1.heap.size w1 w2) : Aside0 (Below w.heap.size w w2) := Aa9q (below_step h hb)
theorem Ub9302 {p : Prop} (h : p := by repeat (first | (with_reducible first | exact BK302.out | refine blk_drewN ?_ _ | refine blk_drew ?_ | refine blk_alloc ?_ _) | exact BK302.out)) : p := h
theorem Ub9303 {p : Prop} (h : p := by repeat (first | (with_reducible first | exact BK303.out | refine blk_drewN ?_ _ | refine blk_drew ?_ | refine blk_alloc ?_ _) | exact BK303.out)) : p := h
theorem Ub9312 {p : Prop} (h : p := by repeat (first | (with_reducible first | exact BK312.out | refine blk_drewN ?_ _ | refine blk_drew ?_ | refine blk_alloc ?_ _) | exact BK312.out)) : p := h
theorem Ub9313 {p : Prop} (h : p := by repeat (first | (with_reducible first | exact BK313.out | refine blk_drewN ?_ _ | refine blk_drew ?_ | refine blk_alloc ?_ _) | exact BK313.out)) : p := h
/-! ### impl_RuinWithin: function 10 -/
theorem stronger9 {P : Program} {ops : Array Oper} {Q : Exit → Act → World → Prop} {md : Region.Mode} {S S' : World → Prop} (hi : ∀ w, S' w → S w) :
    ∀ {fuel : Nat} {l : Array Bool} {a : Act} {w : World}, S' w → wpAnyLast P md ops Q S' [] fuel l a w → wpAnyLast P md ops Q S [] fuel l a w
  | 0, _, _, _, _, h => h
  | _ + 1, _, _, _, hS, h => ⟨h.1, fun i hr => wpOp_mono (fun _ _ h' => ⟨fun _ _ => hi _ (h'.1 (by simp) hS), stronger9 hi (h'.1 (by simp) hS) h'.2⟩) (h.2 i hr)⟩
def impl_RuinWithin.f (k : Nat) (a0 : Int) (a1 : Int) (a2_0 : Int) (a2_1 : Int) (a3 : Int) : Option (Int × Int × Bool) := (impl_isPart.f k a0 a1 a2_0 a2_1 a3).bind fun t304 => (if t304 = true then ((impl_held.f k a0 a1 a2_0 a2_1 a3).bind fun t305 => (if 0 < (t305.length : Int) then ((impl_power.f k a2_1 a3).bind fun t309 => ((impl_ratio.f k (rd t305 0) t309).bind fun bt310 => (some (bt310.1, bt310.2, true)))) else (none))) else (some (0, 0, false)))
theorem impl_RuinWithin.mono : ∀ a0 a1 a2 a3 a4 k, LeO (impl_RuinWithin.f k a0 a1 a2 a3 a4) (impl_RuinWithin.f (k + 1) a0 a1 a2 a3 a4) := by
  intro a0 a1 a2 a3 a4 k
  unfold impl_RuinWithin.f
  repeat' first
      | (with_reducible exact impl_held.mono _ _ _ _ _ _)
      | (with_reducible exact impl_isPart.mono _ _ _ _ _ _)
      | (with_reducible exact impl_power.mono _ _ _)
      | (with_reducible exact impl_ratio.mono _ _ _)
      | (with_reducible exact LeO.refl _)
      | (with_reducible exact LeO.none _)
      | (with_reducible refine LeO.ite ?_ ?_)
      | (with_reducible refine LeO.bind ?_ (fun _ => ?_))
      | exact impl_held.mono _ _ _ _ _ _
      | exact impl_isPart.mono _ _ _ _ _ _
      | exact impl_power.mono _ _ _
      | exact impl_ratio.mono _ _ _
      | exact LeO.none _
      | refine LeO.ite ?_ ?_
      | refine LeO.bind ?_ (fun _ => ?_)
def impl_RuinWithin.T3 : Bool × List (List Nat × List Nat) := (true, [([], []), ([], []), ([], []), ([], []), ([0, 1, 2, 3], [0, 1, 2, 3]), ([4], [4]), ([5], [5]), ([], []), ([7], [7]), ([], []), ([8, 9, 4], [8, 9]), ([6, 10, 10], [6, 10]), ([11, 11, 0, 1, 2, 3, 4, 5, 6, 7, 8, 9, 10, 11], [11]), ([12, 0, 1, 2, 3, 4, 5, 6, 7, 8, 9, 10, 11, 12], [])])
def impl_RuinWithin.B3 : List Nat := [0, 0, 0, 0, 15, 31, 63, 0, 128, 0, 927, 2047, 4095, 8191]
theorem impl_RuinWithin.tab3 : rtab .any (opsOf Try.f10 3) = impl_RuinWithin.T3 := by kernel_rfl
theorem impl_RuinWithin.bits3 : waitsOk impl_RuinWithin.T3.2 impl_RuinWithin.B3 = true := by kernel_rfl
set_option maxHeartbeats 8000000 in
set_option maxRecDepth 100000 in
theorem impl_RuinWithin.calls (k : Nat) (a0 : Int) (a1 : Int) (a2_0 : Int) (a2_1 : Int) (a3 : Int) (r1 : Int) (r2 : Int) (r3 : Bool) (w : World) (h : impl_RuinWithin.f k a0 a1 a2_0 a2_1 a3 = some (r1, r2, r3)) :
  Calls Try.prog 10 #[.int .i64 a0, .int .i64 a1, .agg #[.int .i64 a2_0, .int .i64 a2_1], .int .i64 a3] w fun e w' => e = .returned (.tuple #[.agg #[.int .i64 r1, .int .i64 r2], .bool r3]) ∧ Below w.heap.size w w' := by
 have hu25 := Try.underlying25
 have HB := Aa9q (Below.refl w.heap.size w)
 have H : ((impl_isPart.f k a0 a1 a2_0 a2_1 a3).bind fun t304 => (if t304 = true then ((impl_held.f k a0 a1 a2_0 a2_1 a3).bind fun t305 => (if 0 < (t305.length : Int) then ((impl_power.f k a2_1 a3).bind fun t309 => ((impl_ratio.f k (rd t305 0) t309).bind fun bt310 => (some (bt310.1, bt310.2, true)))) else (none))) else (some (0, 0, false)))) = some (r1, r2, r3) := h
 clear h
 replace H := Option.bind_eq_some_iff.mp H
 obtain ⟨t304, A50, H⟩ := H
 replace H : (if t304 = true then ((impl_held.f k a0 a1 a2_0 a2_1 a3).bind fun t305 => (if 0 < (t305.length : Int) then ((impl_power.f k a2_1 a3).bind fun t309 => ((impl_ratio.f k (rd t305 0) t309).bind fun bt310 => (some (bt310.1, bt310.2, true)))) else (none))) else (some (0, 0, false))) = some (r1, r2, r3) := H
 have A5 := Aa9q A50
 clear A50
 by_cases c6 : t304 = true
 rotate_left
 ·
  replace c6 := Bool.eq_false_iff.mpr c6
  subst c6
  have H1 : (some (0, 0, false)) = some (r1, r2, r3) := by rw [if_neg (show ¬ (false = true) by decide)] at H; exact H
  clear H
  have H := H1
  clear H1
  simp only [Option.some.injEq, Prod.mk.injEq] at H
  obtain ⟨rfl, rfl, rfl⟩ := H
  go_enter Try.func10, Try.ntmps10
  go_wp2_with (first | ((with_reducible refine gate_dst (N := 6) rfl ?_); refine box_event ?hg (N := 6) ?hd (cs := #[.int .i64 a2_0, .int .i64 a2_1]) (t := 25) ?hr ?_; (case hd => rfl); (case hg => rfl); (case hr => first | (go_simp; done) | (go_simp; rfl)); intro g302 hg w22 hbox hb; have BK302 := Aa9q (hbox); have GE302 := sb9 Hb9 hg; replace HB := tb9 Hb9 hb; clear hb hbox hg) | ((with_reducible refine gate_dst (N := 8) rfl ?_); refine box_event ?hg (N := 8) ?hd (cs := #[.int .i64 0, .int .i64 0]) (t := 25) ?hr ?_; (case hd => rfl); (case hg => rfl); (case hr => first | (go_simp; done) | (go_simp; rfl)); intro g303 hg w23 hbox hb; have BK303 := Aa9q (hbox); have GE303 := sb9 Hb9 hg; have NB302_303 := nb9 BK302 Ub9302 hg; have NB303_302 := mb9 BK302 Ub9302 hg; replace BK302 := bb9 BK302 Ub9302 hb; replace HB := tb9 Hb9 hb; clear hb hbox hg; have hcz25_0 : w23.cell? ⟨g302, 0, none⟩ = some (.int .i64 a2_0) := (blk_cell BK302.out 0).trans rfl; have hcz25_1 : w23.cell? ⟨g302, 1, none⟩ = some (.int .i64 a2_1) := (blk_cell BK302.out 1).trans rfl; have hfz25_0 := blk_frozen BK302.out 0; have hfz25_1 := blk_frozen BK302.out 1) | ((with_reducible refine gate_callee (f := 22) rfl ?_); refine goesL_ (some 14) rfl rfl Try.func22 Za92 rfl #[.int .i64 a0, .int .i64 a1, .agg #[.int .i64 a2_0, .int .i64 a2_1], .int .i64 a3] rfl Za91 ?_; (with_reducible refine (impl_isPart.calls k a0 a1 a2_0 a2_1 a3 false _ A5.out).mono ?_); rintro e w26 ⟨rfl, hb⟩; refine ⟨_, rfl, ?_⟩; replace BK302 := bb9 BK302 Ub9302 hb; replace BK303 := bb9 BK303 Ub9303 hb; replace HB := tb9 Hb9 hb; (try clear hb); (try clear hb2); (try clear hk); (try clear hi); have hcz27_0 : w26.cell? ⟨g303, 0, none⟩ = some (.int .i64 0) := (blk_cell BK303.out 0).trans rfl; have hcz27_1 : w26.cell? ⟨g303, 1, none⟩ = some (.int .i64 0) := (blk_cell BK303.out 1).trans rfl; have hfz27_0 := blk_frozen BK303.out 0; have hfz27_1 := blk_frozen BK303.out 1))
  refine bodyPost_ret (results_ct rfl _ _ g303 25 #[.int .i64 0, .int .i64 0] (0, 0) _ rfl (by (with_reducible repeat (first | refine blk_drewN ?_ _ | refine blk_drew ?_ | refine blk_alloc ?_ _)); refine blk_put (cs := #[.int .i64 0, .int .i64 0]) ?_ 1 _ rfl; (with_reducible repeat (first | refine blk_drewN ?_ _ | refine blk_drew ?_ | refine blk_alloc ?_ _)); refine blk_put (cs := #[.int .i64 0, .int .i64 0]) ?_ 0 _ rfl; (with_reducible repeat (first | refine blk_drewN ?_ _ | refine blk_drew ?_ | refine blk_alloc ?_ _)); exact BK303.out) Try.underlying25 rfl Za92) rfl ?_
  exact ⟨by first | rfl | (simp [errW_none, errW_some] <;> rfl) | (simp [*, errW_none, errW_some] <;> rfl), Hb9⟩
 subst c6
 have H1 : ((impl_held.f k a0 a1 a2_0 a2_1 a3).bind fun t305 => (if 0 < (t305.length : Int) then ((impl_power.f k a2_1 a3).bind fun t309 => ((impl_ratio.f k (rd t305 0) t309).bind fun bt310 => (some (bt310.1, bt310.2, true)))) else (none))) = some (r1, r2, r3) := by rw [if_pos rfl] at H; exact H
 clear H
 have H := H1
 clear H1
 replace H := Option.bind_eq_some_iff.mp H
 obtain ⟨t305, A70, H⟩ := H
 replace H : (if 0 < (t305.length : Int) then ((impl_power.f k a2_1 a3).bind fun t309 => ((impl_ratio.f k (rd t305 0) t309).bind fun bt310 => (some (bt310.1, bt310.2, true)))) else (none)) = some (r1, r2, r3) := H
 have A7 := Aa9q A70
 clear A70
 by_cases c8 : 0 < (t305.length : Int)
 rotate_left
 ·
  rw [if_neg c8] at H
  exact absurd H (by simp)
 rw [if_pos c8] at H
 have c8b0 : decide (0 < (t305.length : Int)) = true := decide_eq_true c8
 have c8b1 : decide (0 < t305.length) = true := decide_eq_true (by omega)
 clear c8
 replace H := Option.bind_eq_some_iff.mp H
 obtain ⟨t309, A90, H⟩ := H
 replace H : ((impl_ratio.f k (rd t305 0) t309).bind fun bt310 => (some (bt310.1, bt310.2, true))) = some (r1, r2, r3) := H
 have A9 := Aa9q A90
 clear A90
 replace H := Option.bind_eq_some_iff.mp H
 obtain ⟨⟨t310, t311⟩, A100, H⟩ := H
 replace H : (some (t310, t311, true)) = some (r1, r2, r3) := H
 have A10 := Aa9q A100
 clear A100
 simp only [Option.some.injEq, Prod.mk.injEq] at H
 obtain ⟨rfl, rfl, rfl⟩ := H
 go_enter Try.func10, Try.ntmps10
 try go_wp2_with (first | ((with_reducible refine gate_dst (N := 6) rfl ?_); refine box_event ?hg (N := 6) ?hd (cs := #[.int .i64 a2_0, .int .i64 a2_1]) (t := 25) ?hr ?_; (case hd => rfl); (case hg => rfl); (case hr => first | (go_simp; done) | (go_simp; rfl)); intro g302 hg w11 hbox hb; have BK302 := Aa9q (hbox); have GE302 := sb9 Hb9 hg; replace HB := tb9 Hb9 hb; clear hb hbox hg) | ((with_reducible refine gate_dst (N := 8) rfl ?_); refine box_event ?hg (N := 8) ?hd (cs := #[.int .i64 0, .int .i64 0]) (t := 25) ?hr ?_; (case hd => rfl); (case hg => rfl); (case hr => first | (go_simp; done) | (go_simp; rfl)); intro g303 hg w12 hbox hb; have BK303 := Aa9q (hbox); have GE303 := sb9 Hb9 hg; have NB302_303 := nb9 BK302 Ub9302 hg; have NB303_302 := mb9 BK302 Ub9302 hg; replace BK302 := bb9 BK302 Ub9302 hb; replace HB := tb9 Hb9 hb; clear hb hbox hg; have hcz14_0 : w12.cell? ⟨g302, 0, none⟩ = some (.int .i64 a2_0) := (blk_cell BK302.out 0).trans rfl; have hcz14_1 : w12.cell? ⟨g302, 1, none⟩ = some (.int .i64 a2_1) := (blk_cell BK302.out 1).trans rfl; have hfz14_0 := blk_frozen BK302.out 0; have hfz14_1 := blk_frozen BK302.out 1) | ((with_reducible refine gate_callee (f := 22) rfl ?_); refine goesL_ (some 14) rfl rfl Try.func22 Za92 rfl #[.int .i64 a0, .int .i64 a1, .agg #[.int .i64 a2_0, .int .i64 a2_1], .int .i64 a3] rfl Za91 ?_; (with_reducible refine (impl_isPart.calls k a0 a1 a2_0 a2_1 a3 true _ A5.out).mono ?_); rintro e w15 ⟨rfl, hb⟩; refine ⟨_, rfl, ?_⟩; replace BK302 := bb9 BK302 Ub9302 hb; replace BK303 := bb9 BK303 Ub9303 hb; replace HB := tb9 Hb9 hb; (try clear hb); (try clear hb2); (try clear hk); (try clear hi)))
 replace BK302 := Aa9q (blk_drew BK302.out)
 replace BK303 := Aa9q (blk_drew BK303.out)
 replace HB := Aa9q (below_drew1 HB.out)
 refine start_ (n := 14) (S := fun w' => w'.cell? ⟨g302, 0, none⟩ = some (.int .i64 a2_0) ∧ w'.cell? ⟨g302, 1, none⟩ = some (.int .i64 a2_1)) (ds := []) #[false, false, false, false, false, false, false, false, false, false, false, false, false, false] Za92 rfl rfl ⟨(blk_cell BK302.out 0).trans rfl, (blk_cell BK302.out 1).trans rfl⟩ (fun hHeld => ?_); refine with_tabW impl_RuinWithin.tab3 impl_RuinWithin.bits3 (fun HT_ HW_ => ?_)
 generalize w15.drew = w16 at BK302 BK303 HB hHeld ⊢
 refine pure_ (i := 0) (N := some 17) (v := ?_) (a' := ?_) #[true, false, false, false, false, false, false, false, false, false, false, false, false, false] rfl rfl (any_of HT_.out Za92) (fun _ _ _ h => h) (Or.inl ⟨by rfl, ?_⟩) ?_ ?_
 rotate_left
 ·
  intro w'
  go_simp
  with_reducible rfl
 rotate_left
 ·
  simp only [Act.put, y1a9, y2a9, y3a9, i64_w, i32_w]
  rfl
 refine pure_ (i := 1) (N := some 18) (v := ?_) (a' := ?_) #[true, true, false, false, false, false, false, false, false, false, false, false, false, false] rfl rfl (any_of HT_.out Za92) (fun _ _ _ h => h) (Or.inl ⟨by rfl, ?_⟩) ?_ ?_
 rotate_left
 ·
  intro w'
  go_simp
  with_reducible rfl
 rotate_left
 ·
  simp only [Act.put, y1a9, y2a9, y3a9, i64_w, i32_w]
  rfl
 refine pure_ (i := 3) (N := some 20) (v := ?_) (a' := ?_) #[true, true, false, true, false, false, false, false, false, false, false, false, false, false] rfl rfl (any_of HT_.out Za92) (fun _ _ _ h => h) (Or.inl ⟨by rfl, ?_⟩) ?_ ?_
 rotate_left
 ·
  intro w'
  go_simp
  with_reducible rfl
 rotate_left
 ·
  simp only [Act.put, y1a9, y2a9, y3a9, i64_w, i32_w]
  rfl
 refine pure_ (i := 7) (N := some 24) (v := ?_) (a' := ?_) #[true, true, false, true, false, false, false, true, false, false, false, false, false, false] rfl rfl (any_of HT_.out Za92) (fun _ _ _ h => h) (Or.inl ⟨by rfl, ?_⟩) ?_ ?_
 rotate_left
 ·
  intro w'
  go_simp
  with_reducible rfl
 rotate_left
 ·
  simp only [Act.put, y1a9, y2a9, y3a9, i64_w, i32_w]
  rfl
 refine pure_ (i := 9) (N := some 26) (v := ?_) (a' := ?_) #[true, true, false, true, false, false, false, true, false, true, false, false, false, false] rfl rfl (any_of HT_.out Za92) (fun _ _ _ h => h) (Or.inl ⟨by rfl, ?_⟩) ?_ ?_
 rotate_left
 ·
  intro w'
  go_simp
  with_reducible rfl
 rotate_left
 ·
  simp only [Act.put, y1a9, y2a9, y3a9, i64_w, i32_w]
  rfl
 refine take_ (i := 2) (N := some 19) (v := ?_) (a' := ?_) #[true, true, true, true, false, false, false, true, false, true, false, false, false, false] rfl rfl (take_ofW HT_.out HW_.out Za92) (fun _ _ _ h => h) (Or.inl ⟨by rfl, ?_⟩) hHeld ?_ ?_
 rotate_left
 ·
  rintro w' ⟨s0, s1⟩
  go_simp
  with_reducible rfl
 rotate_left
 ·
  simp only [Act.put, y1a9, y2a9, y3a9, i64_w, i32_w]
  rfl
 refine take_ (i := 8) (N := some 25) (v := ?_) (a' := ?_) #[true, true, true, true, false, false, false, true, true, true, false, false, false, false] rfl rfl (take_ofW HT_.out HW_.out Za92) (fun _ _ _ h => h) (Or.inl ⟨by rfl, ?_⟩) hHeld ?_ ?_
 rotate_left
 ·
  rintro w' ⟨s0, s1⟩
  go_simp
  with_reducible rfl
 rotate_left
 ·
  simp only [Act.put, y1a9, y2a9, y3a9, i64_w, i32_w]
  rfl
 refine one_ (i := 4) (N := some 21) #[true, true, true, true, true, false, false, true, true, true, false, false, false, false] rfl rfl (one_of HT_.out Za92) (by decide) (fun K hK => ?_)
 refine goes_ Try.func23 Za92 rfl #[.int .i64 a0, .int .i64 a1, .agg #[.int .i64 a2_0, .int .i64 a2_1], .int .i64 a3] (by rfl) rfl rfl Za91 ?_
 with_reducible refine (impl_held.calls k a0 a1 a2_0 a2_1 a3 t305 _ A7.out).mono ?_
 rintro e w17 ⟨v306, rfl, ho0, hb⟩
 refine ⟨_, rfl, ?_⟩
 have HO307 := Aa9q (Kd.R_lower ho0 (below_size Hb9))
 replace BK302 := bb9 BK302 Ub9302 hb
 replace BK303 := bb9 BK303 Ub9303 hb
 replace HB := tb9 Hb9 hb
 (try clear hb)
 (try clear hb2)
 (try clear hk)
 (try clear hi)
 (try clear ho0)
 obtain ⟨Ao18, co18, eo18⟩ := Kd.R_slice HO307.out
 (first | subst eo18 | (injection eo18 with f1_ f2_ f3_; have f4_ := f1_.symm; have f5_ := f3_.symm; clear f1_ f2_ f3_; subst f4_; subst f5_))
 have p308 : 0 ≤ (0 : Int) := (by omega)
 have q308 : 0 < (t305.length : Int) := of_decide_eq_true (by first | (with_reducible assumption) | assumption)
 obtain ⟨ad308, e308, hx308_0⟩ := Kd.at_int (Kd.R_reads' HO307.out).2.2 0 p308 q308
 cases e308
 have qi308 : (0 < t305.length) = True := eq_true (by omega)
 (try rw [show ((0 : Int)).toNat = 0 from rfl] at hx308_0)
 (try rw [Addr.add_zero'] at hx308_0)
 replace p308 := eq_true p308
 replace q308 := eq_true q308
 refine hK.out _ _ ⟨(blk_cell BK302.out 0).trans rfl, (blk_cell BK302.out 1).trans rfl⟩ (fun hHeld0 => ?_)
 have hHeld := (And.intro (And.left hHeld0) (And.intro (And.right hHeld0) hx308_0))
 refine stronger9 (S' := fun w' => w'.cell? ⟨g302, 0, none⟩ = some (.int .i64 a2_0) ∧ w'.cell? ⟨g302, 1, none⟩ = some (.int .i64 a2_1) ∧ w'.cell? ad308 = some (.int .i64 (rd t305 0))) (fun _ h => ⟨h.1, h.2.1⟩) hHeld ?_
 clear hK K
 refine norm_ (a' := ?_) ?_ ?_
 rotate_left
 ·
  show Act.put _ (some 21) _ = _
  simp only [Act.put, y1a9, y2a9, y3a9, i64_w, i32_w]
  rfl
 refine pure_ (i := 5) (N := some 22) (v := ?_) (a' := ?_) #[true, true, true, true, true, true, false, true, true, true, false, false, false, false] rfl rfl (any_of HT_.out Za92) (fun _ _ _ h => h) (Or.inl ⟨by rfl, ?_⟩) ?_ ?_
 rotate_left
 ·
  intro w'
  go_simp
  with_reducible rfl
 rotate_left
 ·
  simp only [Act.put, y1a9, y2a9, y3a9, i64_w, i32_w]
  rfl
 refine take_ (i := 6) (N := some 23) (v := ?_) (a' := ?_) #[true, true, true, true, true, true, true, true, true, true, false, false, false, false] rfl rfl (take_ofW HT_.out HW_.out Za92) (fun _ _ _ h => h) (Or.inl ⟨by rfl, ?_⟩) hHeld ?_ ?_
 rotate_left
 ·
  rintro w' ⟨s0, s1, s2⟩
  (try simp only [Int.toNat_natCast] at s2)
  go_simp
  with_reducible rfl
 rotate_left
 ·
  simp only [Act.put, y1a9, y2a9, y3a9, i64_w, i32_w]
  rfl
 refine one_ (i := 10) (N := some 27) #[true, true, true, true, true, true, true, true, true, true, true, false, false, false] rfl rfl (one_of HT_.out Za92) (by decide) (fun K hK => ?_)
 refine goes_ Try.func25 Za92 rfl #[.int .i64 a2_1, .int .i64 a3] (by rfl) rfl rfl Za91 ?_
 with_reducible refine (impl_power.calls k a2_1 a3 t309 _ A9.out).mono ?_
 rintro e w' ⟨rfl, ⟨nd, rfl⟩⟩
 refine ⟨_, rfl, ?_⟩
 refine hK.out _ _ ⟨(blk_cell BK302.out 0).trans rfl, (blk_cell BK302.out 1).trans rfl, hHeld.2.2⟩ (fun hHeld => ?_)
 clear hK K
 refine norm_ (a' := ?_) ?_ ?_
 rotate_left
 ·
  show Act.put _ (some 27) _ = _
  simp only [Act.put, y1a9, y2a9, y3a9, i64_w, i32_w]
  rfl
 refine one_ (i := 11) (N := some 28) #[true, true, true, true, true, true, true, true, true, true, true, true, false, false] rfl rfl (one_of HT_.out Za92) (by decide) (fun K hK => ?_)
 refine goes_ Try.func24 Za92 rfl #[.int .i64 (rd t305 0), .int .i64 t309] (by rfl) rfl rfl Za91 ?_
 with_reducible refine (impl_ratio.calls k (rd t305 0) t309 t310 t311 _ A10.out).mono ?_
 rintro e w19 ⟨rfl, hb⟩
 have HS2_ := (hb.cell (World.block_lt_of_cell? _ _ (hHeld.2.2))).trans (hHeld.2.2)
 refine ⟨_, rfl, ?_⟩
 replace HO307 := Aa9q (Kd.R_below (by (with_reducible repeat (first | apply Kd.R_alloc | apply Kd.R_drewN | apply Kd.R_drew)); exact HO307.out) hb)
 replace BK302 := bb9 BK302 Ub9302 hb
 replace BK303 := bb9 BK303 Ub9303 hb
 replace HB := tb9 Hb9 hb
 (try clear hb)
 (try clear hb2)
 (try clear hk)
 (try clear hi)
 refine hK.out _ _ ⟨(blk_cell BK302.out 0).trans rfl, (blk_cell BK302.out 1).trans rfl, HS2_⟩ (fun hHeld => ?_)
 clear hK K
 refine norm_ (a' := ?_) ?_ ?_
 rotate_left
 ·
  show Act.put _ (some 28) _ = _
  simp only [Act.put, y1a9, y2a9, y3a9, i64_w, i32_w]
  rfl
 refine one_ (i := 12) (N := none) #[true, true, true, true, true, true, true, true, true, true, true, true, true, false] rfl rfl (one_of HT_.out Za92) (by decide) (fun K hK => ?_)
 have hs20 : w19.cell? ⟨g303, 0, none⟩ = some (.int .i64 0) := (blk_cell BK303.out 0).trans rfl
 have hfs20 := blk_frozen BK303.out 0
 have hns20_0 := NB302_303.out
 have hms20_0 := NB303_302.out
 have hs21 : w19.cell? ⟨g303, 1, none⟩ = some (.int .i64 0) := (blk_cell BK303.out 1).trans rfl
 have hfs21 := blk_frozen BK303.out 1
 have hns21_0 := NB302_303.out
 have hms21_0 := NB303_302.out
 refine skip_ (w1 := ?_) (by rfl) rfl ?_ ?_
 rotate_left
 ·
  go_simp
  rfl
 refine hK.out _ _ ⟨((cell_far (p := ⟨g303, _, none⟩) NB302_303.out _).trans (((cell_far (p := ⟨g303, _, none⟩) NB302_303.out _).trans (hHeld.1)))), ((cell_far (p := ⟨g303, _, none⟩) NB302_303.out _).trans (((cell_far (p := ⟨g303, _, none⟩) NB302_303.out _).trans (hHeld.2.1)))), ((cell_far (p := ⟨g303, _, none⟩) (by first | exact Kd.own_blk (Kd.R_ne HO307.out BK303.out (by decide)) | (rw [add_block]; exact Kd.own_blk (Kd.R_ne HO307.out BK303.out (by decide))) | (show (Addr.add _ _).block ≠ _; rw [add_block]; exact Kd.own_blk (Kd.R_ne HO307.out BK303.out (by decide))) | (dsimp only; exact Kd.own_blk (Kd.R_ne HO307.out BK303.out (by decide)))) _).trans (((cell_far (p := ⟨g303, _, none⟩) (by first | exact Kd.own_blk (Kd.R_ne HO307.out BK303.out (by decide)) | (rw [add_block]; exact Kd.own_blk (Kd.R_ne HO307.out BK303.out (by decide))) | (show (Addr.add _ _).block ≠ _; rw [add_block]; exact Kd.own_blk (Kd.R_ne HO307.out BK303.out (by decide))) | (dsimp only; exact Kd.own_blk (Kd.R_ne HO307.out BK303.out (by decide)))) _).trans (hHeld.2.2))))⟩ (fun hHeld => ?_)
 clear hK K
 refine pure_ (i := 13) (N := some 9) (v := ?_) (a' := ?_) #[true, true, true, true, true, true, true, true, true, true, true, true, true, true] rfl rfl (any_of HT_.out Za92) (fun _ _ _ h => h) (Or.inl ⟨by rfl, ?_⟩) ?_ ?_
 rotate_left
 ·
  intro w'
  go_simp
  with_reducible rfl
 rotate_left
 ·
  simp only [Act.put, y1a9, y2a9, y3a9, i64_w, i32_w]
  rfl
 refine done_ (done_of HT_.out Za92) ?_
 try go_wp2
 refine bodyPost_ret (results_ct rfl _ _ g303 25 #[.int .i64 t310, .int .i64 t311] (0, 0) _ rfl (by (with_reducible repeat (first | refine blk_drewN ?_ _ | refine blk_drew ?_ | refine blk_alloc ?_ _)); refine blk_put (cs := #[.int .i64 t310, .int .i64 0]) ?_ 1 _ rfl; (with_reducible repeat (first | refine blk_drewN ?_ _ | refine blk_drew ?_ | refine blk_alloc ?_ _)); refine blk_put (cs := #[.int .i64 0, .int .i64 0]) ?_ 0 _ rfl; (with_reducible repeat (first | refine blk_drewN ?_ _ | refine blk_drew ?_ | refine blk_alloc ?_ _)); exact BK303.out) Try.underlying25 rfl Za92) rfl ?_
 exact ⟨by first | rfl | (simp [errW_none, errW_some] <;> rfl) | (simp [*, errW_none, errW_some] <;> rfl), Hb9⟩
/-! ### spec_RuinWithin: function 11 -/
def spec_RuinWithin.f (k : Nat) (a0 : Int) (a1 : Int) (a2_0 : Int) (a2_1 : Int) (a3 : Int) : Option (Int × Int × Bool) := (spec_ruTimes.f k a0 a1 a2_0 a2_1 a3).bind fun t314 => (if t314 = true then ((spec_ruHeld.f k a0 a1 a2_0 a2_1 a3).bind fun t315 => (if 0 < (t315.length : Int) then ((spec_ruPower.f k a2_1 a3).bind fun t319 => ((spec_ruRatio.f k (rd t315 0) t319).bind fun bt320 => (some (bt320.1, bt320.2, true)))) else (none))) else (some (0, 0, false)))
theorem spec_RuinWithin.mono : ∀ a0 a1 a2 a3 a4 k, LeO (spec_RuinWithin.f k a0 a1 a2 a3 a4) (spec_RuinWithin.f (k + 1) a0 a1 a2 a3 a4) := by
  intro a0 a1 a2 a3 a4 k
  unfold spec_RuinWithin.f
  repeat' first
      | (with_reducible exact spec_ruHeld.mono _ _ _ _ _ _)
      | (with_reducible exact spec_ruPower.mono _ _ _)
      | (with_reducible exact spec_ruRatio.mono _ _ _)
      | (with_reducible exact spec_ruTimes.mono _ _ _ _ _ _)
      | (with_reducible exact LeO.refl _)
      | (with_reducible exact LeO.none _)
      | (with_reducible refine LeO.ite ?_ ?_)
      | (with_reducible refine LeO.bind ?_ (fun _ => ?_))
      | exact spec_ruHeld.mono _ _ _ _ _ _
      | exact spec_ruPower.mono _ _ _
      | exact spec_ruRatio.mono _ _ _
      | exact spec_ruTimes.mono _ _ _ _ _ _
      | exact LeO.none _
      | refine LeO.ite ?_ ?_
      | refine LeO.bind ?_ (fun _ => ?_)
def spec_RuinWithin.T3 : Bool × List (List Nat × List Nat) := (true, [([], []), ([], []), ([], []), ([], []), ([0, 1, 2, 3], [0, 1, 2, 3]), ([4], [4]), ([5], [5]), ([], []), ([7], [7]), ([], []), ([8, 9, 4], [8, 9]), ([6, 10, 10], [6, 10]), ([11, 11, 0, 1, 2, 3, 4, 5, 6, 7, 8, 9, 10, 11], [11]), ([12, 0, 1, 2, 3, 4, 5, 6, 7, 8, 9, 10, 11, 12], [])])
def spec_RuinWithin.B3 : List Nat := [0, 0, 0, 0, 15, 31, 63, 0, 128, 0, 927, 2047, 4095, 8191]
theorem spec_RuinWithin.tab3 : rtab .any (opsOf Try.f11 3) = spec_RuinWithin.T3 := by kernel_rfl
theorem spec_RuinWithin.bits3 : waitsOk spec_RuinWithin.T3.2 spec_RuinWithin.B3 = true := by kernel_rfl
set_option maxHeartbeats 8000000 in
set_option maxRecDepth 100000 in
theorem spec_RuinWithin.calls (k : Nat) (a0 : Int) (a1 : Int) (a2_0 : Int) (a2_1 : Int) (a3 : Int) (r1 : Int) (r2 : Int) (r3 : Bool) (w : World) (h : spec_RuinWithin.f k a0 a1 a2_0 a2_1 a3 = some (r1, r2, r3)) :
  Calls Try.prog 11 #[.int .i64 a0, .int .i64 a1, .agg #[.int .i64 a2_0, .int .i64 a2_1], .int .i64 a3] w fun e w' => e = .returned (.tuple #[.agg #[.int .i64 r1, .int .i64 r2], .bool r3]) ∧ Below w.heap.size w w' := by
 have hu25 := Try.underlying25
 have HB := Aa9q (Below.refl w.heap.size w)
 have H : ((spec_ruTimes.f k a0 a1 a2_0 a2_1 a3).bind fun t314 => (if t314 = true then ((spec_ruHeld.f k a0 a1 a2_0 a2_1 a3).bind fun t315 => (if 0 < (t315.length : Int) then ((spec_ruPower.f k a2_1 a3).bind fun t319 => ((spec_ruRatio.f k (rd t315 0) t319).bind fun bt320 => (some (bt320.1, bt320.2, true)))) else (none))) else (some (0, 0, false)))) = some (r1, r2, r3) := h
 clear h
 replace H := Option.bind_eq_some_iff.mp H
 obtain ⟨t314, A50, H⟩ := H
 replace H : (if t314 = true then ((spec_ruHeld.f k a0 a1 a2_0 a2_1 a3).bind fun t315 => (if 0 < (t315.length : Int) then ((spec_ruPower.f k a2_1 a3).bind fun t319 => ((spec_ruRatio.f k (rd t315 0) t319).bind fun bt320 => (some (bt320.1, bt320.2, true)))) else (none))) else (some (0, 0, false))) = some (r1, r2, r3) := H
 have A5 := Aa9q A50
 clear A50
 by_cases c6 : t314 = true
 rotate_left
 ·
  replace c6 := Bool.eq_false_iff.mpr c6
  subst c6
  have H1 : (some (0, 0, false)) = some (r1, r2, r3) := by rw [if_neg (show ¬ (false = true) by decide)] at H; exact H
  clear H
  have H := H1
  clear H1
  simp only [Option.some.injEq, Prod.mk.injEq] at H
  obtain ⟨rfl, rfl, rfl⟩ := H
  go_enter Try.func11, Try.ntmps11
  go_wp2_with (first | ((with_reducible refine gate_dst (N := 6) rfl ?_); refine box_event ?hg (N := 6) ?hd (cs := #[.int .i64 a2_0, .int .i64 a2_1]) (t := 25) ?hr ?_; (case hd => rfl); (case hg => rfl); (case hr => first | (go_simp; done) | (go_simp; rfl)); intro g312 hg w22 hbox hb; have BK312 := Aa9q (hbox); have GE312 := sb9 Hb9 hg; replace HB := tb9 Hb9 hb; clear hb hbox hg) | ((with_reducible refine gate_dst (N := 8) rfl ?_); refine box_event ?hg (N := 8) ?hd (cs := #[.int .i64 0, .int .i64 0]) (t := 25) ?hr ?_; (case hd => rfl); (case hg => rfl); (case hr => first | (go_simp; done) | (go_simp; rfl)); intro g313 hg w23 hbox hb; have BK313 := Aa9q (hbox); have GE313 := sb9 Hb9 hg; have NB312_313 := nb9 BK312 Ub9312 hg; have NB313_312 := mb9 BK312 Ub9312 hg; replace BK312 := bb9 BK312 Ub9312 hb; replace HB := tb9 Hb9 hb; clear hb hbox hg; have hcz25_0 : w23.cell? ⟨g312, 0, none⟩ = some (.int .i64 a2_0) := (blk_cell BK312.out 0).trans rfl; have hcz25_1 : w23.cell? ⟨g312, 1, none⟩ = some (.int .i64 a2_1) := (blk_cell BK312.out 1).trans rfl; have hfz25_0 := blk_frozen BK312.out 0; have hfz25_1 := blk_frozen BK312.out 1) | ((with_reducible refine gate_callee (f := 26) rfl ?_); refine goesL_ (some 14) rfl rfl Try.func26 Za92 rfl #[.int .i64 a0, .int .i64 a1, .agg #[.int .i64 a2_0, .int .i64 a2_1], .int .i64 a3] rfl Za91 ?_; (with_reducible refine (spec_ruTimes.calls k a0 a1 a2_0 a2_1 a3 false _ A5.out).mono ?_); rintro e w26 ⟨rfl, hb⟩; refine ⟨_, rfl, ?_⟩; replace BK312 := bb9 BK312 Ub9312 hb; replace BK313 := bb9 BK313 Ub9313 hb; replace HB := tb9 Hb9 hb; (try clear hb); (try clear hb2); (try clear hk); (try clear hi); have hcz27_0 : w26.cell? ⟨g313, 0, none⟩ = some (.int .i64 0) := (blk_cell BK313.out 0).trans rfl; have hcz27_1 : w26.cell? ⟨g313, 1, none⟩ = some (.int .i64 0) := (blk_cell BK313.out 1).trans rfl; have hfz27_0 := blk_frozen BK313.out 0; have hfz27_1 := blk_frozen BK313.out 1))
  refine bodyPost_ret (results_ct rfl _ _ g313 25 #[.int .i64 0, .int .i64 0] (0, 0) _ rfl (by (with_reducible repeat (first | refine blk_drewN ?_ _ | refine blk_drew ?_ | refine blk_alloc ?_ _)); refine blk_put (cs := #[.int .i64 0, .int .i64 0]) ?_ 1 _ rfl; (with_reducible repeat (first | refine blk_drewN ?_ _ | refine blk_drew ?_ | refine blk_alloc ?_ _)); refine blk_put (cs := #[.int .i64 0, .int .i64 0]) ?_ 0 _ rfl; (with_reducible repeat (first | refine blk_drewN ?_ _ | refine blk_drew ?_ | refine blk_alloc ?_ _)); exact BK313.out) Try.underlying25 rfl Za92) rfl ?_
  exact ⟨by first | rfl | (simp [errW_none, errW_some] <;> rfl) | (simp [*, errW_none, errW_some] <;> rfl), Hb9⟩
 subst c6
 have H1 : ((spec_ruHeld.f k a0 a1 a2_0 a2_1 a3).bind fun t315 => (if 0 < (t315.length : Int) then ((spec_ruPower.f k a2_1 a3).bind fun t319 => ((spec_ruRatio.f k (rd t315 0) t319).bind fun bt320 => (some (bt320.1, bt320.2, true)))) else (none))) = some (r1, r2, r3) := by rw [if_pos rfl] at H; exact H
 clear H
 have H := H1
 clear H1
 replace H := Option.bind_eq_some_iff.mp H
 obtain ⟨t315, A70, H⟩ := H
 replace H : (if 0 < (t315.length : Int) then ((spec_ruPower.f k a2_1 a3).bind fun t319 => ((spec_ruRatio.f k (rd t315 0) t319).bind fun bt320 => (some (bt320.1, bt320.2, true)))) else (none)) = some (r1, r2, r3) := H
 have A7 := Aa9q A70
 clear A70
 by_cases c8 : 0 < (t315.length : Int)
 rotate_left
 ·
  rw [if_neg c8] at H
  exact absurd H (by simp)
 rw [if_pos c8] at H
 have c8b0 : decide (0 < (t315.length : Int)) = true := decide_eq_true c8
 have c8b1 : decide (0 < t315.length) = true := decide_eq_true (by omega)
 clear c8
 replace H := Option.bind_eq_some_iff.mp H
 obtain ⟨t319, A90, H⟩ := H
 replace H : ((spec_ruRatio.f k (rd t315 0) t319).bind fun bt320 => (some (bt320.1, bt320.2, true))) = some (r1, r2, r3) := H
 have A9 := Aa9q A90
 clear A90
 replace H := Option.bind_eq_some_iff.mp H
 obtain ⟨⟨t320, t321⟩, A100, H⟩ := H
 replace H : (some (t320, t321, true)) = some (r1, r2, r3) := H
 have A10 := Aa9q A100
 clear A100
 simp only [Option.some.injEq, Prod.mk.injEq] at H
 obtain ⟨rfl, rfl, rfl⟩ := H
 go_enter Try.func11, Try.ntmps11
 try go_wp2_with (first | ((with_reducible refine gate_dst (N := 6) rfl ?_); refine box_event ?hg (N := 6) ?hd (cs := #[.int .i64 a2_0, .int .i64 a2_1]) (t := 25) ?hr ?_; (case hd => rfl); (case hg => rfl); (case hr => first | (go_simp; done) | (go_simp; rfl)); intro g312 hg w11 hbox hb; have BK312 := Aa9q (hbox); have GE312 := sb9 Hb9 hg; replace HB := tb9 Hb9 hb; clear hb hbox hg) | ((with_reducible refine gate_dst (N := 8) rfl ?_); refine box_event ?hg (N := 8) ?hd (cs := #[.int .i64 0, .int .i64 0]) (t := 25) ?hr ?_; (case hd => rfl); (case hg => rfl); (case hr => first | (go_simp; done) | (go_simp; rfl)); intro g313 hg w12 hbox hb; have BK313 := Aa9q (hbox); have GE313 := sb9 Hb9 hg; have NB312_313 := nb9 BK312 Ub9312 hg; have NB313_312 := mb9 BK312 Ub9312 hg; replace BK312 := bb9 BK312 Ub9312 hb; replace HB := tb9 Hb9 hb; clear hb hbox hg; have hcz14_0 : w12.cell? ⟨g312, 0, none⟩ = some (.int .i64 a2_0) := (blk_cell BK312.out 0).trans rfl; have hcz14_1 : w12.cell? ⟨g312, 1, none⟩ = some (.int .i64 a2_1) := (blk_cell BK312.out 1).trans rfl; have hfz14_0 := blk_frozen BK312.out 0; have hfz14_1 := blk_frozen BK312.out 1) | ((with_reducible refine gate_callee (f := 26) rfl ?_); refine goesL_ (some 14) rfl rfl Try.func26 Za92 rfl #[.int .i64 a0, .int .i64 a1, .agg #[.int .i64 a2_0, .int .i64 a2_1], .int .i64 a3] rfl Za91 ?_; (with_reducible refine (spec_ruTimes.calls k a0 a1 a2_0 a2_1 a3 true _ A5.out).mono ?_); rintro e w15 ⟨rfl, hb⟩; refine ⟨_, rfl, ?_⟩; replace BK312 := bb9 BK312 Ub9312 hb; replace BK313 := bb9 BK313 Ub9313 hb; replace HB := tb9 Hb9 hb; (try clear hb); (try clear hb2); (try clear hk); (try clear hi)))
 replace BK312 := Aa9q (blk_drew BK312.out)
 replace BK313 := Aa9q (blk_drew BK313.out)
 replace HB := Aa9q (below_drew1 HB.out)
 refine start_ (n := 14) (S := fun w' => w'.cell? ⟨g312, 0, none⟩ = some (.int .i64 a2_0) ∧ w'.cell? ⟨g312, 1, none⟩ = some (.int .i64 a2_1)) (ds := []) #[false, false, false, false, false, false, false, false, false, false, false, false, false, false] Za92 rfl rfl ⟨(blk_cell BK312.out 0).trans rfl, (blk_cell BK312.out 1).trans rfl⟩ (fun hHeld => ?_); refine with_tabW spec_RuinWithin.tab3 spec_RuinWithin.bits3 (fun HT_ HW_ => ?_)
 generalize w15.drew = w16 at BK312 BK313 HB hHeld ⊢
 refine pure_ (i := 0) (N := some 17) (v := ?_) (a' := ?_) #[true, false, false, false, false, false, false, false, false, false, false, false, false, false] rfl rfl (any_of HT_.out Za92) (fun _ _ _ h => h) (Or.inl ⟨by rfl, ?_⟩) ?_ ?_
 rotate_left
 ·
  intro w'
  go_simp
  with_reducible rfl
 rotate_left
 ·
  simp only [Act.put, y1a9, y2a9, y3a9, i64_w, i32_w]
  rfl
 refine pure_ (i := 1) (N := some 18) (v := ?_) (a' := ?_) #[true, true, false, false, false, false, false, false, false, false, false, false, false, false] rfl rfl (any_of HT_.out Za92) (fun _ _ _ h => h) (Or.inl ⟨by rfl, ?_⟩) ?_ ?_
 rotate_left
 ·
  intro w'
  go_simp
  with_reducible rfl
 rotate_left
 ·
  simp only [Act.put, y1a9, y2a9, y3a9, i64_w, i32_w]
  rfl
 refine pure_ (i := 3) (N := some 20) (v := ?_) (a' := ?_) #[true, true, false, true, false, false, false, false, false, false, false, false, false, false] rfl rfl (any_of HT_.out Za92) (fun _ _ _ h => h) (Or.inl ⟨by rfl, ?_⟩) ?_ ?_
 rotate_left
 ·
  intro w'
  go_simp
  with_reducible rfl
 rotate_left
 ·
  simp only [Act.put, y1a9, y2a9, y3a9, i64_w, i32_w]
  rfl
 refine pure_ (i := 7) (N := some 24) (v := ?_) (a' := ?_) #[true, true, false, true, false, false, false, true, false, false, false, false, false, false] rfl rfl (any_of HT_.out Za92) (fun _ _ _ h => h) (Or.inl ⟨by rfl, ?_⟩) ?_ ?_
 rotate_left
 ·
  intro w'
  go_simp
  with_reducible rfl
 rotate_left
 ·
  simp only [Act.put, y1a9, y2a9, y3a9, i64_w, i32_w]
  rfl
 refine pure_ (i := 9) (N := some 26) (v := ?_) (a' := ?_) #[true, true, false, true, false, false, false, true, false, true, false, false, false, false] rfl rfl (any_of HT_.out Za92) (fun _ _ _ h => h) (Or.inl ⟨by rfl, ?_⟩) ?_ ?_
 rotate_left
 ·
  intro w'
  go_simp
  with_reducible rfl
 rotate_left
 ·
  simp only [Act.put, y1a9, y2a9, y3a9, i64_w, i32_w]
  rfl
 refine take_ (i := 2) (N := some 19) (v := ?_) (a' := ?_) #[true, true, true, true, false, false, false, true, false, true, false, false, false, false] rfl rfl (take_ofW HT_.out HW_.out Za92) (fun _ _ _ h => h) (Or.inl ⟨by rfl, ?_⟩) hHeld ?_ ?_
 rotate_left
 ·
  rintro w' ⟨s0, s1⟩
  go_simp
  with_reducible rfl
 rotate_left
 ·
  simp only [Act.put, y1a9, y2a9, y3a9, i64_w, i32_w]
  rfl
 refine take_ (i := 8) (N := some 25) (v := ?_) (a' := ?_) #[true, true, true, true, false, false, false, true, true, true, false, false, false, false] rfl rfl (take_ofW HT_.out HW_.out Za92) (fun _ _ _ h => h) (Or.inl ⟨by rfl, ?_⟩) hHeld ?_ ?_
 rotate_left
 ·
  rintro w' ⟨s0, s1⟩
  go_simp
  with_reducible rfl
 rotate_left
 ·
  simp only [Act.put, y1a9, y2a9, y3a9, i64_w, i32_w]
  rfl
 refine one_ (i := 4) (N := some 21) #[true, true, true, true, true, false, false, true, true, true, false, false, false, false] rfl rfl (one_of HT_.out Za92) (by decide) (fun K hK => ?_)
 refine goes_ Try.func27 Za92 rfl #[.int .i64 a0, .int .i64 a1, .agg #[.int .i64 a2_0, .int .i64 a2_1], .int .i64 a3] (by rfl) rfl rfl Za91 ?_
 with_reducible refine (spec_ruHeld.calls k a0 a1 a2_0 a2_1 a3 t315 _ A7.out).mono ?_
 rintro e w17 ⟨v316, rfl, ho0, hb⟩
 refine ⟨_, rfl, ?_⟩
 have HO317 := Aa9q (Kd.R_lower ho0 (below_size Hb9))
 replace BK312 := bb9 BK312 Ub9312 hb
 replace BK313 := bb9 BK313 Ub9313 hb
 replace HB := tb9 Hb9 hb
 (try clear hb)
 (try clear hb2)
 (try clear hk)
 (try clear hi)
 (try clear ho0)
 obtain ⟨Ao18, co18, eo18⟩ := Kd.R_slice HO317.out
 (first | subst eo18 | (injection eo18 with f1_ f2_ f3_; have f4_ := f1_.symm; have f5_ := f3_.symm; clear f1_ f2_ f3_; subst f4_; subst f5_))
 have p318 : 0 ≤ (0 : Int) := (by omega)
 have q318 : 0 < (t315.length : Int) := of_decide_eq_true (by first | (with_reducible assumption) | assumption)
 obtain ⟨ad318, e318, hx318_0⟩ := Kd.at_int (Kd.R_reads' HO317.out).2.2 0 p318 q318
 cases e318
 have qi318 : (0 < t315.length) = True := eq_true (by omega)
 (try rw [show ((0 : Int)).toNat = 0 from rfl] at hx318_0)
 (try rw [Addr.add_zero'] at hx318_0)
 replace p318 := eq_true p318
 replace q318 := eq_true q318
 refine hK.out _ _ ⟨(blk_cell BK312.out 0).trans rfl, (blk_cell BK312.out 1).trans rfl⟩ (fun hHeld0 => ?_)
 have hHeld := (And.intro (And.left hHeld0) (And.intro (And.right hHeld0) hx318_0))
 refine stronger9 (S' := fun w' => w'.cell? ⟨g312, 0, none⟩ = some (.int .i64 a2_0) ∧ w'.cell? ⟨g312, 1, none⟩ = some (.int .i64 a2_1) ∧ w'.cell? ad318 = some (.int .i64 (rd t315 0))) (fun _ h => ⟨h.1, h.2.1⟩) hHeld ?_
 clear hK K
 refine norm_ (a' := ?_) ?_ ?_
 rotate_left
 ·
  show Act.put _ (some 21) _ = _
  simp only [Act.put, y1a9, y2a9, y3a9, i64_w, i32_w]
  rfl
 refine pure_ (i := 5) (N := some 22) (v := ?_) (a' := ?_) #[true, true, true, true, true, true, false, true, true, true, false, false, false, false] rfl rfl (any_of HT_.out Za92) (fun _ _ _ h => h) (Or.inl ⟨by rfl, ?_⟩) ?_ ?_
 rotate_left
 ·
  intro w'
  go_simp
  with_reducible rfl
 rotate_left
 ·
  simp only [Act.put, y1a9, y2a9, y3a9, i64_w, i32_w]
  rfl
 refine take_ (i := 6) (N := some 23) (v := ?_) (a' := ?_) #[true, true, true, true, true, true, true, true, true, true, false, false, false, false] rfl rfl (take_ofW HT_.out HW_.out Za92) (fun _ _ _ h => h) (Or.inl ⟨by rfl, ?_⟩) hHeld ?_ ?_
 rotate_left
 ·
  rintro w' ⟨s0, s1, s2⟩
  (try simp only [Int.toNat_natCast] at s2)
  go_simp
  with_reducible rfl
 rotate_left
 ·
  simp only [Act.put, y1a9, y2a9, y3a9, i64_w, i32_w]
  rfl
 refine one_ (i := 10) (N := some 27) #[true, true, true, true, true, true, true, true, true, true, true, false, false, false] rfl rfl (one_of HT_.out Za92) (by decide) (fun K hK => ?_)
 refine goes_ Try.func29 Za92 rfl #[.int .i64 a2_1, .int .i64 a3] (by rfl) rfl rfl Za91 ?_
 with_reducible refine (spec_ruPower.calls k a2_1 a3 t319 _ A9.out).mono ?_
 rintro e w' ⟨rfl, ⟨nd, rfl⟩⟩
 refine ⟨_, rfl, ?_⟩
 refine hK.out _ _ ⟨(blk_cell BK312.out 0).trans rfl, (blk_cell BK312.out 1).trans rfl, hHeld.2.2⟩ (fun hHeld => ?_)
 clear hK K
 refine norm_ (a' := ?_) ?_ ?_
 rotate_left
 ·
  show Act.put _ (some 27) _ = _
  simp only [Act.put, y1a9, y2a9, y3a9, i64_w, i32_w]
  rfl
 refine one_ (i := 11) (N := some 28) #[true, true, true, true, true, true, true, true, true, true, true, true, false, false] rfl rfl (one_of HT_.out Za92) (by decide) (fun K hK => ?_)
 refine goes_ Try.func28 Za92 rfl #[.int .i64 (rd t315 0), .int .i64 t319] (by rfl) rfl rfl Za91 ?_
 with_reducible refine (spec_ruRatio.calls k (rd t315 0) t319 t320 t321 _ A10.out).mono ?_
 rintro e w19 ⟨rfl, hb⟩
 have HS2_ := (hb.cell (World.block_lt_of_cell? _ _ (hHeld.2.2))).trans (hHeld.2.2)
 refine ⟨_, rfl, ?_⟩
 replace HO317 := Aa9q (Kd.R_below (by (with_reducible repeat (first | apply Kd.R_alloc | apply Kd.R_drewN | apply Kd.R_drew)); exact HO317.out) hb)
 replace BK312 := bb9 BK312 Ub9312 hb
 replace BK313 := bb9 BK313 Ub9313 hb
 replace HB := tb9 Hb9 hb
 (try clear hb)
 (try clear hb2)
 (try clear hk)
 (try clear hi)
 refine hK.out _ _ ⟨(blk_cell BK312.out 0).trans rfl, (blk_cell BK312.out 1).trans rfl, HS2_⟩ (fun hHeld => ?_)
 clear hK K
 refine norm_ (a' := ?_) ?_ ?_
 rotate_left
 ·
  show Act.put _ (some 28) _ = _
  simp only [Act.put, y1a9, y2a9, y3a9, i64_w, i32_w]
  rfl
 refine one_ (i := 12) (N := none) #[true, true, true, true, true, true, true, true, true, true, true, true, true, false] rfl rfl (one_of HT_.out Za92) (by decide) (fun K hK => ?_)
 have hs20 : w19.cell? ⟨g313, 0, none⟩ = some (.int .i64 0) := (blk_cell BK313.out 0).trans rfl
 have hfs20 := blk_frozen BK313.out 0
 have hns20_0 := NB312_313.out
 have hms20_0 := NB313_312.out
 have hs21 : w19.cell? ⟨g313, 1, none⟩ = some (.int .i64 0) := (blk_cell BK313.out 1).trans rfl
 have hfs21 := blk_frozen BK313.out 1
 have hns21_0 := NB312_313.out
 have hms21_0 := NB313_312.out
 refine skip_ (w1 := ?_) (by rfl) rfl ?_ ?_
 rotate_left
 ·
  go_simp
  rfl
 refine hK.out _ _ ⟨((cell_far (p := ⟨g313, _, none⟩) NB312_313.out _).trans (((cell_far (p := ⟨g313, _, none⟩) NB312_313.out _).trans (hHeld.1)))), ((cell_far (p := ⟨g313, _, none⟩) NB312_313.out _).trans (((cell_far (p := ⟨g313, _, none⟩) NB312_313.out _).trans (hHeld.2.1)))), ((cell_far (p := ⟨g313, _, none⟩) (by first | exact Kd.own_blk (Kd.R_ne HO317.out BK313.out (by decide)) | (rw [add_block]; exact Kd.own_blk (Kd.R_ne HO317.out BK313.out (by decide))) | (show (Addr.add _ _).block ≠ _; rw [add_block]; exact Kd.own_blk (Kd.R_ne HO317.out BK313.out (by decide))) | (dsimp only; exact Kd.own_blk (Kd.R_ne HO317.out BK313.out (by decide)))) _).trans (((cell_far (p := ⟨g313, _, none⟩) (by first | exact Kd.own_blk (Kd.R_ne HO317.out BK313.out (by decide)) | (rw [add_block]; exact Kd.own_blk (Kd.R_ne HO317.out BK313.out (by decide))) | (show (Addr.add _ _).block ≠ _; rw [add_block]; exact Kd.own_blk (Kd.R_ne HO317.out BK313.out (by decide))) | (dsimp only; exact Kd.own_blk (Kd.R_ne HO317.out BK313.out (by decide)))) _).trans (hHeld.2.2))))⟩ (fun hHeld => ?_)
 clear hK K
 refine pure_ (i := 13) (N := some 9) (v := ?_) (a' := ?_) #[true, true, true, true, true, true, true, true, true, true, true, true, true, true] rfl rfl (any_of HT_.out Za92) (fun _ _ _ h => h) (Or.inl ⟨by rfl, ?_⟩) ?_ ?_
 rotate_left
 ·
  intro w'
  go_simp
  with_reducible rfl
 rotate_left
 ·
  simp only [Act.put, y1a9, y2a9, y3a9, i64_w, i32_w]
  rfl
 refine done_ (done_of HT_.out Za92) ?_
 try go_wp2
 refine bodyPost_ret (results_ct rfl _ _ g313 25 #[.int .i64 t320, .int .i64 t321] (0, 0) _ rfl (by (with_reducible repeat (first | refine blk_drewN ?_ _ | refine blk_drew ?_ | refine blk_alloc ?_ _)); refine blk_put (cs := #[.int .i64 t320, .int .i64 0]) ?_ 1 _ rfl; (with_reducible repeat (first | refine blk_drewN ?_ _ | refine blk_drew ?_ | refine blk_alloc ?_ _)); refine blk_put (cs := #[.int .i64 0, .int .i64 0]) ?_ 0 _ rfl; (with_reducible repeat (first | refine blk_drewN ?_ _ | refine blk_drew ?_ | refine blk_alloc ?_ _)); exact BK313.out) Try.underlying25 rfl Za92) rfl ?_
 exact ⟨by first | rfl | (simp [errW_none, errW_some] <;> rfl) | (simp [*, errW_none, errW_some] <;> rfl), Hb9⟩
end Go.Proofs.Ytoglhflnfkmkcaa.OFnRuinInTime
