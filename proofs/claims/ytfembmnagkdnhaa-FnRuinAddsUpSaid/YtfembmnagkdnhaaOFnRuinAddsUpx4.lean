/- The functions that 'FnRuinAddsUp' runs, each as a function over numbers and lists, with the proof that the Go text comes to its answers. No condition. -/
import Derived.Test.YtfembmnagkdnhaaOFnRuinAddsUpx0
import Derived.Test.YtfembmnagkdnhaaOFnRuinAddsUpx1
import Derived.Test.YtfembmnagkdnhaaOFnRuinAddsUpx3
namespace Go.Proofs.Ytfembmnagkdnhaa.OFnRuinAddsUp
open Go.RowKit Go.Proofs.YtfembmnagkdnhaaW.PrintWords Go.Proofs.YtfembmnagkdnhaaW.PrintLast Go.Proofs.YtfembmnagkdnhaaW.PrintMore
attribute [local go_sem] max2_int min2_int max_two min_two max_three min_three max_four min_four   -- for this text's walks alone
set_option linter.unusedVariables false
set_option linter.unusedSimpArgs false

attribute [local go_sem high] eqA25
theorem y1a4 {α : Type} (l : List α) (i : Nat) (a : α) : l.toArray.setIfInBounds i a = (l.set i a).toArray := List.setIfInBounds_toArray l i a
theorem y2a4 {α : Type} {x : α} {xs : List α} {b : α} : (x :: xs).set 0 b = b :: xs := List.set_cons_zero
theorem y3a4 {α : Type} {x : α} {xs : List α} {n : Nat} {b : α} : (x :: xs).set (n + 1) b = x :: xs.set n b := List.set_cons_succ
theorem Aa4q {p : Prop} (h : p) : Aside0 p := Aside0.mk h
theorem Za41 {p : Prop} (h : p := by (try simp only [List.map_toArray, List.map_cons, List.map_nil]); first | done | rfl | (simp only [List.length_drop, List.length_take]; rfl)) : p := h
theorem Za42 {p : Prop} (h : p := by kernel_rfl) : p := h
theorem Hb4 {p : Prop} (h : p := by repeat (first | (with_reducible first | exact HB.out | apply below_alloc | apply pw_below_drewN | apply below_drew1 | refine below_set ?_ GE214.out | refine below_set ?_ GE219.out | refine below_set ?_ GE223.out | refine below_set ?_ GE224.out | refine below_set ?_ GE236.out | refine below_set ?_ GE237.out) | exact HB.out)) : p := h
theorem bb4 {w0 w w1 : World} {g : Nat} {o : Obj} (_ : Aside0 (w0.heap[g]? = some o)) (h : w.heap[g]? = some o) (hb : Below w.heap.size w w1) : Aside0 (w1.heap[g]? = some o) := Aa4q (blk_below h hb)
theorem nb4 {w0 w : World} {g q : Nat} {o : Obj} (_ : Aside0 (w0.heap[g]? = some o)) (h : w.heap[g]? = some o) (hg : q = w.heap.size) : Aside0 (g ≠ q) := Aa4q (by rw [hg]; exact Nat.ne_of_lt (blk_lt h))
theorem mb4 {w0 w : World} {g q : Nat} {o : Obj} (_ : Aside0 (w0.heap[g]? = some o)) (h : w.heap[g]? = some o) (hg : q = w.heap.size) : Aside0 (q ≠ g) := Aa4q (by rw [hg]; exact Nat.ne_of_gt (blk_lt h))
theorem sb4 {w w1 : World} {q : Nat} (h : Below w.heap.size w w1) (hg : q = w1.heap.size) : Aside0 (w.heap.size ≤ q) := Aa4q (by rw [hg]; exact below_size h)
theorem tb4 {w w1 w2 : World} (h : Below w.heap.size w w1) (hb : Below w1.heap.size w1 w2) : Aside0 (Below w.heap.size w w2) := Aa4q (below_step h hb)
theorem Ub4214 {p : Prop} (h : p := by repeat (first | (with_reducible first | exact BK214.out | refine blk_drewN ?_ _ | refine blk_drew ?_ | refine blk_alloc ?_ _) | exact BK214.out)) : p := h
theorem Ub4219 {p : Prop} (h : p := by repeat (first | (with_reducible first | exact BK219.out | refine blk_drewN ?_ _ | refine blk_drew ?_ | refine blk_alloc ?_ _) | exact BK219.out)) : p := h
theorem Ub4223 {p : Prop} (h : p := by repeat (first | (with_reducible first | exact BK223.out | refine blk_drewN ?_ _ | refine blk_drew ?_ | refine blk_alloc ?_ _) | exact BK223.out)) : p := h
theorem Ub4224 {p : Prop} (h : p := by repeat (first | (with_reducible first | exact BK224.out | refine blk_drewN ?_ _ | refine blk_drew ?_ | refine blk_alloc ?_ _) | exact BK224.out)) : p := h
theorem Ub4236 {p : Prop} (h : p := by repeat (first | (with_reducible first | exact BK236.out | refine blk_drewN ?_ _ | refine blk_drew ?_ | refine blk_alloc ?_ _) | exact BK236.out)) : p := h
theorem Ub4237 {p : Prop} (h : p := by repeat (first | (with_reducible first | exact BK237.out | refine blk_drewN ?_ _ | refine blk_drew ?_ | refine blk_alloc ?_ _) | exact BK237.out)) : p := h
/-! ### spec_ruIs: function 53 -/
def spec_ruIs.f (k : Nat) (a0_0 : Int) (a0_1 : Int) : Option (Bool) := (spec_l1In.f a0_1 2 6).bind fun t215 => (if t215 = true then ((spec_l1In.f a0_0 1 (wrap64 (a0_1 - 1))).bind fun t216 => (if t216 = true then ((spec_ruRatio.f k a0_0 a0_1).bind fun bt217 => (some (bt217.1 == a0_0 && (bt217.2 == a0_1)))) else (some false))) else (some false))
theorem spec_ruIs.mono : ∀ a0 a1 k, LeO (spec_ruIs.f k a0 a1) (spec_ruIs.f (k + 1) a0 a1) := by
  intro a0 a1 k
  unfold spec_ruIs.f
  repeat' first
      | (with_reducible exact spec_ruRatio.mono _ _ _)
      | (with_reducible exact LeO.refl _)
      | (with_reducible exact LeO.none _)
      | (with_reducible refine LeO.ite ?_ ?_)
      | (with_reducible refine LeO.bind ?_ (fun _ => ?_))
      | exact spec_ruRatio.mono _ _ _
      | exact LeO.none _
      | refine LeO.ite ?_ ?_
      | refine LeO.bind ?_ (fun _ => ?_)
def spec_ruIs.T1 : Bool × List (List Nat × List Nat) := (true, [([], []), ([0], [0]), ([1], [1]), ([2, 2], [2]), ([3], [3]), ([4, 3], [3, 4]), ([3], [3]), ([6, 3], [3, 6]), ([7, 3], [3, 7]), ([5, 8, 3, 3], [3, 5, 8]), ([3, 9], [3, 9]), ([10, 9], [10]), ([11], [11]), ([12, 11], [11, 12]), ([11], [11]), ([14, 11], [11, 14]), ([13, 15, 11, 11], [11, 13, 15]), ([11], [11]), ([16, 17, 11], [11, 16, 17]), ([11, 18], [11, 18]), ([19, 16, 0, 1, 2, 3, 4, 5, 6, 7, 8, 9, 10, 11, 12, 13, 14, 15, 16, 17, 18, 19], [19])])
def spec_ruIs.B1 : List Nat := [0, 1, 3, 7, 15, 31, 15, 79, 207, 511, 1023, 2047, 4095, 8191, 4095, 20479, 65535, 4095, 262143, 524287, 1048575]
theorem spec_ruIs.tab1 : rtab .any (opsOf Try.f53 1) = spec_ruIs.T1 := by kernel_rfl
theorem spec_ruIs.bits1 : waitsOk spec_ruIs.T1.2 spec_ruIs.B1 = true := by kernel_rfl
set_option maxHeartbeats 8000000 in
set_option maxRecDepth 100000 in
theorem spec_ruIs.calls (k : Nat) (a0_0 : Int) (a0_1 : Int) (r : Bool) (w : World) (h : spec_ruIs.f k a0_0 a0_1 = some r) :
  Calls Try.prog 53 #[.agg #[.int .i64 a0_0, .int .i64 a0_1]] w fun e w' => e = .returned (.bool r) ∧ Below w.heap.size w w' := by
 have hu25 := Try.underlying25
 have HB := Aa4q (Below.refl w.heap.size w)
 have H : ((spec_l1In.f a0_1 2 6).bind fun t215 => (if t215 = true then ((spec_l1In.f a0_0 1 (wrap64 (a0_1 - 1))).bind fun t216 => (if t216 = true then ((spec_ruRatio.f k a0_0 a0_1).bind fun bt217 => (some (bt217.1 == a0_0 && (bt217.2 == a0_1)))) else (some false))) else (some false))) = some r := h
 clear h
 replace H := Option.bind_eq_some_iff.mp H
 obtain ⟨t215, A20, H⟩ := H
 replace H : (if t215 = true then ((spec_l1In.f a0_0 1 (wrap64 (a0_1 - 1))).bind fun t216 => (if t216 = true then ((spec_ruRatio.f k a0_0 a0_1).bind fun bt217 => (some (bt217.1 == a0_0 && (bt217.2 == a0_1)))) else (some false))) else (some false)) = some r := H
 have A2 := Aa4q A20
 clear A20
 by_cases c3 : t215 = true
 ·
  subst c3
  have H1 : ((spec_l1In.f a0_0 1 (wrap64 (a0_1 - 1))).bind fun t216 => (if t216 = true then ((spec_ruRatio.f k a0_0 a0_1).bind fun bt217 => (some (bt217.1 == a0_0 && (bt217.2 == a0_1)))) else (some false))) = some r := by rw [if_pos rfl] at H; exact H
  clear H
  have H := H1
  clear H1
  replace H := Option.bind_eq_some_iff.mp H
  obtain ⟨t216, A40, H⟩ := H
  replace H : (if t216 = true then ((spec_ruRatio.f k a0_0 a0_1).bind fun bt217 => (some (bt217.1 == a0_0 && (bt217.2 == a0_1)))) else (some false)) = some r := H
  have A4 := Aa4q A40
  clear A40
  by_cases c5 : t216 = true
  ·
   subst c5
   have H1 : ((spec_ruRatio.f k a0_0 a0_1).bind fun bt217 => (some (bt217.1 == a0_0 && (bt217.2 == a0_1)))) = some r := by rw [if_pos rfl] at H; exact H
   clear H
   have H := H1
   clear H1
   replace H := Option.bind_eq_some_iff.mp H
   obtain ⟨⟨t217, t218⟩, A60, H⟩ := H
   replace H : (some (t217 == a0_0 && (t218 == a0_1))) = some r := H
   have A6 := Aa4q A60
   clear A60
   obtain rfl := Option.some.inj H
   go_enter Try.func53, Try.ntmps53
   try go_wp2_with (first | ((with_reducible refine gate_dst (N := 1) rfl ?_); refine box_event ?hg (N := 1) ?hd (cs := #[.int .i64 a0_0, .int .i64 a0_1]) (t := 25) ?hr ?_; (case hd => rfl); (case hg => rfl); (case hr => first | (go_simp; done) | (go_simp; rfl)); intro g214 hg w7 hbox hb; have BK214 := Aa4q (hbox); have GE214 := sb4 Hb4 hg; replace HB := tb4 Hb4 hb; clear hb hbox hg))
   replace BK214 := Aa4q (blk_drew BK214.out)
   replace HB := Aa4q (below_drew1 HB.out)
   refine start_ (n := 21) (S := fun w' => w'.cell? ⟨g214, 0, none⟩ = some (.int .i64 a0_0) ∧ w'.cell? ⟨g214, 1, none⟩ = some (.int .i64 a0_1)) (ds := []) #[false, false, false, false, false, false, false, false, false, false, false, false, false, false, false, false, false, false, false, false, false] Za42 rfl rfl ⟨(blk_cell BK214.out 0).trans rfl, (blk_cell BK214.out 1).trans rfl⟩ (fun hHeld => ?_); refine with_tabW spec_ruIs.tab1 spec_ruIs.bits1 (fun HT_ HW_ => ?_)
   generalize w7.drew = w8 at BK214 HB hHeld ⊢
   refine pure_ (i := 0) (N := some 3) (v := ?_) (a' := ?_) #[true, false, false, false, false, false, false, false, false, false, false, false, false, false, false, false, false, false, false, false, false] rfl rfl (any_of HT_.out Za42) (fun _ _ _ h => h) (Or.inl ⟨by rfl, ?_⟩) ?_ ?_
   rotate_left
   ·
    intro w'
    go_simp
    with_reducible rfl
   rotate_left
   ·
    simp only [Act.put, y1a4, y2a4, y3a4, i64_w, i32_w]
    rfl
   refine take_ (i := 1) (N := some 4) (v := ?_) (a' := ?_) #[true, true, false, false, false, false, false, false, false, false, false, false, false, false, false, false, false, false, false, false, false] rfl rfl (take_ofW HT_.out HW_.out Za42) (fun _ _ _ h => h) (Or.inl ⟨by rfl, ?_⟩) hHeld ?_ ?_
   rotate_left
   ·
    rintro w' ⟨s0, s1⟩
    go_simp
    with_reducible rfl
   rotate_left
   ·
    simp only [Act.put, y1a4, y2a4, y3a4, i64_w, i32_w]
    rfl
   refine one_ (i := 2) (N := some 5) #[true, true, true, false, false, false, false, false, false, false, false, false, false, false, false, false, false, false, false, false, false] rfl rfl (one_of HT_.out Za42) (by decide) (fun K hK => ?_)
   refine goes_ Try.func48 Za42 rfl #[.int .i64 a0_1, .int .i64 2, .int .i64 6] (by rfl) rfl rfl Za41 ?_
   with_reducible refine (spec_l1In.calls a0_1 2 6 true _ A2.out).mono ?_
   rintro e w' ⟨rfl, ⟨nd, rfl⟩⟩
   refine ⟨_, rfl, ?_⟩
   refine hK.out _ _ ⟨(blk_cell BK214.out 0).trans rfl, (blk_cell BK214.out 1).trans rfl⟩ (fun hHeld => ?_)
   clear hK K
   refine norm_ (a' := ?_) ?_ ?_
   rotate_left
   ·
    show Act.put _ (some 5) _ = _
    simp only [Act.put, y1a4, y2a4, y3a4, i64_w, i32_w]
    rfl
   refine pure_ (i := 3) (N := some 6) (v := ?_) (a' := ?_) #[true, true, true, true, false, false, false, false, false, false, false, false, false, false, false, false, false, false, false, false, false] rfl rfl (any_of HT_.out Za42) (fun _ _ _ h => h) (Or.inl ⟨by rfl, ?_⟩) ?_ ?_
   rotate_left
   ·
    intro w'
    go_simp
    with_reducible rfl
   rotate_left
   ·
    simp only [Act.put, y1a4, y2a4, y3a4, i64_w, i32_w]
    rfl
   refine pure_ (i := 4) (N := some 7) (v := ?_) (a' := ?_) #[true, true, true, true, true, false, false, false, false, false, false, false, false, false, false, false, false, false, false, false, false] rfl rfl (any_of HT_.out Za42) (fun _ _ _ h => h) (Or.inl ⟨by rfl, ?_⟩) ?_ ?_
   rotate_left
   ·
    intro w'
    go_simp
    with_reducible rfl
   rotate_left
   ·
    simp only [Act.put, y1a4, y2a4, y3a4, i64_w, i32_w]
    rfl
   refine pure_ (i := 6) (N := some 9) (v := ?_) (a' := ?_) #[true, true, true, true, true, false, true, false, false, false, false, false, false, false, false, false, false, false, false, false, false] rfl rfl (any_of HT_.out Za42) (fun _ _ _ h => h) (Or.inl ⟨by rfl, ?_⟩) ?_ ?_
   rotate_left
   ·
    intro w'
    go_simp
    with_reducible rfl
   rotate_left
   ·
    simp only [Act.put, y1a4, y2a4, y3a4, i64_w, i32_w]
    rfl
   refine take_ (i := 5) (N := some 8) (v := ?_) (a' := ?_) #[true, true, true, true, true, true, true, false, false, false, false, false, false, false, false, false, false, false, false, false, false] rfl rfl (take_ofW HT_.out HW_.out Za42) (fun _ _ _ h => h) (Or.inl ⟨by rfl, ?_⟩) hHeld ?_ ?_
   rotate_left
   ·
    rintro w' ⟨s0, s1⟩
    go_simp
    with_reducible rfl
   rotate_left
   ·
    simp only [Act.put, y1a4, y2a4, y3a4, i64_w, i32_w]
    rfl
   refine take_ (i := 7) (N := some 10) (v := ?_) (a' := ?_) #[true, true, true, true, true, true, true, true, false, false, false, false, false, false, false, false, false, false, false, false, false] rfl rfl (take_ofW HT_.out HW_.out Za42) (fun _ _ _ h => h) (Or.inl ⟨by rfl, ?_⟩) hHeld ?_ ?_
   rotate_left
   ·
    rintro w' ⟨s0, s1⟩
    go_simp
    with_reducible rfl
   rotate_left
   ·
    simp only [Act.put, y1a4, y2a4, y3a4, i64_w, i32_w]
    rfl
   refine pure_ (i := 8) (N := some 11) (v := ?_) (a' := ?_) #[true, true, true, true, true, true, true, true, true, false, false, false, false, false, false, false, false, false, false, false, false] rfl rfl (any_of HT_.out Za42) (fun _ _ _ h => h) (Or.inl ⟨by rfl, ?_⟩) ?_ ?_
   rotate_left
   ·
    intro w'
    go_simp
    with_reducible rfl
   rotate_left
   ·
    simp only [Act.put, y1a4, y2a4, y3a4, i64_w, i32_w]
    rfl
   refine one_ (i := 9) (N := some 12) #[true, true, true, true, true, true, true, true, true, true, false, false, false, false, false, false, false, false, false, false, false] rfl rfl (one_of HT_.out Za42) (by decide) (fun K hK => ?_)
   refine goes_ Try.func48 Za42 rfl #[.int .i64 a0_0, .int .i64 1, .int .i64 (wrap64 (a0_1 - 1))] (by rfl) rfl rfl Za41 ?_
   with_reducible refine (spec_l1In.calls a0_0 1 (wrap64 (a0_1 - 1)) true _ A4.out).mono ?_
   rintro e w' ⟨rfl, ⟨nd, rfl⟩⟩
   refine ⟨_, rfl, ?_⟩
   refine hK.out _ _ ⟨(blk_cell BK214.out 0).trans rfl, (blk_cell BK214.out 1).trans rfl⟩ (fun hHeld => ?_)
   clear hK K
   refine norm_ (a' := ?_) ?_ ?_
   rotate_left
   ·
    show Act.put _ (some 12) _ = _
    simp only [Act.put, y1a4, y2a4, y3a4, i64_w, i32_w]
    rfl
   refine pure_ (i := 10) (N := some 13) (v := ?_) (a' := ?_) #[true, true, true, true, true, true, true, true, true, true, true, false, false, false, false, false, false, false, false, false, false] rfl rfl (any_of HT_.out Za42) (fun _ _ _ h => h) (Or.inl ⟨by rfl, ?_⟩) ?_ ?_
   rotate_left
   ·
    intro w'
    go_simp
    with_reducible rfl
   rotate_left
   ·
    simp only [Act.put, y1a4, y2a4, y3a4, i64_w, i32_w]
    rfl
   refine pure_ (i := 11) (N := some 14) (v := ?_) (a' := ?_) #[true, true, true, true, true, true, true, true, true, true, true, true, false, false, false, false, false, false, false, false, false] rfl rfl (any_of HT_.out Za42) (fun _ _ _ h => h) (Or.inl ⟨by rfl, ?_⟩) ?_ ?_
   rotate_left
   ·
    intro w'
    go_simp
    with_reducible rfl
   rotate_left
   ·
    simp only [Act.put, y1a4, y2a4, y3a4, i64_w, i32_w]
    rfl
   refine pure_ (i := 12) (N := some 15) (v := ?_) (a' := ?_) #[true, true, true, true, true, true, true, true, true, true, true, true, true, false, false, false, false, false, false, false, false] rfl rfl (any_of HT_.out Za42) (fun _ _ _ h => h) (Or.inl ⟨by rfl, ?_⟩) ?_ ?_
   rotate_left
   ·
    intro w'
    go_simp
    with_reducible rfl
   rotate_left
   ·
    simp only [Act.put, y1a4, y2a4, y3a4, i64_w, i32_w]
    rfl
   refine pure_ (i := 14) (N := some 17) (v := ?_) (a' := ?_) #[true, true, true, true, true, true, true, true, true, true, true, true, true, false, true, false, false, false, false, false, false] rfl rfl (any_of HT_.out Za42) (fun _ _ _ h => h) (Or.inl ⟨by rfl, ?_⟩) ?_ ?_
   rotate_left
   ·
    intro w'
    go_simp
    with_reducible rfl
   rotate_left
   ·
    simp only [Act.put, y1a4, y2a4, y3a4, i64_w, i32_w]
    rfl
   refine take_ (i := 13) (N := some 16) (v := ?_) (a' := ?_) #[true, true, true, true, true, true, true, true, true, true, true, true, true, true, true, false, false, false, false, false, false] rfl rfl (take_ofW HT_.out HW_.out Za42) (fun _ _ _ h => h) (Or.inl ⟨by rfl, ?_⟩) hHeld ?_ ?_
   rotate_left
   ·
    rintro w' ⟨s0, s1⟩
    go_simp
    with_reducible rfl
   rotate_left
   ·
    simp only [Act.put, y1a4, y2a4, y3a4, i64_w, i32_w]
    rfl
   refine take_ (i := 15) (N := some 18) (v := ?_) (a' := ?_) #[true, true, true, true, true, true, true, true, true, true, true, true, true, true, true, true, false, false, false, false, false] rfl rfl (take_ofW HT_.out HW_.out Za42) (fun _ _ _ h => h) (Or.inl ⟨by rfl, ?_⟩) hHeld ?_ ?_
   rotate_left
   ·
    rintro w' ⟨s0, s1⟩
    go_simp
    with_reducible rfl
   rotate_left
   ·
    simp only [Act.put, y1a4, y2a4, y3a4, i64_w, i32_w]
    rfl
   refine take_ (i := 17) (N := some 20) (v := ?_) (a' := ?_) #[true, true, true, true, true, true, true, true, true, true, true, true, true, true, true, true, false, true, false, false, false] rfl rfl (take_ofW HT_.out HW_.out Za42) (fun _ _ _ h => h) (Or.inl ⟨by rfl, ?_⟩) hHeld ?_ ?_
   rotate_left
   ·
    rintro w' ⟨s0, s1⟩
    go_simp
    with_reducible rfl
   rotate_left
   ·
    simp only [Act.put, y1a4, y2a4, y3a4, i64_w, i32_w]
    rfl
   refine one_ (i := 16) (N := some 19) #[true, true, true, true, true, true, true, true, true, true, true, true, true, true, true, true, true, true, false, false, false] rfl rfl (one_of HT_.out Za42) (by decide) (fun K hK => ?_)
   refine goes_ Try.func43 Za42 rfl #[.int .i64 a0_0, .int .i64 a0_1] (by rfl) rfl rfl Za41 ?_
   with_reducible refine (spec_ruRatio.calls k a0_0 a0_1 t217 t218 _ A6.out).mono ?_
   rintro e w9 ⟨rfl, hb⟩
   refine ⟨_, rfl, ?_⟩
   replace BK214 := bb4 BK214 Ub4214 hb
   replace HB := tb4 Hb4 hb
   (try clear hb)
   (try clear hb2)
   (try clear hk)
   (try clear hi)
   refine hK.out _ _ ⟨(blk_cell BK214.out 0).trans rfl, (blk_cell BK214.out 1).trans rfl⟩ (fun hHeld => ?_)
   clear hK K
   refine norm_ (a' := ?_) ?_ ?_
   rotate_left
   ·
    show Act.put _ (some 19) _ = _
    simp only [Act.put, y1a4, y2a4, y3a4, i64_w, i32_w]
    rfl
   refine pure_ (i := 18) (N := some 21) (v := ?_) (a' := ?_) #[true, true, true, true, true, true, true, true, true, true, true, true, true, true, true, true, true, true, true, false, false] rfl rfl (any_of HT_.out Za42) (fun _ _ _ h => h) (Or.inl ⟨by rfl, ?_⟩) ?_ ?_
   rotate_left
   ·
    intro w'
    go_simp
    with_reducible rfl
   rotate_left
   ·
    simp only [Act.put, y1a4, y2a4, y3a4, i64_w, i32_w]
    rfl
   refine pure_ (i := 19) (N := some 22) (v := ?_) (a' := ?_) #[true, true, true, true, true, true, true, true, true, true, true, true, true, true, true, true, true, true, true, true, false] rfl rfl (any_of HT_.out Za42) (fun _ _ _ h => h) (Or.inl ⟨by rfl, ?_⟩) ?_ ?_
   rotate_left
   ·
    intro w'
    go_simp
    with_reducible rfl
   rotate_left
   ·
    simp only [Act.put, y1a4, y2a4, y3a4, i64_w, i32_w]
    rfl
   refine pure_ (i := 20) (N := some 2) (v := ?_) (a' := ?_) #[true, true, true, true, true, true, true, true, true, true, true, true, true, true, true, true, true, true, true, true, true] rfl rfl (any_of HT_.out Za42) (fun _ _ _ h => h) (Or.inl ⟨by rfl, ?_⟩) ?_ ?_
   rotate_left
   ·
    intro w'
    go_simp
    with_reducible rfl
   rotate_left
   ·
    simp only [Act.put, y1a4, y2a4, y3a4, i64_w, i32_w]
    rfl
   refine done_ (done_of HT_.out Za42) ?_
   try go_wp2
   go_ret
   exact ⟨by first | rfl | (simp [errW_none, errW_some] <;> rfl) | (simp [*, errW_none, errW_some] <;> rfl), Hb4⟩
  ·
   replace c5 := Bool.eq_false_iff.mpr c5
   subst c5
   have H1 : (some false) = some r := by rw [if_neg (show ¬ (false = true) by decide)] at H; exact H
   clear H
   have H := H1
   clear H1
   obtain rfl := Option.some.inj H
   go_enter Try.func53, Try.ntmps53
   try go_wp2_with (first | ((with_reducible refine gate_dst (N := 1) rfl ?_); refine box_event ?hg (N := 1) ?hd (cs := #[.int .i64 a0_0, .int .i64 a0_1]) (t := 25) ?hr ?_; (case hd => rfl); (case hg => rfl); (case hr => first | (go_simp; done) | (go_simp; rfl)); intro g214 hg w10 hbox hb; have BK214 := Aa4q (hbox); have GE214 := sb4 Hb4 hg; replace HB := tb4 Hb4 hb; clear hb hbox hg))
   replace BK214 := Aa4q (blk_drew BK214.out)
   replace HB := Aa4q (below_drew1 HB.out)
   refine start_ (n := 21) (S := fun w' => w'.cell? ⟨g214, 0, none⟩ = some (.int .i64 a0_0) ∧ w'.cell? ⟨g214, 1, none⟩ = some (.int .i64 a0_1)) (ds := []) #[false, false, false, false, false, false, false, false, false, false, false, false, false, false, false, false, false, false, false, false, false] Za42 rfl rfl ⟨(blk_cell BK214.out 0).trans rfl, (blk_cell BK214.out 1).trans rfl⟩ (fun hHeld => ?_); refine with_tabW spec_ruIs.tab1 spec_ruIs.bits1 (fun HT_ HW_ => ?_)
   generalize w10.drew = w11 at BK214 HB hHeld ⊢
   refine pure_ (i := 0) (N := some 3) (v := ?_) (a' := ?_) #[true, false, false, false, false, false, false, false, false, false, false, false, false, false, false, false, false, false, false, false, false] rfl rfl (any_of HT_.out Za42) (fun _ _ _ h => h) (Or.inl ⟨by rfl, ?_⟩) ?_ ?_
   rotate_left
   ·
    intro w'
    go_simp
    with_reducible rfl
   rotate_left
   ·
    simp only [Act.put, y1a4, y2a4, y3a4, i64_w, i32_w]
    rfl
   refine take_ (i := 1) (N := some 4) (v := ?_) (a' := ?_) #[true, true, false, false, false, false, false, false, false, false, false, false, false, false, false, false, false, false, false, false, false] rfl rfl (take_ofW HT_.out HW_.out Za42) (fun _ _ _ h => h) (Or.inl ⟨by rfl, ?_⟩) hHeld ?_ ?_
   rotate_left
   ·
    rintro w' ⟨s0, s1⟩
    go_simp
    with_reducible rfl
   rotate_left
   ·
    simp only [Act.put, y1a4, y2a4, y3a4, i64_w, i32_w]
    rfl
   refine one_ (i := 2) (N := some 5) #[true, true, true, false, false, false, false, false, false, false, false, false, false, false, false, false, false, false, false, false, false] rfl rfl (one_of HT_.out Za42) (by decide) (fun K hK => ?_)
   refine goes_ Try.func48 Za42 rfl #[.int .i64 a0_1, .int .i64 2, .int .i64 6] (by rfl) rfl rfl Za41 ?_
   with_reducible refine (spec_l1In.calls a0_1 2 6 true _ A2.out).mono ?_
   rintro e w' ⟨rfl, ⟨nd, rfl⟩⟩
   refine ⟨_, rfl, ?_⟩
   refine hK.out _ _ ⟨(blk_cell BK214.out 0).trans rfl, (blk_cell BK214.out 1).trans rfl⟩ (fun hHeld => ?_)
   clear hK K
   refine norm_ (a' := ?_) ?_ ?_
   rotate_left
   ·
    show Act.put _ (some 5) _ = _
    simp only [Act.put, y1a4, y2a4, y3a4, i64_w, i32_w]
    rfl
   refine pure_ (i := 3) (N := some 6) (v := ?_) (a' := ?_) #[true, true, true, true, false, false, false, false, false, false, false, false, false, false, false, false, false, false, false, false, false] rfl rfl (any_of HT_.out Za42) (fun _ _ _ h => h) (Or.inl ⟨by rfl, ?_⟩) ?_ ?_
   rotate_left
   ·
    intro w'
    go_simp
    with_reducible rfl
   rotate_left
   ·
    simp only [Act.put, y1a4, y2a4, y3a4, i64_w, i32_w]
    rfl
   refine pure_ (i := 4) (N := some 7) (v := ?_) (a' := ?_) #[true, true, true, true, true, false, false, false, false, false, false, false, false, false, false, false, false, false, false, false, false] rfl rfl (any_of HT_.out Za42) (fun _ _ _ h => h) (Or.inl ⟨by rfl, ?_⟩) ?_ ?_
   rotate_left
   ·
    intro w'
    go_simp
    with_reducible rfl
   rotate_left
   ·
    simp only [Act.put, y1a4, y2a4, y3a4, i64_w, i32_w]
    rfl
   refine pure_ (i := 6) (N := some 9) (v := ?_) (a' := ?_) #[true, true, true, true, true, false, true, false, false, false, false, false, false, false, false, false, false, false, false, false, false] rfl rfl (any_of HT_.out Za42) (fun _ _ _ h => h) (Or.inl ⟨by rfl, ?_⟩) ?_ ?_
   rotate_left
   ·
    intro w'
    go_simp
    with_reducible rfl
   rotate_left
   ·
    simp only [Act.put, y1a4, y2a4, y3a4, i64_w, i32_w]
    rfl
   refine take_ (i := 5) (N := some 8) (v := ?_) (a' := ?_) #[true, true, true, true, true, true, true, false, false, false, false, false, false, false, false, false, false, false, false, false, false] rfl rfl (take_ofW HT_.out HW_.out Za42) (fun _ _ _ h => h) (Or.inl ⟨by rfl, ?_⟩) hHeld ?_ ?_
   rotate_left
   ·
    rintro w' ⟨s0, s1⟩
    go_simp
    with_reducible rfl
   rotate_left
   ·
    simp only [Act.put, y1a4, y2a4, y3a4, i64_w, i32_w]
    rfl
   refine take_ (i := 7) (N := some 10) (v := ?_) (a' := ?_) #[true, true, true, true, true, true, true, true, false, false, false, false, false, false, false, false, false, false, false, false, false] rfl rfl (take_ofW HT_.out HW_.out Za42) (fun _ _ _ h => h) (Or.inl ⟨by rfl, ?_⟩) hHeld ?_ ?_
   rotate_left
   ·
    rintro w' ⟨s0, s1⟩
    go_simp
    with_reducible rfl
   rotate_left
   ·
    simp only [Act.put, y1a4, y2a4, y3a4, i64_w, i32_w]
    rfl
   refine pure_ (i := 8) (N := some 11) (v := ?_) (a' := ?_) #[true, true, true, true, true, true, true, true, true, false, false, false, false, false, false, false, false, false, false, false, false] rfl rfl (any_of HT_.out Za42) (fun _ _ _ h => h) (Or.inl ⟨by rfl, ?_⟩) ?_ ?_
   rotate_left
   ·
    intro w'
    go_simp
    with_reducible rfl
   rotate_left
   ·
    simp only [Act.put, y1a4, y2a4, y3a4, i64_w, i32_w]
    rfl
   refine one_ (i := 9) (N := some 12) #[true, true, true, true, true, true, true, true, true, true, false, false, false, false, false, false, false, false, false, false, false] rfl rfl (one_of HT_.out Za42) (by decide) (fun K hK => ?_)
   refine goes_ Try.func48 Za42 rfl #[.int .i64 a0_0, .int .i64 1, .int .i64 (wrap64 (a0_1 - 1))] (by rfl) rfl rfl Za41 ?_
   with_reducible refine (spec_l1In.calls a0_0 1 (wrap64 (a0_1 - 1)) false _ A4.out).mono ?_
   rintro e w' ⟨rfl, ⟨nd, rfl⟩⟩
   refine ⟨_, rfl, ?_⟩
   refine hK.out _ _ ⟨(blk_cell BK214.out 0).trans rfl, (blk_cell BK214.out 1).trans rfl⟩ (fun hHeld => ?_)
   clear hK K
   refine norm_ (a' := ?_) ?_ ?_
   rotate_left
   ·
    show Act.put _ (some 12) _ = _
    simp only [Act.put, y1a4, y2a4, y3a4, i64_w, i32_w]
    rfl
   refine pure_ (i := 10) (N := some 13) (v := ?_) (a' := ?_) #[true, true, true, true, true, true, true, true, true, true, true, false, false, false, false, false, false, false, false, false, false] rfl rfl (any_of HT_.out Za42) (fun _ _ _ h => h) (Or.inl ⟨by rfl, ?_⟩) ?_ ?_
   rotate_left
   ·
    intro w'
    go_simp
    with_reducible rfl
   rotate_left
   ·
    simp only [Act.put, y1a4, y2a4, y3a4, i64_w, i32_w]
    rfl
   refine pure_ (i := 11) (N := some 14) (v := ?_) (a' := ?_) #[true, true, true, true, true, true, true, true, true, true, true, true, false, false, false, false, false, false, false, false, false] rfl rfl (any_of HT_.out Za42) (fun _ _ _ h => h) (Or.inl ⟨by rfl, ?_⟩) ?_ ?_
   rotate_left
   ·
    intro w'
    go_simp
    with_reducible rfl
   rotate_left
   ·
    simp only [Act.put, y1a4, y2a4, y3a4, i64_w, i32_w]
    rfl
   refine pure_ (i := 12) (N := some 15) (v := undef) (a' := ?_) #[true, true, true, true, true, true, true, true, true, true, true, true, true, false, false, false, false, false, false, false, false] rfl rfl (any_of HT_.out Za42) (fun _ _ _ h => h) (Or.inr ⟨by rfl, rfl⟩) ?_ ?_
   rotate_left
   ·
    simp only [Act.put, y1a4, y2a4, y3a4, i64_w, i32_w]
    rfl
   refine pure_ (i := 13) (N := some 16) (v := undef) (a' := ?_) #[true, true, true, true, true, true, true, true, true, true, true, true, true, true, false, false, false, false, false, false, false] rfl rfl (any_of HT_.out Za42) (fun _ _ _ h => h) (Or.inr ⟨by rfl, rfl⟩) ?_ ?_
   rotate_left
   ·
    simp only [Act.put, y1a4, y2a4, y3a4, i64_w, i32_w]
    rfl
   refine pure_ (i := 14) (N := some 17) (v := undef) (a' := ?_) #[true, true, true, true, true, true, true, true, true, true, true, true, true, true, true, false, false, false, false, false, false] rfl rfl (any_of HT_.out Za42) (fun _ _ _ h => h) (Or.inr ⟨by rfl, rfl⟩) ?_ ?_
   rotate_left
   ·
    simp only [Act.put, y1a4, y2a4, y3a4, i64_w, i32_w]
    rfl
   refine pure_ (i := 15) (N := some 18) (v := undef) (a' := ?_) #[true, true, true, true, true, true, true, true, true, true, true, true, true, true, true, true, false, false, false, false, false] rfl rfl (any_of HT_.out Za42) (fun _ _ _ h => h) (Or.inr ⟨by rfl, rfl⟩) ?_ ?_
   rotate_left
   ·
    simp only [Act.put, y1a4, y2a4, y3a4, i64_w, i32_w]
    rfl
   refine pure_ (i := 16) (N := some 19) (v := undef) (a' := ?_) #[true, true, true, true, true, true, true, true, true, true, true, true, true, true, true, true, true, false, false, false, false] rfl rfl (any_of HT_.out Za42) (fun _ _ _ h => h) (Or.inr ⟨by rfl, rfl⟩) ?_ ?_
   rotate_left
   ·
    simp only [Act.put, y1a4, y2a4, y3a4, i64_w, i32_w]
    rfl
   refine pure_ (i := 17) (N := some 20) (v := undef) (a' := ?_) #[true, true, true, true, true, true, true, true, true, true, true, true, true, true, true, true, true, true, false, false, false] rfl rfl (any_of HT_.out Za42) (fun _ _ _ h => h) (Or.inr ⟨by rfl, rfl⟩) ?_ ?_
   rotate_left
   ·
    simp only [Act.put, y1a4, y2a4, y3a4, i64_w, i32_w]
    rfl
   refine pure_ (i := 18) (N := some 21) (v := undef) (a' := ?_) #[true, true, true, true, true, true, true, true, true, true, true, true, true, true, true, true, true, true, true, false, false] rfl rfl (any_of HT_.out Za42) (fun _ _ _ h => h) (Or.inr ⟨by rfl, rfl⟩) ?_ ?_
   rotate_left
   ·
    simp only [Act.put, y1a4, y2a4, y3a4, i64_w, i32_w]
    rfl
   refine pure_ (i := 19) (N := some 22) (v := ?_) (a' := ?_) #[true, true, true, true, true, true, true, true, true, true, true, true, true, true, true, true, true, true, true, true, false] rfl rfl (any_of HT_.out Za42) (fun _ _ _ h => h) (Or.inl ⟨by rfl, ?_⟩) ?_ ?_
   rotate_left
   ·
    intro w'
    go_simp
    with_reducible rfl
   rotate_left
   ·
    simp only [Act.put, y1a4, y2a4, y3a4, i64_w, i32_w]
    rfl
   refine pure_ (i := 20) (N := some 2) (v := ?_) (a' := ?_) #[true, true, true, true, true, true, true, true, true, true, true, true, true, true, true, true, true, true, true, true, true] rfl rfl (any_of HT_.out Za42) (fun _ _ _ h => h) (Or.inl ⟨by rfl, ?_⟩) ?_ ?_
   rotate_left
   ·
    intro w'
    go_simp
    with_reducible rfl
   rotate_left
   ·
    simp only [Act.put, y1a4, y2a4, y3a4, i64_w, i32_w]
    rfl
   refine done_ (done_of HT_.out Za42) ?_
   try go_wp2
   go_ret
   exact ⟨by first | rfl | (simp [errW_none, errW_some] <;> rfl) | (simp [*, errW_none, errW_some] <;> rfl), Hb4⟩
 ·
  replace c3 := Bool.eq_false_iff.mpr c3
  subst c3
  have H1 : (some false) = some r := by rw [if_neg (show ¬ (false = true) by decide)] at H; exact H
  clear H
  have H := H1
  clear H1
  obtain rfl := Option.some.inj H
  go_enter Try.func53, Try.ntmps53
  try go_wp2_with (first | ((with_reducible refine gate_dst (N := 1) rfl ?_); refine box_event ?hg (N := 1) ?hd (cs := #[.int .i64 a0_0, .int .i64 a0_1]) (t := 25) ?hr ?_; (case hd => rfl); (case hg => rfl); (case hr => first | (go_simp; done) | (go_simp; rfl)); intro g214 hg w12 hbox hb; have BK214 := Aa4q (hbox); have GE214 := sb4 Hb4 hg; replace HB := tb4 Hb4 hb; clear hb hbox hg))
  replace BK214 := Aa4q (blk_drew BK214.out)
  replace HB := Aa4q (below_drew1 HB.out)
  refine start_ (n := 21) (S := fun w' => w'.cell? ⟨g214, 0, none⟩ = some (.int .i64 a0_0) ∧ w'.cell? ⟨g214, 1, none⟩ = some (.int .i64 a0_1)) (ds := []) #[false, false, false, false, false, false, false, false, false, false, false, false, false, false, false, false, false, false, false, false, false] Za42 rfl rfl ⟨(blk_cell BK214.out 0).trans rfl, (blk_cell BK214.out 1).trans rfl⟩ (fun hHeld => ?_); refine with_tabW spec_ruIs.tab1 spec_ruIs.bits1 (fun HT_ HW_ => ?_)
  generalize w12.drew = w13 at BK214 HB hHeld ⊢
  refine pure_ (i := 0) (N := some 3) (v := ?_) (a' := ?_) #[true, false, false, false, false, false, false, false, false, false, false, false, false, false, false, false, false, false, false, false, false] rfl rfl (any_of HT_.out Za42) (fun _ _ _ h => h) (Or.inl ⟨by rfl, ?_⟩) ?_ ?_
  rotate_left
  ·
   intro w'
   go_simp
   with_reducible rfl
  rotate_left
  ·
   simp only [Act.put, y1a4, y2a4, y3a4, i64_w, i32_w]
   rfl
  refine take_ (i := 1) (N := some 4) (v := ?_) (a' := ?_) #[true, true, false, false, false, false, false, false, false, false, false, false, false, false, false, false, false, false, false, false, false] rfl rfl (take_ofW HT_.out HW_.out Za42) (fun _ _ _ h => h) (Or.inl ⟨by rfl, ?_⟩) hHeld ?_ ?_
  rotate_left
  ·
   rintro w' ⟨s0, s1⟩
   go_simp
   with_reducible rfl
  rotate_left
  ·
   simp only [Act.put, y1a4, y2a4, y3a4, i64_w, i32_w]
   rfl
  refine one_ (i := 2) (N := some 5) #[true, true, true, false, false, false, false, false, false, false, false, false, false, false, false, false, false, false, false, false, false] rfl rfl (one_of HT_.out Za42) (by decide) (fun K hK => ?_)
  refine goes_ Try.func48 Za42 rfl #[.int .i64 a0_1, .int .i64 2, .int .i64 6] (by rfl) rfl rfl Za41 ?_
  with_reducible refine (spec_l1In.calls a0_1 2 6 false _ A2.out).mono ?_
  rintro e w' ⟨rfl, ⟨nd, rfl⟩⟩
  refine ⟨_, rfl, ?_⟩
  refine hK.out _ _ ⟨(blk_cell BK214.out 0).trans rfl, (blk_cell BK214.out 1).trans rfl⟩ (fun hHeld => ?_)
  clear hK K
  refine norm_ (a' := ?_) ?_ ?_
  rotate_left
  ·
   show Act.put _ (some 5) _ = _
   simp only [Act.put, y1a4, y2a4, y3a4, i64_w, i32_w]
   rfl
  refine pure_ (i := 3) (N := some 6) (v := ?_) (a' := ?_) #[true, true, true, true, false, false, false, false, false, false, false, false, false, false, false, false, false, false, false, false, false] rfl rfl (any_of HT_.out Za42) (fun _ _ _ h => h) (Or.inl ⟨by rfl, ?_⟩) ?_ ?_
  rotate_left
  ·
   intro w'
   go_simp
   with_reducible rfl
  rotate_left
  ·
   simp only [Act.put, y1a4, y2a4, y3a4, i64_w, i32_w]
   rfl
  refine pure_ (i := 4) (N := some 7) (v := undef) (a' := ?_) #[true, true, true, true, true, false, false, false, false, false, false, false, false, false, false, false, false, false, false, false, false] rfl rfl (any_of HT_.out Za42) (fun _ _ _ h => h) (Or.inr ⟨by rfl, rfl⟩) ?_ ?_
  rotate_left
  ·
   simp only [Act.put, y1a4, y2a4, y3a4, i64_w, i32_w]
   rfl
  refine pure_ (i := 5) (N := some 8) (v := undef) (a' := ?_) #[true, true, true, true, true, true, false, false, false, false, false, false, false, false, false, false, false, false, false, false, false] rfl rfl (any_of HT_.out Za42) (fun _ _ _ h => h) (Or.inr ⟨by rfl, rfl⟩) ?_ ?_
  rotate_left
  ·
   simp only [Act.put, y1a4, y2a4, y3a4, i64_w, i32_w]
   rfl
  refine pure_ (i := 6) (N := some 9) (v := undef) (a' := ?_) #[true, true, true, true, true, true, true, false, false, false, false, false, false, false, false, false, false, false, false, false, false] rfl rfl (any_of HT_.out Za42) (fun _ _ _ h => h) (Or.inr ⟨by rfl, rfl⟩) ?_ ?_
  rotate_left
  ·
   simp only [Act.put, y1a4, y2a4, y3a4, i64_w, i32_w]
   rfl
  refine pure_ (i := 7) (N := some 10) (v := undef) (a' := ?_) #[true, true, true, true, true, true, true, true, false, false, false, false, false, false, false, false, false, false, false, false, false] rfl rfl (any_of HT_.out Za42) (fun _ _ _ h => h) (Or.inr ⟨by rfl, rfl⟩) ?_ ?_
  rotate_left
  ·
   simp only [Act.put, y1a4, y2a4, y3a4, i64_w, i32_w]
   rfl
  refine pure_ (i := 8) (N := some 11) (v := undef) (a' := ?_) #[true, true, true, true, true, true, true, true, true, false, false, false, false, false, false, false, false, false, false, false, false] rfl rfl (any_of HT_.out Za42) (fun _ _ _ h => h) (Or.inr ⟨by rfl, rfl⟩) ?_ ?_
  rotate_left
  ·
   simp only [Act.put, y1a4, y2a4, y3a4, i64_w, i32_w]
   rfl
  refine pure_ (i := 9) (N := some 12) (v := undef) (a' := ?_) #[true, true, true, true, true, true, true, true, true, true, false, false, false, false, false, false, false, false, false, false, false] rfl rfl (any_of HT_.out Za42) (fun _ _ _ h => h) (Or.inr ⟨by rfl, rfl⟩) ?_ ?_
  rotate_left
  ·
   simp only [Act.put, y1a4, y2a4, y3a4, i64_w, i32_w]
   rfl
  refine pure_ (i := 10) (N := some 13) (v := ?_) (a' := ?_) #[true, true, true, true, true, true, true, true, true, true, true, false, false, false, false, false, false, false, false, false, false] rfl rfl (any_of HT_.out Za42) (fun _ _ _ h => h) (Or.inl ⟨by rfl, ?_⟩) ?_ ?_
  rotate_left
  ·
   intro w'
   go_simp
   with_reducible rfl
  rotate_left
  ·
   simp only [Act.put, y1a4, y2a4, y3a4, i64_w, i32_w]
   rfl
  refine pure_ (i := 11) (N := some 14) (v := ?_) (a' := ?_) #[true, true, true, true, true, true, true, true, true, true, true, true, false, false, false, false, false, false, false, false, false] rfl rfl (any_of HT_.out Za42) (fun _ _ _ h => h) (Or.inl ⟨by rfl, ?_⟩) ?_ ?_
  rotate_left
  ·
   intro w'
   go_simp
   with_reducible rfl
  rotate_left
  ·
   simp only [Act.put, y1a4, y2a4, y3a4, i64_w, i32_w]
   rfl
  refine pure_ (i := 12) (N := some 15) (v := undef) (a' := ?_) #[true, true, true, true, true, true, true, true, true, true, true, true, true, false, false, false, false, false, false, false, false] rfl rfl (any_of HT_.out Za42) (fun _ _ _ h => h) (Or.inr ⟨by rfl, rfl⟩) ?_ ?_
  rotate_left
  ·
   simp only [Act.put, y1a4, y2a4, y3a4, i64_w, i32_w]
   rfl
  refine pure_ (i := 13) (N := some 16) (v := undef) (a' := ?_) #[true, true, true, true, true, true, true, true, true, true, true, true, true, true, false, false, false, false, false, false, false] rfl rfl (any_of HT_.out Za42) (fun _ _ _ h => h) (Or.inr ⟨by rfl, rfl⟩) ?_ ?_
  rotate_left
  ·
   simp only [Act.put, y1a4, y2a4, y3a4, i64_w, i32_w]
   rfl
  refine pure_ (i := 14) (N := some 17) (v := undef) (a' := ?_) #[true, true, true, true, true, true, true, true, true, true, true, true, true, true, true, false, false, false, false, false, false] rfl rfl (any_of HT_.out Za42) (fun _ _ _ h => h) (Or.inr ⟨by rfl, rfl⟩) ?_ ?_
  rotate_left
  ·
   simp only [Act.put, y1a4, y2a4, y3a4, i64_w, i32_w]
   rfl
  refine pure_ (i := 15) (N := some 18) (v := undef) (a' := ?_) #[true, true, true, true, true, true, true, true, true, true, true, true, true, true, true, true, false, false, false, false, false] rfl rfl (any_of HT_.out Za42) (fun _ _ _ h => h) (Or.inr ⟨by rfl, rfl⟩) ?_ ?_
  rotate_left
  ·
   simp only [Act.put, y1a4, y2a4, y3a4, i64_w, i32_w]
   rfl
  refine pure_ (i := 16) (N := some 19) (v := undef) (a' := ?_) #[true, true, true, true, true, true, true, true, true, true, true, true, true, true, true, true, true, false, false, false, false] rfl rfl (any_of HT_.out Za42) (fun _ _ _ h => h) (Or.inr ⟨by rfl, rfl⟩) ?_ ?_
  rotate_left
  ·
   simp only [Act.put, y1a4, y2a4, y3a4, i64_w, i32_w]
   rfl
  refine pure_ (i := 17) (N := some 20) (v := undef) (a' := ?_) #[true, true, true, true, true, true, true, true, true, true, true, true, true, true, true, true, true, true, false, false, false] rfl rfl (any_of HT_.out Za42) (fun _ _ _ h => h) (Or.inr ⟨by rfl, rfl⟩) ?_ ?_
  rotate_left
  ·
   simp only [Act.put, y1a4, y2a4, y3a4, i64_w, i32_w]
   rfl
  refine pure_ (i := 18) (N := some 21) (v := undef) (a' := ?_) #[true, true, true, true, true, true, true, true, true, true, true, true, true, true, true, true, true, true, true, false, false] rfl rfl (any_of HT_.out Za42) (fun _ _ _ h => h) (Or.inr ⟨by rfl, rfl⟩) ?_ ?_
  rotate_left
  ·
   simp only [Act.put, y1a4, y2a4, y3a4, i64_w, i32_w]
   rfl
  refine pure_ (i := 19) (N := some 22) (v := ?_) (a' := ?_) #[true, true, true, true, true, true, true, true, true, true, true, true, true, true, true, true, true, true, true, true, false] rfl rfl (any_of HT_.out Za42) (fun _ _ _ h => h) (Or.inl ⟨by rfl, ?_⟩) ?_ ?_
  rotate_left
  ·
   intro w'
   go_simp
   with_reducible rfl
  rotate_left
  ·
   simp only [Act.put, y1a4, y2a4, y3a4, i64_w, i32_w]
   rfl
  refine pure_ (i := 20) (N := some 2) (v := ?_) (a' := ?_) #[true, true, true, true, true, true, true, true, true, true, true, true, true, true, true, true, true, true, true, true, true] rfl rfl (any_of HT_.out Za42) (fun _ _ _ h => h) (Or.inl ⟨by rfl, ?_⟩) ?_ ?_
  rotate_left
  ·
   intro w'
   go_simp
   with_reducible rfl
  rotate_left
  ·
   simp only [Act.put, y1a4, y2a4, y3a4, i64_w, i32_w]
   rfl
  refine done_ (done_of HT_.out Za42) ?_
  try go_wp2
  go_ret
  exact ⟨by first | rfl | (simp [errW_none, errW_some] <;> rfl) | (simp [*, errW_none, errW_some] <;> rfl), Hb4⟩

/-! ### spec_ruAsked: function 41 -/
def spec_ruAsked.f (k : Nat) (a0 : Int) (a1 : Int) (a2_0 : Int) (a2_1 : Int) : Option (Bool) := (spec_l1In.f a1 1 12).bind fun t220 => (if t220 = true then ((spec_l1In.f a0 0 a1).bind fun t221 => (if t221 = true then ((spec_ruIs.f k a2_0 a2_1).bind fun t222 => (some t222)) else (some false))) else (some false))
theorem spec_ruAsked.mono : ∀ a0 a1 a2 a3 k, LeO (spec_ruAsked.f k a0 a1 a2 a3) (spec_ruAsked.f (k + 1) a0 a1 a2 a3) := by
  intro a0 a1 a2 a3 k
  unfold spec_ruAsked.f
  repeat' first
      | (with_reducible exact spec_ruIs.mono _ _ _)
      | (with_reducible exact LeO.refl _)
      | (with_reducible exact LeO.none _)
      | (with_reducible refine LeO.ite ?_ ?_)
      | (with_reducible refine LeO.bind ?_ (fun _ => ?_))
      | exact spec_ruIs.mono _ _ _
      | exact LeO.none _
      | refine LeO.ite ?_ ?_
      | refine LeO.bind ?_ (fun _ => ?_)
set_option maxHeartbeats 8000000 in
set_option maxRecDepth 100000 in
theorem spec_ruAsked.calls (k : Nat) (a0 : Int) (a1 : Int) (a2_0 : Int) (a2_1 : Int) (r : Bool) (w : World) (h : spec_ruAsked.f k a0 a1 a2_0 a2_1 = some r) :
  Calls Try.prog 41 #[.int .i64 a0, .int .i64 a1, .agg #[.int .i64 a2_0, .int .i64 a2_1]] w fun e w' => e = .returned (.bool r) ∧ Below w.heap.size w w' := by
 have hu25 := Try.underlying25
 have HB := Aa4q (Below.refl w.heap.size w)
 have H : ((spec_l1In.f a1 1 12).bind fun t220 => (if t220 = true then ((spec_l1In.f a0 0 a1).bind fun t221 => (if t221 = true then ((spec_ruIs.f k a2_0 a2_1).bind fun t222 => (some t222)) else (some false))) else (some false))) = some r := h
 clear h
 replace H := Option.bind_eq_some_iff.mp H
 obtain ⟨t220, A40, H⟩ := H
 replace H : (if t220 = true then ((spec_l1In.f a0 0 a1).bind fun t221 => (if t221 = true then ((spec_ruIs.f k a2_0 a2_1).bind fun t222 => (some t222)) else (some false))) else (some false)) = some r := H
 have A4 := Aa4q A40
 clear A40
 by_cases c5 : t220 = true
 ·
  subst c5
  have H1 : ((spec_l1In.f a0 0 a1).bind fun t221 => (if t221 = true then ((spec_ruIs.f k a2_0 a2_1).bind fun t222 => (some t222)) else (some false))) = some r := by rw [if_pos rfl] at H; exact H
  clear H
  have H := H1
  clear H1
  replace H := Option.bind_eq_some_iff.mp H
  obtain ⟨t221, A60, H⟩ := H
  replace H : (if t221 = true then ((spec_ruIs.f k a2_0 a2_1).bind fun t222 => (some t222)) else (some false)) = some r := H
  have A6 := Aa4q A60
  clear A60
  by_cases c7 : t221 = true
  ·
   subst c7
   have H1 : ((spec_ruIs.f k a2_0 a2_1).bind fun t222 => (some t222)) = some r := by rw [if_pos rfl] at H; exact H
   clear H
   have H := H1
   clear H1
   replace H := Option.bind_eq_some_iff.mp H
   obtain ⟨t222, A80, H⟩ := H
   replace H : (some t222) = some r := H
   have A8 := Aa4q A80
   clear A80
   obtain rfl := Option.some.inj H
   go_enter Try.func41, Try.ntmps41
   go_wp2_with (first | ((with_reducible refine gate_dst (N := 5) rfl ?_); refine box_event ?hg (N := 5) ?hd (cs := #[.int .i64 a2_0, .int .i64 a2_1]) (t := 25) ?hr ?_; (case hd => rfl); (case hg => rfl); (case hr => first | (go_simp; done) | (go_simp; rfl)); intro g219 hg w9 hbox hb; have BK219 := Aa4q (hbox); have GE219 := sb4 Hb4 hg; replace HB := tb4 Hb4 hb; clear hb hbox hg) | ((with_reducible refine gate_callee (f := 48) rfl ?_); refine goesL_ (some 8) rfl rfl Try.func48 Za42 rfl #[.int .i64 a1, .int .i64 1, .int .i64 12] rfl Za41 ?_; (with_reducible refine (spec_l1In.calls a1 1 12 true _ A4.out).mono ?_); rintro e w' ⟨rfl, ⟨nd, rfl⟩⟩; refine ⟨_, rfl, ?_⟩) | (go_at_call 48; (with_reducible refine (spec_l1In.calls a0 0 a1 true _ A6.out).mono ?_); rintro e w' ⟨rfl, ⟨nd, rfl⟩⟩; have hcz10_0 : w9.cell? ⟨g219, 0, none⟩ = some (.int .i64 a2_0) := (blk_cell BK219.out 0).trans rfl; have hcz10_1 : w9.cell? ⟨g219, 1, none⟩ = some (.int .i64 a2_1) := (blk_cell BK219.out 1).trans rfl; have hfz10_0 := blk_frozen BK219.out 0; have hfz10_1 := blk_frozen BK219.out 1) | (go_at_call 53; (with_reducible refine (spec_ruIs.calls k a2_0 a2_1 t222 _ A8.out).mono ?_); rintro e w11 ⟨rfl, hb⟩; replace BK219 := bb4 BK219 Ub4219 hb; replace HB := tb4 Hb4 hb; (try clear hb); (try clear hb2); (try clear hk); (try clear hi)))
   go_ret
   exact ⟨by first | rfl | (simp [errW_none, errW_some] <;> rfl) | (simp [*, errW_none, errW_some] <;> rfl), Hb4⟩
  ·
   replace c7 := Bool.eq_false_iff.mpr c7
   subst c7
   have H1 : (some false) = some r := by rw [if_neg (show ¬ (false = true) by decide)] at H; exact H
   clear H
   have H := H1
   clear H1
   obtain rfl := Option.some.inj H
   go_enter Try.func41, Try.ntmps41
   go_wp2_with (first | ((with_reducible refine gate_dst (N := 5) rfl ?_); refine box_event ?hg (N := 5) ?hd (cs := #[.int .i64 a2_0, .int .i64 a2_1]) (t := 25) ?hr ?_; (case hd => rfl); (case hg => rfl); (case hr => first | (go_simp; done) | (go_simp; rfl)); intro g219 hg w12 hbox hb; have BK219 := Aa4q (hbox); have GE219 := sb4 Hb4 hg; replace HB := tb4 Hb4 hb; clear hb hbox hg) | ((with_reducible refine gate_callee (f := 48) rfl ?_); refine goesL_ (some 8) rfl rfl Try.func48 Za42 rfl #[.int .i64 a1, .int .i64 1, .int .i64 12] rfl Za41 ?_; (with_reducible refine (spec_l1In.calls a1 1 12 true _ A4.out).mono ?_); rintro e w' ⟨rfl, ⟨nd, rfl⟩⟩; refine ⟨_, rfl, ?_⟩) | (go_at_call 48; (with_reducible refine (spec_l1In.calls a0 0 a1 false _ A6.out).mono ?_); rintro e w' ⟨rfl, ⟨nd, rfl⟩⟩))
   go_ret
   exact ⟨by first | rfl | (simp [errW_none, errW_some] <;> rfl) | (simp [*, errW_none, errW_some] <;> rfl), Hb4⟩
 ·
  replace c5 := Bool.eq_false_iff.mpr c5
  subst c5
  have H1 : (some false) = some r := by rw [if_neg (show ¬ (false = true) by decide)] at H; exact H
  clear H
  have H := H1
  clear H1
  obtain rfl := Option.some.inj H
  go_enter Try.func41, Try.ntmps41
  go_wp2_with (first | ((with_reducible refine gate_dst (N := 5) rfl ?_); refine box_event ?hg (N := 5) ?hd (cs := #[.int .i64 a2_0, .int .i64 a2_1]) (t := 25) ?hr ?_; (case hd => rfl); (case hg => rfl); (case hr => first | (go_simp; done) | (go_simp; rfl)); intro g219 hg w13 hbox hb; have BK219 := Aa4q (hbox); have GE219 := sb4 Hb4 hg; replace HB := tb4 Hb4 hb; clear hb hbox hg) | ((with_reducible refine gate_callee (f := 48) rfl ?_); refine goesL_ (some 8) rfl rfl Try.func48 Za42 rfl #[.int .i64 a1, .int .i64 1, .int .i64 12] rfl Za41 ?_; (with_reducible refine (spec_l1In.calls a1 1 12 false _ A4.out).mono ?_); rintro e w' ⟨rfl, ⟨nd, rfl⟩⟩; refine ⟨_, rfl, ?_⟩))
  go_ret
  exact ⟨by first | rfl | (simp [errW_none, errW_some] <;> rfl) | (simp [*, errW_none, errW_some] <;> rfl), Hb4⟩

/-! ### spec_ruPower: function 54 -/
def spec_ruPower.l0 : Nat → Int → Int → Int → Option (Int)
  | 0, _, _, _ => none
  | k + 1, x0, x1, x5 => if x1 > 0 then (spec_ruPower.l0 k x0 (wrap64 (x1 - 1)) (wrap64 (x5 * x0))) else (some x5)
def spec_ruPower.f (k : Nat) (a0 : Int) (a1 : Int) : Option (Int) := spec_ruPower.l0 k a0 a1 1
theorem spec_ruPower.mono_l : ∀ k, (∀ y0 y1 y2, LeO (spec_ruPower.l0 k y0 y1 y2) (spec_ruPower.l0 (k + 1) y0 y1 y2))
  | 0 => fun _ _ _ r h => by simp [spec_ruPower.l0] at h
  | k + 1 => by
    have ih0 := spec_ruPower.mono_l k
    · intro y0 y1 y2
      unfold spec_ruPower.l0
      repeat' first
      | (with_reducible exact ih0 _ _ _)
      | (with_reducible exact LeO.refl _)
      | (with_reducible exact LeO.none _)
      | (with_reducible refine LeO.ite ?_ ?_)
      | (with_reducible refine LeO.bind ?_ (fun _ => ?_))
      | exact ih0 _ _ _
      | exact LeO.none _
      | refine LeO.ite ?_ ?_
      | refine LeO.bind ?_ (fun _ => ?_)
theorem spec_ruPower.mono : ∀ a0 a1 k, LeO (spec_ruPower.f k a0 a1) (spec_ruPower.f (k + 1) a0 a1) := by
  intro a0 a1 k
  have ih0 := spec_ruPower.mono_l k
  unfold spec_ruPower.f
  repeat' first
      | (with_reducible exact ih0 _ _ _)
      | (with_reducible exact LeO.refl _)
      | (with_reducible exact LeO.none _)
      | (with_reducible refine LeO.ite ?_ ?_)
      | (with_reducible refine LeO.bind ?_ (fun _ => ?_))
      | exact ih0 _ _ _
      | exact LeO.none _
      | refine LeO.ite ?_ ?_
      | refine LeO.bind ?_ (fun _ => ?_)
set_option maxHeartbeats 8000000 in
set_option maxRecDepth 100000 in
theorem spec_ruPower.calls (k : Nat) (a0 : Int) (a1 : Int) (r : Int) (w : World) (h : spec_ruPower.f k a0 a1 = some r) :
  Calls Try.prog 54 #[.int .i64 a0, .int .i64 a1] w fun e w' => e = .returned (.int .i64 r) ∧ Drawn0 w w' := by
 have H : (spec_ruPower.l0 k a0 a1 1) = some r := h
 clear h
 have H' := Aa4q H
 clear H
 go_enter Try.func54, Try.ntmps54
 go_wp2
 go_loopg [1, 5] k (fun kq v1 v5 w' => ∃ (x1_1 : Int) (x5_1 : Int), v1 = .int .i64 x1_1 ∧ v5 = .int .i64 x5_1 ∧ Aside0 (spec_ruPower.l0 kq a0 x1_1 x5_1 = some r) ∧ Aside0 (kq ≤ k) ∧ Drawn0 w w')
 case atStart => exact ⟨(a1), (1), (by first | rfl | (simp; done) | (simp [*]; done) | (simp only [i64_w]; done)), (by first | rfl | (simp; done) | (simp [*]; done) | (simp only [i64_w]; done)), H', ⟨Nat.le_refl _⟩, by repeat (first | exact Drawn0.refl _ | apply Drawn0.step)⟩
 case round =>
  clear H'
  try clear p2
  obtain ⟨x1_1, x5_1, rfl, rfl, HA, HK1, ⟨m1, rfl⟩⟩ := hrel
  cases gk with
  | zero => exact absurd HA.out (by simp [spec_ruPower.l0])
  | succ k1 =>
   have H := HA.out
   clear HA
   simp only [spec_ruPower.l0] at H
   by_cases c3 : x1_1 > 0
   ·
    rw [if_pos c3] at H
    have c3b0 : decide (0 < x1_1) = true := decide_eq_true c3
    clear c3
    have H' := Aa4q H
    clear H
    go_wp2
    go_roundg k1
    case measure => have := HK1.out; omega
    case rel => exact ⟨(wrap64 (x1_1 - 1)), (wrap64 (x5_1 * a0)), (by first | rfl | (simp; done) | (simp [*]; done) | (simp only [i64_w]; done)), (by first | rfl | (simp; done) | (simp [*]; done) | (simp only [i64_w]; done)), H', ⟨by have := HK1.out; omega⟩, by repeat (first | exact Drawn0.refl _ | apply Drawn0.step)⟩
   ·
    rw [if_neg c3] at H
    have c3b0 : decide (0 < x1_1) = false := decide_eq_false c3
    clear c3
    obtain rfl := Option.some.inj H
    go_wp2
    go_ret
    exact ⟨by first | rfl | (simp; done) | (simp [*]; done), by repeat (first | exact Drawn0.refl _ | apply Drawn0.step)⟩

/-! ### spec_ruWin: function 50 -/
def spec_ruWin.f (k : Nat) (a0 : Int) (a1 : Int) (a2_0 : Int) (a2_1 : Int) : Option (Int × Int) := if a2_0 = (wrap64 (a2_1 - a2_0)) then ((spec_ruRatio.f k a0 a1).bind fun bt225 => (some (bt225.1, bt225.2))) else ((spec_ruPower.f k a2_0 (wrap64 (a1 - a0))).bind fun t227 => ((spec_ruPower.f k a2_0 a0).bind fun t228 => ((spec_ruPower.f k (wrap64 (a2_1 - a2_0)) a0).bind fun t229 => ((spec_ruPower.f k a2_0 a1).bind fun t230 => ((spec_ruPower.f k (wrap64 (a2_1 - a2_0)) a1).bind fun t231 => (if (wrap64 (t230 - t231)) < 0 then ((spec_ruRatio.f k (wrap64 (-(wrap64 (t227 * (wrap64 (t228 - t229)))))) (wrap64 (-(wrap64 (t230 - t231))))).bind fun bt232 => (some (bt232.1, bt232.2))) else ((spec_ruRatio.f k (wrap64 (t227 * (wrap64 (t228 - t229)))) (wrap64 (t230 - t231))).bind fun bt234 => (some (bt234.1, bt234.2)))))))))
theorem spec_ruWin.mono : ∀ a0 a1 a2 a3 k, LeO (spec_ruWin.f k a0 a1 a2 a3) (spec_ruWin.f (k + 1) a0 a1 a2 a3) := by
  intro a0 a1 a2 a3 k
  unfold spec_ruWin.f
  repeat' first
      | (with_reducible exact spec_ruPower.mono _ _ _)
      | (with_reducible exact spec_ruRatio.mono _ _ _)
      | (with_reducible exact LeO.refl _)
      | (with_reducible exact LeO.none _)
      | (with_reducible refine LeO.ite ?_ ?_)
      | (with_reducible refine LeO.bind ?_ (fun _ => ?_))
      | exact spec_ruPower.mono _ _ _
      | exact spec_ruRatio.mono _ _ _
      | exact LeO.none _
      | refine LeO.ite ?_ ?_
      | refine LeO.bind ?_ (fun _ => ?_)
set_option maxHeartbeats 8000000 in
set_option maxRecDepth 100000 in
theorem spec_ruWin.calls (k : Nat) (a0 : Int) (a1 : Int) (a2_0 : Int) (a2_1 : Int) (r1 : Int) (r2 : Int) (w : World) (h : spec_ruWin.f k a0 a1 a2_0 a2_1 = some (r1, r2)) :
  Calls Try.prog 50 #[.int .i64 a0, .int .i64 a1, .agg #[.int .i64 a2_0, .int .i64 a2_1]] w fun e w' => e = .returned (.agg #[.int .i64 r1, .int .i64 r2]) ∧ Below w.heap.size w w' := by
 have hu25 := Try.underlying25
 have HB := Aa4q (Below.refl w.heap.size w)
 have H : (if a2_0 = (wrap64 (a2_1 - a2_0)) then ((spec_ruRatio.f k a0 a1).bind fun bt225 => (some (bt225.1, bt225.2))) else ((spec_ruPower.f k a2_0 (wrap64 (a1 - a0))).bind fun t227 => ((spec_ruPower.f k a2_0 a0).bind fun t228 => ((spec_ruPower.f k (wrap64 (a2_1 - a2_0)) a0).bind fun t229 => ((spec_ruPower.f k a2_0 a1).bind fun t230 => ((spec_ruPower.f k (wrap64 (a2_1 - a2_0)) a1).bind fun t231 => (if (wrap64 (t230 - t231)) < 0 then ((spec_ruRatio.f k (wrap64 (-(wrap64 (t227 * (wrap64 (t228 - t229)))))) (wrap64 (-(wrap64 (t230 - t231))))).bind fun bt232 => (some (bt232.1, bt232.2))) else ((spec_ruRatio.f k (wrap64 (t227 * (wrap64 (t228 - t229)))) (wrap64 (t230 - t231))).bind fun bt234 => (some (bt234.1, bt234.2)))))))))) = some (r1, r2) := h
 clear h
 by_cases c4 : a2_0 = (wrap64 (a2_1 - a2_0))
 ·
  rw [if_pos c4] at H
  have c4b0 : (a2_0 == (wrap64 (a2_1 - a2_0))) = true := beq_iff_eq.mpr c4
  have c4b1 : (a2_0 != (wrap64 (a2_1 - a2_0))) = false := bne_eq_false_iff_eq.mpr c4
  clear c4
  replace H := Option.bind_eq_some_iff.mp H
  obtain ⟨⟨t225, t226⟩, A50, H⟩ := H
  replace H : (some (t225, t226)) = some (r1, r2) := H
  have A5 := Aa4q A50
  clear A50
  simp only [Option.some.injEq, Prod.mk.injEq] at H
  obtain ⟨rfl, rfl⟩ := H
  go_enter Try.func50, Try.ntmps50
  go_wp2_with (first | ((with_reducible refine gate_dst (N := 5) rfl ?_); refine box_event ?hg (N := 5) ?hd (cs := #[.int .i64 a2_0, .int .i64 a2_1]) (t := 25) ?hr ?_; (case hd => rfl); (case hg => rfl); (case hr => first | (go_simp; done) | (go_simp; rfl)); intro g223 hg w6 hbox hb; have BK223 := Aa4q (hbox); have GE223 := sb4 Hb4 hg; replace HB := tb4 Hb4 hb; clear hb hbox hg) | ((with_reducible refine gate_dst (N := 6) rfl ?_); refine box_event ?hg (N := 6) ?hd (cs := #[.int .i64 0, .int .i64 0]) (t := 25) ?hr ?_; (case hd => rfl); (case hg => rfl); (case hr => first | (go_simp; done) | (go_simp; rfl)); intro g224 hg w7 hbox hb; have BK224 := Aa4q (hbox); have GE224 := sb4 Hb4 hg; have NB223_224 := nb4 BK223 Ub4223 hg; have NB224_223 := mb4 BK223 Ub4223 hg; replace BK223 := bb4 BK223 Ub4223 hb; replace HB := tb4 Hb4 hb; clear hb hbox hg; have hcz9_0 : w7.cell? ⟨g223, 0, none⟩ = some (.int .i64 a2_0) := (blk_cell BK223.out 0).trans rfl; have hcz9_1 : w7.cell? ⟨g223, 1, none⟩ = some (.int .i64 a2_1) := (blk_cell BK223.out 1).trans rfl; have hfz9_0 := blk_frozen BK223.out 0; have hfz9_1 := blk_frozen BK223.out 1) | (go_at_call 43; (with_reducible refine (spec_ruRatio.calls k a0 a1 t225 t226 _ A5.out).mono ?_); rintro e w10 ⟨rfl, hb⟩; replace BK223 := bb4 BK223 Ub4223 hb; replace BK224 := bb4 BK224 Ub4224 hb; replace HB := tb4 Hb4 hb; (try clear hb); (try clear hb2); (try clear hk); (try clear hi); have hcz11_0 : w10.cell? ⟨g224, 0, none⟩ = some (.int .i64 0) := (blk_cell BK224.out 0).trans rfl; have hcz11_1 : w10.cell? ⟨g224, 1, none⟩ = some (.int .i64 0) := (blk_cell BK224.out 1).trans rfl; have hfz11_0 := blk_frozen BK224.out 0; have hfz11_1 := blk_frozen BK224.out 1))
  repeat (go_quiet (first | ((with_reducible refine gate_dst (N := 5) rfl ?_); refine box_event ?hg (N := 5) ?hd (cs := #[.int .i64 a2_0, .int .i64 a2_1]) (t := 25) ?hr ?_; (case hd => rfl); (case hg => rfl); (case hr => first | (go_simp; done) | (go_simp; rfl)); intro g223 hg w6 hbox hb; have n0_ := tb4 Hb4 hb; have n1_ := Aa4q (hbox); have n2_ := sb4 Hb4 hg; have n3_ := sb4 Hb4 hg; clear HB; have HB := n0_; have BK223 := n1_; have GW223 := n2_; have GE223 := n3_; clear n0_ n1_ n2_ n3_; clear hb hbox hg) | ((with_reducible refine gate_dst (N := 6) rfl ?_); refine box_event ?hg (N := 6) ?hd (cs := #[.int .i64 0, .int .i64 0]) (t := 25) ?hr ?_; (case hd => rfl); (case hg => rfl); (case hr => first | (go_simp; done) | (go_simp; rfl)); intro g224 hg w7 hbox hb; have n0_ := bb4 BK223 Ub4223 hb; have n1_ := tb4 Hb4 hb; have n2_ := Aa4q (hbox); have n3_ := sb4 Hb4 hg; have n4_ := sb4 Hb4 hg; have n5_ := nb4 BK223 Ub4223 hg; have n6_ := mb4 BK223 Ub4223 hg; clear BK223; clear HB; have BK223 := n0_; have HB := n1_; have BK224 := n2_; have GW224 := n3_; have GE224 := n4_; have NB223_224 := n5_; have NB224_223 := n6_; clear n0_ n1_ n2_ n3_ n4_ n5_ n6_; clear hb hbox hg; have hnb8 := NB223_224.out; have hnc8 := NB224_223.out; have hcz9_0 : w7.cell? ⟨g223, 0, none⟩ = some (.int .i64 a2_0) := (blk_cell BK223.out 0).trans rfl; have hcz9_1 : w7.cell? ⟨g223, 1, none⟩ = some (.int .i64 a2_1) := (blk_cell BK223.out 1).trans rfl; have hfz9_0 := blk_frozen BK223.out 0; have hfz9_1 := blk_frozen BK223.out 1) | (go_at_call 43; (with_reducible refine (spec_ruRatio.calls k a0 a1 t225 t226 _ A5.out).mono ?_); rintro e w10 ⟨rfl, hb⟩; have n0_ := bb4 BK223 Ub4223 hb; have n1_ := bb4 BK224 Ub4224 hb; have n2_ := tb4 Hb4 hb; clear BK223; clear BK224; clear HB; have BK223 := n0_; have BK224 := n1_; have HB := n2_; clear n0_ n1_ n2_; (try clear hb); (try clear hb2); (try clear hk); (try clear hi); have hcz11_0 : w10.cell? ⟨g224, 0, none⟩ = some (.int .i64 0) := (blk_cell BK224.out 0).trans rfl; have hcz11_1 : w10.cell? ⟨g224, 1, none⟩ = some (.int .i64 0) := (blk_cell BK224.out 1).trans rfl; have hfz11_0 := blk_frozen BK224.out 0; have hfz11_1 := blk_frozen BK224.out 1)); try go_wp2_with (first | ((with_reducible refine gate_dst (N := 5) rfl ?_); refine box_event ?hg (N := 5) ?hd (cs := #[.int .i64 a2_0, .int .i64 a2_1]) (t := 25) ?hr ?_; (case hd => rfl); (case hg => rfl); (case hr => first | (go_simp; done) | (go_simp; rfl)); intro g223 hg w6 hbox hb; have n0_ := tb4 Hb4 hb; have n1_ := Aa4q (hbox); have n2_ := sb4 Hb4 hg; have n3_ := sb4 Hb4 hg; clear HB; have HB := n0_; have BK223 := n1_; have GW223 := n2_; have GE223 := n3_; clear n0_ n1_ n2_ n3_; clear hb hbox hg) | ((with_reducible refine gate_dst (N := 6) rfl ?_); refine box_event ?hg (N := 6) ?hd (cs := #[.int .i64 0, .int .i64 0]) (t := 25) ?hr ?_; (case hd => rfl); (case hg => rfl); (case hr => first | (go_simp; done) | (go_simp; rfl)); intro g224 hg w7 hbox hb; have n0_ := bb4 BK223 Ub4223 hb; have n1_ := tb4 Hb4 hb; have n2_ := Aa4q (hbox); have n3_ := sb4 Hb4 hg; have n4_ := sb4 Hb4 hg; have n5_ := nb4 BK223 Ub4223 hg; have n6_ := mb4 BK223 Ub4223 hg; clear BK223; clear HB; have BK223 := n0_; have HB := n1_; have BK224 := n2_; have GW224 := n3_; have GE224 := n4_; have NB223_224 := n5_; have NB224_223 := n6_; clear n0_ n1_ n2_ n3_ n4_ n5_ n6_; clear hb hbox hg; have hnb8 := NB223_224.out; have hnc8 := NB224_223.out; have hcz9_0 : w7.cell? ⟨g223, 0, none⟩ = some (.int .i64 a2_0) := (blk_cell BK223.out 0).trans rfl; have hcz9_1 : w7.cell? ⟨g223, 1, none⟩ = some (.int .i64 a2_1) := (blk_cell BK223.out 1).trans rfl; have hfz9_0 := blk_frozen BK223.out 0; have hfz9_1 := blk_frozen BK223.out 1) | (go_at_call 43; (with_reducible refine (spec_ruRatio.calls k a0 a1 t225 t226 _ A5.out).mono ?_); rintro e w10 ⟨rfl, hb⟩; have n0_ := bb4 BK223 Ub4223 hb; have n1_ := bb4 BK224 Ub4224 hb; have n2_ := tb4 Hb4 hb; clear BK223; clear BK224; clear HB; have BK223 := n0_; have BK224 := n1_; have HB := n2_; clear n0_ n1_ n2_; (try clear hb); (try clear hb2); (try clear hk); (try clear hi); have hcz11_0 : w10.cell? ⟨g224, 0, none⟩ = some (.int .i64 0) := (blk_cell BK224.out 0).trans rfl; have hcz11_1 : w10.cell? ⟨g224, 1, none⟩ = some (.int .i64 0) := (blk_cell BK224.out 1).trans rfl; have hfz11_0 := blk_frozen BK224.out 0; have hfz11_1 := blk_frozen BK224.out 1)))
  refine bodyPost_ret (results_cell_row rfl _ _ g224 25 #[.int .i64 t225, .int .i64 t226] (0, 0) _ rfl (by (with_reducible repeat (first | refine blk_drewN ?_ _ | refine blk_drew ?_ | refine blk_alloc ?_ _)); refine blk_put (cs := #[.int .i64 t225, .int .i64 0]) ?_ 1 _ rfl; (with_reducible repeat (first | refine blk_drewN ?_ _ | refine blk_drew ?_ | refine blk_alloc ?_ _)); refine blk_put (cs := #[.int .i64 0, .int .i64 0]) ?_ 0 _ rfl; (with_reducible repeat (first | refine blk_drewN ?_ _ | refine blk_drew ?_ | refine blk_alloc ?_ _)); exact BK224.out) Try.underlying25 rfl Za42) rfl ?_
  exact ⟨by first | rfl | (simp [errW_none, errW_some] <;> rfl) | (simp [*, errW_none, errW_some] <;> rfl), Hb4⟩
 ·
  rw [if_neg c4] at H
  have c4b0 : (a2_0 == (wrap64 (a2_1 - a2_0))) = false := beq_eq_false_iff_ne.mpr c4
  have c4b1 : (a2_0 != (wrap64 (a2_1 - a2_0))) = true := bne_iff_ne.mpr c4
  replace H := Option.bind_eq_some_iff.mp H
  obtain ⟨t227, A120, H⟩ := H
  replace H : ((spec_ruPower.f k a2_0 a0).bind fun t228 => ((spec_ruPower.f k (wrap64 (a2_1 - a2_0)) a0).bind fun t229 => ((spec_ruPower.f k a2_0 a1).bind fun t230 => ((spec_ruPower.f k (wrap64 (a2_1 - a2_0)) a1).bind fun t231 => (if (wrap64 (t230 - t231)) < 0 then ((spec_ruRatio.f k (wrap64 (-(wrap64 (t227 * (wrap64 (t228 - t229)))))) (wrap64 (-(wrap64 (t230 - t231))))).bind fun bt232 => (some (bt232.1, bt232.2))) else ((spec_ruRatio.f k (wrap64 (t227 * (wrap64 (t228 - t229)))) (wrap64 (t230 - t231))).bind fun bt234 => (some (bt234.1, bt234.2)))))))) = some (r1, r2) := H
  have A12 := Aa4q A120
  clear A120
  replace H := Option.bind_eq_some_iff.mp H
  obtain ⟨t228, A130, H⟩ := H
  replace H : ((spec_ruPower.f k (wrap64 (a2_1 - a2_0)) a0).bind fun t229 => ((spec_ruPower.f k a2_0 a1).bind fun t230 => ((spec_ruPower.f k (wrap64 (a2_1 - a2_0)) a1).bind fun t231 => (if (wrap64 (t230 - t231)) < 0 then ((spec_ruRatio.f k (wrap64 (-(wrap64 (t227 * (wrap64 (t228 - t229)))))) (wrap64 (-(wrap64 (t230 - t231))))).bind fun bt232 => (some (bt232.1, bt232.2))) else ((spec_ruRatio.f k (wrap64 (t227 * (wrap64 (t228 - t229)))) (wrap64 (t230 - t231))).bind fun bt234 => (some (bt234.1, bt234.2))))))) = some (r1, r2) := H
  have A13 := Aa4q A130
  clear A130
  replace H := Option.bind_eq_some_iff.mp H
  obtain ⟨t229, A140, H⟩ := H
  replace H : ((spec_ruPower.f k a2_0 a1).bind fun t230 => ((spec_ruPower.f k (wrap64 (a2_1 - a2_0)) a1).bind fun t231 => (if (wrap64 (t230 - t231)) < 0 then ((spec_ruRatio.f k (wrap64 (-(wrap64 (t227 * (wrap64 (t228 - t229)))))) (wrap64 (-(wrap64 (t230 - t231))))).bind fun bt232 => (some (bt232.1, bt232.2))) else ((spec_ruRatio.f k (wrap64 (t227 * (wrap64 (t228 - t229)))) (wrap64 (t230 - t231))).bind fun bt234 => (some (bt234.1, bt234.2)))))) = some (r1, r2) := H
  have A14 := Aa4q A140
  clear A140
  replace H := Option.bind_eq_some_iff.mp H
  obtain ⟨t230, A150, H⟩ := H
  replace H : ((spec_ruPower.f k (wrap64 (a2_1 - a2_0)) a1).bind fun t231 => (if (wrap64 (t230 - t231)) < 0 then ((spec_ruRatio.f k (wrap64 (-(wrap64 (t227 * (wrap64 (t228 - t229)))))) (wrap64 (-(wrap64 (t230 - t231))))).bind fun bt232 => (some (bt232.1, bt232.2))) else ((spec_ruRatio.f k (wrap64 (t227 * (wrap64 (t228 - t229)))) (wrap64 (t230 - t231))).bind fun bt234 => (some (bt234.1, bt234.2))))) = some (r1, r2) := H
  have A15 := Aa4q A150
  clear A150
  replace H := Option.bind_eq_some_iff.mp H
  obtain ⟨t231, A160, H⟩ := H
  replace H : (if (wrap64 (t230 - t231)) < 0 then ((spec_ruRatio.f k (wrap64 (-(wrap64 (t227 * (wrap64 (t228 - t229)))))) (wrap64 (-(wrap64 (t230 - t231))))).bind fun bt232 => (some (bt232.1, bt232.2))) else ((spec_ruRatio.f k (wrap64 (t227 * (wrap64 (t228 - t229)))) (wrap64 (t230 - t231))).bind fun bt234 => (some (bt234.1, bt234.2)))) = some (r1, r2) := H
  have A16 := Aa4q A160
  clear A160
  by_cases c17 : (wrap64 (t230 - t231)) < 0
  ·
   rw [if_pos c17] at H
   have c17b0 : decide ((wrap64 (t230 - t231)) < 0) = true := decide_eq_true c17
   clear c17
   replace H := Option.bind_eq_some_iff.mp H
   obtain ⟨⟨t232, t233⟩, A180, H⟩ := H
   replace H : (some (t232, t233)) = some (r1, r2) := H
   have A18 := Aa4q A180
   clear A180
   simp only [Option.some.injEq, Prod.mk.injEq] at H
   obtain ⟨rfl, rfl⟩ := H
   go_enter Try.func50, Try.ntmps50
   go_wp2_with (first | ((with_reducible refine gate_dst (N := 5) rfl ?_); refine box_event ?hg (N := 5) ?hd (cs := #[.int .i64 a2_0, .int .i64 a2_1]) (t := 25) ?hr ?_; (case hd => rfl); (case hg => rfl); (case hr => first | (go_simp; done) | (go_simp; rfl)); intro g223 hg w19 hbox hb; have BK223 := Aa4q (hbox); have GE223 := sb4 Hb4 hg; replace HB := tb4 Hb4 hb; clear hb hbox hg) | ((with_reducible refine gate_dst (N := 6) rfl ?_); refine box_event ?hg (N := 6) ?hd (cs := #[.int .i64 0, .int .i64 0]) (t := 25) ?hr ?_; (case hd => rfl); (case hg => rfl); (case hr => first | (go_simp; done) | (go_simp; rfl)); intro g224 hg w20 hbox hb; have BK224 := Aa4q (hbox); have GE224 := sb4 Hb4 hg; have NB223_224 := nb4 BK223 Ub4223 hg; have NB224_223 := mb4 BK223 Ub4223 hg; replace BK223 := bb4 BK223 Ub4223 hb; replace HB := tb4 Hb4 hb; clear hb hbox hg; have hcz22_0 : w20.cell? ⟨g223, 0, none⟩ = some (.int .i64 a2_0) := (blk_cell BK223.out 0).trans rfl; have hcz22_1 : w20.cell? ⟨g223, 1, none⟩ = some (.int .i64 a2_1) := (blk_cell BK223.out 1).trans rfl; have hfz22_0 := blk_frozen BK223.out 0; have hfz22_1 := blk_frozen BK223.out 1) | (go_at_call 54; (with_reducible refine (spec_ruPower.calls k a2_0 (wrap64 (a1 - a0)) t227 _ A12.out).mono ?_); rintro e w' ⟨rfl, ⟨nd, rfl⟩⟩; (try first | exact ⟨rfl, _, World.drewN_drewN _ _ _⟩ | exact ⟨rfl, _, Eq.trans (World.drewN_drewN _ _ _) (congrArg (World.drewN _) (Nat.add_assoc _ _ _))⟩)) | (go_at_call 54; (with_reducible refine (spec_ruPower.calls k a2_0 a0 t228 _ A13.out).mono ?_); rintro e w' ⟨rfl, ⟨nd, rfl⟩⟩; (try first | exact ⟨rfl, _, World.drewN_drewN _ _ _⟩ | exact ⟨rfl, _, Eq.trans (World.drewN_drewN _ _ _) (congrArg (World.drewN _) (Nat.add_assoc _ _ _))⟩)) | (go_at_call 54; (with_reducible refine (spec_ruPower.calls k (wrap64 (a2_1 - a2_0)) a0 t229 _ A14.out).mono ?_); rintro e w' ⟨rfl, ⟨nd, rfl⟩⟩; (try first | exact ⟨rfl, _, World.drewN_drewN _ _ _⟩ | exact ⟨rfl, _, Eq.trans (World.drewN_drewN _ _ _) (congrArg (World.drewN _) (Nat.add_assoc _ _ _))⟩)) | (go_at_call 54; (with_reducible refine (spec_ruPower.calls k a2_0 a1 t230 _ A15.out).mono ?_); rintro e w' ⟨rfl, ⟨nd, rfl⟩⟩; (try first | exact ⟨rfl, _, World.drewN_drewN _ _ _⟩ | exact ⟨rfl, _, Eq.trans (World.drewN_drewN _ _ _) (congrArg (World.drewN _) (Nat.add_assoc _ _ _))⟩)) | (go_at_call 54; (with_reducible refine (spec_ruPower.calls k (wrap64 (a2_1 - a2_0)) a1 t231 _ A16.out).mono ?_); rintro e w' ⟨rfl, ⟨nd, rfl⟩⟩; (try first | exact ⟨rfl, _, World.drewN_drewN _ _ _⟩ | exact ⟨rfl, _, Eq.trans (World.drewN_drewN _ _ _) (congrArg (World.drewN _) (Nat.add_assoc _ _ _))⟩)) | (go_at_call 43; (with_reducible refine (spec_ruRatio.calls k (wrap64 (-(wrap64 (t227 * (wrap64 (t228 - t229)))))) (wrap64 (-(wrap64 (t230 - t231)))) t232 t233 _ A18.out).mono ?_); rintro e w23 ⟨rfl, hb⟩; replace BK223 := bb4 BK223 Ub4223 hb; replace BK224 := bb4 BK224 Ub4224 hb; replace HB := tb4 Hb4 hb; (try clear hb); (try clear hb2); (try clear hk); (try clear hi); have hcz24_0 : w23.cell? ⟨g224, 0, none⟩ = some (.int .i64 0) := (blk_cell BK224.out 0).trans rfl; have hcz24_1 : w23.cell? ⟨g224, 1, none⟩ = some (.int .i64 0) := (blk_cell BK224.out 1).trans rfl; have hfz24_0 := blk_frozen BK224.out 0; have hfz24_1 := blk_frozen BK224.out 1))
   repeat (go_quiet (first | ((with_reducible refine gate_dst (N := 5) rfl ?_); refine box_event ?hg (N := 5) ?hd (cs := #[.int .i64 a2_0, .int .i64 a2_1]) (t := 25) ?hr ?_; (case hd => rfl); (case hg => rfl); (case hr => first | (go_simp; done) | (go_simp; rfl)); intro g223 hg w19 hbox hb; have n0_ := tb4 Hb4 hb; have n1_ := Aa4q (hbox); have n2_ := sb4 Hb4 hg; have n3_ := sb4 Hb4 hg; clear HB; have HB := n0_; have BK223 := n1_; have GW223 := n2_; have GE223 := n3_; clear n0_ n1_ n2_ n3_; clear hb hbox hg) | ((with_reducible refine gate_dst (N := 6) rfl ?_); refine box_event ?hg (N := 6) ?hd (cs := #[.int .i64 0, .int .i64 0]) (t := 25) ?hr ?_; (case hd => rfl); (case hg => rfl); (case hr => first | (go_simp; done) | (go_simp; rfl)); intro g224 hg w20 hbox hb; have n0_ := bb4 BK223 Ub4223 hb; have n1_ := tb4 Hb4 hb; have n2_ := Aa4q (hbox); have n3_ := sb4 Hb4 hg; have n4_ := sb4 Hb4 hg; have n5_ := nb4 BK223 Ub4223 hg; have n6_ := mb4 BK223 Ub4223 hg; clear BK223; clear HB; have BK223 := n0_; have HB := n1_; have BK224 := n2_; have GW224 := n3_; have GE224 := n4_; have NB223_224 := n5_; have NB224_223 := n6_; clear n0_ n1_ n2_ n3_ n4_ n5_ n6_; clear hb hbox hg; have hnb21 := NB223_224.out; have hnc21 := NB224_223.out; have hcz22_0 : w20.cell? ⟨g223, 0, none⟩ = some (.int .i64 a2_0) := (blk_cell BK223.out 0).trans rfl; have hcz22_1 : w20.cell? ⟨g223, 1, none⟩ = some (.int .i64 a2_1) := (blk_cell BK223.out 1).trans rfl; have hfz22_0 := blk_frozen BK223.out 0; have hfz22_1 := blk_frozen BK223.out 1) | (go_at_call 54; (with_reducible refine (spec_ruPower.calls k a2_0 (wrap64 (a1 - a0)) t227 _ A12.out).mono ?_); rintro e w' ⟨rfl, ⟨nd, rfl⟩⟩; (try first | exact ⟨rfl, _, World.drewN_drewN _ _ _⟩ | exact ⟨rfl, _, Eq.trans (World.drewN_drewN _ _ _) (congrArg (World.drewN _) (Nat.add_assoc _ _ _))⟩)) | (go_at_call 54; (with_reducible refine (spec_ruPower.calls k a2_0 a0 t228 _ A13.out).mono ?_); rintro e w' ⟨rfl, ⟨nd, rfl⟩⟩; (try first | exact ⟨rfl, _, World.drewN_drewN _ _ _⟩ | exact ⟨rfl, _, Eq.trans (World.drewN_drewN _ _ _) (congrArg (World.drewN _) (Nat.add_assoc _ _ _))⟩)) | (go_at_call 54; (with_reducible refine (spec_ruPower.calls k (wrap64 (a2_1 - a2_0)) a0 t229 _ A14.out).mono ?_); rintro e w' ⟨rfl, ⟨nd, rfl⟩⟩; (try first | exact ⟨rfl, _, World.drewN_drewN _ _ _⟩ | exact ⟨rfl, _, Eq.trans (World.drewN_drewN _ _ _) (congrArg (World.drewN _) (Nat.add_assoc _ _ _))⟩)) | (go_at_call 54; (with_reducible refine (spec_ruPower.calls k a2_0 a1 t230 _ A15.out).mono ?_); rintro e w' ⟨rfl, ⟨nd, rfl⟩⟩; (try first | exact ⟨rfl, _, World.drewN_drewN _ _ _⟩ | exact ⟨rfl, _, Eq.trans (World.drewN_drewN _ _ _) (congrArg (World.drewN _) (Nat.add_assoc _ _ _))⟩)) | (go_at_call 54; (with_reducible refine (spec_ruPower.calls k (wrap64 (a2_1 - a2_0)) a1 t231 _ A16.out).mono ?_); rintro e w' ⟨rfl, ⟨nd, rfl⟩⟩; (try first | exact ⟨rfl, _, World.drewN_drewN _ _ _⟩ | exact ⟨rfl, _, Eq.trans (World.drewN_drewN _ _ _) (congrArg (World.drewN _) (Nat.add_assoc _ _ _))⟩)) | (go_at_call 43; (with_reducible refine (spec_ruRatio.calls k (wrap64 (-(wrap64 (t227 * (wrap64 (t228 - t229)))))) (wrap64 (-(wrap64 (t230 - t231)))) t232 t233 _ A18.out).mono ?_); rintro e w23 ⟨rfl, hb⟩; have n0_ := bb4 BK223 Ub4223 hb; have n1_ := bb4 BK224 Ub4224 hb; have n2_ := tb4 Hb4 hb; clear BK223; clear BK224; clear HB; have BK223 := n0_; have BK224 := n1_; have HB := n2_; clear n0_ n1_ n2_; (try clear hb); (try clear hb2); (try clear hk); (try clear hi); have hcz24_0 : w23.cell? ⟨g224, 0, none⟩ = some (.int .i64 0) := (blk_cell BK224.out 0).trans rfl; have hcz24_1 : w23.cell? ⟨g224, 1, none⟩ = some (.int .i64 0) := (blk_cell BK224.out 1).trans rfl; have hfz24_0 := blk_frozen BK224.out 0; have hfz24_1 := blk_frozen BK224.out 1)); try go_wp2_with (first | ((with_reducible refine gate_dst (N := 5) rfl ?_); refine box_event ?hg (N := 5) ?hd (cs := #[.int .i64 a2_0, .int .i64 a2_1]) (t := 25) ?hr ?_; (case hd => rfl); (case hg => rfl); (case hr => first | (go_simp; done) | (go_simp; rfl)); intro g223 hg w19 hbox hb; have n0_ := tb4 Hb4 hb; have n1_ := Aa4q (hbox); have n2_ := sb4 Hb4 hg; have n3_ := sb4 Hb4 hg; clear HB; have HB := n0_; have BK223 := n1_; have GW223 := n2_; have GE223 := n3_; clear n0_ n1_ n2_ n3_; clear hb hbox hg) | ((with_reducible refine gate_dst (N := 6) rfl ?_); refine box_event ?hg (N := 6) ?hd (cs := #[.int .i64 0, .int .i64 0]) (t := 25) ?hr ?_; (case hd => rfl); (case hg => rfl); (case hr => first | (go_simp; done) | (go_simp; rfl)); intro g224 hg w20 hbox hb; have n0_ := bb4 BK223 Ub4223 hb; have n1_ := tb4 Hb4 hb; have n2_ := Aa4q (hbox); have n3_ := sb4 Hb4 hg; have n4_ := sb4 Hb4 hg; have n5_ := nb4 BK223 Ub4223 hg; have n6_ := mb4 BK223 Ub4223 hg; clear BK223; clear HB; have BK223 := n0_; have HB := n1_; have BK224 := n2_; have GW224 := n3_; have GE224 := n4_; have NB223_224 := n5_; have NB224_223 := n6_; clear n0_ n1_ n2_ n3_ n4_ n5_ n6_; clear hb hbox hg; have hnb21 := NB223_224.out; have hnc21 := NB224_223.out; have hcz22_0 : w20.cell? ⟨g223, 0, none⟩ = some (.int .i64 a2_0) := (blk_cell BK223.out 0).trans rfl; have hcz22_1 : w20.cell? ⟨g223, 1, none⟩ = some (.int .i64 a2_1) := (blk_cell BK223.out 1).trans rfl; have hfz22_0 := blk_frozen BK223.out 0; have hfz22_1 := blk_frozen BK223.out 1) | (go_at_call 54; (with_reducible refine (spec_ruPower.calls k a2_0 (wrap64 (a1 - a0)) t227 _ A12.out).mono ?_); rintro e w' ⟨rfl, ⟨nd, rfl⟩⟩; (try first | exact ⟨rfl, _, World.drewN_drewN _ _ _⟩ | exact ⟨rfl, _, Eq.trans (World.drewN_drewN _ _ _) (congrArg (World.drewN _) (Nat.add_assoc _ _ _))⟩)) | (go_at_call 54; (with_reducible refine (spec_ruPower.calls k a2_0 a0 t228 _ A13.out).mono ?_); rintro e w' ⟨rfl, ⟨nd, rfl⟩⟩; (try first | exact ⟨rfl, _, World.drewN_drewN _ _ _⟩ | exact ⟨rfl, _, Eq.trans (World.drewN_drewN _ _ _) (congrArg (World.drewN _) (Nat.add_assoc _ _ _))⟩)) | (go_at_call 54; (with_reducible refine (spec_ruPower.calls k (wrap64 (a2_1 - a2_0)) a0 t229 _ A14.out).mono ?_); rintro e w' ⟨rfl, ⟨nd, rfl⟩⟩; (try first | exact ⟨rfl, _, World.drewN_drewN _ _ _⟩ | exact ⟨rfl, _, Eq.trans (World.drewN_drewN _ _ _) (congrArg (World.drewN _) (Nat.add_assoc _ _ _))⟩)) | (go_at_call 54; (with_reducible refine (spec_ruPower.calls k a2_0 a1 t230 _ A15.out).mono ?_); rintro e w' ⟨rfl, ⟨nd, rfl⟩⟩; (try first | exact ⟨rfl, _, World.drewN_drewN _ _ _⟩ | exact ⟨rfl, _, Eq.trans (World.drewN_drewN _ _ _) (congrArg (World.drewN _) (Nat.add_assoc _ _ _))⟩)) | (go_at_call 54; (with_reducible refine (spec_ruPower.calls k (wrap64 (a2_1 - a2_0)) a1 t231 _ A16.out).mono ?_); rintro e w' ⟨rfl, ⟨nd, rfl⟩⟩; (try first | exact ⟨rfl, _, World.drewN_drewN _ _ _⟩ | exact ⟨rfl, _, Eq.trans (World.drewN_drewN _ _ _) (congrArg (World.drewN _) (Nat.add_assoc _ _ _))⟩)) | (go_at_call 43; (with_reducible refine (spec_ruRatio.calls k (wrap64 (-(wrap64 (t227 * (wrap64 (t228 - t229)))))) (wrap64 (-(wrap64 (t230 - t231)))) t232 t233 _ A18.out).mono ?_); rintro e w23 ⟨rfl, hb⟩; have n0_ := bb4 BK223 Ub4223 hb; have n1_ := bb4 BK224 Ub4224 hb; have n2_ := tb4 Hb4 hb; clear BK223; clear BK224; clear HB; have BK223 := n0_; have BK224 := n1_; have HB := n2_; clear n0_ n1_ n2_; (try clear hb); (try clear hb2); (try clear hk); (try clear hi); have hcz24_0 : w23.cell? ⟨g224, 0, none⟩ = some (.int .i64 0) := (blk_cell BK224.out 0).trans rfl; have hcz24_1 : w23.cell? ⟨g224, 1, none⟩ = some (.int .i64 0) := (blk_cell BK224.out 1).trans rfl; have hfz24_0 := blk_frozen BK224.out 0; have hfz24_1 := blk_frozen BK224.out 1)))
   refine bodyPost_ret (results_cell_row rfl _ _ g224 25 #[.int .i64 t232, .int .i64 t233] (0, 0) _ rfl (by (with_reducible repeat (first | refine blk_drewN ?_ _ | refine blk_drew ?_ | refine blk_alloc ?_ _)); refine blk_put (cs := #[.int .i64 t232, .int .i64 0]) ?_ 1 _ rfl; (with_reducible repeat (first | refine blk_drewN ?_ _ | refine blk_drew ?_ | refine blk_alloc ?_ _)); refine blk_put (cs := #[.int .i64 0, .int .i64 0]) ?_ 0 _ rfl; (with_reducible repeat (first | refine blk_drewN ?_ _ | refine blk_drew ?_ | refine blk_alloc ?_ _)); exact BK224.out) Try.underlying25 rfl Za42) rfl ?_
   exact ⟨by first | rfl | (simp [errW_none, errW_some] <;> rfl) | (simp [*, errW_none, errW_some] <;> rfl), Hb4⟩
  ·
   rw [if_neg c17] at H
   have c17b0 : decide ((wrap64 (t230 - t231)) < 0) = false := decide_eq_false c17
   clear c17
   replace H := Option.bind_eq_some_iff.mp H
   obtain ⟨⟨t234, t235⟩, A250, H⟩ := H
   replace H : (some (t234, t235)) = some (r1, r2) := H
   have A25 := Aa4q A250
   clear A250
   simp only [Option.some.injEq, Prod.mk.injEq] at H
   obtain ⟨rfl, rfl⟩ := H
   go_enter Try.func50, Try.ntmps50
   go_wp2_with (first | ((with_reducible refine gate_dst (N := 5) rfl ?_); refine box_event ?hg (N := 5) ?hd (cs := #[.int .i64 a2_0, .int .i64 a2_1]) (t := 25) ?hr ?_; (case hd => rfl); (case hg => rfl); (case hr => first | (go_simp; done) | (go_simp; rfl)); intro g223 hg w26 hbox hb; have BK223 := Aa4q (hbox); have GE223 := sb4 Hb4 hg; replace HB := tb4 Hb4 hb; clear hb hbox hg) | ((with_reducible refine gate_dst (N := 6) rfl ?_); refine box_event ?hg (N := 6) ?hd (cs := #[.int .i64 0, .int .i64 0]) (t := 25) ?hr ?_; (case hd => rfl); (case hg => rfl); (case hr => first | (go_simp; done) | (go_simp; rfl)); intro g224 hg w27 hbox hb; have BK224 := Aa4q (hbox); have GE224 := sb4 Hb4 hg; have NB223_224 := nb4 BK223 Ub4223 hg; have NB224_223 := mb4 BK223 Ub4223 hg; replace BK223 := bb4 BK223 Ub4223 hb; replace HB := tb4 Hb4 hb; clear hb hbox hg; have hcz29_0 : w27.cell? ⟨g223, 0, none⟩ = some (.int .i64 a2_0) := (blk_cell BK223.out 0).trans rfl; have hcz29_1 : w27.cell? ⟨g223, 1, none⟩ = some (.int .i64 a2_1) := (blk_cell BK223.out 1).trans rfl; have hfz29_0 := blk_frozen BK223.out 0; have hfz29_1 := blk_frozen BK223.out 1) | (go_at_call 54; (with_reducible refine (spec_ruPower.calls k a2_0 (wrap64 (a1 - a0)) t227 _ A12.out).mono ?_); rintro e w' ⟨rfl, ⟨nd, rfl⟩⟩; (try first | exact ⟨rfl, _, World.drewN_drewN _ _ _⟩ | exact ⟨rfl, _, Eq.trans (World.drewN_drewN _ _ _) (congrArg (World.drewN _) (Nat.add_assoc _ _ _))⟩)) | (go_at_call 54; (with_reducible refine (spec_ruPower.calls k a2_0 a0 t228 _ A13.out).mono ?_); rintro e w' ⟨rfl, ⟨nd, rfl⟩⟩; (try first | exact ⟨rfl, _, World.drewN_drewN _ _ _⟩ | exact ⟨rfl, _, Eq.trans (World.drewN_drewN _ _ _) (congrArg (World.drewN _) (Nat.add_assoc _ _ _))⟩)) | (go_at_call 54; (with_reducible refine (spec_ruPower.calls k (wrap64 (a2_1 - a2_0)) a0 t229 _ A14.out).mono ?_); rintro e w' ⟨rfl, ⟨nd, rfl⟩⟩; (try first | exact ⟨rfl, _, World.drewN_drewN _ _ _⟩ | exact ⟨rfl, _, Eq.trans (World.drewN_drewN _ _ _) (congrArg (World.drewN _) (Nat.add_assoc _ _ _))⟩)) | (go_at_call 54; (with_reducible refine (spec_ruPower.calls k a2_0 a1 t230 _ A15.out).mono ?_); rintro e w' ⟨rfl, ⟨nd, rfl⟩⟩; (try first | exact ⟨rfl, _, World.drewN_drewN _ _ _⟩ | exact ⟨rfl, _, Eq.trans (World.drewN_drewN _ _ _) (congrArg (World.drewN _) (Nat.add_assoc _ _ _))⟩)) | (go_at_call 54; (with_reducible refine (spec_ruPower.calls k (wrap64 (a2_1 - a2_0)) a1 t231 _ A16.out).mono ?_); rintro e w' ⟨rfl, ⟨nd, rfl⟩⟩; (try first | exact ⟨rfl, _, World.drewN_drewN _ _ _⟩ | exact ⟨rfl, _, Eq.trans (World.drewN_drewN _ _ _) (congrArg (World.drewN _) (Nat.add_assoc _ _ _))⟩)) | (go_at_call 43; (with_reducible refine (spec_ruRatio.calls k (wrap64 (t227 * (wrap64 (t228 - t229)))) (wrap64 (t230 - t231)) t234 t235 _ A25.out).mono ?_); rintro e w30 ⟨rfl, hb⟩; replace BK223 := bb4 BK223 Ub4223 hb; replace BK224 := bb4 BK224 Ub4224 hb; replace HB := tb4 Hb4 hb; (try clear hb); (try clear hb2); (try clear hk); (try clear hi); have hcz31_0 : w30.cell? ⟨g224, 0, none⟩ = some (.int .i64 0) := (blk_cell BK224.out 0).trans rfl; have hcz31_1 : w30.cell? ⟨g224, 1, none⟩ = some (.int .i64 0) := (blk_cell BK224.out 1).trans rfl; have hfz31_0 := blk_frozen BK224.out 0; have hfz31_1 := blk_frozen BK224.out 1))
   repeat (go_quiet (first | ((with_reducible refine gate_dst (N := 5) rfl ?_); refine box_event ?hg (N := 5) ?hd (cs := #[.int .i64 a2_0, .int .i64 a2_1]) (t := 25) ?hr ?_; (case hd => rfl); (case hg => rfl); (case hr => first | (go_simp; done) | (go_simp; rfl)); intro g223 hg w26 hbox hb; have n0_ := tb4 Hb4 hb; have n1_ := Aa4q (hbox); have n2_ := sb4 Hb4 hg; have n3_ := sb4 Hb4 hg; clear HB; have HB := n0_; have BK223 := n1_; have GW223 := n2_; have GE223 := n3_; clear n0_ n1_ n2_ n3_; clear hb hbox hg) | ((with_reducible refine gate_dst (N := 6) rfl ?_); refine box_event ?hg (N := 6) ?hd (cs := #[.int .i64 0, .int .i64 0]) (t := 25) ?hr ?_; (case hd => rfl); (case hg => rfl); (case hr => first | (go_simp; done) | (go_simp; rfl)); intro g224 hg w27 hbox hb; have n0_ := bb4 BK223 Ub4223 hb; have n1_ := tb4 Hb4 hb; have n2_ := Aa4q (hbox); have n3_ := sb4 Hb4 hg; have n4_ := sb4 Hb4 hg; have n5_ := nb4 BK223 Ub4223 hg; have n6_ := mb4 BK223 Ub4223 hg; clear BK223; clear HB; have BK223 := n0_; have HB := n1_; have BK224 := n2_; have GW224 := n3_; have GE224 := n4_; have NB223_224 := n5_; have NB224_223 := n6_; clear n0_ n1_ n2_ n3_ n4_ n5_ n6_; clear hb hbox hg; have hnb28 := NB223_224.out; have hnc28 := NB224_223.out; have hcz29_0 : w27.cell? ⟨g223, 0, none⟩ = some (.int .i64 a2_0) := (blk_cell BK223.out 0).trans rfl; have hcz29_1 : w27.cell? ⟨g223, 1, none⟩ = some (.int .i64 a2_1) := (blk_cell BK223.out 1).trans rfl; have hfz29_0 := blk_frozen BK223.out 0; have hfz29_1 := blk_frozen BK223.out 1) | (go_at_call 54; (with_reducible refine (spec_ruPower.calls k a2_0 (wrap64 (a1 - a0)) t227 _ A12.out).mono ?_); rintro e w' ⟨rfl, ⟨nd, rfl⟩⟩; (try first | exact ⟨rfl, _, World.drewN_drewN _ _ _⟩ | exact ⟨rfl, _, Eq.trans (World.drewN_drewN _ _ _) (congrArg (World.drewN _) (Nat.add_assoc _ _ _))⟩)) | (go_at_call 54; (with_reducible refine (spec_ruPower.calls k a2_0 a0 t228 _ A13.out).mono ?_); rintro e w' ⟨rfl, ⟨nd, rfl⟩⟩; (try first | exact ⟨rfl, _, World.drewN_drewN _ _ _⟩ | exact ⟨rfl, _, Eq.trans (World.drewN_drewN _ _ _) (congrArg (World.drewN _) (Nat.add_assoc _ _ _))⟩)) | (go_at_call 54; (with_reducible refine (spec_ruPower.calls k (wrap64 (a2_1 - a2_0)) a0 t229 _ A14.out).mono ?_); rintro e w' ⟨rfl, ⟨nd, rfl⟩⟩; (try first | exact ⟨rfl, _, World.drewN_drewN _ _ _⟩ | exact ⟨rfl, _, Eq.trans (World.drewN_drewN _ _ _) (congrArg (World.drewN _) (Nat.add_assoc _ _ _))⟩)) | (go_at_call 54; (with_reducible refine (spec_ruPower.calls k a2_0 a1 t230 _ A15.out).mono ?_); rintro e w' ⟨rfl, ⟨nd, rfl⟩⟩; (try first | exact ⟨rfl, _, World.drewN_drewN _ _ _⟩ | exact ⟨rfl, _, Eq.trans (World.drewN_drewN _ _ _) (congrArg (World.drewN _) (Nat.add_assoc _ _ _))⟩)) | (go_at_call 54; (with_reducible refine (spec_ruPower.calls k (wrap64 (a2_1 - a2_0)) a1 t231 _ A16.out).mono ?_); rintro e w' ⟨rfl, ⟨nd, rfl⟩⟩; (try first | exact ⟨rfl, _, World.drewN_drewN _ _ _⟩ | exact ⟨rfl, _, Eq.trans (World.drewN_drewN _ _ _) (congrArg (World.drewN _) (Nat.add_assoc _ _ _))⟩)) | (go_at_call 43; (with_reducible refine (spec_ruRatio.calls k (wrap64 (t227 * (wrap64 (t228 - t229)))) (wrap64 (t230 - t231)) t234 t235 _ A25.out).mono ?_); rintro e w30 ⟨rfl, hb⟩; have n0_ := bb4 BK223 Ub4223 hb; have n1_ := bb4 BK224 Ub4224 hb; have n2_ := tb4 Hb4 hb; clear BK223; clear BK224; clear HB; have BK223 := n0_; have BK224 := n1_; have HB := n2_; clear n0_ n1_ n2_; (try clear hb); (try clear hb2); (try clear hk); (try clear hi); have hcz31_0 : w30.cell? ⟨g224, 0, none⟩ = some (.int .i64 0) := (blk_cell BK224.out 0).trans rfl; have hcz31_1 : w30.cell? ⟨g224, 1, none⟩ = some (.int .i64 0) := (blk_cell BK224.out 1).trans rfl; have hfz31_0 := blk_frozen BK224.out 0; have hfz31_1 := blk_frozen BK224.out 1)); try go_wp2_with (first | ((with_reducible refine gate_dst (N := 5) rfl ?_); refine box_event ?hg (N := 5) ?hd (cs := #[.int .i64 a2_0, .int .i64 a2_1]) (t := 25) ?hr ?_; (case hd => rfl); (case hg => rfl); (case hr => first | (go_simp; done) | (go_simp; rfl)); intro g223 hg w26 hbox hb; have n0_ := tb4 Hb4 hb; have n1_ := Aa4q (hbox); have n2_ := sb4 Hb4 hg; have n3_ := sb4 Hb4 hg; clear HB; have HB := n0_; have BK223 := n1_; have GW223 := n2_; have GE223 := n3_; clear n0_ n1_ n2_ n3_; clear hb hbox hg) | ((with_reducible refine gate_dst (N := 6) rfl ?_); refine box_event ?hg (N := 6) ?hd (cs := #[.int .i64 0, .int .i64 0]) (t := 25) ?hr ?_; (case hd => rfl); (case hg => rfl); (case hr => first | (go_simp; done) | (go_simp; rfl)); intro g224 hg w27 hbox hb; have n0_ := bb4 BK223 Ub4223 hb; have n1_ := tb4 Hb4 hb; have n2_ := Aa4q (hbox); have n3_ := sb4 Hb4 hg; have n4_ := sb4 Hb4 hg; have n5_ := nb4 BK223 Ub4223 hg; have n6_ := mb4 BK223 Ub4223 hg; clear BK223; clear HB; have BK223 := n0_; have HB := n1_; have BK224 := n2_; have GW224 := n3_; have GE224 := n4_; have NB223_224 := n5_; have NB224_223 := n6_; clear n0_ n1_ n2_ n3_ n4_ n5_ n6_; clear hb hbox hg; have hnb28 := NB223_224.out; have hnc28 := NB224_223.out; have hcz29_0 : w27.cell? ⟨g223, 0, none⟩ = some (.int .i64 a2_0) := (blk_cell BK223.out 0).trans rfl; have hcz29_1 : w27.cell? ⟨g223, 1, none⟩ = some (.int .i64 a2_1) := (blk_cell BK223.out 1).trans rfl; have hfz29_0 := blk_frozen BK223.out 0; have hfz29_1 := blk_frozen BK223.out 1) | (go_at_call 54; (with_reducible refine (spec_ruPower.calls k a2_0 (wrap64 (a1 - a0)) t227 _ A12.out).mono ?_); rintro e w' ⟨rfl, ⟨nd, rfl⟩⟩; (try first | exact ⟨rfl, _, World.drewN_drewN _ _ _⟩ | exact ⟨rfl, _, Eq.trans (World.drewN_drewN _ _ _) (congrArg (World.drewN _) (Nat.add_assoc _ _ _))⟩)) | (go_at_call 54; (with_reducible refine (spec_ruPower.calls k a2_0 a0 t228 _ A13.out).mono ?_); rintro e w' ⟨rfl, ⟨nd, rfl⟩⟩; (try first | exact ⟨rfl, _, World.drewN_drewN _ _ _⟩ | exact ⟨rfl, _, Eq.trans (World.drewN_drewN _ _ _) (congrArg (World.drewN _) (Nat.add_assoc _ _ _))⟩)) | (go_at_call 54; (with_reducible refine (spec_ruPower.calls k (wrap64 (a2_1 - a2_0)) a0 t229 _ A14.out).mono ?_); rintro e w' ⟨rfl, ⟨nd, rfl⟩⟩; (try first | exact ⟨rfl, _, World.drewN_drewN _ _ _⟩ | exact ⟨rfl, _, Eq.trans (World.drewN_drewN _ _ _) (congrArg (World.drewN _) (Nat.add_assoc _ _ _))⟩)) | (go_at_call 54; (with_reducible refine (spec_ruPower.calls k a2_0 a1 t230 _ A15.out).mono ?_); rintro e w' ⟨rfl, ⟨nd, rfl⟩⟩; (try first | exact ⟨rfl, _, World.drewN_drewN _ _ _⟩ | exact ⟨rfl, _, Eq.trans (World.drewN_drewN _ _ _) (congrArg (World.drewN _) (Nat.add_assoc _ _ _))⟩)) | (go_at_call 54; (with_reducible refine (spec_ruPower.calls k (wrap64 (a2_1 - a2_0)) a1 t231 _ A16.out).mono ?_); rintro e w' ⟨rfl, ⟨nd, rfl⟩⟩; (try first | exact ⟨rfl, _, World.drewN_drewN _ _ _⟩ | exact ⟨rfl, _, Eq.trans (World.drewN_drewN _ _ _) (congrArg (World.drewN _) (Nat.add_assoc _ _ _))⟩)) | (go_at_call 43; (with_reducible refine (spec_ruRatio.calls k (wrap64 (t227 * (wrap64 (t228 - t229)))) (wrap64 (t230 - t231)) t234 t235 _ A25.out).mono ?_); rintro e w30 ⟨rfl, hb⟩; have n0_ := bb4 BK223 Ub4223 hb; have n1_ := bb4 BK224 Ub4224 hb; have n2_ := tb4 Hb4 hb; clear BK223; clear BK224; clear HB; have BK223 := n0_; have BK224 := n1_; have HB := n2_; clear n0_ n1_ n2_; (try clear hb); (try clear hb2); (try clear hk); (try clear hi); have hcz31_0 : w30.cell? ⟨g224, 0, none⟩ = some (.int .i64 0) := (blk_cell BK224.out 0).trans rfl; have hcz31_1 : w30.cell? ⟨g224, 1, none⟩ = some (.int .i64 0) := (blk_cell BK224.out 1).trans rfl; have hfz31_0 := blk_frozen BK224.out 0; have hfz31_1 := blk_frozen BK224.out 1)))
   refine bodyPost_ret (results_cell_row rfl _ _ g224 25 #[.int .i64 t234, .int .i64 t235] (0, 0) _ rfl (by (with_reducible repeat (first | refine blk_drewN ?_ _ | refine blk_drew ?_ | refine blk_alloc ?_ _)); refine blk_put (cs := #[.int .i64 t234, .int .i64 0]) ?_ 1 _ rfl; (with_reducible repeat (first | refine blk_drewN ?_ _ | refine blk_drew ?_ | refine blk_alloc ?_ _)); refine blk_put (cs := #[.int .i64 0, .int .i64 0]) ?_ 0 _ rfl; (with_reducible repeat (first | refine blk_drewN ?_ _ | refine blk_drew ?_ | refine blk_alloc ?_ _)); exact BK224.out) Try.underlying25 rfl Za42) rfl ?_
   exact ⟨by first | rfl | (simp [errW_none, errW_some] <;> rfl) | (simp [*, errW_none, errW_some] <;> rfl), Hb4⟩

/-! ### spec_WinChance: function 16 -/
def spec_WinChance.f (k : Nat) (a0 : Int) (a1 : Int) (a2_0 : Int) (a2_1 : Int) : Option (Int × Int × Bool) := (spec_ruAsked.f k a0 a1 a2_0 a2_1).bind fun t238 => (if t238 = true then ((spec_ruWin.f k a0 a1 a2_0 a2_1).bind fun bt239 => (some (bt239.1, bt239.2, true))) else (some (0, 0, false)))
theorem spec_WinChance.mono : ∀ a0 a1 a2 a3 k, LeO (spec_WinChance.f k a0 a1 a2 a3) (spec_WinChance.f (k + 1) a0 a1 a2 a3) := by
  intro a0 a1 a2 a3 k
  unfold spec_WinChance.f
  repeat' first
      | (with_reducible exact spec_ruAsked.mono _ _ _ _ _)
      | (with_reducible exact spec_ruWin.mono _ _ _ _ _)
      | (with_reducible exact LeO.refl _)
      | (with_reducible exact LeO.none _)
      | (with_reducible refine LeO.ite ?_ ?_)
      | (with_reducible refine LeO.bind ?_ (fun _ => ?_))
      | exact spec_ruAsked.mono _ _ _ _ _
      | exact spec_ruWin.mono _ _ _ _ _
      | exact LeO.none _
      | refine LeO.ite ?_ ?_
      | refine LeO.bind ?_ (fun _ => ?_)
set_option maxHeartbeats 8000000 in
set_option maxRecDepth 100000 in
theorem spec_WinChance.calls (k : Nat) (a0 : Int) (a1 : Int) (a2_0 : Int) (a2_1 : Int) (r1 : Int) (r2 : Int) (r3 : Bool) (w : World) (h : spec_WinChance.f k a0 a1 a2_0 a2_1 = some (r1, r2, r3)) :
  Calls Try.prog 16 #[.int .i64 a0, .int .i64 a1, .agg #[.int .i64 a2_0, .int .i64 a2_1]] w fun e w' => e = .returned (.tuple #[.agg #[.int .i64 r1, .int .i64 r2], .bool r3]) ∧ Below w.heap.size w w' := by
 have hu25 := Try.underlying25
 have HB := Aa4q (Below.refl w.heap.size w)
 have H : ((spec_ruAsked.f k a0 a1 a2_0 a2_1).bind fun t238 => (if t238 = true then ((spec_ruWin.f k a0 a1 a2_0 a2_1).bind fun bt239 => (some (bt239.1, bt239.2, true))) else (some (0, 0, false)))) = some (r1, r2, r3) := h
 clear h
 replace H := Option.bind_eq_some_iff.mp H
 obtain ⟨t238, A40, H⟩ := H
 replace H : (if t238 = true then ((spec_ruWin.f k a0 a1 a2_0 a2_1).bind fun bt239 => (some (bt239.1, bt239.2, true))) else (some (0, 0, false))) = some (r1, r2, r3) := H
 have A4 := Aa4q A40
 clear A40
 by_cases c5 : t238 = true
 ·
  subst c5
  have H1 : ((spec_ruWin.f k a0 a1 a2_0 a2_1).bind fun bt239 => (some (bt239.1, bt239.2, true))) = some (r1, r2, r3) := by rw [if_pos rfl] at H; exact H
  clear H
  have H := H1
  clear H1
  replace H := Option.bind_eq_some_iff.mp H
  obtain ⟨⟨t239, t240⟩, A60, H⟩ := H
  replace H : (some (t239, t240, true)) = some (r1, r2, r3) := H
  have A6 := Aa4q A60
  clear A60
  simp only [Option.some.injEq, Prod.mk.injEq] at H
  obtain ⟨rfl, rfl, rfl⟩ := H
  go_enter Try.func16, Try.ntmps16
  go_wp2_with (first | ((with_reducible refine gate_dst (N := 5) rfl ?_); refine box_event ?hg (N := 5) ?hd (cs := #[.int .i64 a2_0, .int .i64 a2_1]) (t := 25) ?hr ?_; (case hd => rfl); (case hg => rfl); (case hr => first | (go_simp; done) | (go_simp; rfl)); intro g236 hg w7 hbox hb; have BK236 := Aa4q (hbox); have GE236 := sb4 Hb4 hg; replace HB := tb4 Hb4 hb; clear hb hbox hg) | ((with_reducible refine gate_dst (N := 6) rfl ?_); refine box_event ?hg (N := 6) ?hd (cs := #[.int .i64 0, .int .i64 0]) (t := 25) ?hr ?_; (case hd => rfl); (case hg => rfl); (case hr => first | (go_simp; done) | (go_simp; rfl)); intro g237 hg w8 hbox hb; have BK237 := Aa4q (hbox); have GE237 := sb4 Hb4 hg; have NB236_237 := nb4 BK236 Ub4236 hg; have NB237_236 := mb4 BK236 Ub4236 hg; replace BK236 := bb4 BK236 Ub4236 hb; replace HB := tb4 Hb4 hb; clear hb hbox hg; have hcz10_0 : w8.cell? ⟨g236, 0, none⟩ = some (.int .i64 a2_0) := (blk_cell BK236.out 0).trans rfl; have hcz10_1 : w8.cell? ⟨g236, 1, none⟩ = some (.int .i64 a2_1) := (blk_cell BK236.out 1).trans rfl; have hfz10_0 := blk_frozen BK236.out 0; have hfz10_1 := blk_frozen BK236.out 1) | ((with_reducible refine gate_callee (f := 41) rfl ?_); refine goesL_ (some 11) rfl rfl Try.func41 Za42 rfl #[.int .i64 a0, .int .i64 a1, .agg #[.int .i64 a2_0, .int .i64 a2_1]] rfl Za41 ?_; (with_reducible refine (spec_ruAsked.calls k a0 a1 a2_0 a2_1 true _ A4.out).mono ?_); rintro e w11 ⟨rfl, hb⟩; refine ⟨_, rfl, ?_⟩; replace BK236 := bb4 BK236 Ub4236 hb; replace BK237 := bb4 BK237 Ub4237 hb; replace HB := tb4 Hb4 hb; (try clear hb); (try clear hb2); (try clear hk); (try clear hi); have hcz12_0 : w11.cell? ⟨g236, 0, none⟩ = some (.int .i64 a2_0) := (blk_cell BK236.out 0).trans rfl; have hcz12_1 : w11.cell? ⟨g236, 1, none⟩ = some (.int .i64 a2_1) := (blk_cell BK236.out 1).trans rfl; have hfz12_0 := blk_frozen BK236.out 0; have hfz12_1 := blk_frozen BK236.out 1) | ((with_reducible refine gate_callee (f := 50) rfl ?_); refine goesL_ (some 17) rfl rfl Try.func50 Za42 rfl #[.int .i64 a0, .int .i64 a1, .agg #[.int .i64 a2_0, .int .i64 a2_1]] rfl Za41 ?_; (with_reducible refine (spec_ruWin.calls k a0 a1 a2_0 a2_1 t239 t240 _ A6.out).mono ?_); rintro e w13 ⟨rfl, hb⟩; refine ⟨_, rfl, ?_⟩; replace BK236 := bb4 BK236 Ub4236 hb; replace BK237 := bb4 BK237 Ub4237 hb; replace HB := tb4 Hb4 hb; (try clear hb); (try clear hb2); (try clear hk); (try clear hi); have hcz14_0 : w13.cell? ⟨g237, 0, none⟩ = some (.int .i64 0) := (blk_cell BK237.out 0).trans rfl; have hcz14_1 : w13.cell? ⟨g237, 1, none⟩ = some (.int .i64 0) := (blk_cell BK237.out 1).trans rfl; have hfz14_0 := blk_frozen BK237.out 0; have hfz14_1 := blk_frozen BK237.out 1))
  refine bodyPost_ret (results_ct rfl _ _ g237 25 #[.int .i64 t239, .int .i64 t240] (0, 0) _ rfl (by (with_reducible repeat (first | refine blk_drewN ?_ _ | refine blk_drew ?_ | refine blk_alloc ?_ _)); refine blk_put (cs := #[.int .i64 t239, .int .i64 0]) ?_ 1 _ rfl; (with_reducible repeat (first | refine blk_drewN ?_ _ | refine blk_drew ?_ | refine blk_alloc ?_ _)); refine blk_put (cs := #[.int .i64 0, .int .i64 0]) ?_ 0 _ rfl; (with_reducible repeat (first | refine blk_drewN ?_ _ | refine blk_drew ?_ | refine blk_alloc ?_ _)); exact BK237.out) Try.underlying25 rfl Za42) rfl ?_
  exact ⟨by first | rfl | (simp [errW_none, errW_some] <;> rfl) | (simp [*, errW_none, errW_some] <;> rfl), Hb4⟩
 ·
  replace c5 := Bool.eq_false_iff.mpr c5
  subst c5
  have H1 : (some (0, 0, false)) = some (r1, r2, r3) := by rw [if_neg (show ¬ (false = true) by decide)] at H; exact H
  clear H
  have H := H1
  clear H1
  simp only [Option.some.injEq, Prod.mk.injEq] at H
  obtain ⟨rfl, rfl, rfl⟩ := H
  go_enter Try.func16, Try.ntmps16
  go_wp2_with (first | ((with_reducible refine gate_dst (N := 5) rfl ?_); refine box_event ?hg (N := 5) ?hd (cs := #[.int .i64 a2_0, .int .i64 a2_1]) (t := 25) ?hr ?_; (case hd => rfl); (case hg => rfl); (case hr => first | (go_simp; done) | (go_simp; rfl)); intro g236 hg w15 hbox hb; have BK236 := Aa4q (hbox); have GE236 := sb4 Hb4 hg; replace HB := tb4 Hb4 hb; clear hb hbox hg) | ((with_reducible refine gate_dst (N := 6) rfl ?_); refine box_event ?hg (N := 6) ?hd (cs := #[.int .i64 0, .int .i64 0]) (t := 25) ?hr ?_; (case hd => rfl); (case hg => rfl); (case hr => first | (go_simp; done) | (go_simp; rfl)); intro g237 hg w16 hbox hb; have BK237 := Aa4q (hbox); have GE237 := sb4 Hb4 hg; have NB236_237 := nb4 BK236 Ub4236 hg; have NB237_236 := mb4 BK236 Ub4236 hg; replace BK236 := bb4 BK236 Ub4236 hb; replace HB := tb4 Hb4 hb; clear hb hbox hg; have hcz18_0 : w16.cell? ⟨g236, 0, none⟩ = some (.int .i64 a2_0) := (blk_cell BK236.out 0).trans rfl; have hcz18_1 : w16.cell? ⟨g236, 1, none⟩ = some (.int .i64 a2_1) := (blk_cell BK236.out 1).trans rfl; have hfz18_0 := blk_frozen BK236.out 0; have hfz18_1 := blk_frozen BK236.out 1) | ((with_reducible refine gate_callee (f := 41) rfl ?_); refine goesL_ (some 11) rfl rfl Try.func41 Za42 rfl #[.int .i64 a0, .int .i64 a1, .agg #[.int .i64 a2_0, .int .i64 a2_1]] rfl Za41 ?_; (with_reducible refine (spec_ruAsked.calls k a0 a1 a2_0 a2_1 false _ A4.out).mono ?_); rintro e w19 ⟨rfl, hb⟩; refine ⟨_, rfl, ?_⟩; replace BK236 := bb4 BK236 Ub4236 hb; replace BK237 := bb4 BK237 Ub4237 hb; replace HB := tb4 Hb4 hb; (try clear hb); (try clear hb2); (try clear hk); (try clear hi); have hcz20_0 : w19.cell? ⟨g237, 0, none⟩ = some (.int .i64 0) := (blk_cell BK237.out 0).trans rfl; have hcz20_1 : w19.cell? ⟨g237, 1, none⟩ = some (.int .i64 0) := (blk_cell BK237.out 1).trans rfl; have hfz20_0 := blk_frozen BK237.out 0; have hfz20_1 := blk_frozen BK237.out 1))
  refine bodyPost_ret (results_ct rfl _ _ g237 25 #[.int .i64 0, .int .i64 0] (0, 0) _ rfl (by (with_reducible repeat (first | refine blk_drewN ?_ _ | refine blk_drew ?_ | refine blk_alloc ?_ _)); refine blk_put (cs := #[.int .i64 0, .int .i64 0]) ?_ 1 _ rfl; (with_reducible repeat (first | refine blk_drewN ?_ _ | refine blk_drew ?_ | refine blk_alloc ?_ _)); refine blk_put (cs := #[.int .i64 0, .int .i64 0]) ?_ 0 _ rfl; (with_reducible repeat (first | refine blk_drewN ?_ _ | refine blk_drew ?_ | refine blk_alloc ?_ _)); exact BK237.out) Try.underlying25 rfl Za42) rfl ?_
  exact ⟨by first | rfl | (simp [errW_none, errW_some] <;> rfl) | (simp [*, errW_none, errW_some] <;> rfl), Hb4⟩

end Go.Proofs.Ytfembmnagkdnhaa.OFnRuinAddsUp
