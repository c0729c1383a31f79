/- The functions that 'FnRuinAddsUp' runs, each as a function over numbers and lists, with the proof that the Go text comes to its answers. No condition. -/
import Derived.Test.YtfembmnagkdnhaaOFnRuinAddsUpx0
import Derived.Test.YtfembmnagkdnhaaOFnRuinAddsUpx2
namespace Go.Proofs.Ytfembmnagkdnhaa.OFnRuinAddsUp
open Go.RowKit Go.Proofs.YtfembmnagkdnhaaW.PrintWords Go.Proofs.YtfembmnagkdnhaaW.PrintLast Go.Proofs.YtfembmnagkdnhaaW.PrintMore
attribute [local go_sem] max2_int min2_int max_two min_two max_three min_three max_four min_four   -- for this text's walks alone
set_option linter.unusedVariables false
set_option linter.unusedSimpArgs false

theorem y1a6 {α : Type} (l : List α) (i : Nat) (a : α) : l.toArray.setIfInBounds i a = (l.set i a).toArray := List.setIfInBounds_toArray l i a
theorem y2a6 {α : Type} {x : α} {xs : List α} {b : α} : (x :: xs).set 0 b = b :: xs := List.set_cons_zero
theorem y3a6 {α : Type} {x : α} {xs : List α} {n : Nat} {b : α} : (x :: xs).set (n + 1) b = x :: xs.set n b := List.set_cons_succ
theorem Aa6q {p : Prop} (h : p) : Aside0 p := Aside0.mk h
theorem Za61 {p : Prop} (h : p := by first | (simp only [putAll, Act.put, y1a6, y2a6, y3a6]; done) | (simp only [putAll, Act.put, y1a6, y2a6, y3a6]; rfl)) : p := h
theorem Za62 {p : Prop} (h : p := by (try simp only [List.map_toArray, List.map_cons, List.map_nil]); first | done | rfl | (simp only [List.length_drop, List.length_take]; rfl)) : p := h
theorem Hb6 {p : Prop} (h : p := by repeat (first | (with_reducible first | exact HB.out | apply below_alloc | apply pw_below_drewN | apply below_drew1 | refine below_set ?_ GE283.out | refine below_set ?_ GE284.out | refine below_set ?_ GE285.out | refine below_set ?_ GE290.out | refine below_set ?_ GE291.out) | exact HB.out)) : p := h
theorem bb6 {w0 w w1 : World} {g : Nat} {o : Obj} (_ : Aside0 (w0.heap[g]? = some o)) (h : w.heap[g]? = some o) (hb : Below w.heap.size w w1) : Aside0 (w1.heap[g]? = some o) := Aa6q (blk_below h hb)
theorem nb6 {w0 w : World} {g q : Nat} {o : Obj} (_ : Aside0 (w0.heap[g]? = some o)) (h : w.heap[g]? = some o) (hg : q = w.heap.size) : Aside0 (g ≠ q) := Aa6q (by rw [hg]; exact Nat.ne_of_lt (blk_lt h))
theorem mb6 {w0 w : World} {g q : Nat} {o : Obj} (_ : Aside0 (w0.heap[g]? = some o)) (h : w.heap[g]? = some o) (hg : q = w.heap.size) : Aside0 (q ≠ g) := Aa6q (by rw [hg]; exact Nat.ne_of_gt (blk_lt h))
theorem sb6 {w w1 : World} {q : Nat} (h : Below w.heap.size w w1) (hg : q = w1.heap.size) : Aside0 (w.heap.size ≤ q) := Aa6q (by rw [hg]; exact below_size h)
theorem tb6 {w w1 w2 : World} (h : Below w.heap.size w w1) (hb : Below w1.heap.size w1 w2) : Aside0 (Below w.heap.size w w2) := Aa6q (below_step h hb)
theorem Ub6283 {p : Prop} (h : p := by repeat (first | (with_reducible first | exact BK283.out | refine blk_drewN ?_ _ | refine blk_drew ?_ | refine blk_alloc ?_ _) | exact BK283.out)) : p := h
theorem Ub6284 {p : Prop} (h : p := by repeat (first | (with_reducible first | exact BK284.out | refine blk_drewN ?_ _ | refine blk_drew ?_ | refine blk_alloc ?_ _) | exact BK284.out)) : p := h
theorem Ub6285 {p : Prop} (h : p := by repeat (first | (with_reducible first | exact BK285.out | refine blk_drewN ?_ _ | refine blk_drew ?_ | refine blk_alloc ?_ _) | refine blk_far ?_ NB285_290.out _ | refine blk_far ?_ NB285_291.out _ | exact BK285.out)) : p := h
theorem Ub6290 {p : Prop} (h : p := by repeat (first | (with_reducible first | exact BK290.out | refine blk_drewN ?_ _ | refine blk_drew ?_ | refine blk_alloc ?_ _) | exact BK290.out)) : p := h
theorem Ub6291 {p : Prop} (h : p := by repeat (first | (with_reducible first | exact BK291.out | refine blk_drewN ?_ _ | refine blk_drew ?_ | refine blk_alloc ?_ _) | exact BK291.out)) : p := h
/-! ### impl_Ratio_times: function 51 -/
def impl_Ratio_times.f (k : Nat) (a0_0 : Int) (a0_1 : Int) (a1_0 : Int) (a1_1 : Int) : Option (Int × Int) := (impl_ratio.f k a0_0 a1_1).bind fun bt286 => ((impl_ratio.f k a1_0 a0_1).bind fun bt288 => (some (wrap64 (bt286.1 * bt288.1), wrap64 (bt286.2 * bt288.2))))
theorem impl_Ratio_times.mono : ∀ a0 a1 a2 a3 k, LeO (impl_Ratio_times.f k a0 a1 a2 a3) (impl_Ratio_times.f (k + 1) a0 a1 a2 a3) := by
  intro a0 a1 a2 a3 k
  unfold impl_Ratio_times.f
  repeat' first
      | (with_reducible exact impl_ratio.mono _ _ _)
      | (with_reducible exact LeO.refl _)
      | (with_reducible exact LeO.none _)
      | (with_reducible refine LeO.ite ?_ ?_)
      | (with_reducible refine LeO.bind ?_ (fun _ => ?_))
      | exact impl_ratio.mono _ _ _
      | exact LeO.none _
      | refine LeO.ite ?_ ?_
      | refine LeO.bind ?_ (fun _ => ?_)
def impl_Ratio_times.T1 : Bool × List (List Nat × List Nat) := (true, [([], []), ([0], [0]), ([], []), ([2], [2]), ([1, 3], [1, 3]), ([], []), ([5], [5]), ([], []), ([7], [7]), ([6, 8, 4], [6, 8]), ([], []), ([], []), ([10, 4, 9, 0, 1, 2, 3, 4, 10, 11], [4, 10]), ([11, 9, 12, 0, 1, 2, 3, 4, 5, 6, 7, 8, 9, 10, 11, 12], [9, 11])])
def impl_Ratio_times.B1 : List Nat := [0, 1, 0, 4, 15, 0, 32, 0, 128, 511, 0, 0, 4095, 8191]
theorem impl_Ratio_times.tab1 : rtab .any (opsOf Try.f51 1) = impl_Ratio_times.T1 := by kernel_rfl
theorem impl_Ratio_times.bits1 : waitsOk impl_Ratio_times.T1.2 impl_Ratio_times.B1 = true := by kernel_rfl
set_option maxHeartbeats 8000000 in
set_option maxRecDepth 100000 in
theorem impl_Ratio_times.calls (k : Nat) (a0_0 : Int) (a0_1 : Int) (a1_0 : Int) (a1_1 : Int) (r1 : Int) (r2 : Int) (w : World) (h : impl_Ratio_times.f k a0_0 a0_1 a1_0 a1_1 = some (r1, r2)) :
  Calls Try.prog 51 #[.agg #[.int .i64 a0_0, .int .i64 a0_1], .agg #[.int .i64 a1_0, .int .i64 a1_1]] w fun e w' => e = .returned (.agg #[.int .i64 r1, .int .i64 r2]) ∧ Below w.heap.size w w' := by
 have hu25 := Try.underlying25
 have HB := Aa6q (Below.refl w.heap.size w)
 have H : ((impl_ratio.f k a0_0 a1_1).bind fun bt286 => ((impl_ratio.f k a1_0 a0_1).bind fun bt288 => (some (wrap64 (bt286.1 * bt288.1), wrap64 (bt286.2 * bt288.2))))) = some (r1, r2) := h
 clear h
 replace H := Option.bind_eq_some_iff.mp H
 obtain ⟨⟨t286, t287⟩, A30, H⟩ := H
 replace H : ((impl_ratio.f k a1_0 a0_1).bind fun bt288 => (some (wrap64 (t286 * bt288.1), wrap64 (t287 * bt288.2)))) = some (r1, r2) := H
 have A3 := Aa6q A30
 clear A30
 replace H := Option.bind_eq_some_iff.mp H
 obtain ⟨⟨t288, t289⟩, A40, H⟩ := H
 replace H : (some (wrap64 (t286 * t288), wrap64 (t287 * t289))) = some (r1, r2) := H
 have A4 := Aa6q A40
 clear A40
 simp only [Option.some.injEq, Prod.mk.injEq] at H
 obtain ⟨rfl, rfl⟩ := H
 go_enter Try.func51, Try.ntmps51
 try go_wp2_with (first | ((with_reducible refine gate_dst (N := 2) rfl ?_); refine box_event ?hg (N := 2) ?hd (cs := #[.int .i64 a0_0, .int .i64 a0_1]) (t := 25) ?hr ?_; (case hd => rfl); (case hg => rfl); (case hr => first | (go_simp; done) | (go_simp; rfl)); intro g283 hg w5 hbox hb; have BK283 := Aa6q (hbox); have GW283 := sb6 Hb6 hg; have GE283 := sb6 Hb6 hg; replace HB := tb6 Hb6 hb; clear hb hbox hg) | ((with_reducible refine gate_dst (N := 3) rfl ?_); refine box_event ?hg (N := 3) ?hd (cs := #[.int .i64 a1_0, .int .i64 a1_1]) (t := 25) ?hr ?_; (case hd => rfl); (case hg => rfl); (case hr => first | (go_simp; done) | (go_simp; rfl)); intro g284 hg w6 hbox hb; have BK284 := Aa6q (hbox); have GW284 := sb6 Hb6 hg; have GE284 := sb6 Hb6 hg; have NB283_284 := nb6 BK283 Ub6283 hg; have NB284_283 := mb6 BK283 Ub6283 hg; replace BK283 := bb6 BK283 Ub6283 hb; replace HB := tb6 Hb6 hb; clear hb hbox hg) | ((with_reducible refine gate_dst (N := 4) rfl ?_); refine box_event ?hg (N := 4) ?hd (cs := #[.int .i64 0, .int .i64 0]) (t := 25) ?hr ?_; (case hd => rfl); (case hg => rfl); (case hr => first | (go_simp; done) | (go_simp; rfl)); intro g285 hg w7 hbox hb; have BK285 := Aa6q (hbox); have GW285 := sb6 Hb6 hg; have GE285 := sb6 Hb6 hg; have NB283_285 := nb6 BK283 Ub6283 hg; have NB285_283 := mb6 BK283 Ub6283 hg; have NB284_285 := nb6 BK284 Ub6284 hg; have NB285_284 := mb6 BK284 Ub6284 hg; replace BK283 := bb6 BK283 Ub6283 hb; replace BK284 := bb6 BK284 Ub6284 hb; replace HB := tb6 Hb6 hb; clear hb hbox hg))
 replace BK283 := Aa6q (blk_drew BK283.out)
 replace BK284 := Aa6q (blk_drew BK284.out)
 replace BK285 := Aa6q (blk_drew BK285.out)
 replace HB := Aa6q (below_drew1 HB.out)
 refine start_ (n := 14) (S := fun w' => w'.cell? ⟨g283, 0, none⟩ = some (.int .i64 a0_0) ∧ w'.cell? ⟨g283, 1, none⟩ = some (.int .i64 a0_1) ∧ w'.cell? ⟨g284, 0, none⟩ = some (.int .i64 a1_0) ∧ w'.cell? ⟨g284, 1, none⟩ = some (.int .i64 a1_1)) (ds := []) #[false, false, false, false, false, false, false, false, false, false, false, false, false, false] (by kernel_rfl) rfl rfl ⟨(blk_cell BK283.out 0).trans rfl, (blk_cell BK283.out 1).trans rfl, (blk_cell BK284.out 0).trans rfl, (blk_cell BK284.out 1).trans rfl⟩ (fun hHeld => ?_); refine with_tabW impl_Ratio_times.tab1 impl_Ratio_times.bits1 (fun HT_ HW_ => ?_)
 generalize w7.drew = w8 at BK283 BK284 BK285 HB hHeld ⊢
 refine pure_ (i := 0) (N := some 7) (v := ?_) (a' := ?_) #[true, false, false, false, false, false, false, false, false, false, false, false, false, false] rfl rfl (any_of HT_.out (by kernel_rfl)) (fun _ _ _ h => h) (Or.inl ⟨by rfl, ?_⟩) ?_ ?_
 rotate_left
 ·
  intro w'
  go_simp
  with_reducible rfl
 rotate_left
 ·
  simp only [Act.put, y1a6, y2a6, y3a6, i64_w, i32_w]
  rfl
 refine pure_ (i := 2) (N := some 9) (v := ?_) (a' := ?_) #[true, false, true, false, false, false, false, false, false, false, false, false, false, false] rfl rfl (any_of HT_.out (by kernel_rfl)) (fun _ _ _ h => h) (Or.inl ⟨by rfl, ?_⟩) ?_ ?_
 rotate_left
 ·
  intro w'
  go_simp
  with_reducible rfl
 rotate_left
 ·
  simp only [Act.put, y1a6, y2a6, y3a6, i64_w, i32_w]
  rfl
 refine pure_ (i := 5) (N := some 12) (v := ?_) (a' := ?_) #[true, false, true, false, false, true, false, false, false, false, false, false, false, false] rfl rfl (any_of HT_.out (by kernel_rfl)) (fun _ _ _ h => h) (Or.inl ⟨by rfl, ?_⟩) ?_ ?_
 rotate_left
 ·
  intro w'
  go_simp
  with_reducible rfl
 rotate_left
 ·
  simp only [Act.put, y1a6, y2a6, y3a6, i64_w, i32_w]
  rfl
 refine pure_ (i := 7) (N := some 14) (v := ?_) (a' := ?_) #[true, false, true, false, false, true, false, true, false, false, false, false, false, false] rfl rfl (any_of HT_.out (by kernel_rfl)) (fun _ _ _ h => h) (Or.inl ⟨by rfl, ?_⟩) ?_ ?_
 rotate_left
 ·
  intro w'
  go_simp
  with_reducible rfl
 rotate_left
 ·
  simp only [Act.put, y1a6, y2a6, y3a6, i64_w, i32_w]
  rfl
 refine take_ (i := 1) (N := some 8) (v := ?_) (a' := ?_) #[true, true, true, false, false, true, false, true, false, false, false, false, false, false] rfl rfl (take_ofW HT_.out HW_.out (by kernel_rfl)) (fun _ _ _ h => h) (Or.inl ⟨by rfl, ?_⟩) hHeld ?_ ?_
 rotate_left
 ·
  rintro w' ⟨s0, s1, s2, s3⟩
  go_simp
  with_reducible rfl
 rotate_left
 ·
  simp only [Act.put, y1a6, y2a6, y3a6, i64_w, i32_w]
  rfl
 refine take_ (i := 3) (N := some 10) (v := ?_) (a' := ?_) #[true, true, true, true, false, true, false, true, false, false, false, false, false, false] rfl rfl (take_ofW HT_.out HW_.out (by kernel_rfl)) (fun _ _ _ h => h) (Or.inl ⟨by rfl, ?_⟩) hHeld ?_ ?_
 rotate_left
 ·
  rintro w' ⟨s0, s1, s2, s3⟩
  go_simp
  with_reducible rfl
 rotate_left
 ·
  simp only [Act.put, y1a6, y2a6, y3a6, i64_w, i32_w]
  rfl
 refine take_ (i := 6) (N := some 13) (v := ?_) (a' := ?_) #[true, true, true, true, false, true, true, true, false, false, false, false, false, false] rfl rfl (take_ofW HT_.out HW_.out (by kernel_rfl)) (fun _ _ _ h => h) (Or.inl ⟨by rfl, ?_⟩) hHeld ?_ ?_
 rotate_left
 ·
  rintro w' ⟨s0, s1, s2, s3⟩
  go_simp
  with_reducible rfl
 rotate_left
 ·
  simp only [Act.put, y1a6, y2a6, y3a6, i64_w, i32_w]
  rfl
 refine take_ (i := 8) (N := some 15) (v := ?_) (a' := ?_) #[true, true, true, true, false, true, true, true, true, false, false, false, false, false] rfl rfl (take_ofW HT_.out HW_.out (by kernel_rfl)) (fun _ _ _ h => h) (Or.inl ⟨by rfl, ?_⟩) hHeld ?_ ?_
 rotate_left
 ·
  rintro w' ⟨s0, s1, s2, s3⟩
  go_simp
  with_reducible rfl
 rotate_left
 ·
  simp only [Act.put, y1a6, y2a6, y3a6, i64_w, i32_w]
  rfl
 refine join_ (σ := Nat × Nat) 2 #[true, true, true, true, true, true, true, true, true, true, true, true, false, false] (fun s_ => [(11, .agg #[.int .i64 t286, .int .i64 t287]), (16, .agg #[.int .i64 t288, .int .i64 t289]), (5, .pointer (some ⟨s_.1, 0, none⟩)), (6, .pointer (some ⟨s_.2, 0, none⟩))]) (fun s_ w' => (w'.cell? ⟨g283, 0, none⟩ = some (.int .i64 a0_0) ∧ w'.cell? ⟨g283, 1, none⟩ = some (.int .i64 a0_1) ∧ w'.cell? ⟨g284, 0, none⟩ = some (.int .i64 a1_0) ∧ w'.cell? ⟨g284, 1, none⟩ = some (.int .i64 a1_1)) ∧ (w'.heap[g283]? = some (.cells #[.int .i64 a0_0, .int .i64 a0_1] 25 (0, 0))) ∧ (w'.heap[g284]? = some (.cells #[.int .i64 a1_0, .int .i64 a1_1] 25 (0, 0))) ∧ (w'.heap[g285]? = some (.cells #[.int .i64 0, .int .i64 0] 25 (0, 0))) ∧ (w'.heap[s_.1]? = some (.cells #[.int .i64 0, .int .i64 0] 25 (0, 0))) ∧ (w'.heap[s_.2]? = some (.cells #[.int .i64 0, .int .i64 0] 25 (0, 0))) ∧ (w.heap.size ≤ s_.1) ∧ (w.heap.size ≤ s_.1) ∧ (g283 ≠ s_.1) ∧ (s_.1 ≠ g283) ∧ (g284 ≠ s_.1) ∧ (s_.1 ≠ g284) ∧ (g285 ≠ s_.1) ∧ (s_.1 ≠ g285) ∧ (s_.2 ≠ s_.1) ∧ (s_.1 ≠ s_.2) ∧ (w.heap.size ≤ s_.2) ∧ (w.heap.size ≤ s_.2) ∧ (g283 ≠ s_.2) ∧ (s_.2 ≠ g283) ∧ (g284 ≠ s_.2) ∧ (s_.2 ≠ g284) ∧ (g285 ≠ s_.2) ∧ (s_.2 ≠ g285) ∧ (Below w.heap.size w w')) ?_ ?_
 rotate_left
 ·
  intro hJ4_9_10_11
  refine join_ (σ := Nat) 3 #[true, true, true, true, true, true, true, true, true, true, true, false, false, false] (fun s_ => [(11, .agg #[.int .i64 t286, .int .i64 t287]), (16, .agg #[.int .i64 t288, .int .i64 t289]), (5, .pointer (some ⟨s_, 0, none⟩))]) (fun s_ w' => (w'.cell? ⟨g283, 0, none⟩ = some (.int .i64 a0_0) ∧ w'.cell? ⟨g283, 1, none⟩ = some (.int .i64 a0_1) ∧ w'.cell? ⟨g284, 0, none⟩ = some (.int .i64 a1_0) ∧ w'.cell? ⟨g284, 1, none⟩ = some (.int .i64 a1_1)) ∧ (w'.heap[g283]? = some (.cells #[.int .i64 a0_0, .int .i64 a0_1] 25 (0, 0))) ∧ (w'.heap[g284]? = some (.cells #[.int .i64 a1_0, .int .i64 a1_1] 25 (0, 0))) ∧ (w'.heap[g285]? = some (.cells #[.int .i64 0, .int .i64 0] 25 (0, 0))) ∧ (w'.heap[s_]? = some (.cells #[.int .i64 0, .int .i64 0] 25 (0, 0))) ∧ (w.heap.size ≤ s_) ∧ (w.heap.size ≤ s_) ∧ (g283 ≠ s_) ∧ (s_ ≠ g283) ∧ (g284 ≠ s_) ∧ (s_ ≠ g284) ∧ (g285 ≠ s_) ∧ (s_ ≠ g285) ∧ (Below w.heap.size w w')) ?_ ?_
  rotate_left
  ·
   intro hJ4_9_10
   refine join_ (σ := Nat) 3 #[true, true, true, true, true, true, true, true, true, true, false, true, false, false] (fun s_ => [(11, .agg #[.int .i64 t286, .int .i64 t287]), (16, .agg #[.int .i64 t288, .int .i64 t289]), (6, .pointer (some ⟨s_, 0, none⟩))]) (fun s_ w' => (w'.cell? ⟨g283, 0, none⟩ = some (.int .i64 a0_0) ∧ w'.cell? ⟨g283, 1, none⟩ = some (.int .i64 a0_1) ∧ w'.cell? ⟨g284, 0, none⟩ = some (.int .i64 a1_0) ∧ w'.cell? ⟨g284, 1, none⟩ = some (.int .i64 a1_1)) ∧ (w'.heap[g283]? = some (.cells #[.int .i64 a0_0, .int .i64 a0_1] 25 (0, 0))) ∧ (w'.heap[g284]? = some (.cells #[.int .i64 a1_0, .int .i64 a1_1] 25 (0, 0))) ∧ (w'.heap[g285]? = some (.cells #[.int .i64 0, .int .i64 0] 25 (0, 0))) ∧ (w'.heap[s_]? = some (.cells #[.int .i64 0, .int .i64 0] 25 (0, 0))) ∧ (w.heap.size ≤ s_) ∧ (w.heap.size ≤ s_) ∧ (g283 ≠ s_) ∧ (s_ ≠ g283) ∧ (g284 ≠ s_) ∧ (s_ ≠ g284) ∧ (g285 ≠ s_) ∧ (s_ ≠ g285) ∧ (Below w.heap.size w w')) ?_ ?_
   rotate_left
   ·
    intro hJ4_9_11
    refine join_ (σ := Nat × Nat) 3 #[true, true, true, true, true, true, true, true, true, false, true, true, false, false] (fun s_ => [(11, .agg #[.int .i64 t286, .int .i64 t287]), (5, .pointer (some ⟨s_.1, 0, none⟩)), (6, .pointer (some ⟨s_.2, 0, none⟩))]) (fun s_ w' => (w'.cell? ⟨g283, 0, none⟩ = some (.int .i64 a0_0) ∧ w'.cell? ⟨g283, 1, none⟩ = some (.int .i64 a0_1) ∧ w'.cell? ⟨g284, 0, none⟩ = some (.int .i64 a1_0) ∧ w'.cell? ⟨g284, 1, none⟩ = some (.int .i64 a1_1)) ∧ (w'.heap[g283]? = some (.cells #[.int .i64 a0_0, .int .i64 a0_1] 25 (0, 0))) ∧ (w'.heap[g284]? = some (.cells #[.int .i64 a1_0, .int .i64 a1_1] 25 (0, 0))) ∧ (w'.heap[g285]? = some (.cells #[.int .i64 0, .int .i64 0] 25 (0, 0))) ∧ (w'.heap[s_.1]? = some (.cells #[.int .i64 0, .int .i64 0] 25 (0, 0))) ∧ (w'.heap[s_.2]? = some (.cells #[.int .i64 0, .int .i64 0] 25 (0, 0))) ∧ (w.heap.size ≤ s_.1) ∧ (w.heap.size ≤ s_.1) ∧ (g283 ≠ s_.1) ∧ (s_.1 ≠ g283) ∧ (g284 ≠ s_.1) ∧ (s_.1 ≠ g284) ∧ (g285 ≠ s_.1) ∧ (s_.1 ≠ g285) ∧ (s_.2 ≠ s_.1) ∧ (s_.1 ≠ s_.2) ∧ (w.heap.size ≤ s_.2) ∧ (w.heap.size ≤ s_.2) ∧ (g283 ≠ s_.2) ∧ (s_.2 ≠ g283) ∧ (g284 ≠ s_.2) ∧ (s_.2 ≠ g284) ∧ (g285 ≠ s_.2) ∧ (s_.2 ≠ g285) ∧ (Below w.heap.size w w')) ?_ ?_
    rotate_left
    ·
     intro hJ4_10_11
     refine join_ (σ := Unit) 4 #[true, true, true, true, true, true, true, true, true, true, false, false, false, false] (fun s_ => [(11, .agg #[.int .i64 t286, .int .i64 t287]), (16, .agg #[.int .i64 t288, .int .i64 t289])]) (fun s_ w' => (w'.cell? ⟨g283, 0, none⟩ = some (.int .i64 a0_0) ∧ w'.cell? ⟨g283, 1, none⟩ = some (.int .i64 a0_1) ∧ w'.cell? ⟨g284, 0, none⟩ = some (.int .i64 a1_0) ∧ w'.cell? ⟨g284, 1, none⟩ = some (.int .i64 a1_1)) ∧ (w'.heap[g283]? = some (.cells #[.int .i64 a0_0, .int .i64 a0_1] 25 (0, 0))) ∧ (w'.heap[g284]? = some (.cells #[.int .i64 a1_0, .int .i64 a1_1] 25 (0, 0))) ∧ (w'.heap[g285]? = some (.cells #[.int .i64 0, .int .i64 0] 25 (0, 0))) ∧ (Below w.heap.size w w')) ?_ ?_
     rotate_left
     ·
      intro hJ4_9
      refine join_ (σ := Nat) 4 #[true, true, true, true, true, true, true, true, true, false, true, false, false, false] (fun s_ => [(11, .agg #[.int .i64 t286, .int .i64 t287]), (5, .pointer (some ⟨s_, 0, none⟩))]) (fun s_ w' => (w'.cell? ⟨g283, 0, none⟩ = some (.int .i64 a0_0) ∧ w'.cell? ⟨g283, 1, none⟩ = some (.int .i64 a0_1) ∧ w'.cell? ⟨g284, 0, none⟩ = some (.int .i64 a1_0) ∧ w'.cell? ⟨g284, 1, none⟩ = some (.int .i64 a1_1)) ∧ (w'.heap[g283]? = some (.cells #[.int .i64 a0_0, .int .i64 a0_1] 25 (0, 0))) ∧ (w'.heap[g284]? = some (.cells #[.int .i64 a1_0, .int .i64 a1_1] 25 (0, 0))) ∧ (w'.heap[g285]? = some (.cells #[.int .i64 0, .int .i64 0] 25 (0, 0))) ∧ (w'.heap[s_]? = some (.cells #[.int .i64 0, .int .i64 0] 25 (0, 0))) ∧ (w.heap.size ≤ s_) ∧ (w.heap.size ≤ s_) ∧ (g283 ≠ s_) ∧ (s_ ≠ g283) ∧ (g284 ≠ s_) ∧ (s_ ≠ g284) ∧ (g285 ≠ s_) ∧ (s_ ≠ g285) ∧ (Below w.heap.size w w')) ?_ ?_
      rotate_left
      ·
       intro hJ4_10
       refine join_ (σ := Nat) 4 #[true, true, true, true, true, true, true, true, true, false, false, true, false, false] (fun s_ => [(11, .agg #[.int .i64 t286, .int .i64 t287]), (6, .pointer (some ⟨s_, 0, none⟩))]) (fun s_ w' => (w'.cell? ⟨g283, 0, none⟩ = some (.int .i64 a0_0) ∧ w'.cell? ⟨g283, 1, none⟩ = some (.int .i64 a0_1) ∧ w'.cell? ⟨g284, 0, none⟩ = some (.int .i64 a1_0) ∧ w'.cell? ⟨g284, 1, none⟩ = some (.int .i64 a1_1)) ∧ (w'.heap[g283]? = some (.cells #[.int .i64 a0_0, .int .i64 a0_1] 25 (0, 0))) ∧ (w'.heap[g284]? = some (.cells #[.int .i64 a1_0, .int .i64 a1_1] 25 (0, 0))) ∧ (w'.heap[g285]? = some (.cells #[.int .i64 0, .int .i64 0] 25 (0, 0))) ∧ (w'.heap[s_]? = some (.cells #[.int .i64 0, .int .i64 0] 25 (0, 0))) ∧ (w.heap.size ≤ s_) ∧ (w.heap.size ≤ s_) ∧ (g283 ≠ s_) ∧ (s_ ≠ g283) ∧ (g284 ≠ s_) ∧ (s_ ≠ g284) ∧ (g285 ≠ s_) ∧ (s_ ≠ g285) ∧ (Below w.heap.size w w')) ?_ ?_
       rotate_left
       ·
        intro hJ4_11
        refine join_ (σ := Nat × Nat) 4 #[true, true, true, true, false, true, true, true, true, false, true, true, false, false] (fun s_ => [(5, .pointer (some ⟨s_.1, 0, none⟩)), (6, .pointer (some ⟨s_.2, 0, none⟩))]) (fun s_ w' => (w'.cell? ⟨g283, 0, none⟩ = some (.int .i64 a0_0) ∧ w'.cell? ⟨g283, 1, none⟩ = some (.int .i64 a0_1) ∧ w'.cell? ⟨g284, 0, none⟩ = some (.int .i64 a1_0) ∧ w'.cell? ⟨g284, 1, none⟩ = some (.int .i64 a1_1)) ∧ (w'.heap[g283]? = some (.cells #[.int .i64 a0_0, .int .i64 a0_1] 25 (0, 0))) ∧ (w'.heap[g284]? = some (.cells #[.int .i64 a1_0, .int .i64 a1_1] 25 (0, 0))) ∧ (w'.heap[g285]? = some (.cells #[.int .i64 0, .int .i64 0] 25 (0, 0))) ∧ (w'.heap[s_.1]? = some (.cells #[.int .i64 0, .int .i64 0] 25 (0, 0))) ∧ (w'.heap[s_.2]? = some (.cells #[.int .i64 0, .int .i64 0] 25 (0, 0))) ∧ (w.heap.size ≤ s_.1) ∧ (w.heap.size ≤ s_.1) ∧ (g283 ≠ s_.1) ∧ (s_.1 ≠ g283) ∧ (g284 ≠ s_.1) ∧ (s_.1 ≠ g284) ∧ (g285 ≠ s_.1) ∧ (s_.1 ≠ g285) ∧ (s_.2 ≠ s_.1) ∧ (s_.1 ≠ s_.2) ∧ (w.heap.size ≤ s_.2) ∧ (w.heap.size ≤ s_.2) ∧ (g283 ≠ s_.2) ∧ (s_.2 ≠ g283) ∧ (g284 ≠ s_.2) ∧ (s_.2 ≠ g284) ∧ (g285 ≠ s_.2) ∧ (s_.2 ≠ g285) ∧ (Below w.heap.size w w')) ?_ ?_
        rotate_left
        ·
         intro hJ10_11
         refine join_ (σ := Unit) 5 #[true, true, true, true, true, true, true, true, true, false, false, false, false, false] (fun s_ => [(11, .agg #[.int .i64 t286, .int .i64 t287])]) (fun s_ w' => (w'.cell? ⟨g283, 0, none⟩ = some (.int .i64 a0_0) ∧ w'.cell? ⟨g283, 1, none⟩ = some (.int .i64 a0_1) ∧ w'.cell? ⟨g284, 0, none⟩ = some (.int .i64 a1_0) ∧ w'.cell? ⟨g284, 1, none⟩ = some (.int .i64 a1_1)) ∧ (w'.heap[g283]? = some (.cells #[.int .i64 a0_0, .int .i64 a0_1] 25 (0, 0))) ∧ (w'.heap[g284]? = some (.cells #[.int .i64 a1_0, .int .i64 a1_1] 25 (0, 0))) ∧ (w'.heap[g285]? = some (.cells #[.int .i64 0, .int .i64 0] 25 (0, 0))) ∧ (Below w.heap.size w w')) ?_ ?_
         rotate_left
         ·
          intro hJ4
          refine join_ (σ := Nat) 5 #[true, true, true, true, false, true, true, true, true, false, true, false, false, false] (fun s_ => [(5, .pointer (some ⟨s_, 0, none⟩))]) (fun s_ w' => (w'.cell? ⟨g283, 0, none⟩ = some (.int .i64 a0_0) ∧ w'.cell? ⟨g283, 1, none⟩ = some (.int .i64 a0_1) ∧ w'.cell? ⟨g284, 0, none⟩ = some (.int .i64 a1_0) ∧ w'.cell? ⟨g284, 1, none⟩ = some (.int .i64 a1_1)) ∧ (w'.heap[g283]? = some (.cells #[.int .i64 a0_0, .int .i64 a0_1] 25 (0, 0))) ∧ (w'.heap[g284]? = some (.cells #[.int .i64 a1_0, .int .i64 a1_1] 25 (0, 0))) ∧ (w'.heap[g285]? = some (.cells #[.int .i64 0, .int .i64 0] 25 (0, 0))) ∧ (w'.heap[s_]? = some (.cells #[.int .i64 0, .int .i64 0] 25 (0, 0))) ∧ (w.heap.size ≤ s_) ∧ (w.heap.size ≤ s_) ∧ (g283 ≠ s_) ∧ (s_ ≠ g283) ∧ (g284 ≠ s_) ∧ (s_ ≠ g284) ∧ (g285 ≠ s_) ∧ (s_ ≠ g285) ∧ (Below w.heap.size w w')) ?_ ?_
          rotate_left
          ·
           intro hJ10
           refine join_ (σ := Nat) 5 #[true, true, true, true, false, true, true, true, true, false, false, true, false, false] (fun s_ => [(6, .pointer (some ⟨s_, 0, none⟩))]) (fun s_ w' => (w'.cell? ⟨g283, 0, none⟩ = some (.int .i64 a0_0) ∧ w'.cell? ⟨g283, 1, none⟩ = some (.int .i64 a0_1) ∧ w'.cell? ⟨g284, 0, none⟩ = some (.int .i64 a1_0) ∧ w'.cell? ⟨g284, 1, none⟩ = some (.int .i64 a1_1)) ∧ (w'.heap[g283]? = some (.cells #[.int .i64 a0_0, .int .i64 a0_1] 25 (0, 0))) ∧ (w'.heap[g284]? = some (.cells #[.int .i64 a1_0, .int .i64 a1_1] 25 (0, 0))) ∧ (w'.heap[g285]? = some (.cells #[.int .i64 0, .int .i64 0] 25 (0, 0))) ∧ (w'.heap[s_]? = some (.cells #[.int .i64 0, .int .i64 0] 25 (0, 0))) ∧ (w.heap.size ≤ s_) ∧ (w.heap.size ≤ s_) ∧ (g283 ≠ s_) ∧ (s_ ≠ g283) ∧ (g284 ≠ s_) ∧ (s_ ≠ g284) ∧ (g285 ≠ s_) ∧ (s_ ≠ g285) ∧ (Below w.heap.size w w')) ?_ ?_
           rotate_left
           ·
            intro hJ11
            refine three_ (i := 4) (j := 10) (k := 11) (Ni := some 11) (Nj := some 5) (Nk := some 6) #[true, true, true, true, true, true, true, true, true, false, false, false, false, false] #[true, true, true, true, false, true, true, true, true, false, true, false, false, false] #[true, true, true, true, false, true, true, true, true, false, false, true, false, false] rfl rfl rfl rfl rfl rfl (three_of HT_.out (by kernel_rfl)) (by decide) (by decide) (by decide) (fun K hK => ?_) (fun K hK => ?_) (fun K hK => ?_)
            ·
             skip
             refine goes_ Try.func38 (by kernel_rfl) rfl #[.int .i64 a0_0, .int .i64 a1_1] (by rfl) rfl rfl Za62 ?_
             with_reducible refine (impl_ratio.calls k a0_0 a1_1 t286 t287 _ A3.out).mono ?_
             rintro e w9 ⟨rfl, hb⟩
             refine ⟨_, rfl, ?_⟩
             replace BK283 := bb6 BK283 Ub6283 hb
             replace BK284 := bb6 BK284 Ub6284 hb
             replace BK285 := bb6 BK285 Ub6285 hb
             replace HB := tb6 Hb6 hb
             (try clear hb)
             (try clear hb2)
             (try clear hk)
             (try clear hi)
             refine hK.out _ _ ⟨(blk_cell BK283.out 0).trans rfl, (blk_cell BK283.out 1).trans rfl, (blk_cell BK284.out 0).trans rfl, (blk_cell BK284.out 1).trans rfl⟩ (fun hHeld => ?_)
             clear hK K
             refine norm_ (a' := ?_) ?_ ?_
             rotate_left
             ·
              show Act.put _ (some 11) _ = _
              simp only [Act.put, y1a6, y2a6, y3a6, i64_w, i32_w]
              rfl
             exact norm_ Za61 (hJ4 () _ ⟨hHeld, Ub6283, Ub6284, Ub6285, Hb6⟩)
            ·
             skip
             refine box_step ?hg (N := 5) ?hd (cs := #[.int .i64 0, .int .i64 0]) (t := 25) ?hr ?_; (case hd => rfl); (case hg => rfl); (case hr => first | (go_simp; done) | (go_simp; rfl))
             intro g290 hg w9 hbox hb
             have BK290 := Aa6q (hbox)
             have GW290 := sb6 Hb6 hg
             have GE290 := sb6 Hb6 hg
             have NB283_290 := nb6 BK283 Ub6283 hg
             have NB290_283 := mb6 BK283 Ub6283 hg
             have NB284_290 := nb6 BK284 Ub6284 hg
             have NB290_284 := mb6 BK284 Ub6284 hg
             have NB285_290 := nb6 BK285 Ub6285 hg
             have NB290_285 := mb6 BK285 Ub6285 hg
             replace BK283 := bb6 BK283 Ub6283 hb
             replace BK284 := bb6 BK284 Ub6284 hb
             replace BK285 := bb6 BK285 Ub6285 hb
             replace HB := tb6 Hb6 hb
             clear hb hbox hg
             refine hK.out _ _ ⟨(blk_cell BK283.out 0).trans rfl, (blk_cell BK283.out 1).trans rfl, (blk_cell BK284.out 0).trans rfl, (blk_cell BK284.out 1).trans rfl⟩ (fun hHeld => ?_)
             clear hK K
             refine norm_ (a' := ?_) ?_ ?_
             rotate_left
             ·
              show Act.put _ (some 5) _ = _
              simp only [Act.put, y1a6, y2a6, y3a6, i64_w, i32_w]
              rfl
             exact norm_ Za61 (hJ10 (g290) _ ⟨hHeld, Ub6283, Ub6284, Ub6285, Ub6290, GW290.out, GE290.out, NB283_290.out, NB290_283.out, NB284_290.out, NB290_284.out, NB285_290.out, NB290_285.out, Hb6⟩)
            ·
             skip
             refine box_step ?hg (N := 6) ?hd (cs := #[.int .i64 0, .int .i64 0]) (t := 25) ?hr ?_; (case hd => rfl); (case hg => rfl); (case hr => first | (go_simp; done) | (go_simp; rfl))
             intro g291 hg w9 hbox hb
             have BK291 := Aa6q (hbox)
             have GW291 := sb6 Hb6 hg
             have GE291 := sb6 Hb6 hg
             have NB283_291 := nb6 BK283 Ub6283 hg
             have NB291_283 := mb6 BK283 Ub6283 hg
             have NB284_291 := nb6 BK284 Ub6284 hg
             have NB291_284 := mb6 BK284 Ub6284 hg
             have NB285_291 := nb6 BK285 Ub6285 hg
             have NB291_285 := mb6 BK285 Ub6285 hg
             replace BK283 := bb6 BK283 Ub6283 hb
             replace BK284 := bb6 BK284 Ub6284 hb
             replace BK285 := bb6 BK285 Ub6285 hb
             replace HB := tb6 Hb6 hb
             clear hb hbox hg
             refine hK.out _ _ ⟨(blk_cell BK283.out 0).trans rfl, (blk_cell BK283.out 1).trans rfl, (blk_cell BK284.out 0).trans rfl, (blk_cell BK284.out 1).trans rfl⟩ (fun hHeld => ?_)
             clear hK K
             refine norm_ (a' := ?_) ?_ ?_
             rotate_left
             ·
              show Act.put _ (some 6) _ = _
              simp only [Act.put, y1a6, y2a6, y3a6, i64_w, i32_w]
              rfl
             exact norm_ Za61 (hJ11 (g291) _ ⟨hHeld, Ub6283, Ub6284, Ub6285, Ub6291, GW291.out, GE291.out, NB283_291.out, NB291_283.out, NB284_291.out, NB291_284.out, NB285_291.out, NB291_285.out, Hb6⟩)
           ·
            skip
            rintro g291 w10 ⟨hS_, h0_, h1_, h2_, h3_, h4_, h5_, h6_, h7_, h8_, h9_, h10_, h11_, h12_⟩
            have n0_ : Aside0 (w10.heap[g283]? = some (.cells #[.int .i64 a0_0, .int .i64 a0_1] 25 (0, 0))) := ⟨h0_⟩
            have n1_ : Aside0 (w10.heap[g284]? = some (.cells #[.int .i64 a1_0, .int .i64 a1_1] 25 (0, 0))) := ⟨h1_⟩
            have n2_ : Aside0 (w10.heap[g285]? = some (.cells #[.int .i64 0, .int .i64 0] 25 (0, 0))) := ⟨h2_⟩
            have BK291 : Aside0 (w10.heap[g291]? = some (.cells #[.int .i64 0, .int .i64 0] 25 (0, 0))) := ⟨h3_⟩
            have GW291 := Aa6q h4_
            have GE291 := Aa6q h5_
            have NB283_291 := Aa6q h6_
            have NB291_283 := Aa6q h7_
            have NB284_291 := Aa6q h8_
            have NB291_284 := Aa6q h9_
            have NB285_291 := Aa6q h10_
            have NB291_285 := Aa6q h11_
            have n12_ : Aside0 (Below w.heap.size w w10) := ⟨h12_⟩
            clear BK283 BK284 BK285 HB
            clear h0_ h1_ h2_ h3_ h4_ h5_ h6_ h7_ h8_ h9_ h10_ h11_ h12_
            have BK283 := n0_
            have BK284 := n1_
            have BK285 := n2_
            have HB := n12_
            clear n0_ n1_ n2_ n12_
            have hHeld : w10.cell? ⟨g283, 0, none⟩ = some (.int .i64 a0_0) ∧ w10.cell? ⟨g283, 1, none⟩ = some (.int .i64 a0_1) ∧ w10.cell? ⟨g284, 0, none⟩ = some (.int .i64 a1_0) ∧ w10.cell? ⟨g284, 1, none⟩ = some (.int .i64 a1_1) := hS_
            refine norm_ (a' := ?_) ?_ ?_
            rotate_left
            ·
             simp only [putAll, Act.put, y1a6, y2a6, y3a6]
             rfl
            refine two_ (i := 4) (j := 10) (Ni := some 11) (Nj := some 5) #[true, true, true, true, true, true, true, true, true, false, false, true, false, false] #[true, true, true, true, false, true, true, true, true, false, true, true, false, false] rfl rfl rfl rfl (two_of HT_.out (by kernel_rfl)) (by decide) (by decide) (fun K hK => ?_) (fun K hK => ?_)
            ·
             skip
             refine goes_ Try.func38 (by kernel_rfl) rfl #[.int .i64 a0_0, .int .i64 a1_1] (by rfl) rfl rfl Za62 ?_
             with_reducible refine (impl_ratio.calls k a0_0 a1_1 t286 t287 _ A3.out).mono ?_
             rintro e w11 ⟨rfl, hb⟩
             refine ⟨_, rfl, ?_⟩
             replace BK283 := bb6 BK283 Ub6283 hb
             replace BK284 := bb6 BK284 Ub6284 hb
             replace BK285 := bb6 BK285 Ub6285 hb
             replace BK291 := bb6 BK291 Ub6291 hb
             replace HB := tb6 Hb6 hb
             (try clear hb)
             (try clear hb2)
             (try clear hk)
             (try clear hi)
             refine hK.out _ _ ⟨(blk_cell BK283.out 0).trans rfl, (blk_cell BK283.out 1).trans rfl, (blk_cell BK284.out 0).trans rfl, (blk_cell BK284.out 1).trans rfl⟩ (fun hHeld => ?_)
             clear hK K
             refine norm_ (a' := ?_) ?_ ?_
             rotate_left
             ·
              show Act.put _ (some 11) _ = _
              simp only [Act.put, y1a6, y2a6, y3a6, i64_w, i32_w]
              rfl
             exact norm_ Za61 (hJ4_11 (g291) _ ⟨hHeld, Ub6283, Ub6284, Ub6285, Ub6291, GW291.out, GE291.out, NB283_291.out, NB291_283.out, NB284_291.out, NB291_284.out, NB285_291.out, NB291_285.out, Hb6⟩)
            ·
             skip
             refine box_step ?hg (N := 5) ?hd (cs := #[.int .i64 0, .int .i64 0]) (t := 25) ?hr ?_; (case hd => rfl); (case hg => rfl); (case hr => first | (go_simp; done) | (go_simp; rfl))
             intro g290 hg w11 hbox hb
             have BK290 := Aa6q (hbox)
             have GW290 := sb6 Hb6 hg
             have GE290 := sb6 Hb6 hg
             have NB283_290 := nb6 BK283 Ub6283 hg
             have NB290_283 := mb6 BK283 Ub6283 hg
             have NB284_290 := nb6 BK284 Ub6284 hg
             have NB290_284 := mb6 BK284 Ub6284 hg
             have NB285_290 := nb6 BK285 Ub6285 hg
             have NB290_285 := mb6 BK285 Ub6285 hg
             have NB291_290 := nb6 BK291 Ub6291 hg
             have NB290_291 := mb6 BK291 Ub6291 hg
             replace BK283 := bb6 BK283 Ub6283 hb
             replace BK284 := bb6 BK284 Ub6284 hb
             replace BK285 := bb6 BK285 Ub6285 hb
             replace BK291 := bb6 BK291 Ub6291 hb
             replace HB := tb6 Hb6 hb
             clear hb hbox hg
             refine hK.out _ _ ⟨(blk_cell BK283.out 0).trans rfl, (blk_cell BK283.out 1).trans rfl, (blk_cell BK284.out 0).trans rfl, (blk_cell BK284.out 1).trans rfl⟩ (fun hHeld => ?_)
             clear hK K
             refine norm_ (a' := ?_) ?_ ?_
             rotate_left
             ·
              show Act.put _ (some 5) _ = _
              simp only [Act.put, y1a6, y2a6, y3a6, i64_w, i32_w]
              rfl
             exact norm_ Za61 (hJ10_11 (g290, g291) _ ⟨hHeld, Ub6283, Ub6284, Ub6285, Ub6290, Ub6291, GW290.out, GE290.out, NB283_290.out, NB290_283.out, NB284_290.out, NB290_284.out, NB285_290.out, NB290_285.out, NB291_290.out, NB290_291.out, GW291.out, GE291.out, NB283_291.out, NB291_283.out, NB284_291.out, NB291_284.out, NB285_291.out, NB291_285.out, Hb6⟩)
          ·
           skip
           rintro g290 w10 ⟨hS_, h0_, h1_, h2_, h3_, h4_, h5_, h6_, h7_, h8_, h9_, h10_, h11_, h12_⟩
           have n0_ : Aside0 (w10.heap[g283]? = some (.cells #[.int .i64 a0_0, .int .i64 a0_1] 25 (0, 0))) := ⟨h0_⟩
           have n1_ : Aside0 (w10.heap[g284]? = some (.cells #[.int .i64 a1_0, .int .i64 a1_1] 25 (0, 0))) := ⟨h1_⟩
           have n2_ : Aside0 (w10.heap[g285]? = some (.cells #[.int .i64 0, .int .i64 0] 25 (0, 0))) := ⟨h2_⟩
           have BK290 : Aside0 (w10.heap[g290]? = some (.cells #[.int .i64 0, .int .i64 0] 25 (0, 0))) := ⟨h3_⟩
           have GW290 := Aa6q h4_
           have GE290 := Aa6q h5_
           have NB283_290 := Aa6q h6_
           have NB290_283 := Aa6q h7_
           have NB284_290 := Aa6q h8_
           have NB290_284 := Aa6q h9_
           have NB285_290 := Aa6q h10_
           have NB290_285 := Aa6q h11_
           have n12_ : Aside0 (Below w.heap.size w w10) := ⟨h12_⟩
           clear BK283 BK284 BK285 HB
           clear h0_ h1_ h2_ h3_ h4_ h5_ h6_ h7_ h8_ h9_ h10_ h11_ h12_
           have BK283 := n0_
           have BK284 := n1_
           have BK285 := n2_
           have HB := n12_
           clear n0_ n1_ n2_ n12_
           have hHeld : w10.cell? ⟨g283, 0, none⟩ = some (.int .i64 a0_0) ∧ w10.cell? ⟨g283, 1, none⟩ = some (.int .i64 a0_1) ∧ w10.cell? ⟨g284, 0, none⟩ = some (.int .i64 a1_0) ∧ w10.cell? ⟨g284, 1, none⟩ = some (.int .i64 a1_1) := hS_
           refine norm_ (a' := ?_) ?_ ?_
           rotate_left
           ·
            simp only [putAll, Act.put, y1a6, y2a6, y3a6]
            rfl
           refine two_ (i := 4) (j := 11) (Ni := some 11) (Nj := some 6) #[true, true, true, true, true, true, true, true, true, false, true, false, false, false] #[true, true, true, true, false, true, true, true, true, false, true, true, false, false] rfl rfl rfl rfl (two_of HT_.out (by kernel_rfl)) (by decide) (by decide) (fun K hK => ?_) (fun K hK => ?_)
           ·
            skip
            refine goes_ Try.func38 (by kernel_rfl) rfl #[.int .i64 a0_0, .int .i64 a1_1] (by rfl) rfl rfl Za62 ?_
            with_reducible refine (impl_ratio.calls k a0_0 a1_1 t286 t287 _ A3.out).mono ?_
            rintro e w11 ⟨rfl, hb⟩
            refine ⟨_, rfl, ?_⟩
            replace BK283 := bb6 BK283 Ub6283 hb
            replace BK284 := bb6 BK284 Ub6284 hb
            replace BK285 := bb6 BK285 Ub6285 hb
            replace BK290 := bb6 BK290 Ub6290 hb
            replace HB := tb6 Hb6 hb
            (try clear hb)
            (try clear hb2)
            (try clear hk)
            (try clear hi)
            refine hK.out _ _ ⟨(blk_cell BK283.out 0).trans rfl, (blk_cell BK283.out 1).trans rfl, (blk_cell BK284.out 0).trans rfl, (blk_cell BK284.out 1).trans rfl⟩ (fun hHeld => ?_)
            clear hK K
            refine norm_ (a' := ?_) ?_ ?_
            rotate_left
            ·
             show Act.put _ (some 11) _ = _
             simp only [Act.put, y1a6, y2a6, y3a6, i64_w, i32_w]
             rfl
            exact norm_ Za61 (hJ4_10 (g290) _ ⟨hHeld, Ub6283, Ub6284, Ub6285, Ub6290, GW290.out, GE290.out, NB283_290.out, NB290_283.out, NB284_290.out, NB290_284.out, NB285_290.out, NB290_285.out, Hb6⟩)
           ·
            skip
            refine box_step ?hg (N := 6) ?hd (cs := #[.int .i64 0, .int .i64 0]) (t := 25) ?hr ?_; (case hd => rfl); (case hg => rfl); (case hr => first | (go_simp; done) | (go_simp; rfl))
            intro g291 hg w11 hbox hb
            have BK291 := Aa6q (hbox)
            have GW291 := sb6 Hb6 hg
            have GE291 := sb6 Hb6 hg
            have NB283_291 := nb6 BK283 Ub6283 hg
            have NB291_283 := mb6 BK283 Ub6283 hg
            have NB284_291 := nb6 BK284 Ub6284 hg
            have NB291_284 := mb6 BK284 Ub6284 hg
            have NB285_291 := nb6 BK285 Ub6285 hg
            have NB291_285 := mb6 BK285 Ub6285 hg
            have NB290_291 := nb6 BK290 Ub6290 hg
            have NB291_290 := mb6 BK290 Ub6290 hg
            replace BK283 := bb6 BK283 Ub6283 hb
            replace BK284 := bb6 BK284 Ub6284 hb
            replace BK285 := bb6 BK285 Ub6285 hb
            replace BK290 := bb6 BK290 Ub6290 hb
            replace HB := tb6 Hb6 hb
            clear hb hbox hg
            refine hK.out _ _ ⟨(blk_cell BK283.out 0).trans rfl, (blk_cell BK283.out 1).trans rfl, (blk_cell BK284.out 0).trans rfl, (blk_cell BK284.out 1).trans rfl⟩ (fun hHeld => ?_)
            clear hK K
            refine norm_ (a' := ?_) ?_ ?_
            rotate_left
            ·
             show Act.put _ (some 6) _ = _
             simp only [Act.put, y1a6, y2a6, y3a6, i64_w, i32_w]
             rfl
            exact norm_ Za61 (hJ10_11 (g290, g291) _ ⟨hHeld, Ub6283, Ub6284, Ub6285, Ub6290, Ub6291, GW290.out, GE290.out, NB283_290.out, NB290_283.out, NB284_290.out, NB290_284.out, NB285_290.out, NB290_285.out, NB291_290.out, NB290_291.out, GW291.out, GE291.out, NB283_291.out, NB291_283.out, NB284_291.out, NB291_284.out, NB285_291.out, NB291_285.out, Hb6⟩)
         ·
          skip
          rintro _ w10 ⟨hS_, h0_, h1_, h2_, h3_⟩
          have n0_ : Aside0 (w10.heap[g283]? = some (.cells #[.int .i64 a0_0, .int .i64 a0_1] 25 (0, 0))) := ⟨h0_⟩
          have n1_ : Aside0 (w10.heap[g284]? = some (.cells #[.int .i64 a1_0, .int .i64 a1_1] 25 (0, 0))) := ⟨h1_⟩
          have n2_ : Aside0 (w10.heap[g285]? = some (.cells #[.int .i64 0, .int .i64 0] 25 (0, 0))) := ⟨h2_⟩
          have n3_ : Aside0 (Below w.heap.size w w10) := ⟨h3_⟩
          clear BK283 BK284 BK285 HB
          clear h0_ h1_ h2_ h3_
          have BK283 := n0_
          have BK284 := n1_
          have BK285 := n2_
          have HB := n3_
          clear n0_ n1_ n2_ n3_
          have hHeld : w10.cell? ⟨g283, 0, none⟩ = some (.int .i64 a0_0) ∧ w10.cell? ⟨g283, 1, none⟩ = some (.int .i64 a0_1) ∧ w10.cell? ⟨g284, 0, none⟩ = some (.int .i64 a1_0) ∧ w10.cell? ⟨g284, 1, none⟩ = some (.int .i64 a1_1) := hS_
          refine norm_ (a' := ?_) ?_ ?_
          rotate_left
          ·
           simp only [putAll, Act.put, y1a6, y2a6, y3a6]
           rfl
          refine three_ (i := 9) (j := 10) (k := 11) (Ni := some 16) (Nj := some 5) (Nk := some 6) #[true, true, true, true, true, true, true, true, true, true, false, false, false, false] #[true, true, true, true, true, true, true, true, true, false, true, false, false, false] #[true, true, true, true, true, true, true, true, true, false, false, true, false, false] rfl rfl rfl rfl rfl rfl (three_of HT_.out (by kernel_rfl)) (by decide) (by decide) (by decide) (fun K hK => ?_) (fun K hK => ?_) (fun K hK => ?_)
          ·
           skip
           refine goes_ Try.func38 (by kernel_rfl) rfl #[.int .i64 a1_0, .int .i64 a0_1] (by rfl) rfl rfl Za62 ?_
           with_reducible refine (impl_ratio.calls k a1_0 a0_1 t288 t289 _ A4.out).mono ?_
           rintro e w11 ⟨rfl, hb⟩
           refine ⟨_, rfl, ?_⟩
           replace BK283 := bb6 BK283 Ub6283 hb
           replace BK284 := bb6 BK284 Ub6284 hb
           replace BK285 := bb6 BK285 Ub6285 hb
           replace HB := tb6 Hb6 hb
           (try clear hb)
           (try clear hb2)
           (try clear hk)
           (try clear hi)
           refine hK.out _ _ ⟨(blk_cell BK283.out 0).trans rfl, (blk_cell BK283.out 1).trans rfl, (blk_cell BK284.out 0).trans rfl, (blk_cell BK284.out 1).trans rfl⟩ (fun hHeld => ?_)
           clear hK K
           refine norm_ (a' := ?_) ?_ ?_
           rotate_left
           ·
            show Act.put _ (some 16) _ = _
            simp only [Act.put, y1a6, y2a6, y3a6, i64_w, i32_w]
            rfl
           exact norm_ Za61 (hJ4_9 () _ ⟨hHeld, Ub6283, Ub6284, Ub6285, Hb6⟩)
          ·
           skip
           refine box_step ?hg (N := 5) ?hd (cs := #[.int .i64 0, .int .i64 0]) (t := 25) ?hr ?_; (case hd => rfl); (case hg => rfl); (case hr => first | (go_simp; done) | (go_simp; rfl))
           intro g290 hg w11 hbox hb
           have BK290 := Aa6q (hbox)
           have GW290 := sb6 Hb6 hg
           have GE290 := sb6 Hb6 hg
           have NB283_290 := nb6 BK283 Ub6283 hg
           have NB290_283 := mb6 BK283 Ub6283 hg
           have NB284_290 := nb6 BK284 Ub6284 hg
           have NB290_284 := mb6 BK284 Ub6284 hg
           have NB285_290 := nb6 BK285 Ub6285 hg
           have NB290_285 := mb6 BK285 Ub6285 hg
           replace BK283 := bb6 BK283 Ub6283 hb
           replace BK284 := bb6 BK284 Ub6284 hb
           replace BK285 := bb6 BK285 Ub6285 hb
           replace HB := tb6 Hb6 hb
           clear hb hbox hg
           refine hK.out _ _ ⟨(blk_cell BK283.out 0).trans rfl, (blk_cell BK283.out 1).trans rfl, (blk_cell BK284.out 0).trans rfl, (blk_cell BK284.out 1).trans rfl⟩ (fun hHeld => ?_)
           clear hK K
           refine norm_ (a' := ?_) ?_ ?_
           rotate_left
           ·
            show Act.put _ (some 5) _ = _
            simp only [Act.put, y1a6, y2a6, y3a6, i64_w, i32_w]
            rfl
           exact norm_ Za61 (hJ4_10 (g290) _ ⟨hHeld, Ub6283, Ub6284, Ub6285, Ub6290, GW290.out, GE290.out, NB283_290.out, NB290_283.out, NB284_290.out, NB290_284.out, NB285_290.out, NB290_285.out, Hb6⟩)
          ·
           skip
           refine box_step ?hg (N := 6) ?hd (cs := #[.int .i64 0, .int .i64 0]) (t := 25) ?hr ?_; (case hd => rfl); (case hg => rfl); (case hr => first | (go_simp; done) | (go_simp; rfl))
           intro g291 hg w11 hbox hb
           have BK291 := Aa6q (hbox)
           have GW291 := sb6 Hb6 hg
           have GE291 := sb6 Hb6 hg
           have NB283_291 := nb6 BK283 Ub6283 hg
           have NB291_283 := mb6 BK283 Ub6283 hg
           have NB284_291 := nb6 BK284 Ub6284 hg
           have NB291_284 := mb6 BK284 Ub6284 hg
           have NB285_291 := nb6 BK285 Ub6285 hg
           have NB291_285 := mb6 BK285 Ub6285 hg
           replace BK283 := bb6 BK283 Ub6283 hb
           replace BK284 := bb6 BK284 Ub6284 hb
           replace BK285 := bb6 BK285 Ub6285 hb
           replace HB := tb6 Hb6 hb
           clear hb hbox hg
           refine hK.out _ _ ⟨(blk_cell BK283.out 0).trans rfl, (blk_cell BK283.out 1).trans rfl, (blk_cell BK284.out 0).trans rfl, (blk_cell BK284.out 1).trans rfl⟩ (fun hHeld => ?_)
           clear hK K
           refine norm_ (a' := ?_) ?_ ?_
           rotate_left
           ·
            show Act.put _ (some 6) _ = _
            simp only [Act.put, y1a6, y2a6, y3a6, i64_w, i32_w]
            rfl
           exact norm_ Za61 (hJ4_11 (g291) _ ⟨hHeld, Ub6283, Ub6284, Ub6285, Ub6291, GW291.out, GE291.out, NB283_291.out, NB291_283.out, NB284_291.out, NB291_284.out, NB285_291.out, NB291_285.out, Hb6⟩)
        ·
         skip
         rintro ⟨g290, g291⟩ w11 ⟨hS_, h0_, h1_, h2_, h3_, h4_, h5_, h6_, h7_, h8_, h9_, h10_, h11_, h12_, h13_, h14_, h15_, h16_, h17_, h18_, h19_, h20_, h21_, h22_, h23_⟩
         have n0_ : Aside0 (w11.heap[g283]? = some (.cells #[.int .i64 a0_0, .int .i64 a0_1] 25 (0, 0))) := ⟨h0_⟩
         have n1_ : Aside0 (w11.heap[g284]? = some (.cells #[.int .i64 a1_0, .int .i64 a1_1] 25 (0, 0))) := ⟨h1_⟩
         have n2_ : Aside0 (w11.heap[g285]? = some (.cells #[.int .i64 0, .int .i64 0] 25 (0, 0))) := ⟨h2_⟩
         have BK290 : Aside0 (w11.heap[g290]? = some (.cells #[.int .i64 0, .int .i64 0] 25 (0, 0))) := ⟨h3_⟩
         have BK291 : Aside0 (w11.heap[g291]? = some (.cells #[.int .i64 0, .int .i64 0] 25 (0, 0))) := ⟨h4_⟩
         have GW290 := Aa6q h5_
         have GE290 := Aa6q h6_
         have NB283_290 := Aa6q h7_
         have NB290_283 := Aa6q h8_
         have NB284_290 := Aa6q h9_
         have NB290_284 := Aa6q h10_
         have NB285_290 := Aa6q h11_
         have NB290_285 := Aa6q h12_
         have NB291_290 := Aa6q h13_
         have NB290_291 := Aa6q h14_
         have GW291 := Aa6q h15_
         have GE291 := Aa6q h16_
         have NB283_291 := Aa6q h17_
         have NB291_283 := Aa6q h18_
         have NB284_291 := Aa6q h19_
         have NB291_284 := Aa6q h20_
         have NB285_291 := Aa6q h21_
         have NB291_285 := Aa6q h22_
         have n23_ : Aside0 (Below w.heap.size w w11) := ⟨h23_⟩
         clear BK283 BK284 BK285 HB
         clear h0_ h1_ h2_ h3_ h4_ h5_ h6_ h7_ h8_ h9_ h10_ h11_ h12_ h13_ h14_ h15_ h16_ h17_ h18_ h19_ h20_ h21_ h22_ h23_
         have BK283 := n0_
         have BK284 := n1_
         have BK285 := n2_
         have HB := n23_
         clear n0_ n1_ n2_ n23_
         have hHeld : w11.cell? ⟨g283, 0, none⟩ = some (.int .i64 a0_0) ∧ w11.cell? ⟨g283, 1, none⟩ = some (.int .i64 a0_1) ∧ w11.cell? ⟨g284, 0, none⟩ = some (.int .i64 a1_0) ∧ w11.cell? ⟨g284, 1, none⟩ = some (.int .i64 a1_1) := hS_
         refine norm_ (a' := ?_) ?_ ?_
         rotate_left
         ·
          simp only [putAll, Act.put, y1a6, y2a6, y3a6]
          rfl
         refine one_ (i := 4) (N := some 11) #[true, true, true, true, true, true, true, true, true, false, true, true, false, false] rfl rfl (one_of HT_.out (by kernel_rfl)) (by decide) (fun K hK => ?_)
         refine goes_ Try.func38 (by kernel_rfl) rfl #[.int .i64 a0_0, .int .i64 a1_1] (by rfl) rfl rfl Za62 ?_
         with_reducible refine (impl_ratio.calls k a0_0 a1_1 t286 t287 _ A3.out).mono ?_
         rintro e w12 ⟨rfl, hb⟩
         refine ⟨_, rfl, ?_⟩
         replace BK283 := bb6 BK283 Ub6283 hb
         replace BK284 := bb6 BK284 Ub6284 hb
         replace BK285 := bb6 BK285 Ub6285 hb
         replace BK290 := bb6 BK290 Ub6290 hb
         replace BK291 := bb6 BK291 Ub6291 hb
         replace HB := tb6 Hb6 hb
         (try clear hb)
         (try clear hb2)
         (try clear hk)
         (try clear hi)
         refine hK.out _ _ ⟨(blk_cell BK283.out 0).trans rfl, (blk_cell BK283.out 1).trans rfl, (blk_cell BK284.out 0).trans rfl, (blk_cell BK284.out 1).trans rfl⟩ (fun hHeld => ?_)
         clear hK K
         refine norm_ (a' := ?_) ?_ ?_
         rotate_left
         ·
          show Act.put _ (some 11) _ = _
          simp only [Act.put, y1a6, y2a6, y3a6, i64_w, i32_w]
          rfl
         exact norm_ Za61 (hJ4_10_11 (g290, g291) _ ⟨hHeld, Ub6283, Ub6284, Ub6285, Ub6290, Ub6291, GW290.out, GE290.out, NB283_290.out, NB290_283.out, NB284_290.out, NB290_284.out, NB285_290.out, NB290_285.out, NB291_290.out, NB290_291.out, GW291.out, GE291.out, NB283_291.out, NB291_283.out, NB284_291.out, NB291_284.out, NB285_291.out, NB291_285.out, Hb6⟩)
       ·
        skip
        rintro g291 w11 ⟨hS_, h0_, h1_, h2_, h3_, h4_, h5_, h6_, h7_, h8_, h9_, h10_, h11_, h12_⟩
        have n0_ : Aside0 (w11.heap[g283]? = some (.cells #[.int .i64 a0_0, .int .i64 a0_1] 25 (0, 0))) := ⟨h0_⟩
        have n1_ : Aside0 (w11.heap[g284]? = some (.cells #[.int .i64 a1_0, .int .i64 a1_1] 25 (0, 0))) := ⟨h1_⟩
        have n2_ : Aside0 (w11.heap[g285]? = some (.cells #[.int .i64 0, .int .i64 0] 25 (0, 0))) := ⟨h2_⟩
        have BK291 : Aside0 (w11.heap[g291]? = some (.cells #[.int .i64 0, .int .i64 0] 25 (0, 0))) := ⟨h3_⟩
        have GW291 := Aa6q h4_
        have GE291 := Aa6q h5_
        have NB283_291 := Aa6q h6_
        have NB291_283 := Aa6q h7_
        have NB284_291 := Aa6q h8_
        have NB291_284 := Aa6q h9_
        have NB285_291 := Aa6q h10_
        have NB291_285 := Aa6q h11_
        have n12_ : Aside0 (Below w.heap.size w w11) := ⟨h12_⟩
        clear BK283 BK284 BK285 HB
        clear h0_ h1_ h2_ h3_ h4_ h5_ h6_ h7_ h8_ h9_ h10_ h11_ h12_
        have BK283 := n0_
        have BK284 := n1_
        have BK285 := n2_
        have HB := n12_
        clear n0_ n1_ n2_ n12_
        have hHeld : w11.cell? ⟨g283, 0, none⟩ = some (.int .i64 a0_0) ∧ w11.cell? ⟨g283, 1, none⟩ = some (.int .i64 a0_1) ∧ w11.cell? ⟨g284, 0, none⟩ = some (.int .i64 a1_0) ∧ w11.cell? ⟨g284, 1, none⟩ = some (.int .i64 a1_1) := hS_
        refine norm_ (a' := ?_) ?_ ?_
        rotate_left
        ·
         simp only [putAll, Act.put, y1a6, y2a6, y3a6]
         rfl
        refine two_ (i := 9) (j := 10) (Ni := some 16) (Nj := some 5) #[true, true, true, true, true, true, true, true, true, true, false, true, false, false] #[true, true, true, true, true, true, true, true, true, false, true, true, false, false] rfl rfl rfl rfl (two_of HT_.out (by kernel_rfl)) (by decide) (by decide) (fun K hK => ?_) (fun K hK => ?_)
        ·
         skip
         refine goes_ Try.func38 (by kernel_rfl) rfl #[.int .i64 a1_0, .int .i64 a0_1] (by rfl) rfl rfl Za62 ?_
         with_reducible refine (impl_ratio.calls k a1_0 a0_1 t288 t289 _ A4.out).mono ?_
         rintro e w12 ⟨rfl, hb⟩
         refine ⟨_, rfl, ?_⟩
         replace BK283 := bb6 BK283 Ub6283 hb
         replace BK284 := bb6 BK284 Ub6284 hb
         replace BK285 := bb6 BK285 Ub6285 hb
         replace BK291 := bb6 BK291 Ub6291 hb
         replace HB := tb6 Hb6 hb
         (try clear hb)
         (try clear hb2)
         (try clear hk)
         (try clear hi)
         refine hK.out _ _ ⟨(blk_cell BK283.out 0).trans rfl, (blk_cell BK283.out 1).trans rfl, (blk_cell BK284.out 0).trans rfl, (blk_cell BK284.out 1).trans rfl⟩ (fun hHeld => ?_)
         clear hK K
         refine norm_ (a' := ?_) ?_ ?_
         rotate_left
         ·
          show Act.put _ (some 16) _ = _
          simp only [Act.put, y1a6, y2a6, y3a6, i64_w, i32_w]
          rfl
         exact norm_ Za61 (hJ4_9_11 (g291) _ ⟨hHeld, Ub6283, Ub6284, Ub6285, Ub6291, GW291.out, GE291.out, NB283_291.out, NB291_283.out, NB284_291.out, NB291_284.out, NB285_291.out, NB291_285.out, Hb6⟩)
        ·
         skip
         refine box_step ?hg (N := 5) ?hd (cs := #[.int .i64 0, .int .i64 0]) (t := 25) ?hr ?_; (case hd => rfl); (case hg => rfl); (case hr => first | (go_simp; done) | (go_simp; rfl))
         intro g290 hg w12 hbox hb
         have BK290 := Aa6q (hbox)
         have GW290 := sb6 Hb6 hg
         have GE290 := sb6 Hb6 hg
         have NB283_290 := nb6 BK283 Ub6283 hg
         have NB290_283 := mb6 BK283 Ub6283 hg
         have NB284_290 := nb6 BK284 Ub6284 hg
         have NB290_284 := mb6 BK284 Ub6284 hg
         have NB285_290 := nb6 BK285 Ub6285 hg
         have NB290_285 := mb6 BK285 Ub6285 hg
         have NB291_290 := nb6 BK291 Ub6291 hg
         have NB290_291 := mb6 BK291 Ub6291 hg
         replace BK283 := bb6 BK283 Ub6283 hb
         replace BK284 := bb6 BK284 Ub6284 hb
         replace BK285 := bb6 BK285 Ub6285 hb
         replace BK291 := bb6 BK291 Ub6291 hb
         replace HB := tb6 Hb6 hb
         clear hb hbox hg
         refine hK.out _ _ ⟨(blk_cell BK283.out 0).trans rfl, (blk_cell BK283.out 1).trans rfl, (blk_cell BK284.out 0).trans rfl, (blk_cell BK284.out 1).trans rfl⟩ (fun hHeld => ?_)
         clear hK K
         refine norm_ (a' := ?_) ?_ ?_
         rotate_left
         ·
          show Act.put _ (some 5) _ = _
          simp only [Act.put, y1a6, y2a6, y3a6, i64_w, i32_w]
          rfl
         exact norm_ Za61 (hJ4_10_11 (g290, g291) _ ⟨hHeld, Ub6283, Ub6284, Ub6285, Ub6290, Ub6291, GW290.out, GE290.out, NB283_290.out, NB290_283.out, NB284_290.out, NB290_284.out, NB285_290.out, NB290_285.out, NB291_290.out, NB290_291.out, GW291.out, GE291.out, NB283_291.out, NB291_283.out, NB284_291.out, NB291_284.out, NB285_291.out, NB291_285.out, Hb6⟩)
      ·
       skip
       rintro g290 w11 ⟨hS_, h0_, h1_, h2_, h3_, h4_, h5_, h6_, h7_, h8_, h9_, h10_, h11_, h12_⟩
       have n0_ : Aside0 (w11.heap[g283]? = some (.cells #[.int .i64 a0_0, .int .i64 a0_1] 25 (0, 0))) := ⟨h0_⟩
       have n1_ : Aside0 (w11.heap[g284]? = some (.cells #[.int .i64 a1_0, .int .i64 a1_1] 25 (0, 0))) := ⟨h1_⟩
       have n2_ : Aside0 (w11.heap[g285]? = some (.cells #[.int .i64 0, .int .i64 0] 25 (0, 0))) := ⟨h2_⟩
       have BK290 : Aside0 (w11.heap[g290]? = some (.cells #[.int .i64 0, .int .i64 0] 25 (0, 0))) := ⟨h3_⟩
       have GW290 := Aa6q h4_
       have GE290 := Aa6q h5_
       have NB283_290 := Aa6q h6_
       have NB290_283 := Aa6q h7_
       have NB284_290 := Aa6q h8_
       have NB290_284 := Aa6q h9_
       have NB285_290 := Aa6q h10_
       have NB290_285 := Aa6q h11_
       have n12_ : Aside0 (Below w.heap.size w w11) := ⟨h12_⟩
       clear BK283 BK284 BK285 HB
       clear h0_ h1_ h2_ h3_ h4_ h5_ h6_ h7_ h8_ h9_ h10_ h11_ h12_
       have BK283 := n0_
       have BK284 := n1_
       have BK285 := n2_
       have HB := n12_
       clear n0_ n1_ n2_ n12_
       have hHeld : w11.cell? ⟨g283, 0, none⟩ = some (.int .i64 a0_0) ∧ w11.cell? ⟨g283, 1, none⟩ = some (.int .i64 a0_1) ∧ w11.cell? ⟨g284, 0, none⟩ = some (.int .i64 a1_0) ∧ w11.cell? ⟨g284, 1, none⟩ = some (.int .i64 a1_1) := hS_
       refine norm_ (a' := ?_) ?_ ?_
       rotate_left
       ·
        simp only [putAll, Act.put, y1a6, y2a6, y3a6]
        rfl
       refine two_ (i := 9) (j := 11) (Ni := some 16) (Nj := some 6) #[true, true, true, true, true, true, true, true, true, true, true, false, false, false] #[true, true, true, true, true, true, true, true, true, false, true, true, false, false] rfl rfl rfl rfl (two_of HT_.out (by kernel_rfl)) (by decide) (by decide) (fun K hK => ?_) (fun K hK => ?_)
       ·
        skip
        refine goes_ Try.func38 (by kernel_rfl) rfl #[.int .i64 a1_0, .int .i64 a0_1] (by rfl) rfl rfl Za62 ?_
        with_reducible refine (impl_ratio.calls k a1_0 a0_1 t288 t289 _ A4.out).mono ?_
        rintro e w12 ⟨rfl, hb⟩
        refine ⟨_, rfl, ?_⟩
        replace BK283 := bb6 BK283 Ub6283 hb
        replace BK284 := bb6 BK284 Ub6284 hb
        replace BK285 := bb6 BK285 Ub6285 hb
        replace BK290 := bb6 BK290 Ub6290 hb
        replace HB := tb6 Hb6 hb
        (try clear hb)
        (try clear hb2)
        (try clear hk)
        (try clear hi)
        refine hK.out _ _ ⟨(blk_cell BK283.out 0).trans rfl, (blk_cell BK283.out 1).trans rfl, (blk_cell BK284.out 0).trans rfl, (blk_cell BK284.out 1).trans rfl⟩ (fun hHeld => ?_)
        clear hK K
        refine norm_ (a' := ?_) ?_ ?_
        rotate_left
        ·
         show Act.put _ (some 16) _ = _
         simp only [Act.put, y1a6, y2a6, y3a6, i64_w, i32_w]
         rfl
        exact norm_ Za61 (hJ4_9_10 (g290) _ ⟨hHeld, Ub6283, Ub6284, Ub6285, Ub6290, GW290.out, GE290.out, NB283_290.out, NB290_283.out, NB284_290.out, NB290_284.out, NB285_290.out, NB290_285.out, Hb6⟩)
       ·
        skip
        refine box_step ?hg (N := 6) ?hd (cs := #[.int .i64 0, .int .i64 0]) (t := 25) ?hr ?_; (case hd => rfl); (case hg => rfl); (case hr => first | (go_simp; done) | (go_simp; rfl))
        intro g291 hg w12 hbox hb
        have BK291 := Aa6q (hbox)
        have GW291 := sb6 Hb6 hg
        have GE291 := sb6 Hb6 hg
        have NB283_291 := nb6 BK283 Ub6283 hg
        have NB291_283 := mb6 BK283 Ub6283 hg
        have NB284_291 := nb6 BK284 Ub6284 hg
        have NB291_284 := mb6 BK284 Ub6284 hg
        have NB285_291 := nb6 BK285 Ub6285 hg
        have NB291_285 := mb6 BK285 Ub6285 hg
        have NB290_291 := nb6 BK290 Ub6290 hg
        have NB291_290 := mb6 BK290 Ub6290 hg
        replace BK283 := bb6 BK283 Ub6283 hb
        replace BK284 := bb6 BK284 Ub6284 hb
        replace BK285 := bb6 BK285 Ub6285 hb
        replace BK290 := bb6 BK290 Ub6290 hb
        replace HB := tb6 Hb6 hb
        clear hb hbox hg
        refine hK.out _ _ ⟨(blk_cell BK283.out 0).trans rfl, (blk_cell BK283.out 1).trans rfl, (blk_cell BK284.out 0).trans rfl, (blk_cell BK284.out 1).trans rfl⟩ (fun hHeld => ?_)
        clear hK K
        refine norm_ (a' := ?_) ?_ ?_
        rotate_left
        ·
         show Act.put _ (some 6) _ = _
         simp only [Act.put, y1a6, y2a6, y3a6, i64_w, i32_w]
         rfl
        exact norm_ Za61 (hJ4_10_11 (g290, g291) _ ⟨hHeld, Ub6283, Ub6284, Ub6285, Ub6290, Ub6291, GW290.out, GE290.out, NB283_290.out, NB290_283.out, NB284_290.out, NB290_284.out, NB285_290.out, NB290_285.out, NB291_290.out, NB290_291.out, GW291.out, GE291.out, NB283_291.out, NB291_283.out, NB284_291.out, NB291_284.out, NB285_291.out, NB291_285.out, Hb6⟩)
     ·
      skip
      rintro _ w11 ⟨hS_, h0_, h1_, h2_, h3_⟩
      have n0_ : Aside0 (w11.heap[g283]? = some (.cells #[.int .i64 a0_0, .int .i64 a0_1] 25 (0, 0))) := ⟨h0_⟩
      have n1_ : Aside0 (w11.heap[g284]? = some (.cells #[.int .i64 a1_0, .int .i64 a1_1] 25 (0, 0))) := ⟨h1_⟩
      have n2_ : Aside0 (w11.heap[g285]? = some (.cells #[.int .i64 0, .int .i64 0] 25 (0, 0))) := ⟨h2_⟩
      have n3_ : Aside0 (Below w.heap.size w w11) := ⟨h3_⟩
      clear BK283 BK284 BK285 HB
      clear h0_ h1_ h2_ h3_
      have BK283 := n0_
      have BK284 := n1_
      have BK285 := n2_
      have HB := n3_
      clear n0_ n1_ n2_ n3_
      have hHeld : w11.cell? ⟨g283, 0, none⟩ = some (.int .i64 a0_0) ∧ w11.cell? ⟨g283, 1, none⟩ = some (.int .i64 a0_1) ∧ w11.cell? ⟨g284, 0, none⟩ = some (.int .i64 a1_0) ∧ w11.cell? ⟨g284, 1, none⟩ = some (.int .i64 a1_1) := hS_
      refine norm_ (a' := ?_) ?_ ?_
      rotate_left
      ·
       simp only [putAll, Act.put, y1a6, y2a6, y3a6]
       rfl
      refine two_ (i := 10) (j := 11) (Ni := some 5) (Nj := some 6) #[true, true, true, true, true, true, true, true, true, true, true, false, false, false] #[true, true, true, true, true, true, true, true, true, true, false, true, false, false] rfl rfl rfl rfl (two_of HT_.out (by kernel_rfl)) (by decide) (by decide) (fun K hK => ?_) (fun K hK => ?_)
      ·
       skip
       refine box_step ?hg (N := 5) ?hd (cs := #[.int .i64 0, .int .i64 0]) (t := 25) ?hr ?_; (case hd => rfl); (case hg => rfl); (case hr => first | (go_simp; done) | (go_simp; rfl))
       intro g290 hg w12 hbox hb
       have BK290 := Aa6q (hbox)
       have GW290 := sb6 Hb6 hg
       have GE290 := sb6 Hb6 hg
       have NB283_290 := nb6 BK283 Ub6283 hg
       have NB290_283 := mb6 BK283 Ub6283 hg
       have NB284_290 := nb6 BK284 Ub6284 hg
       have NB290_284 := mb6 BK284 Ub6284 hg
       have NB285_290 := nb6 BK285 Ub6285 hg
       have NB290_285 := mb6 BK285 Ub6285 hg
       replace BK283 := bb6 BK283 Ub6283 hb
       replace BK284 := bb6 BK284 Ub6284 hb
       replace BK285 := bb6 BK285 Ub6285 hb
       replace HB := tb6 Hb6 hb
       clear hb hbox hg
       refine hK.out _ _ ⟨(blk_cell BK283.out 0).trans rfl, (blk_cell BK283.out 1).trans rfl, (blk_cell BK284.out 0).trans rfl, (blk_cell BK284.out 1).trans rfl⟩ (fun hHeld => ?_)
       clear hK K
       refine norm_ (a' := ?_) ?_ ?_
       rotate_left
       ·
        show Act.put _ (some 5) _ = _
        simp only [Act.put, y1a6, y2a6, y3a6, i64_w, i32_w]
        rfl
       exact norm_ Za61 (hJ4_9_10 (g290) _ ⟨hHeld, Ub6283, Ub6284, Ub6285, Ub6290, GW290.out, GE290.out, NB283_290.out, NB290_283.out, NB284_290.out, NB290_284.out, NB285_290.out, NB290_285.out, Hb6⟩)
      ·
       skip
       refine box_step ?hg (N := 6) ?hd (cs := #[.int .i64 0, .int .i64 0]) (t := 25) ?hr ?_; (case hd => rfl); (case hg => rfl); (case hr => first | (go_simp; done) | (go_simp; rfl))
       intro g291 hg w12 hbox hb
       have BK291 := Aa6q (hbox)
       have GW291 := sb6 Hb6 hg
       have GE291 := sb6 Hb6 hg
       have NB283_291 := nb6 BK283 Ub6283 hg
       have NB291_283 := mb6 BK283 Ub6283 hg
       have NB284_291 := nb6 BK284 Ub6284 hg
       have NB291_284 := mb6 BK284 Ub6284 hg
       have NB285_291 := nb6 BK285 Ub6285 hg
       have NB291_285 := mb6 BK285 Ub6285 hg
       replace BK283 := bb6 BK283 Ub6283 hb
       replace BK284 := bb6 BK284 Ub6284 hb
       replace BK285 := bb6 BK285 Ub6285 hb
       replace HB := tb6 Hb6 hb
       clear hb hbox hg
       refine hK.out _ _ ⟨(blk_cell BK283.out 0).trans rfl, (blk_cell BK283.out 1).trans rfl, (blk_cell BK284.out 0).trans rfl, (blk_cell BK284.out 1).trans rfl⟩ (fun hHeld => ?_)
       clear hK K
       refine norm_ (a' := ?_) ?_ ?_
       rotate_left
       ·
        show Act.put _ (some 6) _ = _
        simp only [Act.put, y1a6, y2a6, y3a6, i64_w, i32_w]
        rfl
       exact norm_ Za61 (hJ4_9_11 (g291) _ ⟨hHeld, Ub6283, Ub6284, Ub6285, Ub6291, GW291.out, GE291.out, NB283_291.out, NB291_283.out, NB284_291.out, NB291_284.out, NB285_291.out, NB291_285.out, Hb6⟩)
    ·
     skip
     rintro ⟨g290, g291⟩ w12 ⟨hS_, h0_, h1_, h2_, h3_, h4_, h5_, h6_, h7_, h8_, h9_, h10_, h11_, h12_, h13_, h14_, h15_, h16_, h17_, h18_, h19_, h20_, h21_, h22_, h23_⟩
     have n0_ : Aside0 (w12.heap[g283]? = some (.cells #[.int .i64 a0_0, .int .i64 a0_1] 25 (0, 0))) := ⟨h0_⟩
     have n1_ : Aside0 (w12.heap[g284]? = some (.cells #[.int .i64 a1_0, .int .i64 a1_1] 25 (0, 0))) := ⟨h1_⟩
     have n2_ : Aside0 (w12.heap[g285]? = some (.cells #[.int .i64 0, .int .i64 0] 25 (0, 0))) := ⟨h2_⟩
     have BK290 : Aside0 (w12.heap[g290]? = some (.cells #[.int .i64 0, .int .i64 0] 25 (0, 0))) := ⟨h3_⟩
     have BK291 : Aside0 (w12.heap[g291]? = some (.cells #[.int .i64 0, .int .i64 0] 25 (0, 0))) := ⟨h4_⟩
     have GW290 := Aa6q h5_
     have GE290 := Aa6q h6_
     have NB283_290 := Aa6q h7_
     have NB290_283 := Aa6q h8_
     have NB284_290 := Aa6q h9_
     have NB290_284 := Aa6q h10_
     have NB285_290 := Aa6q h11_
     have NB290_285 := Aa6q h12_
     have NB291_290 := Aa6q h13_
     have NB290_291 := Aa6q h14_
     have GW291 := Aa6q h15_
     have GE291 := Aa6q h16_
     have NB283_291 := Aa6q h17_
     have NB291_283 := Aa6q h18_
     have NB284_291 := Aa6q h19_
     have NB291_284 := Aa6q h20_
     have NB285_291 := Aa6q h21_
     have NB291_285 := Aa6q h22_
     have n23_ : Aside0 (Below w.heap.size w w12) := ⟨h23_⟩
     clear BK283 BK284 BK285 HB
     clear h0_ h1_ h2_ h3_ h4_ h5_ h6_ h7_ h8_ h9_ h10_ h11_ h12_ h13_ h14_ h15_ h16_ h17_ h18_ h19_ h20_ h21_ h22_ h23_
     have BK283 := n0_
     have BK284 := n1_
     have BK285 := n2_
     have HB := n23_
     clear n0_ n1_ n2_ n23_
     have hHeld : w12.cell? ⟨g283, 0, none⟩ = some (.int .i64 a0_0) ∧ w12.cell? ⟨g283, 1, none⟩ = some (.int .i64 a0_1) ∧ w12.cell? ⟨g284, 0, none⟩ = some (.int .i64 a1_0) ∧ w12.cell? ⟨g284, 1, none⟩ = some (.int .i64 a1_1) := hS_
     refine norm_ (a' := ?_) ?_ ?_
     rotate_left
     ·
      simp only [putAll, Act.put, y1a6, y2a6, y3a6]
      rfl
     refine one_ (i := 9) (N := some 16) #[true, true, true, true, true, true, true, true, true, true, true, true, false, false] rfl rfl (one_of HT_.out (by kernel_rfl)) (by decide) (fun K hK => ?_)
     refine goes_ Try.func38 (by kernel_rfl) rfl #[.int .i64 a1_0, .int .i64 a0_1] (by rfl) rfl rfl Za62 ?_
     with_reducible refine (impl_ratio.calls k a1_0 a0_1 t288 t289 _ A4.out).mono ?_
     rintro e w13 ⟨rfl, hb⟩
     refine ⟨_, rfl, ?_⟩
     replace BK283 := bb6 BK283 Ub6283 hb
     replace BK284 := bb6 BK284 Ub6284 hb
     replace BK285 := bb6 BK285 Ub6285 hb
     replace BK290 := bb6 BK290 Ub6290 hb
     replace BK291 := bb6 BK291 Ub6291 hb
     replace HB := tb6 Hb6 hb
     (try clear hb)
     (try clear hb2)
     (try clear hk)
     (try clear hi)
     refine hK.out _ _ ⟨(blk_cell BK283.out 0).trans rfl, (blk_cell BK283.out 1).trans rfl, (blk_cell BK284.out 0).trans rfl, (blk_cell BK284.out 1).trans rfl⟩ (fun hHeld => ?_)
     clear hK K
     refine norm_ (a' := ?_) ?_ ?_
     rotate_left
     ·
      show Act.put _ (some 16) _ = _
      simp only [Act.put, y1a6, y2a6, y3a6, i64_w, i32_w]
      rfl
     exact norm_ Za61 (hJ4_9_10_11 (g290, g291) _ ⟨hHeld, Ub6283, Ub6284, Ub6285, Ub6290, Ub6291, GW290.out, GE290.out, NB283_290.out, NB290_283.out, NB284_290.out, NB290_284.out, NB285_290.out, NB290_285.out, NB291_290.out, NB290_291.out, GW291.out, GE291.out, NB283_291.out, NB291_283.out, NB284_291.out, NB291_284.out, NB285_291.out, NB291_285.out, Hb6⟩)
   ·
    skip
    rintro g291 w12 ⟨hS_, h0_, h1_, h2_, h3_, h4_, h5_, h6_, h7_, h8_, h9_, h10_, h11_, h12_⟩
    have n0_ : Aside0 (w12.heap[g283]? = some (.cells #[.int .i64 a0_0, .int .i64 a0_1] 25 (0, 0))) := ⟨h0_⟩
    have n1_ : Aside0 (w12.heap[g284]? = some (.cells #[.int .i64 a1_0, .int .i64 a1_1] 25 (0, 0))) := ⟨h1_⟩
    have n2_ : Aside0 (w12.heap[g285]? = some (.cells #[.int .i64 0, .int .i64 0] 25 (0, 0))) := ⟨h2_⟩
    have BK291 : Aside0 (w12.heap[g291]? = some (.cells #[.int .i64 0, .int .i64 0] 25 (0, 0))) := ⟨h3_⟩
    have GW291 := Aa6q h4_
    have GE291 := Aa6q h5_
    have NB283_291 := Aa6q h6_
    have NB291_283 := Aa6q h7_
    have NB284_291 := Aa6q h8_
    have NB291_284 := Aa6q h9_
    have NB285_291 := Aa6q h10_
    have NB291_285 := Aa6q h11_
    have n12_ : Aside0 (Below w.heap.size w w12) := ⟨h12_⟩
    clear BK283 BK284 BK285 HB
    clear h0_ h1_ h2_ h3_ h4_ h5_ h6_ h7_ h8_ h9_ h10_ h11_ h12_
    have BK283 := n0_
    have BK284 := n1_
    have BK285 := n2_
    have HB := n12_
    clear n0_ n1_ n2_ n12_
    have hHeld : w12.cell? ⟨g283, 0, none⟩ = some (.int .i64 a0_0) ∧ w12.cell? ⟨g283, 1, none⟩ = some (.int .i64 a0_1) ∧ w12.cell? ⟨g284, 0, none⟩ = some (.int .i64 a1_0) ∧ w12.cell? ⟨g284, 1, none⟩ = some (.int .i64 a1_1) := hS_
    refine norm_ (a' := ?_) ?_ ?_
    rotate_left
    ·
     simp only [putAll, Act.put, y1a6, y2a6, y3a6]
     rfl
    refine one_ (i := 10) (N := some 5) #[true, true, true, true, true, true, true, true, true, true, true, true, false, false] rfl rfl (one_of HT_.out (by kernel_rfl)) (by decide) (fun K hK => ?_)
    refine box_step ?hg (N := 5) ?hd (cs := #[.int .i64 0, .int .i64 0]) (t := 25) ?hr ?_; (case hd => rfl); (case hg => rfl); (case hr => first | (go_simp; done) | (go_simp; rfl))
    intro g290 hg w13 hbox hb
    have BK290 := Aa6q (hbox)
    have GW290 := sb6 Hb6 hg
    have GE290 := sb6 Hb6 hg
    have NB283_290 := nb6 BK283 Ub6283 hg
    have NB290_283 := mb6 BK283 Ub6283 hg
    have NB284_290 := nb6 BK284 Ub6284 hg
    have NB290_284 := mb6 BK284 Ub6284 hg
    have NB285_290 := nb6 BK285 Ub6285 hg
    have NB290_285 := mb6 BK285 Ub6285 hg
    have NB291_290 := nb6 BK291 Ub6291 hg
    have NB290_291 := mb6 BK291 Ub6291 hg
    replace BK283 := bb6 BK283 Ub6283 hb
    replace BK284 := bb6 BK284 Ub6284 hb
    replace BK285 := bb6 BK285 Ub6285 hb
    replace BK291 := bb6 BK291 Ub6291 hb
    replace HB := tb6 Hb6 hb
    clear hb hbox hg
    refine hK.out _ _ ⟨(blk_cell BK283.out 0).trans rfl, (blk_cell BK283.out 1).trans rfl, (blk_cell BK284.out 0).trans rfl, (blk_cell BK284.out 1).trans rfl⟩ (fun hHeld => ?_)
    clear hK K
    refine norm_ (a' := ?_) ?_ ?_
    rotate_left
    ·
     show Act.put _ (some 5) _ = _
     simp only [Act.put, y1a6, y2a6, y3a6, i64_w, i32_w]
     rfl
    exact norm_ Za61 (hJ4_9_10_11 (g290, g291) _ ⟨hHeld, Ub6283, Ub6284, Ub6285, Ub6290, Ub6291, GW290.out, GE290.out, NB283_290.out, NB290_283.out, NB284_290.out, NB290_284.out, NB285_290.out, NB290_285.out, NB291_290.out, NB290_291.out, GW291.out, GE291.out, NB283_291.out, NB291_283.out, NB284_291.out, NB291_284.out, NB285_291.out, NB291_285.out, Hb6⟩)
  ·
   skip
   rintro g290 w12 ⟨hS_, h0_, h1_, h2_, h3_, h4_, h5_, h6_, h7_, h8_, h9_, h10_, h11_, h12_⟩
   have n0_ : Aside0 (w12.heap[g283]? = some (.cells #[.int .i64 a0_0, .int .i64 a0_1] 25 (0, 0))) := ⟨h0_⟩
   have n1_ : Aside0 (w12.heap[g284]? = some (.cells #[.int .i64 a1_0, .int .i64 a1_1] 25 (0, 0))) := ⟨h1_⟩
   have n2_ : Aside0 (w12.heap[g285]? = some (.cells #[.int .i64 0, .int .i64 0] 25 (0, 0))) := ⟨h2_⟩
   have BK290 : Aside0 (w12.heap[g290]? = some (.cells #[.int .i64 0, .int .i64 0] 25 (0, 0))) := ⟨h3_⟩
   have GW290 := Aa6q h4_
   have GE290 := Aa6q h5_
   have NB283_290 := Aa6q h6_
   have NB290_283 := Aa6q h7_
   have NB284_290 := Aa6q h8_
   have NB290_284 := Aa6q h9_
   have NB285_290 := Aa6q h10_
   have NB290_285 := Aa6q h11_
   have n12_ : Aside0 (Below w.heap.size w w12) := ⟨h12_⟩
   clear BK283 BK284 BK285 HB
   clear h0_ h1_ h2_ h3_ h4_ h5_ h6_ h7_ h8_ h9_ h10_ h11_ h12_
   have BK283 := n0_
   have BK284 := n1_
   have BK285 := n2_
   have HB := n12_
   clear n0_ n1_ n2_ n12_
   have hHeld : w12.cell? ⟨g283, 0, none⟩ = some (.int .i64 a0_0) ∧ w12.cell? ⟨g283, 1, none⟩ = some (.int .i64 a0_1) ∧ w12.cell? ⟨g284, 0, none⟩ = some (.int .i64 a1_0) ∧ w12.cell? ⟨g284, 1, none⟩ = some (.int .i64 a1_1) := hS_
   refine norm_ (a' := ?_) ?_ ?_
   rotate_left
   ·
    simp only [putAll, Act.put, y1a6, y2a6, y3a6]
    rfl
   refine one_ (i := 11) (N := some 6) #[true, true, true, true, true, true, true, true, true, true, true, true, false, false] rfl rfl (one_of HT_.out (by kernel_rfl)) (by decide) (fun K hK => ?_)
   refine box_step ?hg (N := 6) ?hd (cs := #[.int .i64 0, .int .i64 0]) (t := 25) ?hr ?_; (case hd => rfl); (case hg => rfl); (case hr => first | (go_simp; done) | (go_simp; rfl))
   intro g291 hg w13 hbox hb
   have BK291 := Aa6q (hbox)
   have GW291 := sb6 Hb6 hg
   have GE291 := sb6 Hb6 hg
   have NB283_291 := nb6 BK283 Ub6283 hg
   have NB291_283 := mb6 BK283 Ub6283 hg
   have NB284_291 := nb6 BK284 Ub6284 hg
   have NB291_284 := mb6 BK284 Ub6284 hg
   have NB285_291 := nb6 BK285 Ub6285 hg
   have NB291_285 := mb6 BK285 Ub6285 hg
   have NB290_291 := nb6 BK290 Ub6290 hg
   have NB291_290 := mb6 BK290 Ub6290 hg
   replace BK283 := bb6 BK283 Ub6283 hb
   replace BK284 := bb6 BK284 Ub6284 hb
   replace BK285 := bb6 BK285 Ub6285 hb
   replace BK290 := bb6 BK290 Ub6290 hb
   replace HB := tb6 Hb6 hb
   clear hb hbox hg
   refine hK.out _ _ ⟨(blk_cell BK283.out 0).trans rfl, (blk_cell BK283.out 1).trans rfl, (blk_cell BK284.out 0).trans rfl, (blk_cell BK284.out 1).trans rfl⟩ (fun hHeld => ?_)
   clear hK K
   refine norm_ (a' := ?_) ?_ ?_
   rotate_left
   ·
    show Act.put _ (some 6) _ = _
    simp only [Act.put, y1a6, y2a6, y3a6, i64_w, i32_w]
    rfl
   exact norm_ Za61 (hJ4_9_10_11 (g290, g291) _ ⟨hHeld, Ub6283, Ub6284, Ub6285, Ub6290, Ub6291, GW290.out, GE290.out, NB283_290.out, NB290_283.out, NB284_290.out, NB290_284.out, NB285_290.out, NB290_285.out, NB291_290.out, NB290_291.out, GW291.out, GE291.out, NB283_291.out, NB291_283.out, NB284_291.out, NB291_284.out, NB285_291.out, NB291_285.out, Hb6⟩)
 rintro ⟨g290, g291⟩ w13 ⟨hS_, h0_, h1_, h2_, h3_, h4_, h5_, h6_, h7_, h8_, h9_, h10_, h11_, h12_, h13_, h14_, h15_, h16_, h17_, h18_, h19_, h20_, h21_, h22_, h23_⟩
 have n0_ : Aside0 (w13.heap[g283]? = some (.cells #[.int .i64 a0_0, .int .i64 a0_1] 25 (0, 0))) := ⟨h0_⟩
 have n1_ : Aside0 (w13.heap[g284]? = some (.cells #[.int .i64 a1_0, .int .i64 a1_1] 25 (0, 0))) := ⟨h1_⟩
 have n2_ : Aside0 (w13.heap[g285]? = some (.cells #[.int .i64 0, .int .i64 0] 25 (0, 0))) := ⟨h2_⟩
 have BK290 : Aside0 (w13.heap[g290]? = some (.cells #[.int .i64 0, .int .i64 0] 25 (0, 0))) := ⟨h3_⟩
 have BK291 : Aside0 (w13.heap[g291]? = some (.cells #[.int .i64 0, .int .i64 0] 25 (0, 0))) := ⟨h4_⟩
 have GW290 := Aa6q h5_
 have GE290 := Aa6q h6_
 have NB283_290 := Aa6q h7_
 have NB290_283 := Aa6q h8_
 have NB284_290 := Aa6q h9_
 have NB290_284 := Aa6q h10_
 have NB285_290 := Aa6q h11_
 have NB290_285 := Aa6q h12_
 have NB291_290 := Aa6q h13_
 have NB290_291 := Aa6q h14_
 have GW291 := Aa6q h15_
 have GE291 := Aa6q h16_
 have NB283_291 := Aa6q h17_
 have NB291_283 := Aa6q h18_
 have NB284_291 := Aa6q h19_
 have NB291_284 := Aa6q h20_
 have NB285_291 := Aa6q h21_
 have NB291_285 := Aa6q h22_
 have n23_ : Aside0 (Below w.heap.size w w13) := ⟨h23_⟩
 clear BK283 BK284 BK285 HB
 clear h0_ h1_ h2_ h3_ h4_ h5_ h6_ h7_ h8_ h9_ h10_ h11_ h12_ h13_ h14_ h15_ h16_ h17_ h18_ h19_ h20_ h21_ h22_ h23_
 have BK283 := n0_
 have BK284 := n1_
 have BK285 := n2_
 have HB := n23_
 clear n0_ n1_ n2_ n23_
 have hHeld : w13.cell? ⟨g283, 0, none⟩ = some (.int .i64 a0_0) ∧ w13.cell? ⟨g283, 1, none⟩ = some (.int .i64 a0_1) ∧ w13.cell? ⟨g284, 0, none⟩ = some (.int .i64 a1_0) ∧ w13.cell? ⟨g284, 1, none⟩ = some (.int .i64 a1_1) := hS_
 refine norm_ (a' := ?_) ?_ ?_
 rotate_left
 ·
  simp only [putAll, Act.put, y1a6, y2a6, y3a6]
  rfl
 refine one_ (i := 12) (N := none) #[true, true, true, true, true, true, true, true, true, true, true, true, true, false] rfl rfl (one_of HT_.out (by kernel_rfl)) (by decide) (fun K hK => ?_)
 have hs14 : w13.cell? ⟨g290, 0, none⟩ = some (.int .i64 0) := (blk_cell BK290.out 0).trans rfl
 have hfs14 := blk_frozen BK290.out 0
 have hns14_0 := NB283_290.out
 have hns14_1 := NB284_290.out
 have hns14_2 := NB285_290.out
 have hns14_4 := NB291_290.out
 have hms14_0 := NB290_283.out
 have hms14_1 := NB290_284.out
 have hms14_2 := NB290_285.out
 have hms14_4 := NB290_291.out
 have hs15 : w13.cell? ⟨g290, 1, none⟩ = some (.int .i64 0) := (blk_cell BK290.out 1).trans rfl
 have hfs15 := blk_frozen BK290.out 1
 have hns15_0 := NB283_290.out
 have hns15_1 := NB284_290.out
 have hns15_2 := NB285_290.out
 have hns15_4 := NB291_290.out
 have hms15_0 := NB290_283.out
 have hms15_1 := NB290_284.out
 have hms15_2 := NB290_285.out
 have hms15_4 := NB290_291.out
 refine skip_ (w1 := ?_) (by rfl) rfl ?_ ?_
 rotate_left
 ·
  go_simp
  rfl
 refine hK.out _ _ ⟨((cell_far (p := ⟨g290, _, none⟩) NB283_290.out _).trans (((cell_far (p := ⟨g290, _, none⟩) NB283_290.out _).trans (hHeld.1)))), ((cell_far (p := ⟨g290, _, none⟩) NB283_290.out _).trans (((cell_far (p := ⟨g290, _, none⟩) NB283_290.out _).trans (hHeld.2.1)))), ((cell_far (p := ⟨g290, _, none⟩) NB284_290.out _).trans (((cell_far (p := ⟨g290, _, none⟩) NB284_290.out _).trans (hHeld.2.2.1)))), ((cell_far (p := ⟨g290, _, none⟩) NB284_290.out _).trans (((cell_far (p := ⟨g290, _, none⟩) NB284_290.out _).trans (hHeld.2.2.2))))⟩ (fun hHeld => ?_)
 clear hK K
 refine one_ (i := 13) (N := none) #[true, true, true, true, true, true, true, true, true, true, true, true, true, true] rfl rfl (one_of HT_.out (by kernel_rfl)) (by decide) (fun K hK => ?_)
 have hs16 : w13.cell? ⟨g291, 0, none⟩ = some (.int .i64 0) := (blk_cell BK291.out 0).trans rfl
 have hfs16 := blk_frozen BK291.out 0
 have hns16_0 := NB283_291.out
 have hns16_1 := NB284_291.out
 have hns16_2 := NB285_291.out
 have hns16_3 := NB290_291.out
 have hms16_0 := NB291_283.out
 have hms16_1 := NB291_284.out
 have hms16_2 := NB291_285.out
 have hms16_3 := NB291_290.out
 have hs17 : w13.cell? ⟨g291, 1, none⟩ = some (.int .i64 0) := (blk_cell BK291.out 1).trans rfl
 have hfs17 := blk_frozen BK291.out 1
 have hns17_0 := NB283_291.out
 have hns17_1 := NB284_291.out
 have hns17_2 := NB285_291.out
 have hns17_3 := NB290_291.out
 have hms17_0 := NB291_283.out
 have hms17_1 := NB291_284.out
 have hms17_2 := NB291_285.out
 have hms17_3 := NB291_290.out
 refine skip_ (w1 := ?_) (by rfl) rfl ?_ ?_
 rotate_left
 ·
  go_simp
  rfl
 refine hK.out _ _ ⟨((cell_far (p := ⟨g291, _, none⟩) NB283_291.out _).trans (((cell_far (p := ⟨g291, _, none⟩) NB283_291.out _).trans (hHeld.1)))), ((cell_far (p := ⟨g291, _, none⟩) NB283_291.out _).trans (((cell_far (p := ⟨g291, _, none⟩) NB283_291.out _).trans (hHeld.2.1)))), ((cell_far (p := ⟨g291, _, none⟩) NB284_291.out _).trans (((cell_far (p := ⟨g291, _, none⟩) NB284_291.out _).trans (hHeld.2.2.1)))), ((cell_far (p := ⟨g291, _, none⟩) NB284_291.out _).trans (((cell_far (p := ⟨g291, _, none⟩) NB284_291.out _).trans (hHeld.2.2.2))))⟩ (fun hHeld => ?_)
 clear hK K
 refine done_ (done_of HT_.out (by kernel_rfl)) ?_
 have hnb20 := NB290_285.out
 have hnc20 := NB285_290.out
 have hnb21 := NB290_291.out
 have hnc21 := NB291_290.out
 have hcz22_0 : w13.cell? ⟨g290, 0, none⟩ = some (.int .i64 0) := (blk_cell BK290.out 0).trans rfl
 have hcz22_1 : w13.cell? ⟨g290, 1, none⟩ = some (.int .i64 0) := (blk_cell BK290.out 1).trans rfl
 have hfz22_0 := blk_frozen BK290.out 0
 have hfz22_1 := blk_frozen BK290.out 1
 have hnb25 := NB291_285.out
 have hnc25 := NB285_291.out
 have hcz26_0 : w13.cell? ⟨g291, 0, none⟩ = some (.int .i64 0) := (blk_cell BK291.out 0).trans rfl
 have hcz26_1 : w13.cell? ⟨g291, 1, none⟩ = some (.int .i64 0) := (blk_cell BK291.out 1).trans rfl
 have hfz26_0 := blk_frozen BK291.out 0
 have hfz26_1 := blk_frozen BK291.out 1
 have hcz29_0 : w13.cell? ⟨g285, 0, none⟩ = some (.int .i64 0) := (blk_cell BK285.out 0).trans rfl
 have hcz29_1 : w13.cell? ⟨g285, 1, none⟩ = some (.int .i64 0) := (blk_cell BK285.out 1).trans rfl
 have hfz29_0 := blk_frozen BK285.out 0
 have hfz29_1 := blk_frozen BK285.out 1
 try go_wp2
 refine bodyPost_ret (results_cell_row rfl _ _ g285 25 #[.int .i64 (wrap64 (t286 * t288)), .int .i64 (wrap64 (t287 * t289))] (0, 0) _ rfl (by (with_reducible repeat (first | refine blk_drewN ?_ _ | refine blk_drew ?_ | refine blk_alloc ?_ _)); refine blk_put (cs := #[.int .i64 (wrap64 (t286 * t288)), .int .i64 0]) ?_ 1 _ rfl; (with_reducible repeat (first | refine blk_drewN ?_ _ | refine blk_drew ?_ | refine blk_alloc ?_ _)); refine blk_put (cs := #[.int .i64 0, .int .i64 0]) ?_ 0 _ rfl; (with_reducible repeat (first | refine blk_drewN ?_ _ | refine blk_drew ?_ | refine blk_alloc ?_ _)); refine blk_far ?_ NB285_291.out _; (with_reducible repeat (first | refine blk_drewN ?_ _ | refine blk_drew ?_ | refine blk_alloc ?_ _)); refine blk_far ?_ NB285_291.out _; (with_reducible repeat (first | refine blk_drewN ?_ _ | refine blk_drew ?_ | refine blk_alloc ?_ _)); refine blk_far ?_ NB285_290.out _; (with_reducible repeat (first | refine blk_drewN ?_ _ | refine blk_drew ?_ | refine blk_alloc ?_ _)); refine blk_far ?_ NB285_290.out _; (with_reducible repeat (first | refine blk_drewN ?_ _ | refine blk_drew ?_ | refine blk_alloc ?_ _)); exact BK285.out) Try.underlying25 rfl (by kernel_rfl)) rfl ?_
 exact ⟨by first | rfl | (simp [errW_none, errW_some] <;> rfl) | (simp [*, errW_none, errW_some] <;> rfl), Hb6⟩

end Go.Proofs.Ytfembmnagkdnhaa.OFnRuinAddsUp
