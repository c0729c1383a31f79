/- The functions that 'FnRuinAddsUp' runs, each as a function over numbers and lists, with the proof that the Go text comes to its answers. No condition. -/
import Derived.Test.YtfembmnagkdnhaaOFnRuinAddsUpx0
import Derived.Test.YtfembmnagkdnhaaOFnRuinAddsUpx2
import Derived.Test.YtfembmnagkdnhaaOFnRuinAddsUpx6
namespace Go.Proofs.Ytfembmnagkdnhaa.OFnRuinAddsUp
open Go.RowKit Go.Proofs.YtfembmnagkdnhaaW.PrintWords Go.Proofs.YtfembmnagkdnhaaW.PrintLast Go.Proofs.YtfembmnagkdnhaaW.PrintMore
attribute [local go_sem] max2_int min2_int max_two min_two max_three min_three max_four min_four   -- for this text's walks alone
set_option linter.unusedVariables false
set_option linter.unusedSimpArgs false

theorem y1a7 {α : Type} (l : List α) (i : Nat) (a : α) : l.toArray.setIfInBounds i a = (l.set i a).toArray := List.setIfInBounds_toArray l i a
theorem y2a7 {α : Type} {x : α} {xs : List α} {b : α} : (x :: xs).set 0 b = b :: xs := List.set_cons_zero
theorem y3a7 {α : Type} {x : α} {xs : List α} {n : Nat} {b : α} : (x :: xs).set (n + 1) b = x :: xs.set n b := List.set_cons_succ
theorem Aa7q {p : Prop} (h : p) : Aside0 p := Aside0.mk h
theorem Za71 {p : Prop} (h : p := by (try simp only [List.map_toArray, List.map_cons, List.map_nil]); first | done | rfl | (simp only [List.length_drop, List.length_take]; rfl)) : p := h
theorem Hb7 {p : Prop} (h : p := by repeat (first | (with_reducible first | exact HB.out | apply below_alloc | apply pw_below_drewN | apply below_drew1 | refine below_set ?_ GE292.out | refine below_set ?_ GE293.out | refine below_set ?_ GE298.out) | exact HB.out)) : p := h
theorem bb7 {w0 w w1 : World} {g : Nat} {o : Obj} (_ : Aside0 (w0.heap[g]? = some o)) (h : w.heap[g]? = some o) (hb : Below w.heap.size w w1) : Aside0 (w1.heap[g]? = some o) := Aa7q (blk_below h hb)
theorem nb7 {w0 w : World} {g q : Nat} {o : Obj} (_ : Aside0 (w0.heap[g]? = some o)) (h : w.heap[g]? = some o) (hg : q = w.heap.size) : Aside0 (g ≠ q) := Aa7q (by rw [hg]; exact Nat.ne_of_lt (blk_lt h))
theorem mb7 {w0 w : World} {g q : Nat} {o : Obj} (_ : Aside0 (w0.heap[g]? = some o)) (h : w.heap[g]? = some o) (hg : q = w.heap.size) : Aside0 (q ≠ g) := Aa7q (by rw [hg]; exact Nat.ne_of_gt (blk_lt h))
theorem sb7 {w w1 : World} {q : Nat} (h : Below w.heap.size w w1) (hg : q = w1.heap.size) : Aside0 (w.heap.size ≤ q) := Aa7q (by rw [hg]; exact below_size h)
theorem tb7 {w w1 w2 : World} (h : Below w.heap.size w w1) (hb : Below w1.heap.size w1 w2) : Aside0 (Below w.heap.size w w2) := Aa7q (below_step h hb)
theorem Ub7292 {p : Prop} (h : p := by repeat (first | (with_reducible first | exact BK292.out | refine blk_drewN ?_ _ | refine blk_drew ?_ | refine blk_alloc ?_ _) | refine blk_far ?_ NB292_298.out _ | exact BK292.out)) : p := h
theorem Ub7293 {p : Prop} (h : p := by repeat (first | (with_reducible first | exact BK293.out | refine blk_drewN ?_ _ | refine blk_drew ?_ | refine blk_alloc ?_ _) | refine blk_far ?_ NB293_298.out _ | exact BK293.out)) : p := h
theorem Ub7298 {p : Prop} (h : p := by repeat (first | (with_reducible first | exact BK298.out | refine blk_drewN ?_ _ | refine blk_drew ?_ | refine blk_alloc ?_ _) | exact BK298.out)) : p := h
/-! ### impl_FirstWonOfWinners: function 22 -/
def impl_FirstWonOfWinners.j0 : Nat → Int → Int → Bool → Int → Int → Option (Int × Int × Bool)
  | 0, _, _, _, _, _ => none
  | k + 1, x0, x1, x20, x293000, x293001 => if x20 = true then (some (0, 0, false)) else ((impl_win.f k x0 x1 x293000 x293001).bind fun bt296 => ((impl_win.f k (wrap64 (x0 + 1)) x1 x293000 x293001).bind fun bt299 => ((impl_Ratio_times.f k x293000 x293001 bt299.1 bt299.2).bind fun bt301 => ((impl_Ratio_times.f k bt301.1 bt301.2 bt296.2 bt296.1).bind fun bt303 => (some (bt303.1, bt303.2, true))))))
def impl_FirstWonOfWinners.f (k : Nat) (a0 : Int) (a1 : Int) (a2_0 : Int) (a2_1 : Int) : Option (Int × Int × Bool) := (impl_isGame.f k a0 a1 a2_0 a2_1).bind fun t294 => (if t294 = true then ((impl_in.f a0 1 (wrap64 (a1 - 1))).bind fun t295 => (impl_FirstWonOfWinners.j0 k a0 a1 (!t295) a2_0 a2_1)) else (impl_FirstWonOfWinners.j0 k a0 a1 true a2_0 a2_1))
theorem impl_FirstWonOfWinners.mono_l : ∀ k, (∀ y0 y1 y2 y3 y4, LeO (impl_FirstWonOfWinners.j0 k y0 y1 y2 y3 y4) (impl_FirstWonOfWinners.j0 (k + 1) y0 y1 y2 y3 y4))
  | 0 => fun _ _ _ _ _ r h => by simp [impl_FirstWonOfWinners.j0] at h
  | k + 1 => by
    have ih0 := impl_FirstWonOfWinners.mono_l k
    · intro y0 y1 y2 y3 y4
      unfold impl_FirstWonOfWinners.j0
      repeat' first
      | (with_reducible exact ih0 _ _ _ _ _)
      | (with_reducible exact impl_Ratio_times.mono _ _ _ _ _)
      | (with_reducible exact impl_isGame.mono _ _ _ _ _)
      | (with_reducible exact impl_win.mono _ _ _ _ _)
      | (with_reducible exact LeO.refl _)
      | (with_reducible exact LeO.none _)
      | (with_reducible refine LeO.ite ?_ ?_)
      | (with_reducible refine LeO.bind ?_ (fun _ => ?_))
      | exact ih0 _ _ _ _ _
      | exact impl_Ratio_times.mono _ _ _ _ _
      | exact impl_isGame.mono _ _ _ _ _
      | exact impl_win.mono _ _ _ _ _
      | exact LeO.none _
      | refine LeO.ite ?_ ?_
      | refine LeO.bind ?_ (fun _ => ?_)
theorem impl_FirstWonOfWinners.mono : ∀ a0 a1 a2 a3 k, LeO (impl_FirstWonOfWinners.f k a0 a1 a2 a3) (impl_FirstWonOfWinners.f (k + 1) a0 a1 a2 a3) := by
  intro a0 a1 a2 a3 k
  have ih0 := impl_FirstWonOfWinners.mono_l k
  unfold impl_FirstWonOfWinners.f
  repeat' first
      | (with_reducible exact ih0 _ _ _ _ _)
      | (with_reducible exact impl_Ratio_times.mono _ _ _ _ _)
      | (with_reducible exact impl_isGame.mono _ _ _ _ _)
      | (with_reducible exact impl_win.mono _ _ _ _ _)
      | (with_reducible exact LeO.refl _)
      | (with_reducible exact LeO.none _)
      | (with_reducible refine LeO.ite ?_ ?_)
      | (with_reducible refine LeO.bind ?_ (fun _ => ?_))
      | exact ih0 _ _ _ _ _
      | exact impl_Ratio_times.mono _ _ _ _ _
      | exact impl_isGame.mono _ _ _ _ _
      | exact impl_win.mono _ _ _ _ _
      | exact LeO.none _
      | refine LeO.ite ?_ ?_
      | refine LeO.bind ?_ (fun _ => ?_)
def impl_FirstWonOfWinners.T4 : Bool × List (List Nat × List Nat) := (true, [([], []), ([], []), ([1], [1]), ([], []), ([], []), ([2, 3, 4], [2, 3, 4]), ([0, 5, 5], [0, 5]), ([], []), ([7], [7]), ([], []), ([9], [9]), ([8, 10], [8, 10]), ([6, 11, 6], [6, 11]), ([12, 12, 0, 1, 2, 3, 4, 5, 6, 7, 8, 9, 10, 11, 12], [12]), ([13, 0, 1, 2, 3, 4, 5, 6, 7, 8, 9, 10, 11, 12, 13], [])])
def impl_FirstWonOfWinners.B4 : List Nat := [0, 0, 2, 0, 0, 30, 63, 0, 128, 0, 512, 1920, 4095, 8191, 16383]
theorem impl_FirstWonOfWinners.tab4 : rtab .any (opsOf Try.f22 4) = impl_FirstWonOfWinners.T4 := by kernel_rfl
theorem impl_FirstWonOfWinners.bits4 : waitsOk impl_FirstWonOfWinners.T4.2 impl_FirstWonOfWinners.B4 = true := by kernel_rfl
set_option maxHeartbeats 8000000 in
set_option maxRecDepth 100000 in
theorem impl_FirstWonOfWinners.calls (k : Nat) (a0 : Int) (a1 : Int) (a2_0 : Int) (a2_1 : Int) (r1 : Int) (r2 : Int) (r3 : Bool) (w : World) (h : impl_FirstWonOfWinners.f k a0 a1 a2_0 a2_1 = some (r1, r2, r3)) :
  Calls Try.prog 22 #[.int .i64 a0, .int .i64 a1, .agg #[.int .i64 a2_0, .int .i64 a2_1]] w fun e w' => e = .returned (.tuple #[.agg #[.int .i64 r1, .int .i64 r2], .bool r3]) ∧ Below w.heap.size w w' := by
 have hu25 := Try.underlying25
 have HB := Aa7q (Below.refl w.heap.size w)
 have H : ((impl_isGame.f k a0 a1 a2_0 a2_1).bind fun t294 => (if t294 = true then ((impl_in.f a0 1 (wrap64 (a1 - 1))).bind fun t295 => (impl_FirstWonOfWinners.j0 k a0 a1 (!t295) a2_0 a2_1)) else (impl_FirstWonOfWinners.j0 k a0 a1 true a2_0 a2_1))) = some (r1, r2, r3) := h
 clear h
 have HC4 := Aa7q H
 clear H
 go_enter Try.func22, Try.ntmps22
 go_upto_region 1 with (first | ((with_reducible refine gate_dst (N := 5) rfl ?_); refine box_event ?hg (N := 5) ?hd (cs := #[.int .i64 a2_0, .int .i64 a2_1]) (t := 25) ?hr ?_; (case hd => rfl); (case hg => rfl); (case hr => first | (go_simp; done) | (go_simp; rfl)); intro g292 hg w5 hbox hb; have BK292 := Aa7q (hbox); have GE292 := sb7 Hb7 hg; replace HB := tb7 Hb7 hb; clear hb hbox hg) | ((with_reducible refine gate_dst (N := 6) rfl ?_); refine box_event ?hg (N := 6) ?hd (cs := #[.int .i64 0, .int .i64 0]) (t := 25) ?hr ?_; (case hd => rfl); (case hg => rfl); (case hr => first | (go_simp; done) | (go_simp; rfl)); intro g293 hg w6 hbox hb; have BK293 := Aa7q (hbox); have GE293 := sb7 Hb7 hg; have NB292_293 := nb7 BK292 Ub7292 hg; have NB293_292 := mb7 BK292 Ub7292 hg; replace BK292 := bb7 BK292 Ub7292 hb; replace HB := tb7 Hb7 hb; clear hb hbox hg))
 (try simp only [Act.put, y1a7, y2a7, y3a7])
 go_cut [20] (fun v20 wc => ∃ (kq : Nat) (x20_3 : Bool), v20 = .bool x20_3 ∧ Aside0 (impl_FirstWonOfWinners.j0 kq a0 a1 x20_3 a2_0 a2_1 = some (r1, r2, r3)) ∧ Aside0 (kq ≤ k) ∧ Aside0 (wc.heap[g292]? = some (.cells #[.int .i64 a2_0, .int .i64 a2_1] 25 (0, 0))) ∧ Aside0 (wc.heap[g293]? = some (.cells #[.int .i64 0, .int .i64 0] 25 (0, 0))) ∧ Aside0 (Below w.heap.size w wc))
 case first =>
  have H := HC4.out
  clear HC4
  replace H := Option.bind_eq_some_iff.mp H
  obtain ⟨t294, A70, H⟩ := H
  replace H : (if t294 = true then ((impl_in.f a0 1 (wrap64 (a1 - 1))).bind fun t295 => (impl_FirstWonOfWinners.j0 k a0 a1 (!t295) a2_0 a2_1)) else (impl_FirstWonOfWinners.j0 k a0 a1 true a2_0 a2_1)) = some (r1, r2, r3) := H
  have A7 := Aa7q A70
  clear A70
  by_cases c8 : t294 = true
  ·
   subst c8
   have H1 : ((impl_in.f a0 1 (wrap64 (a1 - 1))).bind fun t295 => (impl_FirstWonOfWinners.j0 k a0 a1 (!t295) a2_0 a2_1)) = some (r1, r2, r3) := by rw [if_pos rfl] at H; exact H
   clear H
   have H := H1
   clear H1
   replace H := Option.bind_eq_some_iff.mp H
   obtain ⟨t295, A90, H⟩ := H
   replace H : (impl_FirstWonOfWinners.j0 k a0 a1 (!t295) a2_0 a2_1) = some (r1, r2, r3) := H
   have A9 := Aa7q A90
   clear A90
   have H' := Aa7q H
   clear H
   have hcz11_0 : w6.cell? ⟨g292, 0, none⟩ = some (.int .i64 a2_0) := (blk_cell BK292.out 0).trans rfl
   have hcz11_1 : w6.cell? ⟨g292, 1, none⟩ = some (.int .i64 a2_1) := (blk_cell BK292.out 1).trans rfl
   have hfz11_0 := blk_frozen BK292.out 0
   have hfz11_1 := blk_frozen BK292.out 1
   go_wp2_with (first | ((with_reducible refine gate_callee (f := 37) rfl ?_); refine goesL_ (some 12) rfl rfl Try.func37 (by kernel_rfl) rfl #[.int .i64 a0, .int .i64 a1, .agg #[.int .i64 a2_0, .int .i64 a2_1]] rfl Za71 ?_; (with_reducible refine (impl_isGame.calls k a0 a1 a2_0 a2_1 true _ A7.out).mono ?_); rintro e w12 ⟨rfl, hb⟩; refine ⟨_, rfl, ?_⟩; replace BK292 := bb7 BK292 Ub7292 hb; replace BK293 := bb7 BK293 Ub7293 hb; replace HB := tb7 Hb7 hb; (try clear hb); (try clear hb2); (try clear hk); (try clear hi)) | (go_at_call 47; (with_reducible refine (impl_in.calls a0 1 (wrap64 (a1 - 1)) t295 _ A9.out).mono ?_); rintro e w' ⟨rfl, ⟨nd, rfl⟩⟩))
   go_meet
   case rel => exact ⟨_, (!t295), (by first | rfl | (simp; done) | (simp [*]; done) | (simp only [i64_w]; done)), H', ⟨by first | omega | exact Nat.le_refl _⟩, ⟨Ub7292⟩, ⟨Ub7293⟩, ⟨Hb7⟩⟩
  ·
   replace c8 := Bool.eq_false_iff.mpr c8
   subst c8
   have H1 : (impl_FirstWonOfWinners.j0 k a0 a1 true a2_0 a2_1) = some (r1, r2, r3) := by rw [if_neg (show ¬ (false = true) by decide)] at H; exact H
   clear H
   have H := H1
   clear H1
   have H' := Aa7q H
   clear H
   have hcz14_0 : w6.cell? ⟨g292, 0, none⟩ = some (.int .i64 a2_0) := (blk_cell BK292.out 0).trans rfl
   have hcz14_1 : w6.cell? ⟨g292, 1, none⟩ = some (.int .i64 a2_1) := (blk_cell BK292.out 1).trans rfl
   have hfz14_0 := blk_frozen BK292.out 0
   have hfz14_1 := blk_frozen BK292.out 1
   go_wp2_with (first | ((with_reducible refine gate_callee (f := 37) rfl ?_); refine goesL_ (some 12) rfl rfl Try.func37 (by kernel_rfl) rfl #[.int .i64 a0, .int .i64 a1, .agg #[.int .i64 a2_0, .int .i64 a2_1]] rfl Za71 ?_; (with_reducible refine (impl_isGame.calls k a0 a1 a2_0 a2_1 false _ A7.out).mono ?_); rintro e w15 ⟨rfl, hb⟩; refine ⟨_, rfl, ?_⟩; replace BK292 := bb7 BK292 Ub7292 hb; replace BK293 := bb7 BK293 Ub7293 hb; replace HB := tb7 Hb7 hb; (try clear hb); (try clear hb2); (try clear hk); (try clear hi)))
   go_meet
   case rel => exact ⟨_, (true), (by first | rfl | (simp; done) | (simp [*]; done) | (simp only [i64_w]; done)), H', ⟨by first | omega | exact Nat.le_refl _⟩, ⟨Ub7292⟩, ⟨Ub7293⟩, ⟨Hb7⟩⟩
 case rest =>
  clear HC4
  try clear c1
  try clear c2
  try clear p2
  try clear c3
  try clear p6
  try clear c8
  try clear c10
  try clear c13
  try clear hcz11_0
  try clear hcz11_1
  try clear hcz14_0
  try clear hcz14_1
  try clear hfz11_0
  try clear hfz11_1
  try clear hfz14_0
  try clear hfz14_1
  obtain ⟨kq, x20_3, rfl, HA, HJ3, BK292, BK293, HB⟩ := hcut
  cases kq with
  | zero => exact absurd HA.out (by simp [impl_FirstWonOfWinners.j0])
  | succ kj3 =>
   have H := HA.out
   clear HA
   simp only [impl_FirstWonOfWinners.j0] at H
   by_cases c16 : x20_3 = true
   ·
    subst c16
    have H1 : (some (0, 0, false)) = some (r1, r2, r3) := by rw [if_pos rfl] at H; exact H
    clear H
    have H := H1
    clear H1
    simp only [Option.some.injEq, Prod.mk.injEq] at H
    obtain ⟨rfl, rfl, rfl⟩ := H
    have hcz18_0 : wc.cell? ⟨g293, 0, none⟩ = some (.int .i64 0) := (blk_cell BK293.out 0).trans rfl
    have hcz18_1 : wc.cell? ⟨g293, 1, none⟩ = some (.int .i64 0) := (blk_cell BK293.out 1).trans rfl
    have hfz18_0 := blk_frozen BK293.out 0
    have hfz18_1 := blk_frozen BK293.out 1
    go_wp2
    refine bodyPost_ret (results_ct rfl _ _ g293 25 #[.int .i64 0, .int .i64 0] (0, 0) _ rfl (by (with_reducible repeat (first | refine blk_drewN ?_ _ | refine blk_drew ?_ | refine blk_alloc ?_ _)); refine blk_put (cs := #[.int .i64 0, .int .i64 0]) ?_ 1 _ rfl; (with_reducible repeat (first | refine blk_drewN ?_ _ | refine blk_drew ?_ | refine blk_alloc ?_ _)); refine blk_put (cs := #[.int .i64 0, .int .i64 0]) ?_ 0 _ rfl; (with_reducible repeat (first | refine blk_drewN ?_ _ | refine blk_drew ?_ | refine blk_alloc ?_ _)); exact BK293.out) Try.underlying25 rfl (by kernel_rfl)) rfl ?_
    exact ⟨by first | rfl | (simp [errW_none, errW_some] <;> rfl) | (simp [*, errW_none, errW_some] <;> rfl), Hb7⟩
   ·
    replace c16 := Bool.eq_false_iff.mpr c16
    subst c16
    have H1 : ((impl_win.f kj3 a0 a1 a2_0 a2_1).bind fun bt296 => ((impl_win.f kj3 (wrap64 (a0 + 1)) a1 a2_0 a2_1).bind fun bt299 => ((impl_Ratio_times.f kj3 a2_0 a2_1 bt299.1 bt299.2).bind fun bt301 => ((impl_Ratio_times.f kj3 bt301.1 bt301.2 bt296.2 bt296.1).bind fun bt303 => (some (bt303.1, bt303.2, true)))))) = some (r1, r2, r3) := by rw [if_neg (show ¬ (false = true) by decide)] at H; exact H
    clear H
    have H := H1
    clear H1
    replace H := Option.bind_eq_some_iff.mp H
    obtain ⟨⟨t296, t297⟩, A190, H⟩ := H
    replace H : ((impl_win.f kj3 (wrap64 (a0 + 1)) a1 a2_0 a2_1).bind fun bt299 => ((impl_Ratio_times.f kj3 a2_0 a2_1 bt299.1 bt299.2).bind fun bt301 => ((impl_Ratio_times.f kj3 bt301.1 bt301.2 t297 t296).bind fun bt303 => (some (bt303.1, bt303.2, true))))) = some (r1, r2, r3) := H
    have A19 := Aa7q A190
    clear A190
    replace H := Option.bind_eq_some_iff.mp H
    obtain ⟨⟨t299, t300⟩, A200, H⟩ := H
    replace H : ((impl_Ratio_times.f kj3 a2_0 a2_1 t299 t300).bind fun bt301 => ((impl_Ratio_times.f kj3 bt301.1 bt301.2 t297 t296).bind fun bt303 => (some (bt303.1, bt303.2, true)))) = some (r1, r2, r3) := H
    have A20 := Aa7q A200
    clear A200
    replace H := Option.bind_eq_some_iff.mp H
    obtain ⟨⟨t301, t302⟩, A210, H⟩ := H
    replace H : ((impl_Ratio_times.f kj3 t301 t302 t297 t296).bind fun bt303 => (some (bt303.1, bt303.2, true))) = some (r1, r2, r3) := H
    have A21 := Aa7q A210
    clear A210
    replace H := Option.bind_eq_some_iff.mp H
    obtain ⟨⟨t303, t304⟩, A220, H⟩ := H
    replace H : (some (t303, t304, true)) = some (r1, r2, r3) := H
    have A22 := Aa7q A220
    clear A220
    simp only [Option.some.injEq, Prod.mk.injEq] at H
    obtain ⟨rfl, rfl, rfl⟩ := H
    have hcz24_0 : wc.cell? ⟨g292, 0, none⟩ = some (.int .i64 a2_0) := (blk_cell BK292.out 0).trans rfl
    have hcz24_1 : wc.cell? ⟨g292, 1, none⟩ = some (.int .i64 a2_1) := (blk_cell BK292.out 1).trans rfl
    have hfz24_0 := blk_frozen BK292.out 0
    have hfz24_1 := blk_frozen BK292.out 1
    try go_wp2_with (first | ((with_reducible refine gate_callee (f := 44) rfl ?_); refine goesL_ (some 25) rfl rfl Try.func44 (by kernel_rfl) rfl #[.int .i64 a0, .int .i64 a1, .agg #[.int .i64 a2_0, .int .i64 a2_1]] rfl Za71 ?_; (with_reducible refine (impl_win.calls kj3 a0 a1 a2_0 a2_1 t296 t297 _ A19.out).mono ?_); rintro e w25 ⟨rfl, hb⟩; refine ⟨_, rfl, ?_⟩; replace BK292 := bb7 BK292 Ub7292 hb; replace BK293 := bb7 BK293 Ub7293 hb; replace HB := tb7 Hb7 hb; (try clear hb); (try clear hb2); (try clear hk); (try clear hi)) | ((with_reducible refine gate_dst (N := 8) rfl ?_); refine box_event ?hg (N := 8) ?hd (cs := #[.int .i64 0, .int .i64 0]) (t := 25) ?hr ?_; (case hd => rfl); (case hg => rfl); (case hr => first | (go_simp; done) | (go_simp; rfl)); intro g298 hg w26 hbox hb; have BK298 := Aa7q (hbox); have GE298 := sb7 Hb7 hg; have NB292_298 := nb7 BK292 Ub7292 hg; have NB298_292 := mb7 BK292 Ub7292 hg; have NB293_298 := nb7 BK293 Ub7293 hg; have NB298_293 := mb7 BK293 Ub7293 hg; replace BK292 := bb7 BK292 Ub7292 hb; replace BK293 := bb7 BK293 Ub7293 hb; replace HB := tb7 Hb7 hb; clear hb hbox hg; have hcz29_0 : w26.cell? ⟨g298, 0, none⟩ = some (.int .i64 0) := (blk_cell BK298.out 0).trans rfl; have hcz29_1 : w26.cell? ⟨g298, 1, none⟩ = some (.int .i64 0) := (blk_cell BK298.out 1).trans rfl; have hfz29_0 := blk_frozen BK298.out 0; have hfz29_1 := blk_frozen BK298.out 1))
    have n0_ : Aside0 (((w26.setCell ⟨g298, 0, none⟩ (.int .i64 t296)).setCell ⟨g298, 1, none⟩ (.int .i64 t297)).heap[g292]? = some (.cells #[.int .i64 a2_0, .int .i64 a2_1] 25 (0, 0))) := ⟨Ub7292⟩
    have n1_ : Aside0 (((w26.setCell ⟨g298, 0, none⟩ (.int .i64 t296)).setCell ⟨g298, 1, none⟩ (.int .i64 t297)).heap[g293]? = some (.cells #[.int .i64 0, .int .i64 0] 25 (0, 0))) := ⟨Ub7293⟩
    have n2_ : Aside0 (((w26.setCell ⟨g298, 0, none⟩ (.int .i64 t296)).setCell ⟨g298, 1, none⟩ (.int .i64 t297)).heap[g298]? = some (.cells #[.int .i64 t296, .int .i64 t297] 25 (0, 0))) := ⟨by (with_reducible repeat (first | refine blk_drewN ?_ _ | refine blk_drew ?_ | refine blk_alloc ?_ _)); refine blk_put (cs := #[.int .i64 t296, .int .i64 0]) ?_ 1 _ rfl; (with_reducible repeat (first | refine blk_drewN ?_ _ | refine blk_drew ?_ | refine blk_alloc ?_ _)); refine blk_put (cs := #[.int .i64 0, .int .i64 0]) ?_ 0 _ rfl; (with_reducible repeat (first | refine blk_drewN ?_ _ | refine blk_drew ?_ | refine blk_alloc ?_ _)); exact BK298.out⟩
    have n3_ : Aside0 (Below w.heap.size w ((w26.setCell ⟨g298, 0, none⟩ (.int .i64 t296)).setCell ⟨g298, 1, none⟩ (.int .i64 t297))) := ⟨Hb7⟩
    (try clear BK292)
    (try clear BK293)
    (try clear BK298)
    (try clear HB)
    generalize ((w26.setCell ⟨g298, 0, none⟩ (.int .i64 t296)).setCell ⟨g298, 1, none⟩ (.int .i64 t297)) = w30 at n0_ n1_ n2_ n3_ ⊢
    have BK292 := n0_
    have BK293 := n1_
    have BK298 := n2_
    have HB := n3_
    clear n0_ n1_ n2_ n3_
    replace BK292 := Aa7q (blk_drew BK292.out)
    replace BK293 := Aa7q (blk_drew BK293.out)
    replace BK298 := Aa7q (blk_drew BK298.out)
    replace HB := Aa7q (below_drew1 HB.out)
    refine start_ (n := 15) (S := fun w' => w'.cell? ⟨g292, 0, none⟩ = some (.int .i64 a2_0) ∧ w'.cell? ⟨g292, 1, none⟩ = some (.int .i64 a2_1) ∧ w'.cell? ⟨g298, 0, none⟩ = some (.int .i64 t296) ∧ w'.cell? ⟨g298, 1, none⟩ = some (.int .i64 t297)) (ds := []) #[false, false, false, false, false, false, false, false, false, false, false, false, false, false, false] (by kernel_rfl) rfl rfl ⟨(blk_cell BK292.out 0).trans rfl, (blk_cell BK292.out 1).trans rfl, (blk_cell BK298.out 0).trans rfl, (blk_cell BK298.out 1).trans rfl⟩ (fun hHeld => ?_); refine with_tabW impl_FirstWonOfWinners.tab4 impl_FirstWonOfWinners.bits4 (fun HT_ HW_ => ?_)
    generalize w30.drew = w31 at BK292 BK293 BK298 HB hHeld ⊢
    refine pure_ (i := 1) (N := some 27) (v := ?_) (a' := ?_) #[false, true, false, false, false, false, false, false, false, false, false, false, false, false, false] rfl rfl (any_of HT_.out (by kernel_rfl)) (fun _ _ _ h => h) (Or.inl ⟨by rfl, ?_⟩) ?_ ?_
    rotate_left
    ·
     intro w'
     go_simp
     with_reducible rfl
    rotate_left
    ·
     simp only [Act.put, y1a7, y2a7, y3a7, i64_w, i32_w]
     rfl
    refine pure_ (i := 2) (N := some 28) (v := ?_) (a' := ?_) #[false, true, true, false, false, false, false, false, false, false, false, false, false, false, false] rfl rfl (any_of HT_.out (by kernel_rfl)) (fun _ _ _ h => h) (Or.inl ⟨by rfl, ?_⟩) ?_ ?_
    rotate_left
    ·
     intro w'
     go_simp
     with_reducible rfl
    rotate_left
    ·
     simp only [Act.put, y1a7, y2a7, y3a7, i64_w, i32_w]
     rfl
    refine pure_ (i := 3) (N := some 29) (v := ?_) (a' := ?_) #[false, true, true, true, false, false, false, false, false, false, false, false, false, false, false] rfl rfl (any_of HT_.out (by kernel_rfl)) (fun _ _ _ h => h) (Or.inl ⟨by rfl, ?_⟩) ?_ ?_
    rotate_left
    ·
     intro w'
     go_simp
     with_reducible rfl
    rotate_left
    ·
     simp only [Act.put, y1a7, y2a7, y3a7, i64_w, i32_w]
     rfl
    refine pure_ (i := 7) (N := some 33) (v := ?_) (a' := ?_) #[false, true, true, true, false, false, false, true, false, false, false, false, false, false, false] rfl rfl (any_of HT_.out (by kernel_rfl)) (fun _ _ _ h => h) (Or.inl ⟨by rfl, ?_⟩) ?_ ?_
    rotate_left
    ·
     intro w'
     go_simp
     with_reducible rfl
    rotate_left
    ·
     simp only [Act.put, y1a7, y2a7, y3a7, i64_w, i32_w]
     rfl
    refine pure_ (i := 9) (N := some 35) (v := ?_) (a' := ?_) #[false, true, true, true, false, false, false, true, false, true, false, false, false, false, false] rfl rfl (any_of HT_.out (by kernel_rfl)) (fun _ _ _ h => h) (Or.inl ⟨by rfl, ?_⟩) ?_ ?_
    rotate_left
    ·
     intro w'
     go_simp
     with_reducible rfl
    rotate_left
    ·
     simp only [Act.put, y1a7, y2a7, y3a7, i64_w, i32_w]
     rfl
    refine take_ (i := 0) (N := some 26) (v := ?_) (a' := ?_) #[true, true, true, true, false, false, false, true, false, true, false, false, false, false, false] rfl rfl (take_ofW HT_.out HW_.out (by kernel_rfl)) (fun _ _ _ h => h) (Or.inl ⟨by rfl, ?_⟩) hHeld ?_ ?_
    rotate_left
    ·
     rintro w' ⟨s0, s1, s2, s3⟩
     go_simp
     with_reducible rfl
    rotate_left
    ·
     simp only [Act.put, y1a7, y2a7, y3a7, i64_w, i32_w]
     rfl
    refine take_ (i := 4) (N := some 30) (v := ?_) (a' := ?_) #[true, true, true, true, true, false, false, true, false, true, false, false, false, false, false] rfl rfl (take_ofW HT_.out HW_.out (by kernel_rfl)) (fun _ _ _ h => h) (Or.inl ⟨by rfl, ?_⟩) hHeld ?_ ?_
    rotate_left
    ·
     rintro w' ⟨s0, s1, s2, s3⟩
     go_simp
     with_reducible rfl
    rotate_left
    ·
     simp only [Act.put, y1a7, y2a7, y3a7, i64_w, i32_w]
     rfl
    refine take_ (i := 8) (N := some 34) (v := ?_) (a' := ?_) #[true, true, true, true, true, false, false, true, true, true, false, false, false, false, false] rfl rfl (take_ofW HT_.out HW_.out (by kernel_rfl)) (fun _ _ _ h => h) (Or.inl ⟨by rfl, ?_⟩) hHeld ?_ ?_
    rotate_left
    ·
     rintro w' ⟨s0, s1, s2, s3⟩
     go_simp
     with_reducible rfl
    rotate_left
    ·
     simp only [Act.put, y1a7, y2a7, y3a7, i64_w, i32_w]
     rfl
    refine take_ (i := 10) (N := some 36) (v := ?_) (a' := ?_) #[true, true, true, true, true, false, false, true, true, true, true, false, false, false, false] rfl rfl (take_ofW HT_.out HW_.out (by kernel_rfl)) (fun _ _ _ h => h) (Or.inl ⟨by rfl, ?_⟩) hHeld ?_ ?_
    rotate_left
    ·
     rintro w' ⟨s0, s1, s2, s3⟩
     go_simp
     with_reducible rfl
    rotate_left
    ·
     simp only [Act.put, y1a7, y2a7, y3a7, i64_w, i32_w]
     rfl
    refine pure_ (i := 11) (N := some 37) (v := ?_) (a' := ?_) #[true, true, true, true, true, false, false, true, true, true, true, true, false, false, false] rfl rfl (any_of HT_.out (by kernel_rfl)) (fun _ _ _ h => h) (Or.inl ⟨by rfl, ?_⟩) ?_ ?_
    rotate_left
    ·
     intro w'
     go_simp
     with_reducible rfl
    rotate_left
    ·
     simp only [Act.put, y1a7, y2a7, y3a7, i64_w, i32_w]
     rfl
    refine one_ (i := 5) (N := some 31) #[true, true, true, true, true, true, false, true, true, true, true, true, false, false, false] rfl rfl (one_of HT_.out (by kernel_rfl)) (by decide) (fun K hK => ?_)
    refine goes_ Try.func44 (by kernel_rfl) rfl #[.int .i64 (wrap64 (a0 + 1)), .int .i64 a1, .agg #[.int .i64 a2_0, .int .i64 a2_1]] (by rfl) rfl rfl Za71 ?_
    with_reducible refine (impl_win.calls kj3 (wrap64 (a0 + 1)) a1 a2_0 a2_1 t299 t300 _ A20.out).mono ?_
    rintro e w32 ⟨rfl, hb⟩
    refine ⟨_, rfl, ?_⟩
    replace BK292 := bb7 BK292 Ub7292 hb
    replace BK293 := bb7 BK293 Ub7293 hb
    replace BK298 := bb7 BK298 Ub7298 hb
    replace HB := tb7 Hb7 hb
    (try clear hb)
    (try clear hb2)
    (try clear hk)
    (try clear hi)
    refine hK.out _ _ ⟨(blk_cell BK292.out 0).trans rfl, (blk_cell BK292.out 1).trans rfl, (blk_cell BK298.out 0).trans rfl, (blk_cell BK298.out 1).trans rfl⟩ (fun hHeld => ?_)
    clear hK K
    refine norm_ (a' := ?_) ?_ ?_
    rotate_left
    ·
     show Act.put _ (some 31) _ = _
     simp only [Act.put, y1a7, y2a7, y3a7, i64_w, i32_w]
     rfl
    refine one_ (i := 6) (N := some 32) #[true, true, true, true, true, true, true, true, true, true, true, true, false, false, false] rfl rfl (one_of HT_.out (by kernel_rfl)) (by decide) (fun K hK => ?_)
    refine goes_ Try.func51 (by kernel_rfl) rfl #[.agg #[.int .i64 a2_0, .int .i64 a2_1], .agg #[.int .i64 t299, .int .i64 t300]] (by rfl) rfl rfl Za71 ?_
    with_reducible refine (impl_Ratio_times.calls kj3 a2_0 a2_1 t299 t300 t301 t302 _ A21.out).mono ?_
    rintro e w33 ⟨rfl, hb⟩
    refine ⟨_, rfl, ?_⟩
    replace BK292 := bb7 BK292 Ub7292 hb
    replace BK293 := bb7 BK293 Ub7293 hb
    replace BK298 := bb7 BK298 Ub7298 hb
    replace HB := tb7 Hb7 hb
    (try clear hb)
    (try clear hb2)
    (try clear hk)
    (try clear hi)
    refine hK.out _ _ ⟨(blk_cell BK292.out 0).trans rfl, (blk_cell BK292.out 1).trans rfl, (blk_cell BK298.out 0).trans rfl, (blk_cell BK298.out 1).trans rfl⟩ (fun hHeld => ?_)
    clear hK K
    refine norm_ (a' := ?_) ?_ ?_
    rotate_left
    ·
     show Act.put _ (some 32) _ = _
     simp only [Act.put, y1a7, y2a7, y3a7, i64_w, i32_w]
     rfl
    refine one_ (i := 12) (N := some 38) #[true, true, true, true, true, true, true, true, true, true, true, true, true, false, false] rfl rfl (one_of HT_.out (by kernel_rfl)) (by decide) (fun K hK => ?_)
    refine goes_ Try.func51 (by kernel_rfl) rfl #[.agg #[.int .i64 t301, .int .i64 t302], .agg #[.int .i64 t297, .int .i64 t296]] (by rfl) rfl rfl Za71 ?_
    with_reducible refine (impl_Ratio_times.calls kj3 t301 t302 t297 t296 t303 t304 _ A22.out).mono ?_
    rintro e w34 ⟨rfl, hb⟩
    refine ⟨_, rfl, ?_⟩
    replace BK292 := bb7 BK292 Ub7292 hb
    replace BK293 := bb7 BK293 Ub7293 hb
    replace BK298 := bb7 BK298 Ub7298 hb
    replace HB := tb7 Hb7 hb
    (try clear hb)
    (try clear hb2)
    (try clear hk)
    (try clear hi)
    refine hK.out _ _ ⟨(blk_cell BK292.out 0).trans rfl, (blk_cell BK292.out 1).trans rfl, (blk_cell BK298.out 0).trans rfl, (blk_cell BK298.out 1).trans rfl⟩ (fun hHeld => ?_)
    clear hK K
    refine norm_ (a' := ?_) ?_ ?_
    rotate_left
    ·
     show Act.put _ (some 38) _ = _
     simp only [Act.put, y1a7, y2a7, y3a7, i64_w, i32_w]
     rfl
    refine one_ (i := 13) (N := none) #[true, true, true, true, true, true, true, true, true, true, true, true, true, true, false] rfl rfl (one_of HT_.out (by kernel_rfl)) (by decide) (fun K hK => ?_)
    have hs35 : w34.cell? ⟨g293, 0, none⟩ = some (.int .i64 0) := (blk_cell BK293.out 0).trans rfl
    have hfs35 := blk_frozen BK293.out 0
    have hns35_0 := NB292_293.out
    have hns35_2 := NB298_293.out
    have hms35_0 := NB293_292.out
    have hms35_2 := NB293_298.out
    have hs36 : w34.cell? ⟨g293, 1, none⟩ = some (.int .i64 0) := (blk_cell BK293.out 1).trans rfl
    have hfs36 := blk_frozen BK293.out 1
    have hns36_0 := NB292_293.out
    have hns36_2 := NB298_293.out
    have hms36_0 := NB293_292.out
    have hms36_2 := NB293_298.out
    refine skip_ (w1 := ?_) (by rfl) rfl ?_ ?_
    rotate_left
    ·
     go_simp
     rfl
    refine hK.out _ _ ⟨((cell_far (p := ⟨g293, _, none⟩) NB292_293.out _).trans (((cell_far (p := ⟨g293, _, none⟩) NB292_293.out _).trans (hHeld.1)))), ((cell_far (p := ⟨g293, _, none⟩) NB292_293.out _).trans (((cell_far (p := ⟨g293, _, none⟩) NB292_293.out _).trans (hHeld.2.1)))), ((cell_far (p := ⟨g293, _, none⟩) NB298_293.out _).trans (((cell_far (p := ⟨g293, _, none⟩) NB298_293.out _).trans (hHeld.2.2.1)))), ((cell_far (p := ⟨g293, _, none⟩) NB298_293.out _).trans (((cell_far (p := ⟨g293, _, none⟩) NB298_293.out _).trans (hHeld.2.2.2))))⟩ (fun hHeld => ?_)
    clear hK K
    refine pure_ (i := 14) (N := some 7) (v := ?_) (a' := ?_) #[true, true, true, true, true, true, true, true, true, true, true, true, true, true, true] rfl rfl (any_of HT_.out (by kernel_rfl)) (fun _ _ _ h => h) (Or.inl ⟨by rfl, ?_⟩) ?_ ?_
    rotate_left
    ·
     intro w'
     go_simp
     with_reducible rfl
    rotate_left
    ·
     simp only [Act.put, y1a7, y2a7, y3a7, i64_w, i32_w]
     rfl
    refine done_ (done_of HT_.out (by kernel_rfl)) ?_
    try go_wp2
    refine bodyPost_ret (results_ct rfl _ _ g293 25 #[.int .i64 t303, .int .i64 t304] (0, 0) _ rfl (by (with_reducible repeat (first | refine blk_drewN ?_ _ | refine blk_drew ?_ | refine blk_alloc ?_ _)); refine blk_put (cs := #[.int .i64 t303, .int .i64 0]) ?_ 1 _ rfl; (with_reducible repeat (first | refine blk_drewN ?_ _ | refine blk_drew ?_ | refine blk_alloc ?_ _)); refine blk_put (cs := #[.int .i64 0, .int .i64 0]) ?_ 0 _ rfl; (with_reducible repeat (first | refine blk_drewN ?_ _ | refine blk_drew ?_ | refine blk_alloc ?_ _)); exact BK293.out) Try.underlying25 rfl (by kernel_rfl)) rfl ?_
    exact ⟨by first | rfl | (simp [errW_none, errW_some] <;> rfl) | (simp [*, errW_none, errW_some] <;> rfl), Hb7⟩

end Go.Proofs.Ytfembmnagkdnhaa.OFnRuinAddsUp
