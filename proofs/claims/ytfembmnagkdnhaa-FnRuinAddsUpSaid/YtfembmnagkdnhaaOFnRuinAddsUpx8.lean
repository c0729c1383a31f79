/- The functions that 'FnRuinAddsUp' runs, each as a function over numbers and lists, with the proof that the Go text comes to its answers. No condition. -/
import Derived.Test.YtfembmnagkdnhaaOFnRuinAddsUpx0
import Derived.Test.YtfembmnagkdnhaaOFnRuinAddsUpx3
import Derived.Test.YtfembmnagkdnhaaOFnRuinAddsUpx4
namespace Go.Proofs.Ytfembmnagkdnhaa.OFnRuinAddsUp
open Go.RowKit Go.Proofs.YtfembmnagkdnhaaW.PrintWords Go.Proofs.YtfembmnagkdnhaaW.PrintLast Go.Proofs.YtfembmnagkdnhaaW.PrintMore
attribute [local go_sem] max2_int min2_int max_two min_two max_three min_three max_four min_four   -- for this text's walks alone
set_option linter.unusedVariables false
set_option linter.unusedSimpArgs false

theorem y1a8 {α : Type} (l : List α) (i : Nat) (a : α) : l.toArray.setIfInBounds i a = (l.set i a).toArray := List.setIfInBounds_toArray l i a
theorem y2a8 {α : Type} {x : α} {xs : List α} {b : α} : (x :: xs).set 0 b = b :: xs := List.set_cons_zero
theorem y3a8 {α : Type} {x : α} {xs : List α} {n : Nat} {b : α} : (x :: xs).set (n + 1) b = x :: xs.set n b := List.set_cons_succ
theorem Aa8q {p : Prop} (h : p) : Aside0 p := Aside0.mk h
theorem Za81 {p : Prop} (h : p := by first | (simp only [putAll, Act.put, y1a8, y2a8, y3a8]; done) | (simp only [putAll, Act.put, y1a8, y2a8, y3a8]; rfl)) : p := h
theorem Za82 {p : Prop} (h : p := by (try simp only [List.map_toArray, List.map_cons, List.map_nil]); first | done | rfl | (simp only [List.length_drop, List.length_take]; rfl)) : p := h
theorem Hb8 {p : Prop} (h : p := by repeat (first | (with_reducible first | exact HB.out | apply below_alloc | apply pw_below_drewN | apply below_drew1 | refine below_set ?_ GE305.out | refine below_set ?_ GE306.out | refine below_set ?_ GE313.out | refine below_set ?_ GE314.out | refine below_set ?_ GE317.out) | exact HB.out)) : p := h
theorem bb8 {w0 w w1 : World} {g : Nat} {o : Obj} (_ : Aside0 (w0.heap[g]? = some o)) (h : w.heap[g]? = some o) (hb : Below w.heap.size w w1) : Aside0 (w1.heap[g]? = some o) := Aa8q (blk_below h hb)
theorem nb8 {w0 w : World} {g q : Nat} {o : Obj} (_ : Aside0 (w0.heap[g]? = some o)) (h : w.heap[g]? = some o) (hg : q = w.heap.size) : Aside0 (g ≠ q) := Aa8q (by rw [hg]; exact Nat.ne_of_lt (blk_lt h))
theorem mb8 {w0 w : World} {g q : Nat} {o : Obj} (_ : Aside0 (w0.heap[g]? = some o)) (h : w.heap[g]? = some o) (hg : q = w.heap.size) : Aside0 (q ≠ g) := Aa8q (by rw [hg]; exact Nat.ne_of_gt (blk_lt h))
theorem sb8 {w w1 : World} {q : Nat} (h : Below w.heap.size w w1) (hg : q = w1.heap.size) : Aside0 (w.heap.size ≤ q) := Aa8q (by rw [hg]; exact below_size h)
theorem tb8 {w w1 w2 : World} (h : Below w.heap.size w w1) (hb : Below w1.heap.size w1 w2) : Aside0 (Below w.heap.size w w2) := Aa8q (below_step h hb)
theorem Ub8305 {p : Prop} (h : p := by repeat (first | (with_reducible first | exact BK305.out | refine blk_drewN ?_ _ | refine blk_drew ?_ | refine blk_alloc ?_ _) | refine blk_far ?_ NB305_313.out _ | refine blk_far ?_ NB305_314.out _ | refine blk_far ?_ NB305_317.out _ | exact BK305.out)) : p := h
theorem Ub8306 {p : Prop} (h : p := by repeat (first | (with_reducible first | exact BK306.out | refine blk_drewN ?_ _ | refine blk_drew ?_ | refine blk_alloc ?_ _) | refine blk_far ?_ NB306_313.out _ | refine blk_far ?_ NB306_314.out _ | refine blk_far ?_ NB306_317.out _ | exact BK306.out)) : p := h
theorem Ub8313 {p : Prop} (h : p := by repeat (first | (with_reducible first | exact BK313.out | refine blk_drewN ?_ _ | refine blk_drew ?_ | refine blk_alloc ?_ _) | refine blk_far ?_ NB313_314.out _ | refine blk_far ?_ NB313_317.out _ | exact BK313.out)) : p := h
theorem Ub8314 {p : Prop} (h : p := by repeat (first | (with_reducible first | exact BK314.out | refine blk_drewN ?_ _ | refine blk_drew ?_ | refine blk_alloc ?_ _) | refine blk_far ?_ NB314_313.out _ | refine blk_far ?_ NB314_317.out _ | exact BK314.out)) : p := h
theorem Ub8317 {p : Prop} (h : p := by repeat (first | (with_reducible first | exact BK317.out | refine blk_drewN ?_ _ | refine blk_drew ?_ | refine blk_alloc ?_ _) | exact BK317.out)) : p := h
/-! ### spec_FirstWonOfWinners: function 23 -/
def spec_FirstWonOfWinners.j0 : Nat → Int → Int → Bool → Int → Int → Option (Int × Int × Bool)
  | 0, _, _, _, _, _ => none
  | k + 1, x0, x1, x22, x306000, x306001 => if x22 = true then (some (0, 0, false)) else ((spec_ruWin.f k (wrap64 (x0 + 1)) x1 x306000 x306001).bind fun bt309 => ((spec_ruWin.f k x0 x1 x306000 x306001).bind fun bt311 => ((spec_ruRatio.f k (wrap64 (x306000 * bt309.1)) (wrap64 (x306001 * bt309.2))).bind fun bt315 => ((spec_ruRatio.f k (wrap64 (bt315.1 * bt311.2)) (wrap64 (bt315.2 * bt311.1))).bind fun bt318 => (some (bt318.1, bt318.2, true))))))
def spec_FirstWonOfWinners.f (k : Nat) (a0 : Int) (a1 : Int) (a2_0 : Int) (a2_1 : Int) : Option (Int × Int × Bool) := (spec_ruAsked.f k a0 a1 a2_0 a2_1).bind fun t307 => (if t307 = true then ((spec_l1In.f a0 1 (wrap64 (a1 - 1))).bind fun t308 => (spec_FirstWonOfWinners.j0 k a0 a1 (!t308) a2_0 a2_1)) else (spec_FirstWonOfWinners.j0 k a0 a1 true a2_0 a2_1))
theorem spec_FirstWonOfWinners.mono_l : ∀ k, (∀ y0 y1 y2 y3 y4, LeO (spec_FirstWonOfWinners.j0 k y0 y1 y2 y3 y4) (spec_FirstWonOfWinners.j0 (k + 1) y0 y1 y2 y3 y4))
  | 0 => fun _ _ _ _ _ r h => by simp [spec_FirstWonOfWinners.j0] at h
  | k + 1 => by
    have ih0 := spec_FirstWonOfWinners.mono_l k
    · intro y0 y1 y2 y3 y4
      unfold spec_FirstWonOfWinners.j0
      repeat' first
      | (with_reducible exact ih0 _ _ _ _ _)
      | (with_reducible exact spec_ruAsked.mono _ _ _ _ _)
      | (with_reducible exact spec_ruRatio.mono _ _ _)
      | (with_reducible exact spec_ruWin.mono _ _ _ _ _)
      | (with_reducible exact LeO.refl _)
      | (with_reducible exact LeO.none _)
      | (with_reducible refine LeO.ite ?_ ?_)
      | (with_reducible refine LeO.bind ?_ (fun _ => ?_))
      | exact ih0 _ _ _ _ _
      | exact spec_ruAsked.mono _ _ _ _ _
      | exact spec_ruRatio.mono _ _ _
      | exact spec_ruWin.mono _ _ _ _ _
      | exact LeO.none _
      | refine LeO.ite ?_ ?_
      | refine LeO.bind ?_ (fun _ => ?_)
theorem spec_FirstWonOfWinners.mono : ∀ a0 a1 a2 a3 k, LeO (spec_FirstWonOfWinners.f k a0 a1 a2 a3) (spec_FirstWonOfWinners.f (k + 1) a0 a1 a2 a3) := by
  intro a0 a1 a2 a3 k
  have ih0 := spec_FirstWonOfWinners.mono_l k
  unfold spec_FirstWonOfWinners.f
  repeat' first
      | (with_reducible exact ih0 _ _ _ _ _)
      | (with_reducible exact spec_ruAsked.mono _ _ _ _ _)
      | (with_reducible exact spec_ruRatio.mono _ _ _)
      | (with_reducible exact spec_ruWin.mono _ _ _ _ _)
      | (with_reducible exact LeO.refl _)
      | (with_reducible exact LeO.none _)
      | (with_reducible refine LeO.ite ?_ ?_)
      | (with_reducible refine LeO.bind ?_ (fun _ => ?_))
      | exact ih0 _ _ _ _ _
      | exact spec_ruAsked.mono _ _ _ _ _
      | exact spec_ruRatio.mono _ _ _
      | exact spec_ruWin.mono _ _ _ _ _
      | exact LeO.none _
      | refine LeO.ite ?_ ?_
      | refine LeO.bind ?_ (fun _ => ?_)
def spec_FirstWonOfWinners.T3 : Bool × List (List Nat × List Nat) := (true, [([], []), ([0], [0]), ([], []), ([], []), ([1, 2, 3], [1, 2, 3]), ([], []), ([], []), ([], []), ([5, 6, 7, 4], [5, 6, 7]), ([], []), ([], []), ([9, 4, 8, 0, 1, 2, 3, 4, 9, 10], [4, 9]), ([10, 8, 11, 0, 1, 2, 3, 4, 5, 6, 7, 8, 9, 10, 11], [8, 10])])
def spec_FirstWonOfWinners.B3 : List Nat := [0, 1, 0, 0, 15, 0, 0, 0, 255, 0, 0, 2047, 4095]
theorem spec_FirstWonOfWinners.tab3 : rtab .any (opsOf Try.f23 3) = spec_FirstWonOfWinners.T3 := by kernel_rfl
theorem spec_FirstWonOfWinners.bits3 : waitsOk spec_FirstWonOfWinners.T3.2 spec_FirstWonOfWinners.B3 = true := by kernel_rfl
set_option maxHeartbeats 8000000 in
set_option maxRecDepth 100000 in
theorem spec_FirstWonOfWinners.calls (k : Nat) (a0 : Int) (a1 : Int) (a2_0 : Int) (a2_1 : Int) (r1 : Int) (r2 : Int) (r3 : Bool) (w : World) (h : spec_FirstWonOfWinners.f k a0 a1 a2_0 a2_1 = some (r1, r2, r3)) :
  Calls Try.prog 23 #[.int .i64 a0, .int .i64 a1, .agg #[.int .i64 a2_0, .int .i64 a2_1]] w fun e w' => e = .returned (.tuple #[.agg #[.int .i64 r1, .int .i64 r2], .bool r3]) ∧ Below w.heap.size w w' := by
 have hu25 := Try.underlying25
 have HB := Aa8q (Below.refl w.heap.size w)
 have H : ((spec_ruAsked.f k a0 a1 a2_0 a2_1).bind fun t307 => (if t307 = true then ((spec_l1In.f a0 1 (wrap64 (a1 - 1))).bind fun t308 => (spec_FirstWonOfWinners.j0 k a0 a1 (!t308) a2_0 a2_1)) else (spec_FirstWonOfWinners.j0 k a0 a1 true a2_0 a2_1))) = some (r1, r2, r3) := h
 clear h
 have HC4 := Aa8q H
 clear H
 go_enter Try.func23, Try.ntmps23
 go_upto_region 1 with (first | ((with_reducible refine gate_dst (N := 5) rfl ?_); refine box_event ?hg (N := 5) ?hd (cs := #[.int .i64 a2_0, .int .i64 a2_1]) (t := 25) ?hr ?_; (case hd => rfl); (case hg => rfl); (case hr => first | (go_simp; done) | (go_simp; rfl)); intro g305 hg w5 hbox hb; have BK305 := Aa8q (hbox); have GW305 := sb8 Hb8 hg; have GE305 := sb8 Hb8 hg; replace HB := tb8 Hb8 hb; clear hb hbox hg) | ((with_reducible refine gate_dst (N := 6) rfl ?_); refine box_event ?hg (N := 6) ?hd (cs := #[.int .i64 0, .int .i64 0]) (t := 25) ?hr ?_; (case hd => rfl); (case hg => rfl); (case hr => first | (go_simp; done) | (go_simp; rfl)); intro g306 hg w6 hbox hb; have BK306 := Aa8q (hbox); have GW306 := sb8 Hb8 hg; have GE306 := sb8 Hb8 hg; have NB305_306 := nb8 BK305 Ub8305 hg; have NB306_305 := mb8 BK305 Ub8305 hg; replace BK305 := bb8 BK305 Ub8305 hb; replace HB := tb8 Hb8 hb; clear hb hbox hg))
 (try simp only [Act.put, y1a8, y2a8, y3a8])
 go_cut [22] (fun v22 wc => ∃ (kq : Nat) (x22_3 : Bool), v22 = .bool x22_3 ∧ Aside0 (spec_FirstWonOfWinners.j0 kq a0 a1 x22_3 a2_0 a2_1 = some (r1, r2, r3)) ∧ Aside0 (kq ≤ k) ∧ Aside0 (wc.heap[g305]? = some (.cells #[.int .i64 a2_0, .int .i64 a2_1] 25 (0, 0))) ∧ Aside0 (wc.heap[g306]? = some (.cells #[.int .i64 0, .int .i64 0] 25 (0, 0))) ∧ Aside0 (Below w.heap.size w wc))
 case first =>
  have H := HC4.out
  clear HC4
  replace H := Option.bind_eq_some_iff.mp H
  obtain ⟨t307, A70, H⟩ := H
  replace H : (if t307 = true then ((spec_l1In.f a0 1 (wrap64 (a1 - 1))).bind fun t308 => (spec_FirstWonOfWinners.j0 k a0 a1 (!t308) a2_0 a2_1)) else (spec_FirstWonOfWinners.j0 k a0 a1 true a2_0 a2_1)) = some (r1, r2, r3) := H
  have A7 := Aa8q A70
  clear A70
  by_cases c8 : t307 = true
  ·
   subst c8
   have H1 : ((spec_l1In.f a0 1 (wrap64 (a1 - 1))).bind fun t308 => (spec_FirstWonOfWinners.j0 k a0 a1 (!t308) a2_0 a2_1)) = some (r1, r2, r3) := by rw [if_pos rfl] at H; exact H
   clear H
   have H := H1
   clear H1
   replace H := Option.bind_eq_some_iff.mp H
   obtain ⟨t308, A90, H⟩ := H
   replace H : (spec_FirstWonOfWinners.j0 k a0 a1 (!t308) a2_0 a2_1) = some (r1, r2, r3) := H
   have A9 := Aa8q A90
   clear A90
   have H' := Aa8q H
   clear H
   have hcz11_0 : w6.cell? ⟨g305, 0, none⟩ = some (.int .i64 a2_0) := (blk_cell BK305.out 0).trans rfl
   have hcz11_1 : w6.cell? ⟨g305, 1, none⟩ = some (.int .i64 a2_1) := (blk_cell BK305.out 1).trans rfl
   have hfz11_0 := blk_frozen BK305.out 0
   have hfz11_1 := blk_frozen BK305.out 1
   go_wp2_with (first | ((with_reducible refine gate_callee (f := 41) rfl ?_); refine goesL_ (some 14) rfl rfl Try.func41 (by kernel_rfl) rfl #[.int .i64 a0, .int .i64 a1, .agg #[.int .i64 a2_0, .int .i64 a2_1]] rfl Za82 ?_; (with_reducible refine (spec_ruAsked.calls k a0 a1 a2_0 a2_1 true _ A7.out).mono ?_); rintro e w12 ⟨rfl, hb⟩; refine ⟨_, rfl, ?_⟩; replace BK305 := bb8 BK305 Ub8305 hb; replace BK306 := bb8 BK306 Ub8306 hb; replace HB := tb8 Hb8 hb; (try clear hb); (try clear hb2); (try clear hk); (try clear hi)) | (go_at_call 48; (with_reducible refine (spec_l1In.calls a0 1 (wrap64 (a1 - 1)) t308 _ A9.out).mono ?_); rintro e w' ⟨rfl, ⟨nd, rfl⟩⟩))
   go_meet
   case rel => exact ⟨_, (!t308), (by first | rfl | (simp; done) | (simp [*]; done) | (simp only [i64_w]; done)), H', ⟨by first | omega | exact Nat.le_refl _⟩, ⟨Ub8305⟩, ⟨Ub8306⟩, ⟨Hb8⟩⟩
  ·
   replace c8 := Bool.eq_false_iff.mpr c8
   subst c8
   have H1 : (spec_FirstWonOfWinners.j0 k a0 a1 true a2_0 a2_1) = some (r1, r2, r3) := by rw [if_neg (show ¬ (false = true) by decide)] at H; exact H
   clear H
   have H := H1
   clear H1
   have H' := Aa8q H
   clear H
   have hcz14_0 : w6.cell? ⟨g305, 0, none⟩ = some (.int .i64 a2_0) := (blk_cell BK305.out 0).trans rfl
   have hcz14_1 : w6.cell? ⟨g305, 1, none⟩ = some (.int .i64 a2_1) := (blk_cell BK305.out 1).trans rfl
   have hfz14_0 := blk_frozen BK305.out 0
   have hfz14_1 := blk_frozen BK305.out 1
   go_wp2_with (first | ((with_reducible refine gate_callee (f := 41) rfl ?_); refine goesL_ (some 14) rfl rfl Try.func41 (by kernel_rfl) rfl #[.int .i64 a0, .int .i64 a1, .agg #[.int .i64 a2_0, .int .i64 a2_1]] rfl Za82 ?_; (with_reducible refine (spec_ruAsked.calls k a0 a1 a2_0 a2_1 false _ A7.out).mono ?_); rintro e w15 ⟨rfl, hb⟩; refine ⟨_, rfl, ?_⟩; replace BK305 := bb8 BK305 Ub8305 hb; replace BK306 := bb8 BK306 Ub8306 hb; replace HB := tb8 Hb8 hb; (try clear hb); (try clear hb2); (try clear hk); (try clear hi)))
   go_meet
   case rel => exact ⟨_, (true), (by first | rfl | (simp; done) | (simp [*]; done) | (simp only [i64_w]; done)), H', ⟨by first | omega | exact Nat.le_refl _⟩, ⟨Ub8305⟩, ⟨Ub8306⟩, ⟨Hb8⟩⟩
 case rest =>
  clear HC4
  try clear c1
  try clear c2
  try clear p2
  try clear c4
  try clear p6
  try clear c8
  try clear c10
  try clear c13
  try clear hcz11_0
  try clear hcz11_1
  try clear hcz14_0
  try clear hcz14_1
  try clear hfz11_0
  try clear hfz11_1
  try clear hfz14_0
  try clear hfz14_1
  obtain ⟨kq, x22_3, rfl, HA, HJ3, BK305, BK306, HB⟩ := hcut
  cases kq with
  | zero => exact absurd HA.out (by simp [spec_FirstWonOfWinners.j0])
  | succ kj3 =>
   have H := HA.out
   clear HA
   simp only [spec_FirstWonOfWinners.j0] at H
   by_cases c16 : x22_3 = true
   ·
    subst c16
    have H1 : (some (0, 0, false)) = some (r1, r2, r3) := by rw [if_pos rfl] at H; exact H
    clear H
    have H := H1
    clear H1
    simp only [Option.some.injEq, Prod.mk.injEq] at H
    obtain ⟨rfl, rfl, rfl⟩ := H
    have hcz18_0 : wc.cell? ⟨g306, 0, none⟩ = some (.int .i64 0) := (blk_cell BK306.out 0).trans rfl
    have hcz18_1 : wc.cell? ⟨g306, 1, none⟩ = some (.int .i64 0) := (blk_cell BK306.out 1).trans rfl
    have hfz18_0 := blk_frozen BK306.out 0
    have hfz18_1 := blk_frozen BK306.out 1
    go_wp2
    refine bodyPost_ret (results_ct rfl _ _ g306 25 #[.int .i64 0, .int .i64 0] (0, 0) _ rfl (by (with_reducible repeat (first | refine blk_drewN ?_ _ | refine blk_drew ?_ | refine blk_alloc ?_ _)); refine blk_put (cs := #[.int .i64 0, .int .i64 0]) ?_ 1 _ rfl; (with_reducible repeat (first | refine blk_drewN ?_ _ | refine blk_drew ?_ | refine blk_alloc ?_ _)); refine blk_put (cs := #[.int .i64 0, .int .i64 0]) ?_ 0 _ rfl; (with_reducible repeat (first | refine blk_drewN ?_ _ | refine blk_drew ?_ | refine blk_alloc ?_ _)); exact BK306.out) Try.underlying25 rfl (by kernel_rfl)) rfl ?_
    exact ⟨by first | rfl | (simp [errW_none, errW_some] <;> rfl) | (simp [*, errW_none, errW_some] <;> rfl), Hb8⟩
   ·
    replace c16 := Bool.eq_false_iff.mpr c16
    subst c16
    have H1 : ((spec_ruWin.f kj3 (wrap64 (a0 + 1)) a1 a2_0 a2_1).bind fun bt309 => ((spec_ruWin.f kj3 a0 a1 a2_0 a2_1).bind fun bt311 => ((spec_ruRatio.f kj3 (wrap64 (a2_0 * bt309.1)) (wrap64 (a2_1 * bt309.2))).bind fun bt315 => ((spec_ruRatio.f kj3 (wrap64 (bt315.1 * bt311.2)) (wrap64 (bt315.2 * bt311.1))).bind fun bt318 => (some (bt318.1, bt318.2, true)))))) = some (r1, r2, r3) := by rw [if_neg (show ¬ (false = true) by decide)] at H; exact H
    clear H
    have H := H1
    clear H1
    replace H := Option.bind_eq_some_iff.mp H
    obtain ⟨⟨t309, t310⟩, A190, H⟩ := H
    replace H : ((spec_ruWin.f kj3 a0 a1 a2_0 a2_1).bind fun bt311 => ((spec_ruRatio.f kj3 (wrap64 (a2_0 * t309)) (wrap64 (a2_1 * t310))).bind fun bt315 => ((spec_ruRatio.f kj3 (wrap64 (bt315.1 * bt311.2)) (wrap64 (bt315.2 * bt311.1))).bind fun bt318 => (some (bt318.1, bt318.2, true))))) = some (r1, r2, r3) := H
    have A19 := Aa8q A190
    clear A190
    replace H := Option.bind_eq_some_iff.mp H
    obtain ⟨⟨t311, t312⟩, A200, H⟩ := H
    replace H : ((spec_ruRatio.f kj3 (wrap64 (a2_0 * t309)) (wrap64 (a2_1 * t310))).bind fun bt315 => ((spec_ruRatio.f kj3 (wrap64 (bt315.1 * t312)) (wrap64 (bt315.2 * t311))).bind fun bt318 => (some (bt318.1, bt318.2, true)))) = some (r1, r2, r3) := H
    have A20 := Aa8q A200
    clear A200
    replace H := Option.bind_eq_some_iff.mp H
    obtain ⟨⟨t315, t316⟩, A210, H⟩ := H
    replace H : ((spec_ruRatio.f kj3 (wrap64 (t315 * t312)) (wrap64 (t316 * t311))).bind fun bt318 => (some (bt318.1, bt318.2, true))) = some (r1, r2, r3) := H
    have A21 := Aa8q A210
    clear A210
    replace H := Option.bind_eq_some_iff.mp H
    obtain ⟨⟨t318, t319⟩, A220, H⟩ := H
    replace H : (some (t318, t319, true)) = some (r1, r2, r3) := H
    have A22 := Aa8q A220
    clear A220
    simp only [Option.some.injEq, Prod.mk.injEq] at H
    obtain ⟨rfl, rfl, rfl⟩ := H
    try go_wp2
    replace BK305 := Aa8q (blk_drew BK305.out)
    replace BK306 := Aa8q (blk_drew BK306.out)
    replace HB := Aa8q (below_drew1 HB.out)
    refine start_ (n := 13) (S := fun w' => w'.cell? ⟨g305, 0, none⟩ = some (.int .i64 a2_0) ∧ w'.cell? ⟨g305, 1, none⟩ = some (.int .i64 a2_1)) (ds := []) #[false, false, false, false, false, false, false, false, false, false, false, false, false] (by kernel_rfl) rfl rfl ⟨(blk_cell BK305.out 0).trans rfl, (blk_cell BK305.out 1).trans rfl⟩ (fun hHeld => ?_); refine with_tabW spec_FirstWonOfWinners.tab3 spec_FirstWonOfWinners.bits3 (fun HT_ HW_ => ?_)
    generalize wc.drew = w23 at BK305 BK306 HB hHeld ⊢
    refine pure_ (i := 0) (N := some 24) (v := ?_) (a' := ?_) #[true, false, false, false, false, false, false, false, false, false, false, false, false] rfl rfl (any_of HT_.out (by kernel_rfl)) (fun _ _ _ h => h) (Or.inl ⟨by rfl, ?_⟩) ?_ ?_
    rotate_left
    ·
     intro w'
     go_simp
     with_reducible rfl
    rotate_left
    ·
     simp only [Act.put, y1a8, y2a8, y3a8, i64_w, i32_w]
     rfl
    refine pure_ (i := 1) (N := some 25) (v := ?_) (a' := ?_) #[true, true, false, false, false, false, false, false, false, false, false, false, false] rfl rfl (any_of HT_.out (by kernel_rfl)) (fun _ _ _ h => h) (Or.inl ⟨by rfl, ?_⟩) ?_ ?_
    rotate_left
    ·
     intro w'
     go_simp
     with_reducible rfl
    rotate_left
    ·
     simp only [Act.put, y1a8, y2a8, y3a8, i64_w, i32_w]
     rfl
    refine pure_ (i := 2) (N := some 26) (v := ?_) (a' := ?_) #[true, true, true, false, false, false, false, false, false, false, false, false, false] rfl rfl (any_of HT_.out (by kernel_rfl)) (fun _ _ _ h => h) (Or.inl ⟨by rfl, ?_⟩) ?_ ?_
    rotate_left
    ·
     intro w'
     go_simp
     with_reducible rfl
    rotate_left
    ·
     simp only [Act.put, y1a8, y2a8, y3a8, i64_w, i32_w]
     rfl
    refine pure_ (i := 5) (N := some 29) (v := ?_) (a' := ?_) #[true, true, true, false, false, true, false, false, false, false, false, false, false] rfl rfl (any_of HT_.out (by kernel_rfl)) (fun _ _ _ h => h) (Or.inl ⟨by rfl, ?_⟩) ?_ ?_
    rotate_left
    ·
     intro w'
     go_simp
     with_reducible rfl
    rotate_left
    ·
     simp only [Act.put, y1a8, y2a8, y3a8, i64_w, i32_w]
     rfl
    refine pure_ (i := 6) (N := some 30) (v := ?_) (a' := ?_) #[true, true, true, false, false, true, true, false, false, false, false, false, false] rfl rfl (any_of HT_.out (by kernel_rfl)) (fun _ _ _ h => h) (Or.inl ⟨by rfl, ?_⟩) ?_ ?_
    rotate_left
    ·
     intro w'
     go_simp
     with_reducible rfl
    rotate_left
    ·
     simp only [Act.put, y1a8, y2a8, y3a8, i64_w, i32_w]
     rfl
    refine take_ (i := 3) (N := some 27) (v := ?_) (a' := ?_) #[true, true, true, true, false, true, true, false, false, false, false, false, false] rfl rfl (take_ofW HT_.out HW_.out (by kernel_rfl)) (fun _ _ _ h => h) (Or.inl ⟨by rfl, ?_⟩) hHeld ?_ ?_
    rotate_left
    ·
     rintro w' ⟨s0, s1⟩
     go_simp
     with_reducible rfl
    rotate_left
    ·
     simp only [Act.put, y1a8, y2a8, y3a8, i64_w, i32_w]
     rfl
    refine take_ (i := 7) (N := some 31) (v := ?_) (a' := ?_) #[true, true, true, true, false, true, true, true, false, false, false, false, false] rfl rfl (take_ofW HT_.out HW_.out (by kernel_rfl)) (fun _ _ _ h => h) (Or.inl ⟨by rfl, ?_⟩) hHeld ?_ ?_
    rotate_left
    ·
     rintro w' ⟨s0, s1⟩
     go_simp
     with_reducible rfl
    rotate_left
    ·
     simp only [Act.put, y1a8, y2a8, y3a8, i64_w, i32_w]
     rfl
    refine join_ (σ := Nat × Nat) 2 #[true, true, true, true, true, true, true, true, true, true, true, false, false] (fun s_ => [(28, .agg #[.int .i64 t309, .int .i64 t310]), (32, .agg #[.int .i64 t311, .int .i64 t312]), (8, .pointer (some ⟨s_.1, 0, none⟩)), (9, .pointer (some ⟨s_.2, 0, none⟩))]) (fun s_ w' => (w'.cell? ⟨g305, 0, none⟩ = some (.int .i64 a2_0) ∧ w'.cell? ⟨g305, 1, none⟩ = some (.int .i64 a2_1)) ∧ (w'.heap[g305]? = some (.cells #[.int .i64 a2_0, .int .i64 a2_1] 25 (0, 0))) ∧ (w'.heap[g306]? = some (.cells #[.int .i64 0, .int .i64 0] 25 (0, 0))) ∧ (w'.heap[s_.1]? = some (.cells #[.int .i64 0, .int .i64 0] 25 (0, 0))) ∧ (w'.heap[s_.2]? = some (.cells #[.int .i64 0, .int .i64 0] 25 (0, 0))) ∧ (w.heap.size ≤ s_.1) ∧ (w.heap.size ≤ s_.1) ∧ (g305 ≠ s_.1) ∧ (s_.1 ≠ g305) ∧ (g306 ≠ s_.1) ∧ (s_.1 ≠ g306) ∧ (s_.2 ≠ s_.1) ∧ (s_.1 ≠ s_.2) ∧ (w.heap.size ≤ s_.2) ∧ (w.heap.size ≤ s_.2) ∧ (g305 ≠ s_.2) ∧ (s_.2 ≠ g305) ∧ (g306 ≠ s_.2) ∧ (s_.2 ≠ g306) ∧ (Below w.heap.size w w')) ?_ ?_
    rotate_left
    ·
     intro hJ4_8_9_10
     refine join_ (σ := Nat) 3 #[true, true, true, true, true, true, true, true, true, true, false, false, false] (fun s_ => [(28, .agg #[.int .i64 t309, .int .i64 t310]), (32, .agg #[.int .i64 t311, .int .i64 t312]), (8, .pointer (some ⟨s_, 0, none⟩))]) (fun s_ w' => (w'.cell? ⟨g305, 0, none⟩ = some (.int .i64 a2_0) ∧ w'.cell? ⟨g305, 1, none⟩ = some (.int .i64 a2_1)) ∧ (w'.heap[g305]? = some (.cells #[.int .i64 a2_0, .int .i64 a2_1] 25 (0, 0))) ∧ (w'.heap[g306]? = some (.cells #[.int .i64 0, .int .i64 0] 25 (0, 0))) ∧ (w'.heap[s_]? = some (.cells #[.int .i64 0, .int .i64 0] 25 (0, 0))) ∧ (w.heap.size ≤ s_) ∧ (w.heap.size ≤ s_) ∧ (g305 ≠ s_) ∧ (s_ ≠ g305) ∧ (g306 ≠ s_) ∧ (s_ ≠ g306) ∧ (Below w.heap.size w w')) ?_ ?_
     rotate_left
     ·
      intro hJ4_8_9
      refine join_ (σ := Nat) 3 #[true, true, true, true, true, true, true, true, true, false, true, false, false] (fun s_ => [(28, .agg #[.int .i64 t309, .int .i64 t310]), (32, .agg #[.int .i64 t311, .int .i64 t312]), (9, .pointer (some ⟨s_, 0, none⟩))]) (fun s_ w' => (w'.cell? ⟨g305, 0, none⟩ = some (.int .i64 a2_0) ∧ w'.cell? ⟨g305, 1, none⟩ = some (.int .i64 a2_1)) ∧ (w'.heap[g305]? = some (.cells #[.int .i64 a2_0, .int .i64 a2_1] 25 (0, 0))) ∧ (w'.heap[g306]? = some (.cells #[.int .i64 0, .int .i64 0] 25 (0, 0))) ∧ (w'.heap[s_]? = some (.cells #[.int .i64 0, .int .i64 0] 25 (0, 0))) ∧ (w.heap.size ≤ s_) ∧ (w.heap.size ≤ s_) ∧ (g305 ≠ s_) ∧ (s_ ≠ g305) ∧ (g306 ≠ s_) ∧ (s_ ≠ g306) ∧ (Below w.heap.size w w')) ?_ ?_
      rotate_left
      ·
       intro hJ4_8_10
       refine join_ (σ := Nat × Nat) 3 #[true, true, true, true, true, true, true, true, false, true, true, false, false] (fun s_ => [(28, .agg #[.int .i64 t309, .int .i64 t310]), (8, .pointer (some ⟨s_.1, 0, none⟩)), (9, .pointer (some ⟨s_.2, 0, none⟩))]) (fun s_ w' => (w'.cell? ⟨g305, 0, none⟩ = some (.int .i64 a2_0) ∧ w'.cell? ⟨g305, 1, none⟩ = some (.int .i64 a2_1)) ∧ (w'.heap[g305]? = some (.cells #[.int .i64 a2_0, .int .i64 a2_1] 25 (0, 0))) ∧ (w'.heap[g306]? = some (.cells #[.int .i64 0, .int .i64 0] 25 (0, 0))) ∧ (w'.heap[s_.1]? = some (.cells #[.int .i64 0, .int .i64 0] 25 (0, 0))) ∧ (w'.heap[s_.2]? = some (.cells #[.int .i64 0, .int .i64 0] 25 (0, 0))) ∧ (w.heap.size ≤ s_.1) ∧ (w.heap.size ≤ s_.1) ∧ (g305 ≠ s_.1) ∧ (s_.1 ≠ g305) ∧ (g306 ≠ s_.1) ∧ (s_.1 ≠ g306) ∧ (s_.2 ≠ s_.1) ∧ (s_.1 ≠ s_.2) ∧ (w.heap.size ≤ s_.2) ∧ (w.heap.size ≤ s_.2) ∧ (g305 ≠ s_.2) ∧ (s_.2 ≠ g305) ∧ (g306 ≠ s_.2) ∧ (s_.2 ≠ g306) ∧ (Below w.heap.size w w')) ?_ ?_
       rotate_left
       ·
        intro hJ4_9_10
        refine join_ (σ := Unit) 4 #[true, true, true, true, true, true, true, true, true, false, false, false, false] (fun s_ => [(28, .agg #[.int .i64 t309, .int .i64 t310]), (32, .agg #[.int .i64 t311, .int .i64 t312])]) (fun s_ w' => (w'.cell? ⟨g305, 0, none⟩ = some (.int .i64 a2_0) ∧ w'.cell? ⟨g305, 1, none⟩ = some (.int .i64 a2_1)) ∧ (w'.heap[g305]? = some (.cells #[.int .i64 a2_0, .int .i64 a2_1] 25 (0, 0))) ∧ (w'.heap[g306]? = some (.cells #[.int .i64 0, .int .i64 0] 25 (0, 0))) ∧ (Below w.heap.size w w')) ?_ ?_
        rotate_left
        ·
         intro hJ4_8
         refine join_ (σ := Nat) 4 #[true, true, true, true, true, true, true, true, false, true, false, false, false] (fun s_ => [(28, .agg #[.int .i64 t309, .int .i64 t310]), (8, .pointer (some ⟨s_, 0, none⟩))]) (fun s_ w' => (w'.cell? ⟨g305, 0, none⟩ = some (.int .i64 a2_0) ∧ w'.cell? ⟨g305, 1, none⟩ = some (.int .i64 a2_1)) ∧ (w'.heap[g305]? = some (.cells #[.int .i64 a2_0, .int .i64 a2_1] 25 (0, 0))) ∧ (w'.heap[g306]? = some (.cells #[.int .i64 0, .int .i64 0] 25 (0, 0))) ∧ (w'.heap[s_]? = some (.cells #[.int .i64 0, .int .i64 0] 25 (0, 0))) ∧ (w.heap.size ≤ s_) ∧ (w.heap.size ≤ s_) ∧ (g305 ≠ s_) ∧ (s_ ≠ g305) ∧ (g306 ≠ s_) ∧ (s_ ≠ g306) ∧ (Below w.heap.size w w')) ?_ ?_
         rotate_left
         ·
          intro hJ4_9
          refine join_ (σ := Nat) 4 #[true, true, true, true, true, true, true, true, false, false, true, false, false] (fun s_ => [(28, .agg #[.int .i64 t309, .int .i64 t310]), (9, .pointer (some ⟨s_, 0, none⟩))]) (fun s_ w' => (w'.cell? ⟨g305, 0, none⟩ = some (.int .i64 a2_0) ∧ w'.cell? ⟨g305, 1, none⟩ = some (.int .i64 a2_1)) ∧ (w'.heap[g305]? = some (.cells #[.int .i64 a2_0, .int .i64 a2_1] 25 (0, 0))) ∧ (w'.heap[g306]? = some (.cells #[.int .i64 0, .int .i64 0] 25 (0, 0))) ∧ (w'.heap[s_]? = some (.cells #[.int .i64 0, .int .i64 0] 25 (0, 0))) ∧ (w.heap.size ≤ s_) ∧ (w.heap.size ≤ s_) ∧ (g305 ≠ s_) ∧ (s_ ≠ g305) ∧ (g306 ≠ s_) ∧ (s_ ≠ g306) ∧ (Below w.heap.size w w')) ?_ ?_
          rotate_left
          ·
           intro hJ4_10
           refine join_ (σ := Nat × Nat) 4 #[true, true, true, true, false, true, true, true, false, true, true, false, false] (fun s_ => [(8, .pointer (some ⟨s_.1, 0, none⟩)), (9, .pointer (some ⟨s_.2, 0, none⟩))]) (fun s_ w' => (w'.cell? ⟨g305, 0, none⟩ = some (.int .i64 a2_0) ∧ w'.cell? ⟨g305, 1, none⟩ = some (.int .i64 a2_1)) ∧ (w'.heap[g305]? = some (.cells #[.int .i64 a2_0, .int .i64 a2_1] 25 (0, 0))) ∧ (w'.heap[g306]? = some (.cells #[.int .i64 0, .int .i64 0] 25 (0, 0))) ∧ (w'.heap[s_.1]? = some (.cells #[.int .i64 0, .int .i64 0] 25 (0, 0))) ∧ (w'.heap[s_.2]? = some (.cells #[.int .i64 0, .int .i64 0] 25 (0, 0))) ∧ (w.heap.size ≤ s_.1) ∧ (w.heap.size ≤ s_.1) ∧ (g305 ≠ s_.1) ∧ (s_.1 ≠ g305) ∧ (g306 ≠ s_.1) ∧ (s_.1 ≠ g306) ∧ (s_.2 ≠ s_.1) ∧ (s_.1 ≠ s_.2) ∧ (w.heap.size ≤ s_.2) ∧ (w.heap.size ≤ s_.2) ∧ (g305 ≠ s_.2) ∧ (s_.2 ≠ g305) ∧ (g306 ≠ s_.2) ∧ (s_.2 ≠ g306) ∧ (Below w.heap.size w w')) ?_ ?_
           rotate_left
           ·
            intro hJ9_10
            refine join_ (σ := Unit) 5 #[true, true, true, true, true, true, true, true, false, false, false, false, false] (fun s_ => [(28, .agg #[.int .i64 t309, .int .i64 t310])]) (fun s_ w' => (w'.cell? ⟨g305, 0, none⟩ = some (.int .i64 a2_0) ∧ w'.cell? ⟨g305, 1, none⟩ = some (.int .i64 a2_1)) ∧ (w'.heap[g305]? = some (.cells #[.int .i64 a2_0, .int .i64 a2_1] 25 (0, 0))) ∧ (w'.heap[g306]? = some (.cells #[.int .i64 0, .int .i64 0] 25 (0, 0))) ∧ (Below w.heap.size w w')) ?_ ?_
            rotate_left
            ·
             intro hJ4
             refine join_ (σ := Nat) 5 #[true, true, true, true, false, true, true, true, false, true, false, false, false] (fun s_ => [(8, .pointer (some ⟨s_, 0, none⟩))]) (fun s_ w' => (w'.cell? ⟨g305, 0, none⟩ = some (.int .i64 a2_0) ∧ w'.cell? ⟨g305, 1, none⟩ = some (.int .i64 a2_1)) ∧ (w'.heap[g305]? = some (.cells #[.int .i64 a2_0, .int .i64 a2_1] 25 (0, 0))) ∧ (w'.heap[g306]? = some (.cells #[.int .i64 0, .int .i64 0] 25 (0, 0))) ∧ (w'.heap[s_]? = some (.cells #[.int .i64 0, .int .i64 0] 25 (0, 0))) ∧ (w.heap.size ≤ s_) ∧ (w.heap.size ≤ s_) ∧ (g305 ≠ s_) ∧ (s_ ≠ g305) ∧ (g306 ≠ s_) ∧ (s_ ≠ g306) ∧ (Below w.heap.size w w')) ?_ ?_
             rotate_left
             ·
              intro hJ9
              refine join_ (σ := Nat) 5 #[true, true, true, true, false, true, true, true, false, false, true, false, false] (fun s_ => [(9, .pointer (some ⟨s_, 0, none⟩))]) (fun s_ w' => (w'.cell? ⟨g305, 0, none⟩ = some (.int .i64 a2_0) ∧ w'.cell? ⟨g305, 1, none⟩ = some (.int .i64 a2_1)) ∧ (w'.heap[g305]? = some (.cells #[.int .i64 a2_0, .int .i64 a2_1] 25 (0, 0))) ∧ (w'.heap[g306]? = some (.cells #[.int .i64 0, .int .i64 0] 25 (0, 0))) ∧ (w'.heap[s_]? = some (.cells #[.int .i64 0, .int .i64 0] 25 (0, 0))) ∧ (w.heap.size ≤ s_) ∧ (w.heap.size ≤ s_) ∧ (g305 ≠ s_) ∧ (s_ ≠ g305) ∧ (g306 ≠ s_) ∧ (s_ ≠ g306) ∧ (Below w.heap.size w w')) ?_ ?_
              rotate_left
              ·
               intro hJ10
               refine three_ (i := 4) (j := 9) (k := 10) (Ni := some 28) (Nj := some 8) (Nk := some 9) #[true, true, true, true, true, true, true, true, false, false, false, false, false] #[true, true, true, true, false, true, true, true, false, true, false, false, false] #[true, true, true, true, false, true, true, true, false, false, true, false, false] rfl rfl rfl rfl rfl rfl (three_of HT_.out (by kernel_rfl)) (by decide) (by decide) (by decide) (fun K hK => ?_) (fun K hK => ?_) (fun K hK => ?_)
               ·
                skip
                refine goes_ Try.func50 (by kernel_rfl) rfl #[.int .i64 (wrap64 (a0 + 1)), .int .i64 a1, .agg #[.int .i64 a2_0, .int .i64 a2_1]] (by rfl) rfl rfl Za82 ?_
                with_reducible refine (spec_ruWin.calls kj3 (wrap64 (a0 + 1)) a1 a2_0 a2_1 t309 t310 _ A19.out).mono ?_
                rintro e w24 ⟨rfl, hb⟩
                refine ⟨_, rfl, ?_⟩
                replace BK305 := bb8 BK305 Ub8305 hb
                replace BK306 := bb8 BK306 Ub8306 hb
                replace HB := tb8 Hb8 hb
                (try clear hb)
                (try clear hb2)
                (try clear hk)
                (try clear hi)
                refine hK.out _ _ ⟨(blk_cell BK305.out 0).trans rfl, (blk_cell BK305.out 1).trans rfl⟩ (fun hHeld => ?_)
                clear hK K
                refine norm_ (a' := ?_) ?_ ?_
                rotate_left
                ·
                 show Act.put _ (some 28) _ = _
                 simp only [Act.put, y1a8, y2a8, y3a8, i64_w, i32_w]
                 rfl
                exact norm_ Za81 (hJ4 () _ ⟨hHeld, Ub8305, Ub8306, Hb8⟩)
               ·
                skip
                refine box_step ?hg (N := 8) ?hd (cs := #[.int .i64 0, .int .i64 0]) (t := 25) ?hr ?_; (case hd => rfl); (case hg => rfl); (case hr => first | (go_simp; done) | (go_simp; rfl))
                intro g313 hg w24 hbox hb
                have BK313 := Aa8q (hbox)
                have GW313 := sb8 Hb8 hg
                have GE313 := sb8 Hb8 hg
                have NB305_313 := nb8 BK305 Ub8305 hg
                have NB313_305 := mb8 BK305 Ub8305 hg
                have NB306_313 := nb8 BK306 Ub8306 hg
                have NB313_306 := mb8 BK306 Ub8306 hg
                replace BK305 := bb8 BK305 Ub8305 hb
                replace BK306 := bb8 BK306 Ub8306 hb
                replace HB := tb8 Hb8 hb
                clear hb hbox hg
                refine hK.out _ _ ⟨(blk_cell BK305.out 0).trans rfl, (blk_cell BK305.out 1).trans rfl⟩ (fun hHeld => ?_)
                clear hK K
                refine norm_ (a' := ?_) ?_ ?_
                rotate_left
                ·
                 show Act.put _ (some 8) _ = _
                 simp only [Act.put, y1a8, y2a8, y3a8, i64_w, i32_w]
                 rfl
                exact norm_ Za81 (hJ9 (g313) _ ⟨hHeld, Ub8305, Ub8306, Ub8313, GW313.out, GE313.out, NB305_313.out, NB313_305.out, NB306_313.out, NB313_306.out, Hb8⟩)
               ·
                skip
                refine box_step ?hg (N := 9) ?hd (cs := #[.int .i64 0, .int .i64 0]) (t := 25) ?hr ?_; (case hd => rfl); (case hg => rfl); (case hr => first | (go_simp; done) | (go_simp; rfl))
                intro g314 hg w24 hbox hb
                have BK314 := Aa8q (hbox)
                have GW314 := sb8 Hb8 hg
                have GE314 := sb8 Hb8 hg
                have NB305_314 := nb8 BK305 Ub8305 hg
                have NB314_305 := mb8 BK305 Ub8305 hg
                have NB306_314 := nb8 BK306 Ub8306 hg
                have NB314_306 := mb8 BK306 Ub8306 hg
                replace BK305 := bb8 BK305 Ub8305 hb
                replace BK306 := bb8 BK306 Ub8306 hb
                replace HB := tb8 Hb8 hb
                clear hb hbox hg
                refine hK.out _ _ ⟨(blk_cell BK305.out 0).trans rfl, (blk_cell BK305.out 1).trans rfl⟩ (fun hHeld => ?_)
                clear hK K
                refine norm_ (a' := ?_) ?_ ?_
                rotate_left
                ·
                 show Act.put _ (some 9) _ = _
                 simp only [Act.put, y1a8, y2a8, y3a8, i64_w, i32_w]
                 rfl
                exact norm_ Za81 (hJ10 (g314) _ ⟨hHeld, Ub8305, Ub8306, Ub8314, GW314.out, GE314.out, NB305_314.out, NB314_305.out, NB306_314.out, NB314_306.out, Hb8⟩)
              ·
               skip
               rintro g314 w25 ⟨hS_, h0_, h1_, h2_, h3_, h4_, h5_, h6_, h7_, h8_, h9_⟩
               have n0_ : Aside0 (w25.heap[g305]? = some (.cells #[.int .i64 a2_0, .int .i64 a2_1] 25 (0, 0))) := ⟨h0_⟩
               have n1_ : Aside0 (w25.heap[g306]? = some (.cells #[.int .i64 0, .int .i64 0] 25 (0, 0))) := ⟨h1_⟩
               have BK314 : Aside0 (w25.heap[g314]? = some (.cells #[.int .i64 0, .int .i64 0] 25 (0, 0))) := ⟨h2_⟩
               have GW314 := Aa8q h3_
               have GE314 := Aa8q h4_
               have NB305_314 := Aa8q h5_
               have NB314_305 := Aa8q h6_
               have NB306_314 := Aa8q h7_
               have NB314_306 := Aa8q h8_
               have n9_ : Aside0 (Below w.heap.size w w25) := ⟨h9_⟩
               clear BK305 BK306 HB
               clear h0_ h1_ h2_ h3_ h4_ h5_ h6_ h7_ h8_ h9_
               have BK305 := n0_
               have BK306 := n1_
               have HB := n9_
               clear n0_ n1_ n9_
               have hHeld : w25.cell? ⟨g305, 0, none⟩ = some (.int .i64 a2_0) ∧ w25.cell? ⟨g305, 1, none⟩ = some (.int .i64 a2_1) := hS_
               refine norm_ (a' := ?_) ?_ ?_
               rotate_left
               ·
                simp only [putAll, Act.put, y1a8, y2a8, y3a8]
                rfl
               refine two_ (i := 4) (j := 9) (Ni := some 28) (Nj := some 8) #[true, true, true, true, true, true, true, true, false, false, true, false, false] #[true, true, true, true, false, true, true, true, false, true, true, false, false] rfl rfl rfl rfl (two_of HT_.out (by kernel_rfl)) (by decide) (by decide) (fun K hK => ?_) (fun K hK => ?_)
               ·
                skip
                refine goes_ Try.func50 (by kernel_rfl) rfl #[.int .i64 (wrap64 (a0 + 1)), .int .i64 a1, .agg #[.int .i64 a2_0, .int .i64 a2_1]] (by rfl) rfl rfl Za82 ?_
                with_reducible refine (spec_ruWin.calls kj3 (wrap64 (a0 + 1)) a1 a2_0 a2_1 t309 t310 _ A19.out).mono ?_
                rintro e w26 ⟨rfl, hb⟩
                refine ⟨_, rfl, ?_⟩
                replace BK305 := bb8 BK305 Ub8305 hb
                replace BK306 := bb8 BK306 Ub8306 hb
                replace BK314 := bb8 BK314 Ub8314 hb
                replace HB := tb8 Hb8 hb
                (try clear hb)
                (try clear hb2)
                (try clear hk)
                (try clear hi)
                refine hK.out _ _ ⟨(blk_cell BK305.out 0).trans rfl, (blk_cell BK305.out 1).trans rfl⟩ (fun hHeld => ?_)
                clear hK K
                refine norm_ (a' := ?_) ?_ ?_
                rotate_left
                ·
                 show Act.put _ (some 28) _ = _
                 simp only [Act.put, y1a8, y2a8, y3a8, i64_w, i32_w]
                 rfl
                exact norm_ Za81 (hJ4_10 (g314) _ ⟨hHeld, Ub8305, Ub8306, Ub8314, GW314.out, GE314.out, NB305_314.out, NB314_305.out, NB306_314.out, NB314_306.out, Hb8⟩)
               ·
                skip
                refine box_step ?hg (N := 8) ?hd (cs := #[.int .i64 0, .int .i64 0]) (t := 25) ?hr ?_; (case hd => rfl); (case hg => rfl); (case hr => first | (go_simp; done) | (go_simp; rfl))
                intro g313 hg w26 hbox hb
                have BK313 := Aa8q (hbox)
                have GW313 := sb8 Hb8 hg
                have GE313 := sb8 Hb8 hg
                have NB305_313 := nb8 BK305 Ub8305 hg
                have NB313_305 := mb8 BK305 Ub8305 hg
                have NB306_313 := nb8 BK306 Ub8306 hg
                have NB313_306 := mb8 BK306 Ub8306 hg
                have NB314_313 := nb8 BK314 Ub8314 hg
                have NB313_314 := mb8 BK314 Ub8314 hg
                replace BK305 := bb8 BK305 Ub8305 hb
                replace BK306 := bb8 BK306 Ub8306 hb
                replace BK314 := bb8 BK314 Ub8314 hb
                replace HB := tb8 Hb8 hb
                clear hb hbox hg
                refine hK.out _ _ ⟨(blk_cell BK305.out 0).trans rfl, (blk_cell BK305.out 1).trans rfl⟩ (fun hHeld => ?_)
                clear hK K
                refine norm_ (a' := ?_) ?_ ?_
                rotate_left
                ·
                 show Act.put _ (some 8) _ = _
                 simp only [Act.put, y1a8, y2a8, y3a8, i64_w, i32_w]
                 rfl
                exact norm_ Za81 (hJ9_10 (g313, g314) _ ⟨hHeld, Ub8305, Ub8306, Ub8313, Ub8314, GW313.out, GE313.out, NB305_313.out, NB313_305.out, NB306_313.out, NB313_306.out, NB314_313.out, NB313_314.out, GW314.out, GE314.out, NB305_314.out, NB314_305.out, NB306_314.out, NB314_306.out, Hb8⟩)
             ·
              skip
              rintro g313 w25 ⟨hS_, h0_, h1_, h2_, h3_, h4_, h5_, h6_, h7_, h8_, h9_⟩
              have n0_ : Aside0 (w25.heap[g305]? = some (.cells #[.int .i64 a2_0, .int .i64 a2_1] 25 (0, 0))) := ⟨h0_⟩
              have n1_ : Aside0 (w25.heap[g306]? = some (.cells #[.int .i64 0, .int .i64 0] 25 (0, 0))) := ⟨h1_⟩
              have BK313 : Aside0 (w25.heap[g313]? = some (.cells #[.int .i64 0, .int .i64 0] 25 (0, 0))) := ⟨h2_⟩
              have GW313 := Aa8q h3_
              have GE313 := Aa8q h4_
              have NB305_313 := Aa8q h5_
              have NB313_305 := Aa8q h6_
              have NB306_313 := Aa8q h7_
              have NB313_306 := Aa8q h8_
              have n9_ : Aside0 (Below w.heap.size w w25) := ⟨h9_⟩
              clear BK305 BK306 HB
              clear h0_ h1_ h2_ h3_ h4_ h5_ h6_ h7_ h8_ h9_
              have BK305 := n0_
              have BK306 := n1_
              have HB := n9_
              clear n0_ n1_ n9_
              have hHeld : w25.cell? ⟨g305, 0, none⟩ = some (.int .i64 a2_0) ∧ w25.cell? ⟨g305, 1, none⟩ = some (.int .i64 a2_1) := hS_
              refine norm_ (a' := ?_) ?_ ?_
              rotate_left
              ·
               simp only [putAll, Act.put, y1a8, y2a8, y3a8]
               rfl
              refine two_ (i := 4) (j := 10) (Ni := some 28) (Nj := some 9) #[true, true, true, true, true, true, true, true, false, true, false, false, false] #[true, true, true, true, false, true, true, true, false, true, true, false, false] rfl rfl rfl rfl (two_of HT_.out (by kernel_rfl)) (by decide) (by decide) (fun K hK => ?_) (fun K hK => ?_)
              ·
               skip
               refine goes_ Try.func50 (by kernel_rfl) rfl #[.int .i64 (wrap64 (a0 + 1)), .int .i64 a1, .agg #[.int .i64 a2_0, .int .i64 a2_1]] (by rfl) rfl rfl Za82 ?_
               with_reducible refine (spec_ruWin.calls kj3 (wrap64 (a0 + 1)) a1 a2_0 a2_1 t309 t310 _ A19.out).mono ?_
               rintro e w26 ⟨rfl, hb⟩
               refine ⟨_, rfl, ?_⟩
               replace BK305 := bb8 BK305 Ub8305 hb
               replace BK306 := bb8 BK306 Ub8306 hb
               replace BK313 := bb8 BK313 Ub8313 hb
               replace HB := tb8 Hb8 hb
               (try clear hb)
               (try clear hb2)
               (try clear hk)
               (try clear hi)
               refine hK.out _ _ ⟨(blk_cell BK305.out 0).trans rfl, (blk_cell BK305.out 1).trans rfl⟩ (fun hHeld => ?_)
               clear hK K
               refine norm_ (a' := ?_) ?_ ?_
               rotate_left
               ·
                show Act.put _ (some 28) _ = _
                simp only [Act.put, y1a8, y2a8, y3a8, i64_w, i32_w]
                rfl
               exact norm_ Za81 (hJ4_9 (g313) _ ⟨hHeld, Ub8305, Ub8306, Ub8313, GW313.out, GE313.out, NB305_313.out, NB313_305.out, NB306_313.out, NB313_306.out, Hb8⟩)
              ·
               skip
               refine box_step ?hg (N := 9) ?hd (cs := #[.int .i64 0, .int .i64 0]) (t := 25) ?hr ?_; (case hd => rfl); (case hg => rfl); (case hr => first | (go_simp; done) | (go_simp; rfl))
               intro g314 hg w26 hbox hb
               have BK314 := Aa8q (hbox)
               have GW314 := sb8 Hb8 hg
               have GE314 := sb8 Hb8 hg
               have NB305_314 := nb8 BK305 Ub8305 hg
               have NB314_305 := mb8 BK305 Ub8305 hg
               have NB306_314 := nb8 BK306 Ub8306 hg
               have NB314_306 := mb8 BK306 Ub8306 hg
               have NB313_314 := nb8 BK313 Ub8313 hg
               have NB314_313 := mb8 BK313 Ub8313 hg
               replace BK305 := bb8 BK305 Ub8305 hb
               replace BK306 := bb8 BK306 Ub8306 hb
               replace BK313 := bb8 BK313 Ub8313 hb
               replace HB := tb8 Hb8 hb
               clear hb hbox hg
               refine hK.out _ _ ⟨(blk_cell BK305.out 0).trans rfl, (blk_cell BK305.out 1).trans rfl⟩ (fun hHeld => ?_)
               clear hK K
               refine norm_ (a' := ?_) ?_ ?_
               rotate_left
               ·
                show Act.put _ (some 9) _ = _
                simp only [Act.put, y1a8, y2a8, y3a8, i64_w, i32_w]
                rfl
               exact norm_ Za81 (hJ9_10 (g313, g314) _ ⟨hHeld, Ub8305, Ub8306, Ub8313, Ub8314, GW313.out, GE313.out, NB305_313.out, NB313_305.out, NB306_313.out, NB313_306.out, NB314_313.out, NB313_314.out, GW314.out, GE314.out, NB305_314.out, NB314_305.out, NB306_314.out, NB314_306.out, Hb8⟩)
            ·
             skip
             rintro _ w25 ⟨hS_, h0_, h1_, h2_⟩
             have n0_ : Aside0 (w25.heap[g305]? = some (.cells #[.int .i64 a2_0, .int .i64 a2_1] 25 (0, 0))) := ⟨h0_⟩
             have n1_ : Aside0 (w25.heap[g306]? = some (.cells #[.int .i64 0, .int .i64 0] 25 (0, 0))) := ⟨h1_⟩
             have n2_ : Aside0 (Below w.heap.size w w25) := ⟨h2_⟩
             clear BK305 BK306 HB
             clear h0_ h1_ h2_
             have BK305 := n0_
             have BK306 := n1_
             have HB := n2_
             clear n0_ n1_ n2_
             have hHeld : w25.cell? ⟨g305, 0, none⟩ = some (.int .i64 a2_0) ∧ w25.cell? ⟨g305, 1, none⟩ = some (.int .i64 a2_1) := hS_
             refine norm_ (a' := ?_) ?_ ?_
             rotate_left
             ·
              simp only [putAll, Act.put, y1a8, y2a8, y3a8]
              rfl
             refine three_ (i := 8) (j := 9) (k := 10) (Ni := some 32) (Nj := some 8) (Nk := some 9) #[true, true, true, true, true, true, true, true, true, false, false, false, false] #[true, true, true, true, true, true, true, true, false, true, false, false, false] #[true, true, true, true, true, true, true, true, false, false, true, false, false] rfl rfl rfl rfl rfl rfl (three_of HT_.out (by kernel_rfl)) (by decide) (by decide) (by decide) (fun K hK => ?_) (fun K hK => ?_) (fun K hK => ?_)
             ·
              skip
              refine goes_ Try.func50 (by kernel_rfl) rfl #[.int .i64 a0, .int .i64 a1, .agg #[.int .i64 a2_0, .int .i64 a2_1]] (by rfl) rfl rfl Za82 ?_
              with_reducible refine (spec_ruWin.calls kj3 a0 a1 a2_0 a2_1 t311 t312 _ A20.out).mono ?_
              rintro e w26 ⟨rfl, hb⟩
              refine ⟨_, rfl, ?_⟩
              replace BK305 := bb8 BK305 Ub8305 hb
              replace BK306 := bb8 BK306 Ub8306 hb
              replace HB := tb8 Hb8 hb
              (try clear hb)
              (try clear hb2)
              (try clear hk)
              (try clear hi)
              refine hK.out _ _ ⟨(blk_cell BK305.out 0).trans rfl, (blk_cell BK305.out 1).trans rfl⟩ (fun hHeld => ?_)
              clear hK K
              refine norm_ (a' := ?_) ?_ ?_
              rotate_left
              ·
               show Act.put _ (some 32) _ = _
               simp only [Act.put, y1a8, y2a8, y3a8, i64_w, i32_w]
               rfl
              exact norm_ Za81 (hJ4_8 () _ ⟨hHeld, Ub8305, Ub8306, Hb8⟩)
             ·
              skip
              refine box_step ?hg (N := 8) ?hd (cs := #[.int .i64 0, .int .i64 0]) (t := 25) ?hr ?_; (case hd => rfl); (case hg => rfl); (case hr => first | (go_simp; done) | (go_simp; rfl))
              intro g313 hg w26 hbox hb
              have BK313 := Aa8q (hbox)
              have GW313 := sb8 Hb8 hg
              have GE313 := sb8 Hb8 hg
              have NB305_313 := nb8 BK305 Ub8305 hg
              have NB313_305 := mb8 BK305 Ub8305 hg
              have NB306_313 := nb8 BK306 Ub8306 hg
              have NB313_306 := mb8 BK306 Ub8306 hg
              replace BK305 := bb8 BK305 Ub8305 hb
              replace BK306 := bb8 BK306 Ub8306 hb
              replace HB := tb8 Hb8 hb
              clear hb hbox hg
              refine hK.out _ _ ⟨(blk_cell BK305.out 0).trans rfl, (blk_cell BK305.out 1).trans rfl⟩ (fun hHeld => ?_)
              clear hK K
              refine norm_ (a' := ?_) ?_ ?_
              rotate_left
              ·
               show Act.put _ (some 8) _ = _
               simp only [Act.put, y1a8, y2a8, y3a8, i64_w, i32_w]
               rfl
              exact norm_ Za81 (hJ4_9 (g313) _ ⟨hHeld, Ub8305, Ub8306, Ub8313, GW313.out, GE313.out, NB305_313.out, NB313_305.out, NB306_313.out, NB313_306.out, Hb8⟩)
             ·
              skip
              refine box_step ?hg (N := 9) ?hd (cs := #[.int .i64 0, .int .i64 0]) (t := 25) ?hr ?_; (case hd => rfl); (case hg => rfl); (case hr => first | (go_simp; done) | (go_simp; rfl))
              intro g314 hg w26 hbox hb
              have BK314 := Aa8q (hbox)
              have GW314 := sb8 Hb8 hg
              have GE314 := sb8 Hb8 hg
              have NB305_314 := nb8 BK305 Ub8305 hg
              have NB314_305 := mb8 BK305 Ub8305 hg
              have NB306_314 := nb8 BK306 Ub8306 hg
              have NB314_306 := mb8 BK306 Ub8306 hg
              replace BK305 := bb8 BK305 Ub8305 hb
              replace BK306 := bb8 BK306 Ub8306 hb
              replace HB := tb8 Hb8 hb
              clear hb hbox hg
              refine hK.out _ _ ⟨(blk_cell BK305.out 0).trans rfl, (blk_cell BK305.out 1).trans rfl⟩ (fun hHeld => ?_)
              clear hK K
              refine norm_ (a' := ?_) ?_ ?_
              rotate_left
              ·
               show Act.put _ (some 9) _ = _
               simp only [Act.put, y1a8, y2a8, y3a8, i64_w, i32_w]
               rfl
              exact norm_ Za81 (hJ4_10 (g314) _ ⟨hHeld, Ub8305, Ub8306, Ub8314, GW314.out, GE314.out, NB305_314.out, NB314_305.out, NB306_314.out, NB314_306.out, Hb8⟩)
           ·
            skip
            rintro ⟨g313, g314⟩ w26 ⟨hS_, h0_, h1_, h2_, h3_, h4_, h5_, h6_, h7_, h8_, h9_, h10_, h11_, h12_, h13_, h14_, h15_, h16_, h17_, h18_⟩
            have n0_ : Aside0 (w26.heap[g305]? = some (.cells #[.int .i64 a2_0, .int .i64 a2_1] 25 (0, 0))) := ⟨h0_⟩
            have n1_ : Aside0 (w26.heap[g306]? = some (.cells #[.int .i64 0, .int .i64 0] 25 (0, 0))) := ⟨h1_⟩
            have BK313 : Aside0 (w26.heap[g313]? = some (.cells #[.int .i64 0, .int .i64 0] 25 (0, 0))) := ⟨h2_⟩
            have BK314 : Aside0 (w26.heap[g314]? = some (.cells #[.int .i64 0, .int .i64 0] 25 (0, 0))) := ⟨h3_⟩
            have GW313 := Aa8q h4_
            have GE313 := Aa8q h5_
            have NB305_313 := Aa8q h6_
            have NB313_305 := Aa8q h7_
            have NB306_313 := Aa8q h8_
            have NB313_306 := Aa8q h9_
            have NB314_313 := Aa8q h10_
            have NB313_314 := Aa8q h11_
            have GW314 := Aa8q h12_
            have GE314 := Aa8q h13_
            have NB305_314 := Aa8q h14_
            have NB314_305 := Aa8q h15_
            have NB306_314 := Aa8q h16_
            have NB314_306 := Aa8q h17_
            have n18_ : Aside0 (Below w.heap.size w w26) := ⟨h18_⟩
            clear BK305 BK306 HB
            clear h0_ h1_ h2_ h3_ h4_ h5_ h6_ h7_ h8_ h9_ h10_ h11_ h12_ h13_ h14_ h15_ h16_ h17_ h18_
            have BK305 := n0_
            have BK306 := n1_
            have HB := n18_
            clear n0_ n1_ n18_
            have hHeld : w26.cell? ⟨g305, 0, none⟩ = some (.int .i64 a2_0) ∧ w26.cell? ⟨g305, 1, none⟩ = some (.int .i64 a2_1) := hS_
            refine norm_ (a' := ?_) ?_ ?_
            rotate_left
            ·
             simp only [putAll, Act.put, y1a8, y2a8, y3a8]
             rfl
            refine one_ (i := 4) (N := some 28) #[true, true, true, true, true, true, true, true, false, true, true, false, false] rfl rfl (one_of HT_.out (by kernel_rfl)) (by decide) (fun K hK => ?_)
            refine goes_ Try.func50 (by kernel_rfl) rfl #[.int .i64 (wrap64 (a0 + 1)), .int .i64 a1, .agg #[.int .i64 a2_0, .int .i64 a2_1]] (by rfl) rfl rfl Za82 ?_
            with_reducible refine (spec_ruWin.calls kj3 (wrap64 (a0 + 1)) a1 a2_0 a2_1 t309 t310 _ A19.out).mono ?_
            rintro e w27 ⟨rfl, hb⟩
            refine ⟨_, rfl, ?_⟩
            replace BK305 := bb8 BK305 Ub8305 hb
            replace BK306 := bb8 BK306 Ub8306 hb
            replace BK313 := bb8 BK313 Ub8313 hb
            replace BK314 := bb8 BK314 Ub8314 hb
            replace HB := tb8 Hb8 hb
            (try clear hb)
            (try clear hb2)
            (try clear hk)
            (try clear hi)
            refine hK.out _ _ ⟨(blk_cell BK305.out 0).trans rfl, (blk_cell BK305.out 1).trans rfl⟩ (fun hHeld => ?_)
            clear hK K
            refine norm_ (a' := ?_) ?_ ?_
            rotate_left
            ·
             show Act.put _ (some 28) _ = _
             simp only [Act.put, y1a8, y2a8, y3a8, i64_w, i32_w]
             rfl
            exact norm_ Za81 (hJ4_9_10 (g313, g314) _ ⟨hHeld, Ub8305, Ub8306, Ub8313, Ub8314, GW313.out, GE313.out, NB305_313.out, NB313_305.out, NB306_313.out, NB313_306.out, NB314_313.out, NB313_314.out, GW314.out, GE314.out, NB305_314.out, NB314_305.out, NB306_314.out, NB314_306.out, Hb8⟩)
          ·
           skip
           rintro g314 w26 ⟨hS_, h0_, h1_, h2_, h3_, h4_, h5_, h6_, h7_, h8_, h9_⟩
           have n0_ : Aside0 (w26.heap[g305]? = some (.cells #[.int .i64 a2_0, .int .i64 a2_1] 25 (0, 0))) := ⟨h0_⟩
           have n1_ : Aside0 (w26.heap[g306]? = some (.cells #[.int .i64 0, .int .i64 0] 25 (0, 0))) := ⟨h1_⟩
           have BK314 : Aside0 (w26.heap[g314]? = some (.cells #[.int .i64 0, .int .i64 0] 25 (0, 0))) := ⟨h2_⟩
           have GW314 := Aa8q h3_
           have GE314 := Aa8q h4_
           have NB305_314 := Aa8q h5_
           have NB314_305 := Aa8q h6_
           have NB306_314 := Aa8q h7_
           have NB314_306 := Aa8q h8_
           have n9_ : Aside0 (Below w.heap.size w w26) := ⟨h9_⟩
           clear BK305 BK306 HB
           clear h0_ h1_ h2_ h3_ h4_ h5_ h6_ h7_ h8_ h9_
           have BK305 := n0_
           have BK306 := n1_
           have HB := n9_
           clear n0_ n1_ n9_
           have hHeld : w26.cell? ⟨g305, 0, none⟩ = some (.int .i64 a2_0) ∧ w26.cell? ⟨g305, 1, none⟩ = some (.int .i64 a2_1) := hS_
           refine norm_ (a' := ?_) ?_ ?_
           rotate_left
           ·
            simp only [putAll, Act.put, y1a8, y2a8, y3a8]
            rfl
           refine two_ (i := 8) (j := 9) (Ni := some 32) (Nj := some 8) #[true, true, true, true, true, true, true, true, true, false, true, false, false] #[true, true, true, true, true, true, true, true, false, true, true, false, false] rfl rfl rfl rfl (two_of HT_.out (by kernel_rfl)) (by decide) (by decide) (fun K hK => ?_) (fun K hK => ?_)
           ·
            skip
            refine goes_ Try.func50 (by kernel_rfl) rfl #[.int .i64 a0, .int .i64 a1, .agg #[.int .i64 a2_0, .int .i64 a2_1]] (by rfl) rfl rfl Za82 ?_
            with_reducible refine (spec_ruWin.calls kj3 a0 a1 a2_0 a2_1 t311 t312 _ A20.out).mono ?_
            rintro e w27 ⟨rfl, hb⟩
            refine ⟨_, rfl, ?_⟩
            replace BK305 := bb8 BK305 Ub8305 hb
            replace BK306 := bb8 BK306 Ub8306 hb
            replace BK314 := bb8 BK314 Ub8314 hb
            replace HB := tb8 Hb8 hb
            (try clear hb)
            (try clear hb2)
            (try clear hk)
            (try clear hi)
            refine hK.out _ _ ⟨(blk_cell BK305.out 0).trans rfl, (blk_cell BK305.out 1).trans rfl⟩ (fun hHeld => ?_)
            clear hK K
            refine norm_ (a' := ?_) ?_ ?_
            rotate_left
            ·
             show Act.put _ (some 32) _ = _
             simp only [Act.put, y1a8, y2a8, y3a8, i64_w, i32_w]
             rfl
            exact norm_ Za81 (hJ4_8_10 (g314) _ ⟨hHeld, Ub8305, Ub8306, Ub8314, GW314.out, GE314.out, NB305_314.out, NB314_305.out, NB306_314.out, NB314_306.out, Hb8⟩)
           ·
            skip
            refine box_step ?hg (N := 8) ?hd (cs := #[.int .i64 0, .int .i64 0]) (t := 25) ?hr ?_; (case hd => rfl); (case hg => rfl); (case hr => first | (go_simp; done) | (go_simp; rfl))
            intro g313 hg w27 hbox hb
            have BK313 := Aa8q (hbox)
            have GW313 := sb8 Hb8 hg
            have GE313 := sb8 Hb8 hg
            have NB305_313 := nb8 BK305 Ub8305 hg
            have NB313_305 := mb8 BK305 Ub8305 hg
            have NB306_313 := nb8 BK306 Ub8306 hg
            have NB313_306 := mb8 BK306 Ub8306 hg
            have NB314_313 := nb8 BK314 Ub8314 hg
            have NB313_314 := mb8 BK314 Ub8314 hg
            replace BK305 := bb8 BK305 Ub8305 hb
            replace BK306 := bb8 BK306 Ub8306 hb
            replace BK314 := bb8 BK314 Ub8314 hb
            replace HB := tb8 Hb8 hb
            clear hb hbox hg
            refine hK.out _ _ ⟨(blk_cell BK305.out 0).trans rfl, (blk_cell BK305.out 1).trans rfl⟩ (fun hHeld => ?_)
            clear hK K
            refine norm_ (a' := ?_) ?_ ?_
            rotate_left
            ·
             show Act.put _ (some 8) _ = _
             simp only [Act.put, y1a8, y2a8, y3a8, i64_w, i32_w]
             rfl
            exact norm_ Za81 (hJ4_9_10 (g313, g314) _ ⟨hHeld, Ub8305, Ub8306, Ub8313, Ub8314, GW313.out, GE313.out, NB305_313.out, NB313_305.out, NB306_313.out, NB313_306.out, NB314_313.out, NB313_314.out, GW314.out, GE314.out, NB305_314.out, NB314_305.out, NB306_314.out, NB314_306.out, Hb8⟩)
         ·
          skip
          rintro g313 w26 ⟨hS_, h0_, h1_, h2_, h3_, h4_, h5_, h6_, h7_, h8_, h9_⟩
          have n0_ : Aside0 (w26.heap[g305]? = some (.cells #[.int .i64 a2_0, .int .i64 a2_1] 25 (0, 0))) := ⟨h0_⟩
          have n1_ : Aside0 (w26.heap[g306]? = some (.cells #[.int .i64 0, .int .i64 0] 25 (0, 0))) := ⟨h1_⟩
          have BK313 : Aside0 (w26.heap[g313]? = some (.cells #[.int .i64 0, .int .i64 0] 25 (0, 0))) := ⟨h2_⟩
          have GW313 := Aa8q h3_
          have GE313 := Aa8q h4_
          have NB305_313 := Aa8q h5_
          have NB313_305 := Aa8q h6_
          have NB306_313 := Aa8q h7_
          have NB313_306 := Aa8q h8_
          have n9_ : Aside0 (Below w.heap.size w w26) := ⟨h9_⟩
          clear BK305 BK306 HB
          clear h0_ h1_ h2_ h3_ h4_ h5_ h6_ h7_ h8_ h9_
          have BK305 := n0_
          have BK306 := n1_
          have HB := n9_
          clear n0_ n1_ n9_
          have hHeld : w26.cell? ⟨g305, 0, none⟩ = some (.int .i64 a2_0) ∧ w26.cell? ⟨g305, 1, none⟩ = some (.int .i64 a2_1) := hS_
          refine norm_ (a' := ?_) ?_ ?_
          rotate_left
          ·
           simp only [putAll, Act.put, y1a8, y2a8, y3a8]
           rfl
          refine two_ (i := 8) (j := 10) (Ni := some 32) (Nj := some 9) #[true, true, true, true, true, true, true, true, true, true, false, false, false] #[true, true, true, true, true, true, true, true, false, true, true, false, false] rfl rfl rfl rfl (two_of HT_.out (by kernel_rfl)) (by decide) (by decide) (fun K hK => ?_) (fun K hK => ?_)
          ·
           skip
           refine goes_ Try.func50 (by kernel_rfl) rfl #[.int .i64 a0, .int .i64 a1, .agg #[.int .i64 a2_0, .int .i64 a2_1]] (by rfl) rfl rfl Za82 ?_
           with_reducible refine (spec_ruWin.calls kj3 a0 a1 a2_0 a2_1 t311 t312 _ A20.out).mono ?_
           rintro e w27 ⟨rfl, hb⟩
           refine ⟨_, rfl, ?_⟩
           replace BK305 := bb8 BK305 Ub8305 hb
           replace BK306 := bb8 BK306 Ub8306 hb
           replace BK313 := bb8 BK313 Ub8313 hb
           replace HB := tb8 Hb8 hb
           (try clear hb)
           (try clear hb2)
           (try clear hk)
           (try clear hi)
           refine hK.out _ _ ⟨(blk_cell BK305.out 0).trans rfl, (blk_cell BK305.out 1).trans rfl⟩ (fun hHeld => ?_)
           clear hK K
           refine norm_ (a' := ?_) ?_ ?_
           rotate_left
           ·
            show Act.put _ (some 32) _ = _
            simp only [Act.put, y1a8, y2a8, y3a8, i64_w, i32_w]
            rfl
           exact norm_ Za81 (hJ4_8_9 (g313) _ ⟨hHeld, Ub8305, Ub8306, Ub8313, GW313.out, GE313.out, NB305_313.out, NB313_305.out, NB306_313.out, NB313_306.out, Hb8⟩)
          ·
           skip
           refine box_step ?hg (N := 9) ?hd (cs := #[.int .i64 0, .int .i64 0]) (t := 25) ?hr ?_; (case hd => rfl); (case hg => rfl); (case hr => first | (go_simp; done) | (go_simp; rfl))
           intro g314 hg w27 hbox hb
           have BK314 := Aa8q (hbox)
           have GW314 := sb8 Hb8 hg
           have GE314 := sb8 Hb8 hg
           have NB305_314 := nb8 BK305 Ub8305 hg
           have NB314_305 := mb8 BK305 Ub8305 hg
           have NB306_314 := nb8 BK306 Ub8306 hg
           have NB314_306 := mb8 BK306 Ub8306 hg
           have NB313_314 := nb8 BK313 Ub8313 hg
           have NB314_313 := mb8 BK313 Ub8313 hg
           replace BK305 := bb8 BK305 Ub8305 hb
           replace BK306 := bb8 BK306 Ub8306 hb
           replace BK313 := bb8 BK313 Ub8313 hb
           replace HB := tb8 Hb8 hb
           clear hb hbox hg
           refine hK.out _ _ ⟨(blk_cell BK305.out 0).trans rfl, (blk_cell BK305.out 1).trans rfl⟩ (fun hHeld => ?_)
           clear hK K
           refine norm_ (a' := ?_) ?_ ?_
           rotate_left
           ·
            show Act.put _ (some 9) _ = _
            simp only [Act.put, y1a8, y2a8, y3a8, i64_w, i32_w]
            rfl
           exact norm_ Za81 (hJ4_9_10 (g313, g314) _ ⟨hHeld, Ub8305, Ub8306, Ub8313, Ub8314, GW313.out, GE313.out, NB305_313.out, NB313_305.out, NB306_313.out, NB313_306.out, NB314_313.out, NB313_314.out, GW314.out, GE314.out, NB305_314.out, NB314_305.out, NB306_314.out, NB314_306.out, Hb8⟩)
        ·
         skip
         rintro _ w26 ⟨hS_, h0_, h1_, h2_⟩
         have n0_ : Aside0 (w26.heap[g305]? = some (.cells #[.int .i64 a2_0, .int .i64 a2_1] 25 (0, 0))) := ⟨h0_⟩
         have n1_ : Aside0 (w26.heap[g306]? = some (.cells #[.int .i64 0, .int .i64 0] 25 (0, 0))) := ⟨h1_⟩
         have n2_ : Aside0 (Below w.heap.size w w26) := ⟨h2_⟩
         clear BK305 BK306 HB
         clear h0_ h1_ h2_
         have BK305 := n0_
         have BK306 := n1_
         have HB := n2_
         clear n0_ n1_ n2_
         have hHeld : w26.cell? ⟨g305, 0, none⟩ = some (.int .i64 a2_0) ∧ w26.cell? ⟨g305, 1, none⟩ = some (.int .i64 a2_1) := hS_
         refine norm_ (a' := ?_) ?_ ?_
         rotate_left
         ·
          simp only [putAll, Act.put, y1a8, y2a8, y3a8]
          rfl
         refine two_ (i := 9) (j := 10) (Ni := some 8) (Nj := some 9) #[true, true, true, true, true, true, true, true, true, true, false, false, false] #[true, true, true, true, true, true, true, true, true, false, true, false, false] rfl rfl rfl rfl (two_of HT_.out (by kernel_rfl)) (by decide) (by decide) (fun K hK => ?_) (fun K hK => ?_)
         ·
          skip
          refine box_step ?hg (N := 8) ?hd (cs := #[.int .i64 0, .int .i64 0]) (t := 25) ?hr ?_; (case hd => rfl); (case hg => rfl); (case hr => first | (go_simp; done) | (go_simp; rfl))
          intro g313 hg w27 hbox hb
          have BK313 := Aa8q (hbox)
          have GW313 := sb8 Hb8 hg
          have GE313 := sb8 Hb8 hg
          have NB305_313 := nb8 BK305 Ub8305 hg
          have NB313_305 := mb8 BK305 Ub8305 hg
          have NB306_313 := nb8 BK306 Ub8306 hg
          have NB313_306 := mb8 BK306 Ub8306 hg
          replace BK305 := bb8 BK305 Ub8305 hb
          replace BK306 := bb8 BK306 Ub8306 hb
          replace HB := tb8 Hb8 hb
          clear hb hbox hg
          refine hK.out _ _ ⟨(blk_cell BK305.out 0).trans rfl, (blk_cell BK305.out 1).trans rfl⟩ (fun hHeld => ?_)
          clear hK K
          refine norm_ (a' := ?_) ?_ ?_
          rotate_left
          ·
           show Act.put _ (some 8) _ = _
           simp only [Act.put, y1a8, y2a8, y3a8, i64_w, i32_w]
           rfl
          exact norm_ Za81 (hJ4_8_9 (g313) _ ⟨hHeld, Ub8305, Ub8306, Ub8313, GW313.out, GE313.out, NB305_313.out, NB313_305.out, NB306_313.out, NB313_306.out, Hb8⟩)
         ·
          skip
          refine box_step ?hg (N := 9) ?hd (cs := #[.int .i64 0, .int .i64 0]) (t := 25) ?hr ?_; (case hd => rfl); (case hg => rfl); (case hr => first | (go_simp; done) | (go_simp; rfl))
          intro g314 hg w27 hbox hb
          have BK314 := Aa8q (hbox)
          have GW314 := sb8 Hb8 hg
          have GE314 := sb8 Hb8 hg
          have NB305_314 := nb8 BK305 Ub8305 hg
          have NB314_305 := mb8 BK305 Ub8305 hg
          have NB306_314 := nb8 BK306 Ub8306 hg
          have NB314_306 := mb8 BK306 Ub8306 hg
          replace BK305 := bb8 BK305 Ub8305 hb
          replace BK306 := bb8 BK306 Ub8306 hb
          replace HB := tb8 Hb8 hb
          clear hb hbox hg
          refine hK.out _ _ ⟨(blk_cell BK305.out 0).trans rfl, (blk_cell BK305.out 1).trans rfl⟩ (fun hHeld => ?_)
          clear hK K
          refine norm_ (a' := ?_) ?_ ?_
          rotate_left
          ·
           show Act.put _ (some 9) _ = _
           simp only [Act.put, y1a8, y2a8, y3a8, i64_w, i32_w]
           rfl
          exact norm_ Za81 (hJ4_8_10 (g314) _ ⟨hHeld, Ub8305, Ub8306, Ub8314, GW314.out, GE314.out, NB305_314.out, NB314_305.out, NB306_314.out, NB314_306.out, Hb8⟩)
       ·
        skip
        rintro ⟨g313, g314⟩ w27 ⟨hS_, h0_, h1_, h2_, h3_, h4_, h5_, h6_, h7_, h8_, h9_, h10_, h11_, h12_, h13_, h14_, h15_, h16_, h17_, h18_⟩
        have n0_ : Aside0 (w27.heap[g305]? = some (.cells #[.int .i64 a2_0, .int .i64 a2_1] 25 (0, 0))) := ⟨h0_⟩
        have n1_ : Aside0 (w27.heap[g306]? = some (.cells #[.int .i64 0, .int .i64 0] 25 (0, 0))) := ⟨h1_⟩
        have BK313 : Aside0 (w27.heap[g313]? = some (.cells #[.int .i64 0, .int .i64 0] 25 (0, 0))) := ⟨h2_⟩
        have BK314 : Aside0 (w27.heap[g314]? = some (.cells #[.int .i64 0, .int .i64 0] 25 (0, 0))) := ⟨h3_⟩
        have GW313 := Aa8q h4_
        have GE313 := Aa8q h5_
        have NB305_313 := Aa8q h6_
        have NB313_305 := Aa8q h7_
        have NB306_313 := Aa8q h8_
        have NB313_306 := Aa8q h9_
        have NB314_313 := Aa8q h10_
        have NB313_314 := Aa8q h11_
        have GW314 := Aa8q h12_
        have GE314 := Aa8q h13_
        have NB305_314 := Aa8q h14_
        have NB314_305 := Aa8q h15_
        have NB306_314 := Aa8q h16_
        have NB314_306 := Aa8q h17_
        have n18_ : Aside0 (Below w.heap.size w w27) := ⟨h18_⟩
        clear BK305 BK306 HB
        clear h0_ h1_ h2_ h3_ h4_ h5_ h6_ h7_ h8_ h9_ h10_ h11_ h12_ h13_ h14_ h15_ h16_ h17_ h18_
        have BK305 := n0_
        have BK306 := n1_
        have HB := n18_
        clear n0_ n1_ n18_
        have hHeld : w27.cell? ⟨g305, 0, none⟩ = some (.int .i64 a2_0) ∧ w27.cell? ⟨g305, 1, none⟩ = some (.int .i64 a2_1) := hS_
        refine norm_ (a' := ?_) ?_ ?_
        rotate_left
        ·
         simp only [putAll, Act.put, y1a8, y2a8, y3a8]
         rfl
        refine one_ (i := 8) (N := some 32) #[true, true, true, true, true, true, true, true, true, true, true, false, false] rfl rfl (one_of HT_.out (by kernel_rfl)) (by decide) (fun K hK => ?_)
        refine goes_ Try.func50 (by kernel_rfl) rfl #[.int .i64 a0, .int .i64 a1, .agg #[.int .i64 a2_0, .int .i64 a2_1]] (by rfl) rfl rfl Za82 ?_
        with_reducible refine (spec_ruWin.calls kj3 a0 a1 a2_0 a2_1 t311 t312 _ A20.out).mono ?_
        rintro e w28 ⟨rfl, hb⟩
        refine ⟨_, rfl, ?_⟩
        replace BK305 := bb8 BK305 Ub8305 hb
        replace BK306 := bb8 BK306 Ub8306 hb
        replace BK313 := bb8 BK313 Ub8313 hb
        replace BK314 := bb8 BK314 Ub8314 hb
        replace HB := tb8 Hb8 hb
        (try clear hb)
        (try clear hb2)
        (try clear hk)
        (try clear hi)
        refine hK.out _ _ ⟨(blk_cell BK305.out 0).trans rfl, (blk_cell BK305.out 1).trans rfl⟩ (fun hHeld => ?_)
        clear hK K
        refine norm_ (a' := ?_) ?_ ?_
        rotate_left
        ·
         show Act.put _ (some 32) _ = _
         simp only [Act.put, y1a8, y2a8, y3a8, i64_w, i32_w]
         rfl
        exact norm_ Za81 (hJ4_8_9_10 (g313, g314) _ ⟨hHeld, Ub8305, Ub8306, Ub8313, Ub8314, GW313.out, GE313.out, NB305_313.out, NB313_305.out, NB306_313.out, NB313_306.out, NB314_313.out, NB313_314.out, GW314.out, GE314.out, NB305_314.out, NB314_305.out, NB306_314.out, NB314_306.out, Hb8⟩)
      ·
       skip
       rintro g314 w27 ⟨hS_, h0_, h1_, h2_, h3_, h4_, h5_, h6_, h7_, h8_, h9_⟩
       have n0_ : Aside0 (w27.heap[g305]? = some (.cells #[.int .i64 a2_0, .int .i64 a2_1] 25 (0, 0))) := ⟨h0_⟩
       have n1_ : Aside0 (w27.heap[g306]? = some (.cells #[.int .i64 0, .int .i64 0] 25 (0, 0))) := ⟨h1_⟩
       have BK314 : Aside0 (w27.heap[g314]? = some (.cells #[.int .i64 0, .int .i64 0] 25 (0, 0))) := ⟨h2_⟩
       have GW314 := Aa8q h3_
       have GE314 := Aa8q h4_
       have NB305_314 := Aa8q h5_
       have NB314_305 := Aa8q h6_
       have NB306_314 := Aa8q h7_
       have NB314_306 := Aa8q h8_
       have n9_ : Aside0 (Below w.heap.size w w27) := ⟨h9_⟩
       clear BK305 BK306 HB
       clear h0_ h1_ h2_ h3_ h4_ h5_ h6_ h7_ h8_ h9_
       have BK305 := n0_
       have BK306 := n1_
       have HB := n9_
       clear n0_ n1_ n9_
       have hHeld : w27.cell? ⟨g305, 0, none⟩ = some (.int .i64 a2_0) ∧ w27.cell? ⟨g305, 1, none⟩ = some (.int .i64 a2_1) := hS_
       refine norm_ (a' := ?_) ?_ ?_
       rotate_left
       ·
        simp only [putAll, Act.put, y1a8, y2a8, y3a8]
        rfl
       refine one_ (i := 9) (N := some 8) #[true, true, true, true, true, true, true, true, true, true, true, false, false] rfl rfl (one_of HT_.out (by kernel_rfl)) (by decide) (fun K hK => ?_)
       refine box_step ?hg (N := 8) ?hd (cs := #[.int .i64 0, .int .i64 0]) (t := 25) ?hr ?_; (case hd => rfl); (case hg => rfl); (case hr => first | (go_simp; done) | (go_simp; rfl))
       intro g313 hg w28 hbox hb
       have BK313 := Aa8q (hbox)
       have GW313 := sb8 Hb8 hg
       have GE313 := sb8 Hb8 hg
       have NB305_313 := nb8 BK305 Ub8305 hg
       have NB313_305 := mb8 BK305 Ub8305 hg
       have NB306_313 := nb8 BK306 Ub8306 hg
       have NB313_306 := mb8 BK306 Ub8306 hg
       have NB314_313 := nb8 BK314 Ub8314 hg
       have NB313_314 := mb8 BK314 Ub8314 hg
       replace BK305 := bb8 BK305 Ub8305 hb
       replace BK306 := bb8 BK306 Ub8306 hb
       replace BK314 := bb8 BK314 Ub8314 hb
       replace HB := tb8 Hb8 hb
       clear hb hbox hg
       refine hK.out _ _ ⟨(blk_cell BK305.out 0).trans rfl, (blk_cell BK305.out 1).trans rfl⟩ (fun hHeld => ?_)
       clear hK K
       refine norm_ (a' := ?_) ?_ ?_
       rotate_left
       ·
        show Act.put _ (some 8) _ = _
        simp only [Act.put, y1a8, y2a8, y3a8, i64_w, i32_w]
        rfl
       exact norm_ Za81 (hJ4_8_9_10 (g313, g314) _ ⟨hHeld, Ub8305, Ub8306, Ub8313, Ub8314, GW313.out, GE313.out, NB305_313.out, NB313_305.out, NB306_313.out, NB313_306.out, NB314_313.out, NB313_314.out, GW314.out, GE314.out, NB305_314.out, NB314_305.out, NB306_314.out, NB314_306.out, Hb8⟩)
     ·
      skip
      rintro g313 w27 ⟨hS_, h0_, h1_, h2_, h3_, h4_, h5_, h6_, h7_, h8_, h9_⟩
      have n0_ : Aside0 (w27.heap[g305]? = some (.cells #[.int .i64 a2_0, .int .i64 a2_1] 25 (0, 0))) := ⟨h0_⟩
      have n1_ : Aside0 (w27.heap[g306]? = some (.cells #[.int .i64 0, .int .i64 0] 25 (0, 0))) := ⟨h1_⟩
      have BK313 : Aside0 (w27.heap[g313]? = some (.cells #[.int .i64 0, .int .i64 0] 25 (0, 0))) := ⟨h2_⟩
      have GW313 := Aa8q h3_
      have GE313 := Aa8q h4_
      have NB305_313 := Aa8q h5_
      have NB313_305 := Aa8q h6_
      have NB306_313 := Aa8q h7_
      have NB313_306 := Aa8q h8_
      have n9_ : Aside0 (Below w.heap.size w w27) := ⟨h9_⟩
      clear BK305 BK306 HB
      clear h0_ h1_ h2_ h3_ h4_ h5_ h6_ h7_ h8_ h9_
      have BK305 := n0_
      have BK306 := n1_
      have HB := n9_
      clear n0_ n1_ n9_
      have hHeld : w27.cell? ⟨g305, 0, none⟩ = some (.int .i64 a2_0) ∧ w27.cell? ⟨g305, 1, none⟩ = some (.int .i64 a2_1) := hS_
      refine norm_ (a' := ?_) ?_ ?_
      rotate_left
      ·
       simp only [putAll, Act.put, y1a8, y2a8, y3a8]
       rfl
      refine one_ (i := 10) (N := some 9) #[true, true, true, true, true, true, true, true, true, true, true, false, false] rfl rfl (one_of HT_.out (by kernel_rfl)) (by decide) (fun K hK => ?_)
      refine box_step ?hg (N := 9) ?hd (cs := #[.int .i64 0, .int .i64 0]) (t := 25) ?hr ?_; (case hd => rfl); (case hg => rfl); (case hr => first | (go_simp; done) | (go_simp; rfl))
      intro g314 hg w28 hbox hb
      have BK314 := Aa8q (hbox)
      have GW314 := sb8 Hb8 hg
      have GE314 := sb8 Hb8 hg
      have NB305_314 := nb8 BK305 Ub8305 hg
      have NB314_305 := mb8 BK305 Ub8305 hg
      have NB306_314 := nb8 BK306 Ub8306 hg
      have NB314_306 := mb8 BK306 Ub8306 hg
      have NB313_314 := nb8 BK313 Ub8313 hg
      have NB314_313 := mb8 BK313 Ub8313 hg
      replace BK305 := bb8 BK305 Ub8305 hb
      replace BK306 := bb8 BK306 Ub8306 hb
      replace BK313 := bb8 BK313 Ub8313 hb
      replace HB := tb8 Hb8 hb
      clear hb hbox hg
      refine hK.out _ _ ⟨(blk_cell BK305.out 0).trans rfl, (blk_cell BK305.out 1).trans rfl⟩ (fun hHeld => ?_)
      clear hK K
      refine norm_ (a' := ?_) ?_ ?_
      rotate_left
      ·
       show Act.put _ (some 9) _ = _
       simp only [Act.put, y1a8, y2a8, y3a8, i64_w, i32_w]
       rfl
      exact norm_ Za81 (hJ4_8_9_10 (g313, g314) _ ⟨hHeld, Ub8305, Ub8306, Ub8313, Ub8314, GW313.out, GE313.out, NB305_313.out, NB313_305.out, NB306_313.out, NB313_306.out, NB314_313.out, NB313_314.out, GW314.out, GE314.out, NB305_314.out, NB314_305.out, NB306_314.out, NB314_306.out, Hb8⟩)
    rintro ⟨g313, g314⟩ w28 ⟨hS_, h0_, h1_, h2_, h3_, h4_, h5_, h6_, h7_, h8_, h9_, h10_, h11_, h12_, h13_, h14_, h15_, h16_, h17_, h18_⟩
    have n0_ : Aside0 (w28.heap[g305]? = some (.cells #[.int .i64 a2_0, .int .i64 a2_1] 25 (0, 0))) := ⟨h0_⟩
    have n1_ : Aside0 (w28.heap[g306]? = some (.cells #[.int .i64 0, .int .i64 0] 25 (0, 0))) := ⟨h1_⟩
    have BK313 : Aside0 (w28.heap[g313]? = some (.cells #[.int .i64 0, .int .i64 0] 25 (0, 0))) := ⟨h2_⟩
    have BK314 : Aside0 (w28.heap[g314]? = some (.cells #[.int .i64 0, .int .i64 0] 25 (0, 0))) := ⟨h3_⟩
    have GW313 := Aa8q h4_
    have GE313 := Aa8q h5_
    have NB305_313 := Aa8q h6_
    have NB313_305 := Aa8q h7_
    have NB306_313 := Aa8q h8_
    have NB313_306 := Aa8q h9_
    have NB314_313 := Aa8q h10_
    have NB313_314 := Aa8q h11_
    have GW314 := Aa8q h12_
    have GE314 := Aa8q h13_
    have NB305_314 := Aa8q h14_
    have NB314_305 := Aa8q h15_
    have NB306_314 := Aa8q h16_
    have NB314_306 := Aa8q h17_
    have n18_ : Aside0 (Below w.heap.size w w28) := ⟨h18_⟩
    clear BK305 BK306 HB
    clear h0_ h1_ h2_ h3_ h4_ h5_ h6_ h7_ h8_ h9_ h10_ h11_ h12_ h13_ h14_ h15_ h16_ h17_ h18_
    have BK305 := n0_
    have BK306 := n1_
    have HB := n18_
    clear n0_ n1_ n18_
    have hHeld : w28.cell? ⟨g305, 0, none⟩ = some (.int .i64 a2_0) ∧ w28.cell? ⟨g305, 1, none⟩ = some (.int .i64 a2_1) := hS_
    refine norm_ (a' := ?_) ?_ ?_
    rotate_left
    ·
     simp only [putAll, Act.put, y1a8, y2a8, y3a8]
     rfl
    refine one_ (i := 11) (N := none) #[true, true, true, true, true, true, true, true, true, true, true, true, false] rfl rfl (one_of HT_.out (by kernel_rfl)) (by decide) (fun K hK => ?_)
    have hs29 : w28.cell? ⟨g313, 0, none⟩ = some (.int .i64 0) := (blk_cell BK313.out 0).trans rfl
    have hfs29 := blk_frozen BK313.out 0
    have hns29_0 := NB305_313.out
    have hns29_1 := NB306_313.out
    have hns29_3 := NB314_313.out
    have hms29_0 := NB313_305.out
    have hms29_1 := NB313_306.out
    have hms29_3 := NB313_314.out
    have hs30 : w28.cell? ⟨g313, 1, none⟩ = some (.int .i64 0) := (blk_cell BK313.out 1).trans rfl
    have hfs30 := blk_frozen BK313.out 1
    have hns30_0 := NB305_313.out
    have hns30_1 := NB306_313.out
    have hns30_3 := NB314_313.out
    have hms30_0 := NB313_305.out
    have hms30_1 := NB313_306.out
    have hms30_3 := NB313_314.out
    refine skip_ (w1 := ?_) (by rfl) rfl ?_ ?_
    rotate_left
    ·
     go_simp
     rfl
    refine hK.out _ _ ⟨((cell_far (p := ⟨g313, _, none⟩) NB305_313.out _).trans (((cell_far (p := ⟨g313, _, none⟩) NB305_313.out _).trans (hHeld.1)))), ((cell_far (p := ⟨g313, _, none⟩) NB305_313.out _).trans (((cell_far (p := ⟨g313, _, none⟩) NB305_313.out _).trans (hHeld.2))))⟩ (fun hHeld => ?_)
    clear hK K
    refine one_ (i := 12) (N := none) #[true, true, true, true, true, true, true, true, true, true, true, true, true] rfl rfl (one_of HT_.out (by kernel_rfl)) (by decide) (fun K hK => ?_)
    have hs31 : w28.cell? ⟨g314, 0, none⟩ = some (.int .i64 0) := (blk_cell BK314.out 0).trans rfl
    have hfs31 := blk_frozen BK314.out 0
    have hns31_0 := NB305_314.out
    have hns31_1 := NB306_314.out
    have hns31_2 := NB313_314.out
    have hms31_0 := NB314_305.out
    have hms31_1 := NB314_306.out
    have hms31_2 := NB314_313.out
    have hs32 : w28.cell? ⟨g314, 1, none⟩ = some (.int .i64 0) := (blk_cell BK314.out 1).trans rfl
    have hfs32 := blk_frozen BK314.out 1
    have hns32_0 := NB305_314.out
    have hns32_1 := NB306_314.out
    have hns32_2 := NB313_314.out
    have hms32_0 := NB314_305.out
    have hms32_1 := NB314_306.out
    have hms32_2 := NB314_313.out
    refine skip_ (w1 := ?_) (by rfl) rfl ?_ ?_
    rotate_left
    ·
     go_simp
     rfl
    refine hK.out _ _ ⟨((cell_far (p := ⟨g314, _, none⟩) NB305_314.out _).trans (((cell_far (p := ⟨g314, _, none⟩) NB305_314.out _).trans (hHeld.1)))), ((cell_far (p := ⟨g314, _, none⟩) NB305_314.out _).trans (((cell_far (p := ⟨g314, _, none⟩) NB305_314.out _).trans (hHeld.2))))⟩ (fun hHeld => ?_)
    clear hK K
    refine done_ (done_of HT_.out (by kernel_rfl)) ?_
    have hnb34 := NB305_313.out
    have hnc34 := NB313_305.out
    have hcz36_0 : w28.cell? ⟨g305, 0, none⟩ = some (.int .i64 a2_0) := (blk_cell BK305.out 0).trans rfl
    have hcz36_1 : w28.cell? ⟨g305, 1, none⟩ = some (.int .i64 a2_1) := (blk_cell BK305.out 1).trans rfl
    have hfz36_0 := blk_frozen BK305.out 0
    have hfz36_1 := blk_frozen BK305.out 1
    have hcz39_0 : w28.cell? ⟨g313, 0, none⟩ = some (.int .i64 0) := (blk_cell BK313.out 0).trans rfl
    have hcz39_1 : w28.cell? ⟨g313, 1, none⟩ = some (.int .i64 0) := (blk_cell BK313.out 1).trans rfl
    have hfz39_0 := blk_frozen BK313.out 0
    have hfz39_1 := blk_frozen BK313.out 1
    try go_wp2_with (first | ((with_reducible refine gate_callee (f := 43) rfl ?_); refine goesL_ (some 43) rfl rfl Try.func43 (by kernel_rfl) rfl #[.int .i64 (wrap64 (a2_0 * t309)), .int .i64 (wrap64 (a2_1 * t310))] rfl Za82 ?_; (with_reducible refine (spec_ruRatio.calls kj3 (wrap64 (a2_0 * t309)) (wrap64 (a2_1 * t310)) t315 t316 _ A21.out).mono ?_); rintro e w40 ⟨rfl, hb⟩; refine ⟨_, rfl, ?_⟩; replace BK305 := bb8 BK305 Ub8305 hb; replace BK306 := bb8 BK306 Ub8306 hb; replace BK313 := Aa8q (blk_below (g := g313) (o := .cells #[.int .i64 t309, .int .i64 t310] 25 (0, 0)) (by (with_reducible repeat (first | refine blk_drewN ?_ _ | refine blk_drew ?_ | refine blk_alloc ?_ _)); refine blk_far ?_ NB313_314.out _; (with_reducible repeat (first | refine blk_drewN ?_ _ | refine blk_drew ?_ | refine blk_alloc ?_ _)); refine blk_far ?_ NB313_314.out _; (with_reducible repeat (first | refine blk_drewN ?_ _ | refine blk_drew ?_ | refine blk_alloc ?_ _)); refine blk_put (cs := #[.int .i64 t309, .int .i64 0]) ?_ 1 _ rfl; (with_reducible repeat (first | refine blk_drewN ?_ _ | refine blk_drew ?_ | refine blk_alloc ?_ _)); refine blk_put (cs := #[.int .i64 0, .int .i64 0]) ?_ 0 _ rfl; (with_reducible repeat (first | refine blk_drewN ?_ _ | refine blk_drew ?_ | refine blk_alloc ?_ _)); exact BK313.out) hb); replace BK314 := Aa8q (blk_below (g := g314) (o := .cells #[.int .i64 t311, .int .i64 t312] 25 (0, 0)) (by (with_reducible repeat (first | refine blk_drewN ?_ _ | refine blk_drew ?_ | refine blk_alloc ?_ _)); refine blk_put (cs := #[.int .i64 t311, .int .i64 0]) ?_ 1 _ rfl; (with_reducible repeat (first | refine blk_drewN ?_ _ | refine blk_drew ?_ | refine blk_alloc ?_ _)); refine blk_put (cs := #[.int .i64 0, .int .i64 0]) ?_ 0 _ rfl; (with_reducible repeat (first | refine blk_drewN ?_ _ | refine blk_drew ?_ | refine blk_alloc ?_ _)); refine blk_far ?_ NB314_313.out _; (with_reducible repeat (first | refine blk_drewN ?_ _ | refine blk_drew ?_ | refine blk_alloc ?_ _)); refine blk_far ?_ NB314_313.out _; (with_reducible repeat (first | refine blk_drewN ?_ _ | refine blk_drew ?_ | refine blk_alloc ?_ _)); exact BK314.out) hb); replace HB := tb8 Hb8 hb; (try clear hb); (try clear hb2); (try clear hk); (try clear hi)) | ((with_reducible refine gate_dst (N := 10) rfl ?_); refine box_event ?hg (N := 10) ?hd (cs := #[.int .i64 0, .int .i64 0]) (t := 25) ?hr ?_; (case hd => rfl); (case hg => rfl); (case hr => first | (go_simp; done) | (go_simp; rfl)); intro g317 hg w41 hbox hb; have BK317 := Aa8q (hbox); have GW317 := sb8 Hb8 hg; have GE317 := sb8 Hb8 hg; have NB305_317 := nb8 BK305 Ub8305 hg; have NB317_305 := mb8 BK305 Ub8305 hg; have NB306_317 := nb8 BK306 Ub8306 hg; have NB317_306 := mb8 BK306 Ub8306 hg; have NB313_317 := nb8 BK313 Ub8313 hg; have NB317_313 := mb8 BK313 Ub8313 hg; have NB314_317 := nb8 BK314 Ub8314 hg; have NB317_314 := mb8 BK314 Ub8314 hg; replace BK305 := bb8 BK305 Ub8305 hb; replace BK306 := bb8 BK306 Ub8306 hb; replace BK313 := bb8 BK313 Ub8313 hb; replace BK314 := bb8 BK314 Ub8314 hb; replace HB := tb8 Hb8 hb; clear hb hbox hg; have hnb45 := NB317_314.out; have hnc45 := NB314_317.out; have hcz46_0 : w41.cell? ⟨g317, 0, none⟩ = some (.int .i64 0) := (blk_cell BK317.out 0).trans rfl; have hcz46_1 : w41.cell? ⟨g317, 1, none⟩ = some (.int .i64 0) := (blk_cell BK317.out 1).trans rfl; have hfz46_0 := blk_frozen BK317.out 0; have hfz46_1 := blk_frozen BK317.out 1; have hcz48_0 : w41.cell? ⟨g314, 0, none⟩ = some (.int .i64 t311) := (blk_cell BK314.out 0).trans rfl; have hcz48_1 : w41.cell? ⟨g314, 1, none⟩ = some (.int .i64 t312) := (blk_cell BK314.out 1).trans rfl; have hfz48_0 := blk_frozen BK314.out 0; have hfz48_1 := blk_frozen BK314.out 1) | ((with_reducible refine gate_callee (f := 43) rfl ?_); refine goesL_ (some 54) rfl rfl Try.func43 (by kernel_rfl) rfl #[.int .i64 (wrap64 (t315 * t312)), .int .i64 (wrap64 (t316 * t311))] rfl Za82 ?_; (with_reducible refine (spec_ruRatio.calls kj3 (wrap64 (t315 * t312)) (wrap64 (t316 * t311)) t318 t319 _ A22.out).mono ?_); rintro e w49 ⟨rfl, hb⟩; refine ⟨_, rfl, ?_⟩; replace BK305 := bb8 BK305 Ub8305 hb; replace BK306 := bb8 BK306 Ub8306 hb; replace BK313 := bb8 BK313 Ub8313 hb; replace BK314 := bb8 BK314 Ub8314 hb; replace BK317 := Aa8q (blk_below (g := g317) (o := .cells #[.int .i64 t315, .int .i64 t316] 25 (0, 0)) (by (with_reducible repeat (first | refine blk_drewN ?_ _ | refine blk_drew ?_ | refine blk_alloc ?_ _)); refine blk_put (cs := #[.int .i64 t315, .int .i64 0]) ?_ 1 _ rfl; (with_reducible repeat (first | refine blk_drewN ?_ _ | refine blk_drew ?_ | refine blk_alloc ?_ _)); refine blk_put (cs := #[.int .i64 0, .int .i64 0]) ?_ 0 _ rfl; (with_reducible repeat (first | refine blk_drewN ?_ _ | refine blk_drew ?_ | refine blk_alloc ?_ _)); exact BK317.out) hb); replace HB := tb8 Hb8 hb; (try clear hb); (try clear hb2); (try clear hk); (try clear hi); have hcz50_0 : w49.cell? ⟨g306, 0, none⟩ = some (.int .i64 0) := (blk_cell BK306.out 0).trans rfl; have hcz50_1 : w49.cell? ⟨g306, 1, none⟩ = some (.int .i64 0) := (blk_cell BK306.out 1).trans rfl; have hfz50_0 := blk_frozen BK306.out 0; have hfz50_1 := blk_frozen BK306.out 1))
    refine bodyPost_ret (results_ct rfl _ _ g306 25 #[.int .i64 t318, .int .i64 t319] (0, 0) _ rfl (by (with_reducible repeat (first | refine blk_drewN ?_ _ | refine blk_drew ?_ | refine blk_alloc ?_ _)); refine blk_put (cs := #[.int .i64 t318, .int .i64 0]) ?_ 1 _ rfl; (with_reducible repeat (first | refine blk_drewN ?_ _ | refine blk_drew ?_ | refine blk_alloc ?_ _)); refine blk_put (cs := #[.int .i64 0, .int .i64 0]) ?_ 0 _ rfl; (with_reducible repeat (first | refine blk_drewN ?_ _ | refine blk_drew ?_ | refine blk_alloc ?_ _)); exact BK306.out) Try.underlying25 rfl (by kernel_rfl)) rfl ?_
    exact ⟨by first | rfl | (simp [errW_none, errW_some] <;> rfl) | (simp [*, errW_none, errW_some] <;> rfl), Hb8⟩

end Go.Proofs.Ytfembmnagkdnhaa.OFnRuinAddsUp
