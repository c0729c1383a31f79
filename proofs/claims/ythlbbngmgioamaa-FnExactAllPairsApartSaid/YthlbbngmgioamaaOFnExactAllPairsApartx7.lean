/- The functions that 'FnExactAllPairsApart' runs, each as a function over numbers and lists, with the proof that the Go text comes to its answers. No condition. -/
import Derived.Test.YthlbbngmgioamaaOFnExactAllPairsApartx0
import Derived.Test.YthlbbngmgioamaaOFnExactAllPairsApartx1
import Derived.Test.YthlbbngmgioamaaOFnExactAllPairsApartx6
namespace Go.Proofs.Ythlbbngmgioamaa.OFnExactAllPairsApart
open Go.Proofs.Ythlbbngmgioamaa.Stub
open Go.RowKit Go.Proofs.YthlbbngmgioamaaW.PrintWords Go.Proofs.YthlbbngmgioamaaW.PrintLast Go.Proofs.YthlbbngmgioamaaW.PrintMore
attribute [local go_sem] max2_int min2_int max_two min_two max_three min_three max_four min_four   -- for this text's walks alone
set_option linter.unusedVariables false
set_option linter.unusedSimpArgs false

attribute [local go_sem high] eqA27
/-! ### impl_allWays: function 14 -/
theorem Zrf {p : Prop} (h : p := by first | rfl | (simp [errW_none, errW_some] <;> rfl) | (simp [*, errW_none, errW_some] <;> rfl)) : p := h
theorem Zbf {p : Prop} (h : p := by repeat (first | (with_reducible first | exact HB.out | apply below_alloc | apply pw_below_drewN | apply below_drew1) | exact HB.out)) : p := h
theorem y1f {α : Type} (l : List α) (i : Nat) (a : α) : l.toArray.setIfInBounds i a = (l.set i a).toArray := List.setIfInBounds_toArray l i a
theorem y2f {α : Type} {x : α} {xs : List α} {b : α} : (x :: xs).set 0 b = b :: xs := List.set_cons_zero
theorem y3f {α : Type} {x : α} {xs : List α} {n : Nat} {b : α} : (x :: xs).set (n + 1) b = x :: xs.set n b := List.set_cons_succ
theorem Afq {p : Prop} (h : p) : Aside0 p := Aside0.mk h
theorem Zf1 {p : Prop} (h : p := by (with_reducible repeat (first | apply Kd.R_alloc | apply Kd.R_drewN | apply Kd.R_drew)); exact (Kd.R_mono (Kd.R_far (p := ⟨g261, 1, none⟩) (Kd.R_far (p := ⟨g261, 0, none⟩) (Kd.R_mono HO_6.out (fun k_ hk => (⟨hk, hk.2⟩ : _ ∧ k_ ≠ g261))) (fun _ hk => hk.2) (.int .i64 ((rd_T27 t257 x15_1).f0))) (fun _ hk => hk.2) (.int .i64 ((rd_T27 t257 x15_1).f1))) (fun _ h_ => h_.1))) : p := h
theorem Zf2 {p : Prop} (h : p := by rw [hg]; exact (below_size (by repeat (first | (with_reducible first | exact HB.out | apply below_alloc | apply pw_below_drewN | apply below_drew1 | refine below_set ?_ GE252.out | refine below_set ?_ GE253.out) | exact HB.out)))) : p := h
theorem Zf3 {p : Prop} (h : p := by rw [hg]; exact Nat.ne_of_lt (blk_lt (g := g227) (o := .cells #[.int .i64 a0_0, .int .i64 a0_1] 27 (0, 0)) (by (with_reducible repeat (first | refine blk_drewN ?_ _ | refine blk_drew ?_ | refine blk_alloc ?_ _)); exact BK227.out))) : p := h
theorem Zf4 {p : Prop} (h : p := by rw [hg]; exact Nat.ne_of_gt (blk_lt (g := g227) (o := .cells #[.int .i64 a0_0, .int .i64 a0_1] 27 (0, 0)) (by (with_reducible repeat (first | refine blk_drewN ?_ _ | refine blk_drew ?_ | refine blk_alloc ?_ _)); exact BK227.out))) : p := h
theorem Zf5 {p : Prop} (h : p := by rw [hg]; exact (below_size (by repeat (first | (with_reducible first | exact HB.out | apply below_alloc | apply pw_below_drewN | apply below_drew1 | refine below_set ?_ GE227.out) | exact HB.out)))) : p := h
theorem Zf6 {p : Prop} (h : p := by repeat (first | (with_reducible first | exact HB.out | apply below_alloc | apply pw_below_drewN | apply below_drew1 | refine below_set ?_ GE227.out | refine below_set ?_ GE228.out) | exact HB.out)) : p := h
theorem Zf7 {p : Prop} (h : p := by repeat (first | (with_reducible first | exact HB.out | apply below_alloc | apply pw_below_drewN | apply below_drew1 | refine below_set ?_ GE252.out | refine below_set ?_ GE253.out) | exact HB.out)) : p := h
theorem Zf8 {p : Prop} (h : p := by rw [hg]; exact (below_size (Zbf))) : p := h
theorem Zf9 {p : Prop} (h : p := by rw [hg]; exact (below_size (Zbf))) : p := h
theorem Zf10 {p : Prop} (h : p := by repeat (first | (with_reducible first | exact HB.out | apply below_alloc | apply pw_below_drewN | apply below_drew1 | refine below_set ?_ GE240.out) | exact HB.out)) : p := h
theorem Zf11 {p : Prop} (h : p := by (try simp only [List.map_toArray, List.map_cons, List.map_nil]); first | done | rfl | (simp only [List.length_drop, List.length_take]; rfl)) : p := h
theorem Zf12 {p : Prop} (h : p := by repeat (first | (with_reducible first | exact HB.out | apply below_alloc | apply pw_below_drewN | apply below_drew1) | exact HB.out)) : p := h
theorem Zf13 {p : Prop} (h : p := by (with_reducible repeat (first | refine blk_drewN ?_ _ | refine blk_drew ?_ | refine blk_alloc ?_ _)); exact BK227.out) : p := h
theorem Zf14 {p : Prop} (h : p := by (with_reducible repeat (first | refine blk_drewN ?_ _ | refine blk_drew ?_ | refine blk_alloc ?_ _)); exact BK228.out) : p := h
theorem Zf15 {p : Prop} (h : p := by (with_reducible repeat (first | refine blk_drewN ?_ _ | refine blk_drew ?_ | refine blk_alloc ?_ _)); exact BK252.out) : p := h
theorem Zf16 {p : Prop} (h : p := by (with_reducible repeat (first | refine blk_drewN ?_ _ | refine blk_drew ?_ | refine blk_alloc ?_ _)); exact BK253.out) : p := h
theorem Zf17 {p : Prop} (h : p := by first | rfl | (simp; done) | (simp [*]; done) | (simp only [i64_w]; done)) : p := h
theorem Zf18 {p : Prop} (h : p := by first | (with_reducible assumption) | assumption) : p := h
def impl_allWays.l0 : Nat → List (S37) → List ByteArray → Int → Int → Int → Int → Option ((List (S37)) × Bool)
  | 0, _, _, _, _, _, _ => none
  | k + 1, x7, x20, x21, x22, x228000, x228001 => if x22 < x21 then (if 0 ≤ x22 then (if x22 < (x20.length : Int) then (if x7.length < 4398046511104 then (impl_allWays.l0 k (x7 ++ [(⟨(⟨x228000, x228001⟩ : S27), rdOf ByteArray.empty x20 x22⟩ : S37)]) x20 x21 (wrap64 (x22 + 1)) x228000 x228001) else (none)) else (none)) else (none)) else (some (x7, true))
def impl_allWays.f (k : Nat) (a0_0 : Int) (a0_1 : Int) (a1_0 : Int) (a1_1 : Int) : Option ((List (S37)) × Bool) := (impl_ways.f k a0_0 a0_1 a1_0 a1_1).bind fun t229 => (if t229 > 200 then (some (([] : List (S37)), false)) else ((some (([] : List (S37)) : List (S37))).bind fun y230 => (if t229 > 0 then ((impl_grow.f k ([] : List ByteArray) (⟨#[]⟩ : ByteArray) a0_0 a0_1 a1_0 a1_1).bind fun t233 => (impl_allWays.l0 k y230 t233 (t233.length : Int) 0 a0_0 a0_1)) else (some (y230, true)))))
theorem impl_allWays.mono_l : ∀ k, (∀ y0 y1 y2 y3 y4 y5, LeO (impl_allWays.l0 k y0 y1 y2 y3 y4 y5) (impl_allWays.l0 (k + 1) y0 y1 y2 y3 y4 y5))
  | 0 => fun _ _ _ _ _ _ r h => by simp [impl_allWays.l0] at h
  | k + 1 => by
    have ih0 := impl_allWays.mono_l k
    · intro y0 y1 y2 y3 y4 y5
      unfold impl_allWays.l0
      repeat' first
      | (with_reducible exact ih0 _ _ _ _ _ _)
      | (with_reducible exact impl_grow.mono _ _ _ _ _ _ _)
      | (with_reducible exact impl_ways.mono _ _ _ _ _)
      | (with_reducible exact LeO.refl _)
      | (with_reducible exact LeO.none _)
      | (with_reducible refine LeO.ite ?_ ?_)
      | (with_reducible refine LeO.bind ?_ (fun _ => ?_))
      | exact ih0 _ _ _ _ _ _
      | exact impl_grow.mono _ _ _ _ _ _ _
      | exact impl_ways.mono _ _ _ _ _
      | exact LeO.none _
      | refine LeO.ite ?_ ?_
      | refine LeO.bind ?_ (fun _ => ?_)
theorem impl_allWays.mono : ∀ a0 a1 a2 a3 k, LeO (impl_allWays.f k a0 a1 a2 a3) (impl_allWays.f (k + 1) a0 a1 a2 a3) := by
  intro a0 a1 a2 a3 k
  have ih0 := impl_allWays.mono_l k
  unfold impl_allWays.f
  repeat' first
      | (with_reducible exact ih0 _ _ _ _ _ _)
      | (with_reducible exact impl_grow.mono _ _ _ _ _ _ _)
      | (with_reducible exact impl_ways.mono _ _ _ _ _)
      | (with_reducible exact LeO.refl _)
      | (with_reducible exact LeO.none _)
      | (with_reducible refine LeO.ite ?_ ?_)
      | (with_reducible refine LeO.bind ?_ (fun _ => ?_))
      | exact ih0 _ _ _ _ _ _
      | exact impl_grow.mono _ _ _ _ _ _ _
      | exact impl_ways.mono _ _ _ _ _
      | exact LeO.none _
      | refine LeO.ite ?_ ?_
      | refine LeO.bind ?_ (fun _ => ?_)
set_option maxHeartbeats 8000000 in
set_option maxRecDepth 100000 in
theorem impl_allWays.calls (k : Nat) (a0_0 : Int) (a0_1 : Int) (a1_0 : Int) (a1_1 : Int) (r1 : List (S37)) (r2 : Bool) (w : World) (h : impl_allWays.f k a0_0 a0_1 a1_0 a1_1 = some (r1, r2)) :
    Calls Try.prog 14 #[.agg #[.int .i64 a0_0, .int .i64 a0_1], .agg #[.int .i64 a1_0, .int .i64 a1_1]] w fun e w' => ∃ v0_ : Value, e = .returned (.tuple #[v0_, .bool r2]) ∧ Kd.R k37 37 w' w.heap.size (fun _ => True) v0_ r1 ∧ Below w.heap.size w w' := by
 have hu27 := Try.underlying27
 have hu37 := Try.underlying37
 have HB := Afq (Below.refl w.heap.size w)
 have H : ((impl_ways.f k a0_0 a0_1 a1_0 a1_1).bind fun t229 => (if t229 > 200 then (some (([] : List (S37)), false)) else ((some (([] : List (S37)) : List (S37))).bind fun y230 => (if t229 > 0 then ((impl_grow.f k ([] : List ByteArray) (⟨#[]⟩ : ByteArray) a0_0 a0_1 a1_0 a1_1).bind fun t233 => (impl_allWays.l0 k y230 t233 (t233.length : Int) 0 a0_0 a0_1)) else (some (y230, true)))))) = some (r1, r2) := h
 clear h
 replace H := Option.bind_eq_some_iff.mp H
 obtain ⟨t229, A30, H⟩ := H
 replace H : (if t229 > 200 then (some (([] : List (S37)), false)) else ((some (([] : List (S37)) : List (S37))).bind fun y230 => (if t229 > 0 then ((impl_grow.f k ([] : List ByteArray) (⟨#[]⟩ : ByteArray) a0_0 a0_1 a1_0 a1_1).bind fun t233 => (impl_allWays.l0 k y230 t233 (t233.length : Int) 0 a0_0 a0_1)) else (some (y230, true))))) = some (r1, r2) := H
 have A3 := Afq A30
 clear A30
 by_cases c4 : t229 > 200
 ·
  rw [if_pos c4] at H
  have c4b0 : decide (200 < t229) = true := decide_eq_true c4
  clear c4
  simp only [Option.some.injEq, Prod.mk.injEq] at H
  obtain ⟨rfl, rfl⟩ := H
  go_enter Try.func14, Try.ntmps14
  go_wp2_with (first | ((with_reducible refine gate_dst (N := 2) rfl ?_); refine box_event ?hg (N := 2) ?hd (cs := #[.int .i64 a0_0, .int .i64 a0_1]) (t := 27) ?hr ?_; (case hd => rfl); (case hg => rfl); (case hr => first | (go_simp; done) | (go_simp; rfl)); intro g227 hg w5 hbox hb; have n0_ := Afq (below_step Zf12 hb); have n1_ := Afq (hbox); have n2_ := Afq ((Zf8 : w.heap.size ≤ g227)); have n3_ := Afq ((Zf8 : w.heap.size ≤ g227)); clear HB; have HB := n0_; have BK227 := n1_; have GW227 := n2_; have GE227 := n3_; clear n0_ n1_ n2_ n3_; clear hb hbox hg) | ((with_reducible refine gate_dst (N := 3) rfl ?_); refine box_event ?hg (N := 3) ?hd (cs := #[.int .i64 a1_0, .int .i64 a1_1]) (t := 27) ?hr ?_; (case hd => rfl); (case hg => rfl); (case hr => first | (go_simp; done) | (go_simp; rfl)); intro g228 hg w6 hbox hb; have n0_ := Afq (blk_below (g := g227) (o := .cells #[.int .i64 a0_0, .int .i64 a0_1] 27 (0, 0)) Zf13 hb); have n1_ := Afq (below_step (by repeat (first | (with_reducible first | exact HB.out | apply below_alloc | apply pw_below_drewN | apply below_drew1 | refine below_set ?_ GE227.out) | exact HB.out)) hb); have n2_ := Afq (hbox); have n3_ := Afq ((Zf5 : w.heap.size ≤ g228)); have n4_ := Afq ((Zf5 : w.heap.size ≤ g228)); have n5_ := Afq ((Zf3 : g227 ≠ g228)); have n6_ := Afq ((Zf4 : g228 ≠ g227)); clear BK227; clear HB; have BK227 := n0_; have HB := n1_; have BK228 := n2_; have GW228 := n3_; have GE228 := n4_; have NB227_228 := n5_; have NB228_227 := n6_; clear n0_ n1_ n2_ n3_ n4_ n5_ n6_; clear hb hbox hg; have hnb7 := NB227_228.out; have hnc7 := NB228_227.out; have hcz8_0 : w6.cell? ⟨g227, 0, none⟩ = some (.int .i64 a0_0) := (blk_cell BK227.out 0).trans rfl; have hcz8_1 : w6.cell? ⟨g227, 1, none⟩ = some (.int .i64 a0_1) := (blk_cell BK227.out 1).trans rfl; have hfz8_0 := blk_frozen BK227.out 0; have hfz8_1 := blk_frozen BK227.out 1; have hcz9_0 : w6.cell? ⟨g228, 0, none⟩ = some (.int .i64 a1_0) := (blk_cell BK228.out 0).trans rfl; have hcz9_1 : w6.cell? ⟨g228, 1, none⟩ = some (.int .i64 a1_1) := (blk_cell BK228.out 1).trans rfl; have hfz9_0 := blk_frozen BK228.out 0; have hfz9_1 := blk_frozen BK228.out 1) | ((with_reducible refine gate_callee (f := 24) rfl ?_); refine goesL_ (some 12) rfl rfl Try.func24 (by kernel_rfl) rfl #[.agg #[.int .i64 a0_0, .int .i64 a0_1], .agg #[.int .i64 a1_0, .int .i64 a1_1]] rfl Zf11 ?_; (with_reducible refine (impl_ways.calls k a0_0 a0_1 a1_0 a1_1 t229 _ A3.out).mono ?_); rintro e w10 ⟨rfl, hb⟩; refine ⟨_, rfl, ?_⟩; have n0_ := Afq (blk_below (g := g227) (o := .cells #[.int .i64 a0_0, .int .i64 a0_1] 27 (0, 0)) Zf13 hb); have n1_ := Afq (blk_below (g := g228) (o := .cells #[.int .i64 a1_0, .int .i64 a1_1] 27 (0, 0)) Zf14 hb); have n2_ := Afq (below_step Zf6 hb); clear BK227; clear BK228; clear HB; have BK227 := n0_; have BK228 := n1_; have HB := n2_; clear n0_ n1_ n2_; (try clear hb)))
  go_ret2
  exact ⟨_, Zrf, by first | exact Kd.R_nil _ _ _ _ _ | exact Kd.N_nil _ _ _ _ _ | exact Kd.V_nil _ _ _ _ _ | exact Kd.Q_nil _ _ _ _ _ | exact Kd.S_nil _ _ _ _ _, by repeat (first | (with_reducible first | exact HB.out | apply below_alloc | apply pw_below_drewN | apply below_drew1 | refine below_set ?_ GE227.out | refine below_set ?_ GE228.out) | exact HB.out)⟩
 ·
  rw [if_neg c4] at H
  have c4b0 : decide (200 < t229) = false := decide_eq_false c4
  clear c4
  obtain ⟨y230, hy230⟩ : ∃ y_ : List (S37), y_ = (([] : List (S37))) := ⟨_, rfl⟩
  replace H : (if t229 > 0 then ((impl_grow.f k ([] : List ByteArray) (⟨#[]⟩ : ByteArray) a0_0 a0_1 a1_0 a1_1).bind fun t233 => (impl_allWays.l0 k y230 t233 (t233.length : Int) 0 a0_0 a0_1)) else (some (y230, true))) = some (r1, r2) := by first | (rw [hy230]; with_reducible exact H) | (have H2_ := (Option.bind_some _ _).symm.trans H; rw [hy230]; with_reducible exact H2_) | (have H2_ := (Option.bind_some _ _).symm.trans H; with_reducible exact H2_) | with_reducible exact H | (rw [hy230]; exact H) | exact H
  have Ny230 := Afq hy230
  clear hy230
  by_cases c11 : t229 > 0
  ·
   rw [if_pos c11] at H
   have c11b0 : decide (0 < t229) = true := decide_eq_true c11
   clear c11
   replace H := Option.bind_eq_some_iff.mp H
   obtain ⟨t233, A120, H⟩ := H
   replace H : (impl_allWays.l0 k y230 t233 (t233.length : Int) 0 a0_0 a0_1) = some (r1, r2) := H
   have A12 := Afq A120
   clear A120
   have H' := Afq H
   clear H
   go_enter Try.func14, Try.ntmps14
   go_wp2_with (first | ((with_reducible refine gate_dst (N := 2) rfl ?_); refine box_event ?hg (N := 2) ?hd (cs := #[.int .i64 a0_0, .int .i64 a0_1]) (t := 27) ?hr ?_; (case hd => rfl); (case hg => rfl); (case hr => first | (go_simp; done) | (go_simp; rfl)); intro g227 hg w13 hbox hb; have n0_ := Afq (below_step Zf12 hb); have n1_ := Afq (hbox); have n2_ := Afq ((Zf8 : w.heap.size ≤ g227)); have n3_ := Afq ((Zf8 : w.heap.size ≤ g227)); clear HB; have HB := n0_; have BK227 := n1_; have GW227 := n2_; have GE227 := n3_; clear n0_ n1_ n2_ n3_; clear hb hbox hg) | ((with_reducible refine gate_dst (N := 3) rfl ?_); refine box_event ?hg (N := 3) ?hd (cs := #[.int .i64 a1_0, .int .i64 a1_1]) (t := 27) ?hr ?_; (case hd => rfl); (case hg => rfl); (case hr => first | (go_simp; done) | (go_simp; rfl)); intro g228 hg w14 hbox hb; have n0_ := Afq (blk_below (g := g227) (o := .cells #[.int .i64 a0_0, .int .i64 a0_1] 27 (0, 0)) Zf13 hb); have n1_ := Afq (below_step (by repeat (first | (with_reducible first | exact HB.out | apply below_alloc | apply pw_below_drewN | apply below_drew1 | refine below_set ?_ GE227.out) | exact HB.out)) hb); have n2_ := Afq (hbox); have n3_ := Afq ((Zf5 : w.heap.size ≤ g228)); have n4_ := Afq ((Zf5 : w.heap.size ≤ g228)); have n5_ := Afq ((Zf3 : g227 ≠ g228)); have n6_ := Afq ((Zf4 : g228 ≠ g227)); clear BK227; clear HB; have BK227 := n0_; have HB := n1_; have BK228 := n2_; have GW228 := n3_; have GE228 := n4_; have NB227_228 := n5_; have NB228_227 := n6_; clear n0_ n1_ n2_ n3_ n4_ n5_ n6_; clear hb hbox hg; have hnb15 := NB227_228.out; have hnc15 := NB228_227.out; have hcz16_0 : w14.cell? ⟨g227, 0, none⟩ = some (.int .i64 a0_0) := (blk_cell BK227.out 0).trans rfl; have hcz16_1 : w14.cell? ⟨g227, 1, none⟩ = some (.int .i64 a0_1) := (blk_cell BK227.out 1).trans rfl; have hfz16_0 := blk_frozen BK227.out 0; have hfz16_1 := blk_frozen BK227.out 1; have hcz17_0 : w14.cell? ⟨g228, 0, none⟩ = some (.int .i64 a1_0) := (blk_cell BK228.out 0).trans rfl; have hcz17_1 : w14.cell? ⟨g228, 1, none⟩ = some (.int .i64 a1_1) := (blk_cell BK228.out 1).trans rfl; have hfz17_0 := blk_frozen BK228.out 0; have hfz17_1 := blk_frozen BK228.out 1) | ((with_reducible refine gate_callee (f := 24) rfl ?_); refine goesL_ (some 12) rfl rfl Try.func24 (by kernel_rfl) rfl #[.agg #[.int .i64 a0_0, .int .i64 a0_1], .agg #[.int .i64 a1_0, .int .i64 a1_1]] rfl Zf11 ?_; (with_reducible refine (impl_ways.calls k a0_0 a0_1 a1_0 a1_1 t229 _ A3.out).mono ?_); rintro e w18 ⟨rfl, hb⟩; refine ⟨_, rfl, ?_⟩; have n0_ := Afq (blk_below (g := g227) (o := .cells #[.int .i64 a0_0, .int .i64 a0_1] 27 (0, 0)) Zf13 hb); have n1_ := Afq (blk_below (g := g228) (o := .cells #[.int .i64 a1_0, .int .i64 a1_1] 27 (0, 0)) Zf14 hb); have n2_ := Afq (below_step Zf6 hb); clear BK227; clear BK228; clear HB; have BK227 := n0_; have BK228 := n1_; have HB := n2_; clear n0_ n1_ n2_; (try clear hb)) | ((with_reducible refine gate_dst (N := 15) rfl ?_); refine Kd.R_lit k37 _ 37 ?hg (N := 15) ?hd (xs := ([] : List (S37))) (inner := []) (ok := fun _ => True) (okp := fun _ => True) ?hr ?hp (fun _ hk => hk) trivial (Below.refl _ _) (Nat.le_refl _) (by simp) ?_; (case hd => rfl); (case hg => rfl); (case hr => first | (go_simp; done) | (go_simp; rfl)); (case hp => exact (Reps.none _ _)); intro v231 w19 ho20 hb hg_ hnew_; clear hg_ hnew_; (first | rw [← Ny230.out] at ho20 | (simp only [Int.reduceToNat] at ho20; rw [← Ny230.out] at ho20)); have n0_ := Afq (Kd.R_lower ho20 (below_size Zf6)); have n1_ := Afq (blk_below (g := g227) (o := .cells #[.int .i64 a0_0, .int .i64 a0_1] 27 (0, 0)) Zf13 hb); have n2_ := Afq (blk_below (g := g228) (o := .cells #[.int .i64 a1_0, .int .i64 a1_1] 27 (0, 0)) Zf14 hb); have n3_ := Afq (below_step Zf6 hb); clear BK227; clear BK228; clear HB; have HO232 := n0_; have BK227 := n1_; have BK228 := n2_; have HB := n3_; clear n0_ n1_ n2_ n3_; clear hb ho20; have hcz21_0 : w19.cell? ⟨g227, 0, none⟩ = some (.int .i64 a0_0) := (blk_cell BK227.out 0).trans rfl; have hcz21_1 : w19.cell? ⟨g227, 1, none⟩ = some (.int .i64 a0_1) := (blk_cell BK227.out 1).trans rfl; have hfz21_0 := blk_frozen BK227.out 0; have hfz21_1 := blk_frozen BK227.out 1; have hcz22_0 : w19.cell? ⟨g228, 0, none⟩ = some (.int .i64 a1_0) := (blk_cell BK228.out 0).trans rfl; have hcz22_1 : w19.cell? ⟨g228, 1, none⟩ = some (.int .i64 a1_1) := (blk_cell BK228.out 1).trans rfl; have hfz22_0 := blk_frozen BK228.out 0; have hfz22_1 := blk_frozen BK228.out 1) | ((with_reducible refine gate_callee (f := 25) rfl ?_); refine goesL_ (some 20) rfl rfl Try.func25 (by kernel_rfl) rfl #[.slice none 0 0, .string (⟨#[]⟩ : ByteArray), .agg #[.int .i64 a0_0, .int .i64 a0_1], .agg #[.int .i64 a1_0, .int .i64 a1_1]] rfl Zf11 ?_; (refine (impl_grow.calls k (fun k_ => some k_ = (.slice none 0 0 : Value).ownBlock) (.slice none 0 0) ([] : List ByteArray) (⟨#[]⟩ : ByteArray) a0_0 a0_1 a1_0 a1_1 t233 w _ ?side1 ?side2 A12.out).mono ?_); (case side1 => repeat (first | (with_reducible first | exact HB.out | apply below_alloc | apply pw_below_drewN | apply below_drew1 | refine below_set ?_ GE227.out | refine below_set ?_ GE228.out) | exact HB.out)); (case side2 => exact Kd.R_nil _ _ _ _ _); rintro e w23 ⟨v234, rfl, ho0, hb, hkp⟩; refine ⟨_, rfl, ?_⟩; have n0_ := Afq (blk_kept Zf13 hkp (fun hs_ => (fun e_ => by simp [Value.ownBlock] at e_) hs_)); have n1_ := Afq (blk_kept Zf14 hkp (fun hs_ => (fun e_ => by simp [Value.ownBlock] at e_) hs_)); have n2_ := Afq (Kd.R_mono (ok' := fun k_ => True) (Kd.R_keptB (HO232.out) hkp (fun k_ hk_ hs_ => (fun e_ => by simp [Value.ownBlock] at e_) hs_)) (fun k_ hk_ => trivial)); have n3_ := Afq (Kd.R_mono (ok' := fun k_ => True) ho0 (fun k_ hk_ => trivial)); have n4_ := Afq (hb); clear BK227; clear BK228; clear HO232; clear HB; have BK227 := n0_; have BK228 := n1_; have HO232 := n2_; have HO235 := n3_; have HB := n4_; clear n0_ n1_ n2_ n3_ n4_; (try clear hb); (try clear hkp); (try clear ho0); obtain ⟨Ao24, co24, eo24⟩ := Kd.R_slice HO235.out; subst eo24))
   go_loopg [7, 22] k (fun kq v7 v22 w' => ∃ (x7_1 : List (S37)) (x22_1 : Int), v22 = .int .i64 x22_1 ∧ Aside0 (impl_allWays.l0 kq x7_1 t233 (t233.length : Int) x22_1 a0_0 a0_1 = some (r1, r2)) ∧ Aside0 (kq ≤ k) ∧ Aside0 (Kd.R k37 37 w' w.heap.size (fun _ => True) v7 x7_1) ∧ Aside0 (Kd.R Kd.string 9 w' w.heap.size (fun _ => True) (.slice Ao24 t233.length co24) t233) ∧ Aside0 (w'.heap[g227]? = some (.cells #[.int .i64 a0_0, .int .i64 a0_1] 27 (0, 0))) ∧ Aside0 (w'.heap[g228]? = some (.cells #[.int .i64 a1_0, .int .i64 a1_1] 27 (0, 0))) ∧ Aside0 (Below w.heap.size w w'))
   case atStart => exact ⟨(y230), (0), Zf17, H', ⟨Nat.le_refl _⟩, ⟨by (with_reducible repeat (first | apply Kd.R_alloc | apply Kd.R_drewN | apply Kd.R_drew)); exact HO232.out⟩, ⟨by (with_reducible repeat (first | apply Kd.R_alloc | apply Kd.R_drewN | apply Kd.R_drew)); exact HO235.out⟩, ⟨by (with_reducible repeat (first | refine blk_drewN ?_ _ | refine blk_drew ?_ | refine blk_alloc ?_ _)); exact BK227.out⟩, ⟨by (with_reducible repeat (first | refine blk_drewN ?_ _ | refine blk_drew ?_ | refine blk_alloc ?_ _)); exact BK228.out⟩, ⟨by repeat (first | (with_reducible first | exact HB.out | apply below_alloc | apply pw_below_drewN | apply below_drew1 | refine below_set ?_ GE227.out | refine below_set ?_ GE228.out) | exact HB.out)⟩⟩
   case round =>
    clear H'
    try clear c1
    try clear c2
    try clear p2
    try clear c4
    try clear c4b0
    try clear c7
    try clear c11
    try clear c11b0
    try clear c14
    try clear c15
    try clear c24
    try clear hcz16_0
    try clear hcz16_1
    try clear hcz17_0
    try clear hcz17_1
    try clear hcz21_0
    try clear hcz21_1
    try clear hcz22_0
    try clear hcz22_1
    try clear hcz8_0
    try clear hcz8_1
    try clear hcz9_0
    try clear hcz9_1
    try clear hfz16_0
    try clear hfz16_1
    try clear hfz17_0
    try clear hfz17_1
    try clear hfz21_0
    try clear hfz21_1
    try clear hfz22_0
    try clear hfz22_1
    try clear hfz8_0
    try clear hfz8_1
    try clear hfz9_0
    try clear hfz9_1
    obtain ⟨x7_1, x22_1, rfl, HA, HK1, HO_7, HO_20, BK227, BK228, HB⟩ := hrel
    cases gk with
    | zero => exact absurd HA.out (by simp [impl_allWays.l0])
    | succ k1 =>
     have H := HA.out
     clear HA
     simp only [impl_allWays.l0] at H
     by_cases c25 : x22_1 < (t233.length : Int)
     ·
      rw [if_pos c25] at H
      have c25b0 : decide (x22_1 < (t233.length : Int)) = true := decide_eq_true c25
      clear c25
      by_cases c26 : 0 ≤ x22_1
      ·
       rw [if_pos c26] at H
       have c26b0 : decide (0 ≤ x22_1) = true := decide_eq_true c26
       clear c26
       by_cases c27 : x22_1 < (t233.length : Int)
       ·
        rw [if_pos c27] at H
        have c27b0 : decide (x22_1 < (t233.length : Int)) = true := decide_eq_true c27
        clear c27
        by_cases c28 : x7_1.length < 4398046511104
        ·
         rw [if_pos c28] at H
         have LMc28 := Afq c28
         clear c28
         obtain ⟨y237, hy237⟩ : ∃ y_ : List (S37), y_ = (x7_1 ++ [(⟨(⟨a0_0, a0_1⟩ : S27), rdOf ByteArray.empty t233 x22_1⟩ : S37)]) := ⟨_, rfl⟩
         replace H : (impl_allWays.l0 k1 y237 t233 (t233.length : Int) (wrap64 (x22_1 + 1)) a0_0 a0_1) = some (r1, r2) := by first | (rw [hy237]; with_reducible exact H) | (have H2_ := (Option.bind_some _ _).symm.trans H; rw [hy237]; with_reducible exact H2_) | (have H2_ := (Option.bind_some _ _).symm.trans H; with_reducible exact H2_) | with_reducible exact H | (rw [hy237]; exact H) | exact H
         have Ny237 := Afq hy237
         clear hy237
         have H' := Afq H
         clear H
         have p236 : 0 ≤ (x22_1 : Int) := of_decide_eq_true Zf18
         have q236 : x22_1 < (t233.length : Int) := of_decide_eq_true Zf18
         obtain ⟨ad236, e236, hx236_0⟩ := Kd.at_string (Kd.R_reads' HO_20.out).2.2 x22_1 p236 q236
         cases e236
         replace p236 := eq_true p236
         replace q236 := eq_true q236
         have hnb29 := NB227_228.out
         have hnc29 := NB228_227.out
         have hcz30_0 : wr.cell? ⟨g227, 0, none⟩ = some (.int .i64 a0_0) := (blk_cell BK227.out 0).trans rfl
         have hcz30_1 : wr.cell? ⟨g227, 1, none⟩ = some (.int .i64 a0_1) := (blk_cell BK227.out 1).trans rfl
         have hfz30_0 := blk_frozen BK227.out 0
         have hfz30_1 := blk_frozen BK227.out 1
         go_wp2_with (first | ((with_reducible refine gate_builtin (b := .append) (xs := #[.tmp 26, .tmp 30]) rfl ?_); at_builtin; refine Kd.R_append k37 (w0 := w) w.heap.size rfl (.tmp 26) (.tmp 30) 33 37 (.agg #[(.int .i64 0), (.int .i64 0), (.string ⟨#[]⟩)]) 32 rfl Try.underlying33 info37 rfl (by decide) (by omega) u7 x7_1 (⟨(⟨a0_0, a0_1⟩ : S27), rdOf ByteArray.empty t233 x22_1⟩ : S37) [.int .i64 a0_0, .int .i64 a0_1, .string (rdOf ByteArray.empty t233 x22_1)] (fun _ => True) (fun _ => False) rfl rfl ?aP (fun _ hk => hk.elim) ?aF ?aO ?aB ?aS ?aL ?_; (case aP => exact k37_mkM _ _ _ (⟨(⟨a0_0, a0_1⟩ : S27), rdOf ByteArray.empty t233 x22_1⟩ : S37)); (case aB => exact Zf6); (case aF => exact (fun _ _ => trivial)); (case aO => exact (by (with_reducible repeat (first | apply Kd.R_alloc | apply Kd.R_drewN | apply Kd.R_drew)); exact HO_7.out)); (case aS => exact (below_size Zf6)); (case aL => have := LMc28.out; omega); intro v238 w31 ho hb hg hat; rw [← Ny237.out] at ho; have n0_ := Afq (Kd.R_over' (by (with_reducible repeat (first | apply Kd.R_alloc | apply Kd.R_drewN | apply Kd.R_drew)); exact HO_20.out) (Kd.R_typed (by (with_reducible repeat (first | apply Kd.R_alloc | apply Kd.R_drewN | apply Kd.R_drew)); exact HO_7.out)) (by decide) hg); have n1_ := Afq (blk_grown (g := g227) (o := .cells #[.int .i64 a0_0, .int .i64 a0_1] 27 (0, 0)) Zf13 hg (Kd.R_ne HO_7.out BK227.out (by decide))); have n2_ := Afq (blk_grown (g := g228) (o := .cells #[.int .i64 a1_0, .int .i64 a1_1] 27 (0, 0)) Zf14 hg (Kd.R_ne HO_7.out BK228.out (by decide))); have n3_ := Afq (hb); have n4_ := Afq (ho); clear HO_20; clear BK227; clear BK228; clear HB; clear HO_7; have HO_20 := n0_; have BK227 := n1_; have BK228 := n2_; have HB := n3_; have HO239 := n4_; clear n0_ n1_ n2_ n3_ n4_; clear ho hb hg hat))
         go_roundg k1
         case measure => have := HK1.out; omega
         case rel => exact ⟨(y237), (wrap64 (x22_1 + 1)), Zf17, H', ⟨by have := HK1.out; omega⟩, ⟨by (with_reducible repeat (first | apply Kd.R_alloc | apply Kd.R_drewN | apply Kd.R_drew)); exact HO239.out⟩, ⟨by (with_reducible repeat (first | apply Kd.R_alloc | apply Kd.R_drewN | apply Kd.R_drew)); exact HO_20.out⟩, ⟨by (with_reducible repeat (first | refine blk_drewN ?_ _ | refine blk_drew ?_ | refine blk_alloc ?_ _)); exact BK227.out⟩, ⟨by (with_reducible repeat (first | refine blk_drewN ?_ _ | refine blk_drew ?_ | refine blk_alloc ?_ _)); exact BK228.out⟩, ⟨by repeat (first | (with_reducible first | exact HB.out | apply below_alloc | apply pw_below_drewN | apply below_drew1 | refine below_set ?_ GE227.out | refine below_set ?_ GE228.out) | exact HB.out)⟩⟩
        ·
         rw [if_neg c28] at H
         exact absurd H (by simp)
       ·
        rw [if_neg c27] at H
        exact absurd H (by simp)
      ·
       rw [if_neg c26] at H
       exact absurd H (by simp)
     ·
      rw [if_neg c25] at H
      have c25b0 : decide (x22_1 < (t233.length : Int)) = false := decide_eq_false c25
      clear c25
      simp only [Option.some.injEq, Prod.mk.injEq] at H
      obtain ⟨rfl, rfl⟩ := H
      go_wp2
      go_ret2
      exact ⟨_, Zrf, by (with_reducible repeat (first | apply Kd.R_alloc | apply Kd.R_drewN | apply Kd.R_drew)); exact HO_7.out, by repeat (first | (with_reducible first | exact HB.out | apply below_alloc | apply pw_below_drewN | apply below_drew1 | refine below_set ?_ GE227.out | refine below_set ?_ GE228.out) | exact HB.out)⟩
  ·
   rw [if_neg c11] at H
   have c11b0 : decide (0 < t229) = false := decide_eq_false c11
   clear c11
   simp only [Option.some.injEq, Prod.mk.injEq] at H
   obtain ⟨rfl, rfl⟩ := H
   go_enter Try.func14, Try.ntmps14
   go_wp2_with (first | ((with_reducible refine gate_dst (N := 2) rfl ?_); refine box_event ?hg (N := 2) ?hd (cs := #[.int .i64 a0_0, .int .i64 a0_1]) (t := 27) ?hr ?_; (case hd => rfl); (case hg => rfl); (case hr => first | (go_simp; done) | (go_simp; rfl)); intro g227 hg w32 hbox hb; have n0_ := Afq (below_step Zf12 hb); have n1_ := Afq (hbox); have n2_ := Afq ((Zf8 : w.heap.size ≤ g227)); have n3_ := Afq ((Zf8 : w.heap.size ≤ g227)); clear HB; have HB := n0_; have BK227 := n1_; have GW227 := n2_; have GE227 := n3_; clear n0_ n1_ n2_ n3_; clear hb hbox hg) | ((with_reducible refine gate_dst (N := 3) rfl ?_); refine box_event ?hg (N := 3) ?hd (cs := #[.int .i64 a1_0, .int .i64 a1_1]) (t := 27) ?hr ?_; (case hd => rfl); (case hg => rfl); (case hr => first | (go_simp; done) | (go_simp; rfl)); intro g228 hg w33 hbox hb; have n0_ := Afq (blk_below (g := g227) (o := .cells #[.int .i64 a0_0, .int .i64 a0_1] 27 (0, 0)) Zf13 hb); have n1_ := Afq (below_step (by repeat (first | (with_reducible first | exact HB.out | apply below_alloc | apply pw_below_drewN | apply below_drew1 | refine below_set ?_ GE227.out) | exact HB.out)) hb); have n2_ := Afq (hbox); have n3_ := Afq ((Zf5 : w.heap.size ≤ g228)); have n4_ := Afq ((Zf5 : w.heap.size ≤ g228)); have n5_ := Afq ((Zf3 : g227 ≠ g228)); have n6_ := Afq ((Zf4 : g228 ≠ g227)); clear BK227; clear HB; have BK227 := n0_; have HB := n1_; have BK228 := n2_; have GW228 := n3_; have GE228 := n4_; have NB227_228 := n5_; have NB228_227 := n6_; clear n0_ n1_ n2_ n3_ n4_ n5_ n6_; clear hb hbox hg; have hnb34 := NB227_228.out; have hnc34 := NB228_227.out; have hcz35_0 : w33.cell? ⟨g227, 0, none⟩ = some (.int .i64 a0_0) := (blk_cell BK227.out 0).trans rfl; have hcz35_1 : w33.cell? ⟨g227, 1, none⟩ = some (.int .i64 a0_1) := (blk_cell BK227.out 1).trans rfl; have hfz35_0 := blk_frozen BK227.out 0; have hfz35_1 := blk_frozen BK227.out 1; have hcz36_0 : w33.cell? ⟨g228, 0, none⟩ = some (.int .i64 a1_0) := (blk_cell BK228.out 0).trans rfl; have hcz36_1 : w33.cell? ⟨g228, 1, none⟩ = some (.int .i64 a1_1) := (blk_cell BK228.out 1).trans rfl; have hfz36_0 := blk_frozen BK228.out 0; have hfz36_1 := blk_frozen BK228.out 1) | ((with_reducible refine gate_callee (f := 24) rfl ?_); refine goesL_ (some 12) rfl rfl Try.func24 (by kernel_rfl) rfl #[.agg #[.int .i64 a0_0, .int .i64 a0_1], .agg #[.int .i64 a1_0, .int .i64 a1_1]] rfl Zf11 ?_; (with_reducible refine (impl_ways.calls k a0_0 a0_1 a1_0 a1_1 t229 _ A3.out).mono ?_); rintro e w37 ⟨rfl, hb⟩; refine ⟨_, rfl, ?_⟩; have n0_ := Afq (blk_below (g := g227) (o := .cells #[.int .i64 a0_0, .int .i64 a0_1] 27 (0, 0)) Zf13 hb); have n1_ := Afq (blk_below (g := g228) (o := .cells #[.int .i64 a1_0, .int .i64 a1_1] 27 (0, 0)) Zf14 hb); have n2_ := Afq (below_step Zf6 hb); clear BK227; clear BK228; clear HB; have BK227 := n0_; have BK228 := n1_; have HB := n2_; clear n0_ n1_ n2_; (try clear hb)) | ((with_reducible refine gate_dst (N := 15) rfl ?_); refine Kd.R_lit k37 _ 37 ?hg (N := 15) ?hd (xs := ([] : List (S37))) (inner := []) (ok := fun _ => True) (okp := fun _ => True) ?hr ?hp (fun _ hk => hk) trivial (Below.refl _ _) (Nat.le_refl _) (by simp) ?_; (case hd => rfl); (case hg => rfl); (case hr => first | (go_simp; done) | (go_simp; rfl)); (case hp => exact (Reps.none _ _)); intro v231 w38 ho39 hb hg_ hnew_; clear hg_ hnew_; (first | rw [← Ny230.out] at ho39 | (simp only [Int.reduceToNat] at ho39; rw [← Ny230.out] at ho39)); have n0_ := Afq (Kd.R_lower ho39 (below_size Zf6)); have n1_ := Afq (blk_below (g := g227) (o := .cells #[.int .i64 a0_0, .int .i64 a0_1] 27 (0, 0)) Zf13 hb); have n2_ := Afq (blk_below (g := g228) (o := .cells #[.int .i64 a1_0, .int .i64 a1_1] 27 (0, 0)) Zf14 hb); have n3_ := Afq (below_step Zf6 hb); clear BK227; clear BK228; clear HB; have HO232 := n0_; have BK227 := n1_; have BK228 := n2_; have HB := n3_; clear n0_ n1_ n2_ n3_; clear hb ho39))
   go_ret2
   exact ⟨_, Zrf, by (with_reducible repeat (first | apply Kd.R_alloc | apply Kd.R_drewN | apply Kd.R_drew)); exact HO232.out, by repeat (first | (with_reducible first | exact HB.out | apply below_alloc | apply pw_below_drewN | apply below_drew1 | refine below_set ?_ GE227.out | refine below_set ?_ GE228.out) | exact HB.out)⟩

/-! ### impl_Way_cells: function 26 -/
def impl_Way_cells.l0 : Nat → List (S27) → Int → Int → Int → Int → ByteArray → Option ((List (S27)))
  | 0, _, _, _, _, _, _ => none
  | k + 1, x3, x10, x11, x241000, x241001, x241002 => if x11 < x10 then (if 0 ≤ x11 then (if x11 < (x3.length : Int) then (if x11 < (x241002.size : Int) then ((impl_Cell_next.f ((rd_T27 x3 x11).f0) ((rd_T27 x3 x11).f1) (bt x241002 x11)).bind fun bt245 => (if x3.length < 8796093022208 then (impl_Way_cells.l0 k (x3 ++ [(⟨bt245.1, bt245.2⟩ : S27)]) x10 (wrap64 (x11 + 1)) x241000 x241001 x241002) else (none))) else (none)) else (none)) else (none)) else (some x3)
def impl_Way_cells.f (k : Nat) (a0_0 : Int) (a0_1 : Int) (a0_2 : ByteArray) : Option ((List (S27))) := impl_Way_cells.l0 k (([(⟨a0_0, a0_1⟩ : S27)] : List (S27))) (a0_2.size : Int) 0 a0_0 a0_1 a0_2
theorem impl_Way_cells.mono_l : ∀ k, (∀ y0 y1 y2 y3 y4 y5, LeO (impl_Way_cells.l0 k y0 y1 y2 y3 y4 y5) (impl_Way_cells.l0 (k + 1) y0 y1 y2 y3 y4 y5))
  | 0 => fun _ _ _ _ _ _ r h => by simp [impl_Way_cells.l0] at h
  | k + 1 => by
    have ih0 := impl_Way_cells.mono_l k
    · intro y0 y1 y2 y3 y4 y5
      unfold impl_Way_cells.l0
      repeat' first
      | (with_reducible exact ih0 _ _ _ _ _ _)
      | (with_reducible exact LeO.refl _)
      | (with_reducible exact LeO.none _)
      | (with_reducible refine LeO.ite ?_ ?_)
      | (with_reducible refine LeO.bind ?_ (fun _ => ?_))
      | exact ih0 _ _ _ _ _ _
      | exact LeO.none _
      | refine LeO.ite ?_ ?_
      | refine LeO.bind ?_ (fun _ => ?_)
theorem impl_Way_cells.mono : ∀ a0 a1 a2 k, LeO (impl_Way_cells.f k a0 a1 a2) (impl_Way_cells.f (k + 1) a0 a1 a2) := by
  intro a0 a1 a2 k
  have ih0 := impl_Way_cells.mono_l k
  unfold impl_Way_cells.f
  repeat' first
      | (with_reducible exact ih0 _ _ _ _ _ _)
      | (with_reducible exact LeO.refl _)
      | (with_reducible exact LeO.none _)
      | (with_reducible refine LeO.ite ?_ ?_)
      | (with_reducible refine LeO.bind ?_ (fun _ => ?_))
      | exact ih0 _ _ _ _ _ _
      | exact LeO.none _
      | refine LeO.ite ?_ ?_
      | refine LeO.bind ?_ (fun _ => ?_)
def impl_Way_cells.T5 : Bool × List (List Nat × List Nat) := (true, [([], []), ([], []), ([], []), ([1, 2], [1, 2]), ([3], [3]), ([], []), ([5], [5]), ([], []), ([6, 7], [6, 7]), ([4, 8], [4, 8]), ([9], [9]), ([0, 10, 9], [0, 10]), ([11, 11, 0, 1, 2, 3, 4, 5, 6, 7, 8, 9, 10, 11], [0, 1, 11])])
def impl_Way_cells.B5 : List Nat := [0, 0, 0, 6, 14, 0, 32, 0, 224, 510, 1022, 2047, 4095]
theorem impl_Way_cells.tab5 : rtab .any (opsOf Try.f26 5) = impl_Way_cells.T5 := by kernel_rfl
theorem impl_Way_cells.bits5 : waitsOk impl_Way_cells.T5.2 impl_Way_cells.B5 = true := by kernel_rfl
set_option maxHeartbeats 8000000 in
set_option maxRecDepth 100000 in
theorem impl_Way_cells.calls (k : Nat) (a0_0 : Int) (a0_1 : Int) (a0_2 : ByteArray) (r : List (S27)) (w : World) (h : impl_Way_cells.f k a0_0 a0_1 a0_2 = some r) :
    Calls Try.prog 26 #[.agg #[.int .i64 a0_0, .int .i64 a0_1, .string a0_2]] w fun e w' => ∃ v0_ : Value, e = .returned (v0_) ∧ Kd.R k27 27 w' w.heap.size (fun _ => True) v0_ r ∧ Below w.heap.size w w' := by
 have hu37 := Try.underlying37
 have hu27 := Try.underlying27
 have HB := Afq (Below.refl w.heap.size w)
 have H : (impl_Way_cells.l0 k (([(⟨a0_0, a0_1⟩ : S27)] : List (S27))) (a0_2.size : Int) 0 a0_0 a0_1 a0_2) = some r := h
 clear h
 obtain ⟨y241, hy241⟩ : ∃ y_ : List (S27), y_ = (([(⟨a0_0, a0_1⟩ : S27)] : List (S27))) := ⟨_, rfl⟩
 replace H : (impl_Way_cells.l0 k y241 (a0_2.size : Int) 0 a0_0 a0_1 a0_2) = some r := by first | (rw [hy241]; with_reducible exact H) | (have H2_ := (Option.bind_some _ _).symm.trans H; rw [hy241]; with_reducible exact H2_) | (have H2_ := (Option.bind_some _ _).symm.trans H; with_reducible exact H2_) | with_reducible exact H | (rw [hy241]; exact H) | exact H
 have Ny241 := Afq hy241
 clear hy241
 have H' := Afq H
 clear H
 go_enter Try.func26, Try.ntmps26
 go_wp2_with (first | ((with_reducible refine gate_dst (N := 1) rfl ?_); refine box_event ?hg (N := 1) ?hd (cs := #[.int .i64 a0_0, .int .i64 a0_1, .string a0_2]) (t := 37) ?hr ?_; (case hd => rfl); (case hg => rfl); (case hr => first | (go_simp; done) | (go_simp; rfl)); intro g240 hg w2 hbox hb; have n0_ := Afq (below_step Zf12 hb); have n1_ := Afq (hbox); have n2_ := Afq ((by rw [hg]; exact (below_size Zf12) : w.heap.size ≤ g240)); have n3_ := Afq ((by rw [hg]; exact (below_size Zf12) : w.heap.size ≤ g240)); clear HB; have HB := n0_; have BK240 := n1_; have GW240 := n2_; have GE240 := n3_; clear n0_ n1_ n2_ n3_; clear hb hbox hg; have hcz3_0 : w2.cell? ⟨g240, 0, none⟩ = some (.int .i64 a0_0) := (blk_cell BK240.out 0).trans rfl; have hcz3_1 : w2.cell? ⟨g240, 1, none⟩ = some (.int .i64 a0_1) := (blk_cell BK240.out 1).trans rfl; have hcz3_2 : w2.cell? ⟨g240, 2, none⟩ = some (.string a0_2) := (blk_cell BK240.out 2).trans rfl; have hfz3_0 := blk_frozen BK240.out 0; have hfz3_1 := blk_frozen BK240.out 1; have hfz3_2 := blk_frozen BK240.out 2) | ((with_reducible refine gate_dst (N := 7) rfl ?_); refine Kd.R_lit k27 _ 27 ?hg (N := 7) ?hd (xs := ([(⟨a0_0, a0_1⟩ : S27)] : List (S27))) (inner := [.int .i64 a0_0, .int .i64 a0_1]) (ok := fun _ => True) (okp := fun _ => True) ?hr ?hp (fun _ hk => hk) trivial (Below.refl _ _) (Nat.le_refl _) (by simp) ?_; (case hd => rfl); (case hg => rfl); (case hr => first | (go_simp; done) | (go_simp; rfl)); (case hp => exact (Reps.c2 (show Kd.M k27 _ _ _ (⟨a0_0, a0_1⟩ : S27) [.int .i64 a0_0, .int .i64 a0_1] from (k27_mkM _ _ _ (⟨a0_0, a0_1⟩ : S27) )) (Reps.none _ _))); intro v242 w4 ho5 hb hg_ hnew_; clear hg_ hnew_; (first | rw [← Ny241.out] at ho5 | (simp only [Int.reduceToNat] at ho5; rw [← Ny241.out] at ho5)); have n0_ := Afq (Kd.R_lower ho5 (below_size Zf10)); have n1_ := Afq (blk_below (g := g240) (o := .cells #[.int .i64 a0_0, .int .i64 a0_1, .string a0_2] 37 (0, 0)) (by (with_reducible repeat (first | refine blk_drewN ?_ _ | refine blk_drew ?_ | refine blk_alloc ?_ _)); exact BK240.out) hb); have n2_ := Afq (below_step Zf10 hb); clear BK240; clear HB; have HO243 := n0_; have BK240 := n1_; have HB := n2_; clear n0_ n1_ n2_; clear hb ho5; have hcz6_0 : w4.cell? ⟨g240, 0, none⟩ = some (.int .i64 a0_0) := (blk_cell BK240.out 0).trans rfl; have hcz6_1 : w4.cell? ⟨g240, 1, none⟩ = some (.int .i64 a0_1) := (blk_cell BK240.out 1).trans rfl; have hcz6_2 : w4.cell? ⟨g240, 2, none⟩ = some (.string a0_2) := (blk_cell BK240.out 2).trans rfl; have hfz6_0 := blk_frozen BK240.out 0; have hfz6_1 := blk_frozen BK240.out 1; have hfz6_2 := blk_frozen BK240.out 2))
 go_loopg [3, 11] k (fun kq v3 v11 w' => ∃ (x3_1 : List (S27)) (x11_1 : Int), v11 = .int .i64 x11_1 ∧ Aside0 (impl_Way_cells.l0 kq x3_1 (a0_2.size : Int) x11_1 a0_0 a0_1 a0_2 = some r) ∧ Aside0 (kq ≤ k) ∧ Aside0 (Kd.R k27 27 w' w.heap.size (fun _ => True) v3 x3_1) ∧ Aside0 (w'.heap[g240]? = some (.cells #[.int .i64 a0_0, .int .i64 a0_1, .string a0_2] 37 (0, 0))) ∧ Aside0 (Below w.heap.size w w'))
 case atStart => exact ⟨(y241), (0), Zf17, H', ⟨Nat.le_refl _⟩, ⟨by (with_reducible repeat (first | apply Kd.R_alloc | apply Kd.R_drewN | apply Kd.R_drew)); exact HO243.out⟩, ⟨by (with_reducible repeat (first | refine blk_drewN ?_ _ | refine blk_drew ?_ | refine blk_alloc ?_ _)); exact BK240.out⟩, ⟨by repeat (first | (with_reducible first | exact HB.out | apply below_alloc | apply pw_below_drewN | apply below_drew1 | refine below_set ?_ GE240.out) | exact HB.out)⟩⟩
 case round =>
  clear H'
  try clear c2
  try clear p2
  try clear hcz3_0
  try clear hcz3_1
  try clear hcz3_2
  try clear hcz6_0
  try clear hcz6_1
  try clear hcz6_2
  try clear hfz3_0
  try clear hfz3_1
  try clear hfz3_2
  try clear hfz6_0
  try clear hfz6_1
  try clear hfz6_2
  obtain ⟨x3_1, x11_1, rfl, HA, HK1, HO_3, BK240, HB⟩ := hrel
  cases gk with
  | zero => exact absurd HA.out (by simp [impl_Way_cells.l0])
  | succ k1 =>
   have H := HA.out
   clear HA
   simp only [impl_Way_cells.l0] at H
   by_cases c7 : x11_1 < (a0_2.size : Int)
   ·
    rw [if_pos c7] at H
    have c7b0 : decide (x11_1 < (a0_2.size : Int)) = true := decide_eq_true c7
    clear c7
    by_cases c8 : 0 ≤ x11_1
    ·
     rw [if_pos c8] at H
     have c8b0 : decide (0 ≤ x11_1) = true := decide_eq_true c8
     clear c8
     by_cases c9 : x11_1 < (x3_1.length : Int)
     ·
      rw [if_pos c9] at H
      have c9b0 : decide (x11_1 < (x3_1.length : Int)) = true := decide_eq_true c9
      clear c9
      by_cases c10 : x11_1 < (a0_2.size : Int)
      ·
       rw [if_pos c10] at H
       have c10b0 : decide (x11_1 < (a0_2.size : Int)) = true := decide_eq_true c10
       clear c10
       replace H := Option.bind_eq_some_iff.mp H
       obtain ⟨⟨t245, t246⟩, A120, H⟩ := H
       replace H : (if x3_1.length < 8796093022208 then (impl_Way_cells.l0 k1 (x3_1 ++ [(⟨t245, t246⟩ : S27)]) (a0_2.size : Int) (wrap64 (x11_1 + 1)) a0_0 a0_1 a0_2) else (none)) = some r := H
       have A12 := Afq A120
       clear A120
       by_cases c13 : x3_1.length < 8796093022208
       ·
        rw [if_pos c13] at H
        have LMc13 := Afq c13
        clear c13
        obtain ⟨y247, hy247⟩ : ∃ y_ : List (S27), y_ = (x3_1 ++ [(⟨t245, t246⟩ : S27)]) := ⟨_, rfl⟩
        replace H : (impl_Way_cells.l0 k1 y247 (a0_2.size : Int) (wrap64 (x11_1 + 1)) a0_0 a0_1 a0_2) = some r := by first | (rw [hy247]; with_reducible exact H) | (have H2_ := (Option.bind_some _ _).symm.trans H; rw [hy247]; with_reducible exact H2_) | (have H2_ := (Option.bind_some _ _).symm.trans H; with_reducible exact H2_) | with_reducible exact H | (rw [hy247]; exact H) | exact H
        have Ny247 := Afq hy247
        clear hy247
        have H' := Afq H
        clear H
        try go_wp2
        have n0_ := Afq (Kd.R_drew HO_3.out)
        have n1_ := Afq (blk_drew BK240.out)
        have n2_ := Afq (below_drew1 HB.out)
        clear HO_3 BK240 HB
        have HO_3 := n0_
        have BK240 := n1_
        have HB := n2_
        clear n0_ n1_ n2_
        obtain ⟨Ao15, co15, eo15⟩ := Kd.R_slice HO_3.out
        (first | subst eo15 | (injection eo15 with f1_ f2_ f3_; have f4_ := f1_.symm; have f5_ := f3_.symm; clear f1_ f2_ f3_; subst f4_; subst f5_))
        have p244 : 0 ≤ (x11_1 : Int) := of_decide_eq_true Zf18
        have q244 : x11_1 < (x3_1.length : Int) := of_decide_eq_true Zf18
        obtain ⟨ad244, e244, hx244_0, hx244_1⟩ := at_T27 (Kd.R_reads' HO_3.out).2.2 x11_1 p244 q244
        cases e244
        replace p244 := eq_true p244
        replace q244 := eq_true q244
        have p11 : 0 ≤ (x11_1 : Int) := of_decide_eq_true Zf18
        have q11 : x11_1 < (a0_2.size : Int) := of_decide_eq_true Zf18
        have hx11 := bt_at a0_2 x11_1
        replace p11 := eq_true p11
        replace q11 := eq_true q11
        refine start_ (n := 13) (S := fun w' => w'.cell? ⟨g240, 0, none⟩ = some (.int .i64 a0_0) ∧ w'.cell? ⟨g240, 1, none⟩ = some (.int .i64 a0_1) ∧ w'.cell? ⟨g240, 2, none⟩ = some (.string a0_2) ∧ w'.cell? (ad244.add ((x11_1).toNat * 2)) = some (.int .i64 ((rd_T27 x3_1 x11_1).f0)) ∧ w'.cell? ⟨(ad244.add ((x11_1).toNat * 2)).block, (ad244.add ((x11_1).toNat * 2)).off + 1, none⟩ = some (.int .i64 ((rd_T27 x3_1 x11_1).f1))) (ds := [10, 11]) #[false, false, false, false, false, false, false, false, false, false, false, false, false] (by kernel_rfl) rfl rfl ⟨(blk_cell BK240.out 0).trans rfl, (blk_cell BK240.out 1).trans rfl, (blk_cell BK240.out 2).trans rfl, hx244_0, hx244_1⟩ (fun hHeld => ?_); refine with_tabW impl_Way_cells.tab5 impl_Way_cells.bits5 (fun HT_ HW_ => ?_)
        generalize wr.drew = w14 at HO_3 BK240 HB hx244_0 hx244_1 hHeld ⊢
        refine pure_ (i := 0) (N := some 14) (v := ?_) (a' := ?_) #[true, false, false, false, false, false, false, false, false, false, false, false, false] rfl rfl (any_of HT_.out (by kernel_rfl)) (fun _ _ _ h => h) (Or.inl ⟨by rfl, ?_⟩) ?_ ?_
        rotate_left
        ·
         intro w'
         go_simp
         with_reducible rfl
        rotate_left
        ·
         simp only [Act.put, y1f, y2f, y3f, i64_w, i32_w]
         rfl
        refine pure_ (i := 1) (N := some 15) (v := ?_) (a' := ?_) #[true, true, false, false, false, false, false, false, false, false, false, false, false] rfl rfl (any_of HT_.out (by kernel_rfl)) (fun _ _ _ h => h) (Or.inl ⟨by rfl, ?_⟩) ?_ ?_
        rotate_left
        ·
         intro w'
         go_simp
         with_reducible rfl
        rotate_left
        ·
         simp only [Act.put, y1f, y2f, y3f, i64_w, i32_w]
         rfl
        refine pure_ (i := 2) (N := some 16) (v := ?_) (a' := ?_) #[true, true, true, false, false, false, false, false, false, false, false, false, false] rfl rfl (any_of HT_.out (by kernel_rfl)) (fun _ _ _ h => h) (Or.inl ⟨by rfl, ?_⟩) ?_ ?_
        rotate_left
        ·
         intro w'
         go_simp
         with_reducible rfl
        rotate_left
        ·
         simp only [Act.put, y1f, y2f, y3f, i64_w, i32_w]
         rfl
        refine pure_ (i := 3) (N := some 17) (v := ?_) (a' := ?_) #[true, true, true, true, false, false, false, false, false, false, false, false, false] rfl rfl (any_of HT_.out (by kernel_rfl)) (fun _ _ _ h => h) (Or.inl ⟨by rfl, ?_⟩) ?_ ?_
        rotate_left
        ·
         intro w'
         go_simp
         with_reducible rfl
        rotate_left
        ·
         simp only [Act.put, y1f, y2f, y3f, i64_w, i32_w]
         rfl
        refine pure_ (i := 5) (N := some 19) (v := ?_) (a' := ?_) #[true, true, true, true, false, true, false, false, false, false, false, false, false] rfl rfl (any_of HT_.out (by kernel_rfl)) (fun _ _ _ h => h) (Or.inl ⟨by rfl, ?_⟩) ?_ ?_
        rotate_left
        ·
         intro w'
         go_simp
         with_reducible rfl
        rotate_left
        ·
         simp only [Act.put, y1f, y2f, y3f, i64_w, i32_w]
         rfl
        refine pure_ (i := 7) (N := some 21) (v := ?_) (a' := ?_) #[true, true, true, true, false, true, false, true, false, false, false, false, false] rfl rfl (any_of HT_.out (by kernel_rfl)) (fun _ _ _ h => h) (Or.inl ⟨by rfl, ?_⟩) ?_ ?_
        rotate_left
        ·
         intro w'
         go_simp
         with_reducible rfl
        rotate_left
        ·
         simp only [Act.put, y1f, y2f, y3f, i64_w, i32_w]
         rfl
        refine take_ (i := 4) (N := some 18) (v := ?_) (a' := ?_) #[true, true, true, true, true, true, false, true, false, false, false, false, false] rfl rfl (take_ofW HT_.out HW_.out (by kernel_rfl)) (fun _ _ _ h => h) (Or.inl ⟨by rfl, ?_⟩) hHeld ?_ ?_
        rotate_left
        ·
         rintro w' ⟨s0, s1, s2, s3, s4⟩
         go_simp
         with_reducible rfl
        rotate_left
        ·
         simp only [Act.put, y1f, y2f, y3f, i64_w, i32_w]
         rfl
        refine take_ (i := 6) (N := some 20) (v := ?_) (a' := ?_) #[true, true, true, true, true, true, true, true, false, false, false, false, false] rfl rfl (take_ofW HT_.out HW_.out (by kernel_rfl)) (fun _ _ _ h => h) (Or.inl ⟨by rfl, ?_⟩) hHeld ?_ ?_
        rotate_left
        ·
         rintro w' ⟨s0, s1, s2, s3, s4⟩
         go_simp
         with_reducible rfl
        rotate_left
        ·
         simp only [Act.put, y1f, y2f, y3f, i64_w, i32_w]
         rfl
        refine take_ (i := 8) (N := some 22) (v := ?_) (a' := ?_) #[true, true, true, true, true, true, true, true, true, false, false, false, false] rfl rfl (take_ofW HT_.out HW_.out (by kernel_rfl)) (fun _ _ _ h => h) (Or.inl ⟨by rfl, ?_⟩) hHeld ?_ ?_
        rotate_left
        ·
         rintro w' ⟨s0, s1, s2, s3, s4⟩
         go_simp
         with_reducible rfl
        rotate_left
        ·
         simp only [Act.put, y1f, y2f, y3f, i64_w, i32_w]
         rfl
        refine one_ (i := 9) (N := some 23) #[true, true, true, true, true, true, true, true, true, true, false, false, false] rfl rfl (one_of HT_.out (by kernel_rfl)) (by decide) (fun K hK => ?_)
        refine goes_ Try.func32 (by kernel_rfl) rfl #[.agg #[.int .i64 ((rd_T27 x3_1 x11_1).f0), .int .i64 ((rd_T27 x3_1 x11_1).f1)], .int .u8 (bt a0_2 x11_1)] (by rfl) rfl rfl Zf11 ?_
        with_reducible refine (impl_Cell_next.calls ((rd_T27 x3_1 x11_1).f0) ((rd_T27 x3_1 x11_1).f1) (bt a0_2 x11_1) t245 t246 _ A12.out).mono ?_
        rintro e w16 ⟨rfl, hb⟩
        have HS3_ := (hb.cell (World.block_lt_of_cell? _ _ (hHeld.2.2.2.1))).trans (hHeld.2.2.2.1)
        have HS4_ := (hb.cell (World.block_lt_of_cell? _ _ (hHeld.2.2.2.2))).trans (hHeld.2.2.2.2)
        refine ⟨_, rfl, ?_⟩
        have n0_ := Afq (Kd.R_below (by (with_reducible repeat (first | apply Kd.R_alloc | apply Kd.R_drewN | apply Kd.R_drew)); exact HO_3.out) hb)
        have n1_ := Afq (blk_below (g := g240) (o := .cells #[.int .i64 a0_0, .int .i64 a0_1, .string a0_2] 37 (0, 0)) (by (with_reducible repeat (first | refine blk_drewN ?_ _ | refine blk_drew ?_ | refine blk_alloc ?_ _)); exact BK240.out) hb)
        have n2_ := Afq (below_step Zf10 hb)
        clear HO_3 BK240 HB
        have HO_3 := n0_
        have BK240 := n1_
        have HB := n2_
        clear n0_ n1_ n2_
        (try clear hb)
        refine hK.out _ _ ⟨(blk_cell BK240.out 0).trans rfl, (blk_cell BK240.out 1).trans rfl, (blk_cell BK240.out 2).trans rfl, HS3_, HS4_⟩ (fun hHeld => ?_)
        clear hK K
        refine norm_ (a' := ?_) ?_ ?_
        rotate_left
        ·
         show Act.put _ (some 23) _ = _
         simp only [Act.put, y1f, y2f, y3f, i64_w, i32_w]
         rfl
        refine last_ (i := 10) (N := some 24) #[true, true, true, true, true, true, true, true, true, true, true, false, false] rfl rfl (one_of HT_.out (by kernel_rfl)) (by decide) (fun K hK => ?_)
        refine value_ (w1 := ?_) (v := ?_) (by rfl) rfl ?_ ?_
        rotate_left 2
        ·
         go_simp
         constructor
         ·
          rfl
         ·
          rfl
        refine hK.out _ _ ?_
        clear hK K
        refine norm_ (a' := ?_) ?_ ?_
        rotate_left
        ·
         show Act.put _ (some 24) _ = _
         simp only [Act.put, y1f, y2f, y3f, i64_w, i32_w]
         rfl
        refine last_ (i := 11) (N := some 25) #[true, true, true, true, true, true, true, true, true, true, true, true, false] rfl rfl (one_of HT_.out (by kernel_rfl)) (by decide) (fun K hK => ?_)
        refine Kd.R_append_step k27 (w0 := w) w.heap.size (by rfl) (.tmp 14) (.tmp 24) 48 27 (.agg #[(.int .i64 0), (.int .i64 0)]) 16 rfl Try.underlying48 info27 rfl (by decide) (by omega) (.slice (some ad244) x3_1.length co15) x3_1 (⟨t245, t246⟩ : S27) [.int .i64 t245, .int .i64 t246] (fun _ => True) (fun _ => False) rfl rfl ?aP (fun _ hk => hk.elim) ?aF ?aO ?aB ?aS ?aL ?_
        (case aP => exact k27_mkM _ _ _ (⟨t245, t246⟩ : S27))
        (case aB => exact Zf10)
        (case aF => exact (fun _ _ => trivial))
        (case aO => exact (by (with_reducible repeat (first | apply Kd.R_alloc | apply Kd.R_drewN | apply Kd.R_drew)); exact HO_3.out))
        (case aS => exact (below_size Zf10))
        (case aL => have := LMc13.out; omega)
        intro v248 w17 ho hb hg hat
        rw [← Ny247.out] at ho
        have n0_ := Afq (blk_grown (g := g240) (o := .cells #[.int .i64 a0_0, .int .i64 a0_1, .string a0_2] 37 (0, 0)) (by (with_reducible repeat (first | refine blk_drewN ?_ _ | refine blk_drew ?_ | refine blk_alloc ?_ _)); exact BK240.out) hg (Kd.R_ne HO_3.out BK240.out (by decide)))
        have n1_ := Afq (hb)
        have n2_ := Afq (ho)
        clear BK240 HB HO_3
        have BK240 := n0_
        have HB := n1_
        have HO249 := n2_
        clear n0_ n1_ n2_ ho hb hg hat
        refine hK.out _ _ ?_
        clear hK K
        refine norm_ (a' := ?_) ?_ ?_
        rotate_left
        ·
         show Act.put _ (some 25) _ = _
         simp only [Act.put, y1f, y2f, y3f, i64_w, i32_w]
         rfl
        refine pure_ (i := 12) (N := some 3) (v := ?_) (a' := ?_) #[true, true, true, true, true, true, true, true, true, true, true, true, true] rfl rfl (any_of HT_.out (by kernel_rfl)) (fun _ _ _ h => h) (Or.inl ⟨by rfl, ?_⟩) ?_ ?_
        rotate_left
        ·
         intro w'
         go_simp
         with_reducible rfl
        rotate_left
        ·
         simp only [Act.put, y1f, y2f, y3f, i64_w, i32_w]
         rfl
        refine done_ (done_of HT_.out (by kernel_rfl)) ?_
        try go_wp2
        go_roundg k1
        case measure => have := HK1.out; omega
        case rel => exact ⟨(y247), (wrap64 (x11_1 + 1)), Zf17, H', ⟨by have := HK1.out; omega⟩, ⟨by (with_reducible repeat (first | apply Kd.R_alloc | apply Kd.R_drewN | apply Kd.R_drew)); exact HO249.out⟩, ⟨by (with_reducible repeat (first | refine blk_drewN ?_ _ | refine blk_drew ?_ | refine blk_alloc ?_ _)); exact BK240.out⟩, ⟨by repeat (first | (with_reducible first | exact HB.out | apply below_alloc | apply pw_below_drewN | apply below_drew1 | refine below_set ?_ GE240.out) | exact HB.out)⟩⟩
       ·
        rw [if_neg c13] at H
        exact absurd H (by simp)
      ·
       rw [if_neg c10] at H
       exact absurd H (by simp)
     ·
      rw [if_neg c9] at H
      exact absurd H (by simp)
    ·
     rw [if_neg c8] at H
     exact absurd H (by simp)
   ·
    rw [if_neg c7] at H
    have c7b0 : decide (x11_1 < (a0_2.size : Int)) = false := decide_eq_false c7
    clear c7
    obtain rfl := Option.some.inj H
    go_wp2
    go_ret
    exact ⟨_, Zrf, by (with_reducible repeat (first | apply Kd.R_alloc | apply Kd.R_drewN | apply Kd.R_drew)); exact HO_3.out, by repeat (first | (with_reducible first | exact HB.out | apply below_alloc | apply pw_below_drewN | apply below_drew1 | refine below_set ?_ GE240.out) | exact HB.out)⟩

/-! ### impl_Cell: function 27 -/
def impl_Cell.l0 : Nat → List (S27) → Int → Int → Int → Int → Option (Int)
  | 0, _, _, _, _, _ => none
  | k + 1, x0, x7, x8, x251000, x251001 => if x8 < x7 then (if 0 ≤ x8 then (if x8 < (x0.length : Int) then (if (x251000 == ((rd_T27 x0 x8).f0) && (x251001 == ((rd_T27 x0 x8).f1))) = true then (some x8) else (impl_Cell.l0 k x0 x7 (wrap64 (x8 + 1)) x251000 x251001)) else (none)) else (none)) else (some (-1))
def impl_Cell.f (k : Nat) (l0 : List (S27)) (a1_0 : Int) (a1_1 : Int) : Option (Int) := impl_Cell.l0 k l0 (l0.length : Int) 0 a1_0 a1_1
theorem impl_Cell.mono_l : ∀ k, (∀ y0 y1 y2 y3 y4, LeO (impl_Cell.l0 k y0 y1 y2 y3 y4) (impl_Cell.l0 (k + 1) y0 y1 y2 y3 y4))
  | 0 => fun _ _ _ _ _ r h => by simp [impl_Cell.l0] at h
  | k + 1 => by
    have ih0 := impl_Cell.mono_l k
    · intro y0 y1 y2 y3 y4
      unfold impl_Cell.l0
      repeat' first
      | (with_reducible exact ih0 _ _ _ _ _)
      | (with_reducible exact LeO.refl _)
      | (with_reducible exact LeO.none _)
      | (with_reducible refine LeO.ite ?_ ?_)
      | (with_reducible refine LeO.bind ?_ (fun _ => ?_))
      | exact ih0 _ _ _ _ _
      | exact LeO.none _
      | refine LeO.ite ?_ ?_
      | refine LeO.bind ?_ (fun _ => ?_)
theorem impl_Cell.mono : ∀ a0 a1 a2 k, LeO (impl_Cell.f k a0 a1 a2) (impl_Cell.f (k + 1) a0 a1 a2) := by
  intro a0 a1 a2 k
  have ih0 := impl_Cell.mono_l k
  unfold impl_Cell.f
  repeat' first
      | (with_reducible exact ih0 _ _ _ _ _)
      | (with_reducible exact LeO.refl _)
      | (with_reducible exact LeO.none _)
      | (with_reducible refine LeO.ite ?_ ?_)
      | (with_reducible refine LeO.bind ?_ (fun _ => ?_))
      | exact ih0 _ _ _ _ _
      | exact LeO.none _
      | refine LeO.ite ?_ ?_
      | refine LeO.bind ?_ (fun _ => ?_)
set_option maxHeartbeats 8000000 in
set_option maxRecDepth 100000 in
theorem impl_Cell.calls (k : Nat) (A0 : Option Addr) (c0 : Nat) (l0 : List (S27)) (a1_0 : Int) (a1_1 : Int) (r : Int) (w : World) (hr0 : Kd.C k27 w A0 l0.length l0) (hc0 : l0.length ≤ c0) (h : impl_Cell.f k l0 a1_0 a1_1 = some r) :
    Calls Try.prog 27 #[.slice A0 l0.length c0, .agg #[.int .i64 a1_0, .int .i64 a1_1]] w fun e w' => e = .returned (.int .i64 r) ∧ Below w.heap.size w w' := by
 have hu27 := Try.underlying27
 have HR0 := Afq hr0
 have HC0 := Afq hc0
 clear hr0 hc0
 have HB := Afq (Below.refl w.heap.size w)
 have H : (impl_Cell.l0 k l0 (l0.length : Int) 0 a1_0 a1_1) = some r := h
 clear h
 have H' := Afq H
 clear H
 go_enter Try.func27, Try.ntmps27
 go_wp2_with (first | ((with_reducible refine gate_dst (N := 3) rfl ?_); refine box_event ?hg (N := 3) ?hd (cs := #[.int .i64 a1_0, .int .i64 a1_1]) (t := 27) ?hr ?_; (case hd => rfl); (case hg => rfl); (case hr => first | (go_simp; done) | (go_simp; rfl)); intro g250 hg w3 hbox hb; have n0_ := Afq (below_step Zf12 hb); have n1_ := Afq (hbox); have n2_ := Afq ((Zf9 : w.heap.size ≤ g250)); have n3_ := Afq ((Zf9 : w.heap.size ≤ g250)); clear HB; have HB := n0_; have BK250 := n1_; have GW250 := n2_; have GE250 := n3_; clear n0_ n1_ n2_ n3_; clear hb hbox hg))
 repeat (go_quiet (first | ((with_reducible refine gate_dst (N := 3) rfl ?_); refine box_event ?hg (N := 3) ?hd (cs := #[.int .i64 a1_0, .int .i64 a1_1]) (t := 27) ?hr ?_; (case hd => rfl); (case hg => rfl); (case hr => first | (go_simp; done) | (go_simp; rfl)); intro g250 hg w3 hbox hb; have n0_ := Afq (below_step Zf12 hb); have n1_ := Afq (hbox); have n2_ := Afq ((Zf9 : w.heap.size ≤ g250)); have n3_ := Afq ((Zf9 : w.heap.size ≤ g250)); clear HB; have HB := n0_; have BK250 := n1_; have GW250 := n2_; have GE250 := n3_; clear n0_ n1_ n2_ n3_; clear hb hbox hg)); try go_wp2_with (first | ((with_reducible refine gate_dst (N := 3) rfl ?_); refine box_event ?hg (N := 3) ?hd (cs := #[.int .i64 a1_0, .int .i64 a1_1]) (t := 27) ?hr ?_; (case hd => rfl); (case hg => rfl); (case hr => first | (go_simp; done) | (go_simp; rfl)); intro g250 hg w3 hbox hb; have n0_ := Afq (below_step Zf12 hb); have n1_ := Afq (hbox); have n2_ := Afq ((Zf9 : w.heap.size ≤ g250)); have n3_ := Afq ((Zf9 : w.heap.size ≤ g250)); clear HB; have HB := n0_; have BK250 := n1_; have GW250 := n2_; have GE250 := n3_; clear n0_ n1_ n2_ n3_; clear hb hbox hg)))
 go_loopg [8] k (fun kq v8 w' => ∃ (x8_1 : Int), v8 = .int .i64 x8_1 ∧ Aside0 (impl_Cell.l0 kq l0 (l0.length : Int) x8_1 a1_0 a1_1 = some r) ∧ Aside0 (kq ≤ k) ∧ Aside0 (w'.heap[g250]? = some (.cells #[.int .i64 a1_0, .int .i64 a1_1] 27 (0, 0))) ∧ Aside0 (Below w.heap.size w w'))
 case atStart => exact ⟨(0), Zf17, H', ⟨Nat.le_refl _⟩, ⟨by (with_reducible repeat (first | refine blk_drewN ?_ _ | refine blk_drew ?_ | refine blk_alloc ?_ _)); exact BK250.out⟩, ⟨by repeat (first | (with_reducible first | exact HB.out | apply below_alloc | apply pw_below_drewN | apply below_drew1 | refine below_set ?_ GE250.out) | exact HB.out)⟩⟩
 case round =>
  clear H'
  try clear c2
  try clear p2
  obtain ⟨x8_1, rfl, HA, HK1, BK250, HB⟩ := hrel
  cases gk with
  | zero => exact absurd HA.out (by simp [impl_Cell.l0])
  | succ k1 =>
   have H := HA.out
   clear HA
   simp only [impl_Cell.l0] at H
   by_cases c4 : x8_1 < (l0.length : Int)
   ·
    rw [if_pos c4] at H
    have c4b0 : decide (x8_1 < (l0.length : Int)) = true := decide_eq_true c4
    clear c4
    by_cases c5 : 0 ≤ x8_1
    ·
     rw [if_pos c5] at H
     have c5b0 : decide (0 ≤ x8_1) = true := decide_eq_true c5
     clear c5
     by_cases c6 : x8_1 < (l0.length : Int)
     ·
      rw [if_pos c6] at H
      have c6b0 : decide (x8_1 < (l0.length : Int)) = true := decide_eq_true c6
      clear c6
      by_cases c7 : (a1_0 == ((rd_T27 l0 x8_1).f0) && (a1_1 == ((rd_T27 l0 x8_1).f1))) = true
      ·
       rw [if_pos c7] at H
       have c7b0 : (a1_0 == ((rd_T27 l0 x8_1).f0) && (a1_1 == ((rd_T27 l0 x8_1).f1))) = true := c7
       (try (have c7b1 : decide (a1_0 = ((rd_T27 l0 x8_1).f0) && (a1_1 == ((rd_T27 l0 x8_1).f1))) = true := by simpa using c7))
       (try (have c7b2 : (a1_0 == ((rd_T27 l0 x8_1).f0) && (a1_1 == ((rd_T27 l0 x8_1).f1))) = true := by simpa using c7))
       clear c7
       obtain rfl := Option.some.inj H
       have hcz8_0 : wr.cell? ⟨g250, 0, none⟩ = some (.int .i64 a1_0) := (blk_cell BK250.out 0).trans rfl
       have hcz8_1 : wr.cell? ⟨g250, 1, none⟩ = some (.int .i64 a1_1) := (blk_cell BK250.out 1).trans rfl
       have hfz8_0 := blk_frozen BK250.out 0
       have hfz8_1 := blk_frozen BK250.out 1
       have p251 : 0 ≤ (x8_1 : Int) := of_decide_eq_true Zf18
       have q251 : x8_1 < (l0.length : Int) := of_decide_eq_true Zf18
       obtain ⟨ad251, e251, hx251_0, hx251_1⟩ := at_T27 HR0.out x8_1 p251 q251
       cases e251
       replace hx251_0 := (HB.out.cell (World.block_lt_of_cell? w _ hx251_0)).trans hx251_0
       replace hx251_1 := (HB.out.cell (World.block_lt_of_cell? w _ hx251_1)).trans hx251_1
       replace p251 := eq_true p251
       replace q251 := eq_true q251
       go_wp2
       repeat (go_quiet (fail); try go_wp2)
       go_ret
       exact ⟨Zrf, by repeat (first | (with_reducible first | exact HB.out | apply below_alloc | apply pw_below_drewN | apply below_drew1 | refine below_set ?_ GE250.out) | exact HB.out)⟩
      ·
       rw [if_neg c7] at H
       have c7b0 : (a1_0 == ((rd_T27 l0 x8_1).f0) && (a1_1 == ((rd_T27 l0 x8_1).f1))) = false := by simpa using c7
       (try (have c7b1 : decide (a1_0 = ((rd_T27 l0 x8_1).f0) && (a1_1 == ((rd_T27 l0 x8_1).f1))) = false := by simpa using c7))
       (try (have c7b2 : (a1_0 == ((rd_T27 l0 x8_1).f0) && (a1_1 == ((rd_T27 l0 x8_1).f1))) = false := by simpa using c7))
       (try (have c7b3 : ¬ (a1_0 = ((rd_T27 l0 x8_1).f0) && (a1_1 == ((rd_T27 l0 x8_1).f1))) := by simpa using c7))
       clear c7
       have H' := Afq H
       clear H
       have hcz9_0 : wr.cell? ⟨g250, 0, none⟩ = some (.int .i64 a1_0) := (blk_cell BK250.out 0).trans rfl
       have hcz9_1 : wr.cell? ⟨g250, 1, none⟩ = some (.int .i64 a1_1) := (blk_cell BK250.out 1).trans rfl
       have hfz9_0 := blk_frozen BK250.out 0
       have hfz9_1 := blk_frozen BK250.out 1
       have p251 : 0 ≤ (x8_1 : Int) := of_decide_eq_true Zf18
       have q251 : x8_1 < (l0.length : Int) := of_decide_eq_true Zf18
       obtain ⟨ad251, e251, hx251_0, hx251_1⟩ := at_T27 HR0.out x8_1 p251 q251
       cases e251
       replace hx251_0 := (HB.out.cell (World.block_lt_of_cell? w _ hx251_0)).trans hx251_0
       replace hx251_1 := (HB.out.cell (World.block_lt_of_cell? w _ hx251_1)).trans hx251_1
       replace p251 := eq_true p251
       replace q251 := eq_true q251
       go_wp2
       repeat (go_quiet (fail); try go_wp2)
       go_roundg k1
       case measure => have := HK1.out; omega
       case rel => exact ⟨(wrap64 (x8_1 + 1)), Zf17, H', ⟨by have := HK1.out; omega⟩, ⟨by (with_reducible repeat (first | refine blk_drewN ?_ _ | refine blk_drew ?_ | refine blk_alloc ?_ _)); exact BK250.out⟩, ⟨by repeat (first | (with_reducible first | exact HB.out | apply below_alloc | apply pw_below_drewN | apply below_drew1 | refine below_set ?_ GE250.out) | exact HB.out)⟩⟩
     ·
      rw [if_neg c6] at H
      exact absurd H (by simp)
    ·
     rw [if_neg c5] at H
     exact absurd H (by simp)
   ·
    rw [if_neg c4] at H
    have c4b0 : decide (x8_1 < (l0.length : Int)) = false := decide_eq_false c4
    clear c4
    obtain rfl := Option.some.inj H
    go_wp2
    repeat (go_quiet (fail); try go_wp2)
    go_ret
    exact ⟨Zrf, by repeat (first | (with_reducible first | exact HB.out | apply below_alloc | apply pw_below_drewN | apply below_drew1 | refine below_set ?_ GE250.out) | exact HB.out)⟩

/-! ### impl_meeting: function 15 -/
def impl_meeting.l0 : Nat → List (S27) → List (S27) → Int → Int → Option (Int × Int)
  | 0, _, _, _, _ => none
  | k + 1, x6, x13, x14, x15 => if x15 < x14 then (if 0 ≤ x15 then (if x15 < (x13.length : Int) then ((impl_Cell.f k x6 ((rd_T27 x13 x15).f0) ((rd_T27 x13 x15).f1)).bind fun t262 => (if t262 ≥ 0 then (some (x15, t262)) else (impl_meeting.l0 k x6 x13 x14 (wrap64 (x15 + 1))))) else (none)) else (none)) else (some ((-1), (-1)))
def impl_meeting.f (k : Nat) (a0_0 : Int) (a0_1 : Int) (a0_2 : ByteArray) (a1_0 : Int) (a1_1 : Int) (a1_2 : ByteArray) : Option (Int × Int) := (impl_Way_cells.f k a1_0 a1_1 a1_2).bind fun t254 => ((impl_Way_cells.f k a0_0 a0_1 a0_2).bind fun t257 => (impl_meeting.l0 k t254 t257 (t257.length : Int) 0))
theorem impl_meeting.mono_l : ∀ k, (∀ y0 y1 y2 y3, LeO (impl_meeting.l0 k y0 y1 y2 y3) (impl_meeting.l0 (k + 1) y0 y1 y2 y3))
  | 0 => fun _ _ _ _ r h => by simp [impl_meeting.l0] at h
  | k + 1 => by
    have ih0 := impl_meeting.mono_l k
    · intro y0 y1 y2 y3
      unfold impl_meeting.l0
      repeat' first
      | (with_reducible exact ih0 _ _ _ _)
      | (with_reducible exact impl_Cell.mono _ _ _ _)
      | (with_reducible exact impl_Way_cells.mono _ _ _ _)
      | (with_reducible exact LeO.refl _)
      | (with_reducible exact LeO.none _)
      | (with_reducible refine LeO.ite ?_ ?_)
      | (with_reducible refine LeO.bind ?_ (fun _ => ?_))
      | exact ih0 _ _ _ _
      | exact impl_Cell.mono _ _ _ _
      | exact impl_Way_cells.mono _ _ _ _
      | exact LeO.none _
      | refine LeO.ite ?_ ?_
      | refine LeO.bind ?_ (fun _ => ?_)
theorem impl_meeting.mono : ∀ a0 a1 a2 a3 a4 a5 k, LeO (impl_meeting.f k a0 a1 a2 a3 a4 a5) (impl_meeting.f (k + 1) a0 a1 a2 a3 a4 a5) := by
  intro a0 a1 a2 a3 a4 a5 k
  have ih0 := impl_meeting.mono_l k
  unfold impl_meeting.f
  repeat' first
      | (with_reducible exact ih0 _ _ _ _)
      | (with_reducible exact impl_Cell.mono _ _ _ _)
      | (with_reducible exact impl_Way_cells.mono _ _ _ _)
      | (with_reducible exact LeO.refl _)
      | (with_reducible exact LeO.none _)
      | (with_reducible refine LeO.ite ?_ ?_)
      | (with_reducible refine LeO.bind ?_ (fun _ => ?_))
      | exact ih0 _ _ _ _
      | exact impl_Cell.mono _ _ _ _
      | exact impl_Way_cells.mono _ _ _ _
      | exact LeO.none _
      | refine LeO.ite ?_ ?_
      | refine LeO.bind ?_ (fun _ => ?_)
set_option maxHeartbeats 8000000 in
set_option maxRecDepth 100000 in
theorem impl_meeting.calls (k : Nat) (a0_0 : Int) (a0_1 : Int) (a0_2 : ByteArray) (a1_0 : Int) (a1_1 : Int) (a1_2 : ByteArray) (r1 : Int) (r2 : Int) (w : World) (h : impl_meeting.f k a0_0 a0_1 a0_2 a1_0 a1_1 a1_2 = some (r1, r2)) :
    Calls Try.prog 15 #[.agg #[.int .i64 a0_0, .int .i64 a0_1, .string a0_2], .agg #[.int .i64 a1_0, .int .i64 a1_1, .string a1_2]] w fun e w' => e = .returned (.tuple #[.int .i64 r1, .int .i64 r2]) ∧ Below w.heap.size w w' := by
 have hu37 := Try.underlying37
 have hu27 := Try.underlying27
 have HB := Afq (Below.refl w.heap.size w)
 have H : ((impl_Way_cells.f k a1_0 a1_1 a1_2).bind fun t254 => ((impl_Way_cells.f k a0_0 a0_1 a0_2).bind fun t257 => (impl_meeting.l0 k t254 t257 (t257.length : Int) 0))) = some (r1, r2) := h
 clear h
 replace H := Option.bind_eq_some_iff.mp H
 obtain ⟨t254, A30, H⟩ := H
 replace H : ((impl_Way_cells.f k a0_0 a0_1 a0_2).bind fun t257 => (impl_meeting.l0 k t254 t257 (t257.length : Int) 0)) = some (r1, r2) := H
 have A3 := Afq A30
 clear A30
 replace H := Option.bind_eq_some_iff.mp H
 obtain ⟨t257, A40, H⟩ := H
 replace H : (impl_meeting.l0 k t254 t257 (t257.length : Int) 0) = some (r1, r2) := H
 have A4 := Afq A40
 clear A40
 have H' := Afq H
 clear H
 go_enter Try.func15, Try.ntmps15
 go_wp2_with (first | ((with_reducible refine gate_dst (N := 2) rfl ?_); refine box_event ?hg (N := 2) ?hd (cs := #[.int .i64 a0_0, .int .i64 a0_1, .string a0_2]) (t := 37) ?hr ?_; (case hd => rfl); (case hg => rfl); (case hr => first | (go_simp; done) | (go_simp; rfl)); intro g252 hg w5 hbox hb; have n0_ := Afq (below_step Zf12 hb); have n1_ := Afq (hbox); have n2_ := Afq ((by rw [hg]; exact (below_size Zf12) : w.heap.size ≤ g252)); have n3_ := Afq ((by rw [hg]; exact (below_size Zf12) : w.heap.size ≤ g252)); clear HB; have HB := n0_; have BK252 := n1_; have GW252 := n2_; have GE252 := n3_; clear n0_ n1_ n2_ n3_; clear hb hbox hg) | ((with_reducible refine gate_dst (N := 3) rfl ?_); refine box_event ?hg (N := 3) ?hd (cs := #[.int .i64 a1_0, .int .i64 a1_1, .string a1_2]) (t := 37) ?hr ?_; (case hd => rfl); (case hg => rfl); (case hr => first | (go_simp; done) | (go_simp; rfl)); intro g253 hg w6 hbox hb; have n0_ := Afq (blk_below (g := g252) (o := .cells #[.int .i64 a0_0, .int .i64 a0_1, .string a0_2] 37 (0, 0)) Zf15 hb); have n1_ := Afq (below_step (by repeat (first | (with_reducible first | exact HB.out | apply below_alloc | apply pw_below_drewN | apply below_drew1 | refine below_set ?_ GE252.out) | exact HB.out)) hb); have n2_ := Afq (hbox); have n3_ := Afq ((by rw [hg]; exact (below_size (by repeat (first | (with_reducible first | exact HB.out | apply below_alloc | apply pw_below_drewN | apply below_drew1 | refine below_set ?_ GE252.out) | exact HB.out))) : w.heap.size ≤ g253)); have n4_ := Afq ((by rw [hg]; exact (below_size (by repeat (first | (with_reducible first | exact HB.out | apply below_alloc | apply pw_below_drewN | apply below_drew1 | refine below_set ?_ GE252.out) | exact HB.out))) : w.heap.size ≤ g253)); have n5_ := Afq ((by rw [hg]; exact Nat.ne_of_lt (blk_lt (g := g252) (o := .cells #[.int .i64 a0_0, .int .i64 a0_1, .string a0_2] 37 (0, 0)) Zf15) : g252 ≠ g253)); have n6_ := Afq ((by rw [hg]; exact Nat.ne_of_gt (blk_lt (g := g252) (o := .cells #[.int .i64 a0_0, .int .i64 a0_1, .string a0_2] 37 (0, 0)) Zf15) : g253 ≠ g252)); clear BK252; clear HB; have BK252 := n0_; have HB := n1_; have BK253 := n2_; have GW253 := n3_; have GE253 := n4_; have NB252_253 := n5_; have NB253_252 := n6_; clear n0_ n1_ n2_ n3_ n4_ n5_ n6_; clear hb hbox hg; have hnb7 := NB253_252.out; have hnc7 := NB252_253.out; have hcz8_0 : w6.cell? ⟨g253, 0, none⟩ = some (.int .i64 a1_0) := (blk_cell BK253.out 0).trans rfl; have hcz8_1 : w6.cell? ⟨g253, 1, none⟩ = some (.int .i64 a1_1) := (blk_cell BK253.out 1).trans rfl; have hcz8_2 : w6.cell? ⟨g253, 2, none⟩ = some (.string a1_2) := (blk_cell BK253.out 2).trans rfl; have hfz8_0 := blk_frozen BK253.out 0; have hfz8_1 := blk_frozen BK253.out 1; have hfz8_2 := blk_frozen BK253.out 2) | ((with_reducible refine gate_callee (f := 26) rfl ?_); refine goesL_ (some 11) rfl rfl Try.func26 (by kernel_rfl) rfl #[.agg #[.int .i64 a1_0, .int .i64 a1_1, .string a1_2]] rfl Zf11 ?_; (with_reducible refine (impl_Way_cells.calls k a1_0 a1_1 a1_2 t254 _ A3.out).mono ?_); rintro e w9 ⟨v255, rfl, ho0, hb⟩; refine ⟨_, rfl, ?_⟩; have n0_ := Afq (Kd.R_lower ho0 (below_size Zf7)); have n1_ := Afq (blk_below (g := g252) (o := .cells #[.int .i64 a0_0, .int .i64 a0_1, .string a0_2] 37 (0, 0)) Zf15 hb); have n2_ := Afq (blk_below (g := g253) (o := .cells #[.int .i64 a1_0, .int .i64 a1_1, .string a1_2] 37 (0, 0)) Zf16 hb); have n3_ := Afq (below_step Zf7 hb); clear BK252; clear BK253; clear HB; have HO256 := n0_; have BK252 := n1_; have BK253 := n2_; have HB := n3_; clear n0_ n1_ n2_ n3_; (try clear hb); (try clear ho0); have hcz10_0 : w9.cell? ⟨g252, 0, none⟩ = some (.int .i64 a0_0) := (blk_cell BK252.out 0).trans rfl; have hcz10_1 : w9.cell? ⟨g252, 1, none⟩ = some (.int .i64 a0_1) := (blk_cell BK252.out 1).trans rfl; have hcz10_2 : w9.cell? ⟨g252, 2, none⟩ = some (.string a0_2) := (blk_cell BK252.out 2).trans rfl; have hfz10_0 := blk_frozen BK252.out 0; have hfz10_1 := blk_frozen BK252.out 1; have hfz10_2 := blk_frozen BK252.out 2) | ((with_reducible refine gate_callee (f := 26) rfl ?_); refine goesL_ (some 13) rfl rfl Try.func26 (by kernel_rfl) rfl #[.agg #[.int .i64 a0_0, .int .i64 a0_1, .string a0_2]] rfl Zf11 ?_; (with_reducible refine (impl_Way_cells.calls k a0_0 a0_1 a0_2 t257 _ A4.out).mono ?_); rintro e w11 ⟨v258, rfl, ho0, hb⟩; refine ⟨_, rfl, ?_⟩; have n0_ := Afq (Kd.R_elder' (by (with_reducible repeat (first | apply Kd.R_alloc | apply Kd.R_drewN | apply Kd.R_drew)); exact HO256.out) (Kd.R_base ho0) hb); have n1_ := Afq (Kd.R_lower (Kd.R_new' ho0 (Kd.R_lt (by (with_reducible repeat (first | apply Kd.R_alloc | apply Kd.R_drewN | apply Kd.R_drew)); exact HO256.out))) (below_size Zf7)); have n2_ := Afq (blk_below (g := g252) (o := .cells #[.int .i64 a0_0, .int .i64 a0_1, .string a0_2] 37 (0, 0)) Zf15 hb); have n3_ := Afq (blk_below (g := g253) (o := .cells #[.int .i64 a1_0, .int .i64 a1_1, .string a1_2] 37 (0, 0)) Zf16 hb); have n4_ := Afq (below_step Zf7 hb); clear HO256; clear BK252; clear BK253; clear HB; have HO256 := n0_; have HO259 := n1_; have BK252 := n2_; have BK253 := n3_; have HB := n4_; clear n0_ n1_ n2_ n3_ n4_; (try clear hb); (try clear ho0); obtain ⟨Ao12, co12, eo12⟩ := Kd.R_slice HO259.out; subst eo12))
 go_loopg [15] k (fun kq v15 w' => ∃ (x15_1 : Int), v15 = .int .i64 x15_1 ∧ Aside0 (impl_meeting.l0 kq t254 t257 (t257.length : Int) x15_1 = some (r1, r2)) ∧ Aside0 (kq ≤ k) ∧ Aside0 (Kd.R k27 27 w' w.heap.size (fun k_ => some k_ ≠ ((.slice Ao12 t257.length co12) : Value).ownBlock) v255 t254) ∧ Aside0 (Kd.R k27 27 w' w.heap.size (fun k_ => some k_ ≠ (v255 : Value).ownBlock) (.slice Ao12 t257.length co12) t257) ∧ Aside0 (w'.heap[g252]? = some (.cells #[.int .i64 a0_0, .int .i64 a0_1, .string a0_2] 37 (0, 0))) ∧ Aside0 (w'.heap[g253]? = some (.cells #[.int .i64 a1_0, .int .i64 a1_1, .string a1_2] 37 (0, 0))) ∧ Aside0 (Below w.heap.size w w'))
 case atStart => exact ⟨(0), Zf17, H', ⟨Nat.le_refl _⟩, ⟨by (with_reducible repeat (first | apply Kd.R_alloc | apply Kd.R_drewN | apply Kd.R_drew)); exact Kd.R_mono HO256.out (fun _ hk => hk.2)⟩, ⟨by (with_reducible repeat (first | apply Kd.R_alloc | apply Kd.R_drewN | apply Kd.R_drew)); exact Kd.R_mono HO259.out (fun _ hk => hk.2)⟩, ⟨by (with_reducible repeat (first | refine blk_drewN ?_ _ | refine blk_drew ?_ | refine blk_alloc ?_ _)); exact BK252.out⟩, ⟨by (with_reducible repeat (first | refine blk_drewN ?_ _ | refine blk_drew ?_ | refine blk_alloc ?_ _)); exact BK253.out⟩, ⟨by repeat (first | (with_reducible first | exact HB.out | apply below_alloc | apply pw_below_drewN | apply below_drew1 | refine below_set ?_ GE252.out | refine below_set ?_ GE253.out) | exact HB.out)⟩⟩
 case round =>
  clear H'
  try clear c1
  try clear c2
  try clear p2
  try clear c7
  try clear hcz10_0
  try clear hcz10_1
  try clear hcz10_2
  try clear hcz8_0
  try clear hcz8_1
  try clear hcz8_2
  try clear hfz10_0
  try clear hfz10_1
  try clear hfz10_2
  try clear hfz8_0
  try clear hfz8_1
  try clear hfz8_2
  obtain ⟨x15_1, rfl, HA, HK1, HO_6, HO_13, BK252, BK253, HB⟩ := hrel
  cases gk with
  | zero => exact absurd HA.out (by simp [impl_meeting.l0])
  | succ k1 =>
   have H := HA.out
   clear HA
   simp only [impl_meeting.l0] at H
   by_cases c13 : x15_1 < (t257.length : Int)
   ·
    rw [if_pos c13] at H
    have c13b0 : decide (x15_1 < (t257.length : Int)) = true := decide_eq_true c13
    clear c13
    by_cases c14 : 0 ≤ x15_1
    ·
     rw [if_pos c14] at H
     have c14b0 : decide (0 ≤ x15_1) = true := decide_eq_true c14
     clear c14
     by_cases c15 : x15_1 < (t257.length : Int)
     ·
      rw [if_pos c15] at H
      have c15b0 : decide (x15_1 < (t257.length : Int)) = true := decide_eq_true c15
      clear c15
      replace H := Option.bind_eq_some_iff.mp H
      obtain ⟨t262, A160, H⟩ := H
      replace H : (if t262 ≥ 0 then (some (x15_1, t262)) else (impl_meeting.l0 k1 t254 t257 (t257.length : Int) (wrap64 (x15_1 + 1)))) = some (r1, r2) := H
      have A16 := Afq A160
      clear A160
      by_cases c17 : t262 ≥ 0
      ·
       rw [if_pos c17] at H
       have c17b0 : decide (0 ≤ t262) = true := decide_eq_true c17
       clear c17
       simp only [Option.some.injEq, Prod.mk.injEq] at H
       obtain ⟨rfl, rfl⟩ := H
       have p260 : 0 ≤ (x15_1 : Int) := of_decide_eq_true Zf18
       have q260 : x15_1 < (t257.length : Int) := of_decide_eq_true Zf18
       obtain ⟨ad260, e260, hx260_0, hx260_1⟩ := at_T27 (Kd.R_reads' HO_13.out).2.2 x15_1 p260 q260
       cases e260
       replace p260 := eq_true p260
       replace q260 := eq_true q260
       go_wp2_with (first | ((with_reducible refine gate_dst (N := 8) rfl ?_); refine box_event ?hg (N := 8) ?hd (cs := #[.int .i64 0, .int .i64 0]) (t := 27) ?hr ?_; (case hd => rfl); (case hg => rfl); (case hr => first | (go_simp; done) | (go_simp; rfl)); intro g261 hg w18 hbox hb; have n0_ := Afq (Kd.R_below (Kd.R_elderB (by (with_reducible repeat (first | apply Kd.R_alloc | apply Kd.R_drewN | apply Kd.R_drew)); exact HO_6.out) g261 (Nat.le_of_eq hg.symm)) hb); have n1_ := Afq (Kd.R_below (Kd.R_elderB (by (with_reducible repeat (first | apply Kd.R_alloc | apply Kd.R_drewN | apply Kd.R_drew)); exact HO_13.out) g261 (Nat.le_of_eq hg.symm)) hb); have n2_ := Afq (blk_below (g := g252) (o := .cells #[.int .i64 a0_0, .int .i64 a0_1, .string a0_2] 37 (0, 0)) Zf15 hb); have n3_ := Afq (blk_below (g := g253) (o := .cells #[.int .i64 a1_0, .int .i64 a1_1, .string a1_2] 37 (0, 0)) Zf16 hb); have n4_ := Afq (below_step Zf7 hb); have n5_ := Afq (hbox); have n6_ := Afq ((Zf2 : w.heap.size ≤ g261)); have n7_ := Afq ((Zf2 : w.heap.size ≤ g261)); have n8_ := Afq ((by rw [hg]; exact Nat.ne_of_lt (blk_lt (g := g252) (o := .cells #[.int .i64 a0_0, .int .i64 a0_1, .string a0_2] 37 (0, 0)) Zf15) : g252 ≠ g261)); have n9_ := Afq ((by rw [hg]; exact Nat.ne_of_gt (blk_lt (g := g252) (o := .cells #[.int .i64 a0_0, .int .i64 a0_1, .string a0_2] 37 (0, 0)) Zf15) : g261 ≠ g252)); have n10_ := Afq ((by rw [hg]; exact Nat.ne_of_lt (blk_lt (g := g253) (o := .cells #[.int .i64 a1_0, .int .i64 a1_1, .string a1_2] 37 (0, 0)) Zf16) : g253 ≠ g261)); have n11_ := Afq ((by rw [hg]; exact Nat.ne_of_gt (blk_lt (g := g253) (o := .cells #[.int .i64 a1_0, .int .i64 a1_1, .string a1_2] 37 (0, 0)) Zf16) : g261 ≠ g253)); clear HO_6; clear HO_13; clear BK252; clear BK253; clear HB; have HO_6 := n0_; have HO_13 := n1_; have BK252 := n2_; have BK253 := n3_; have HB := n4_; have BK261 := n5_; have GW261 := n6_; have GE261 := n7_; have NB252_261 := n8_; have NB261_252 := n9_; have NB253_261 := n10_; have NB261_253 := n11_; clear n0_ n1_ n2_ n3_ n4_ n5_ n6_ n7_ n8_ n9_ n10_ n11_; clear hb hbox hg; have hnb19 := NB261_252.out; have hnc19 := NB252_261.out; have hnb20 := NB261_253.out; have hnc20 := NB253_261.out; have hcz21_0 : w18.cell? ⟨g261, 0, none⟩ = some (.int .i64 0) := (blk_cell BK261.out 0).trans rfl; have hcz21_1 : w18.cell? ⟨g261, 1, none⟩ = some (.int .i64 0) := (blk_cell BK261.out 1).trans rfl; have hfz21_0 := blk_frozen BK261.out 0; have hfz21_1 := blk_frozen BK261.out 1; obtain ⟨Ao22, co22, eo22⟩ := Kd.R_slice HO_6.out; subst eo22) | ((with_reducible refine gate_callee (f := 27) rfl ?_); refine goesL_ (some 22) rfl rfl Try.func27 (by kernel_rfl) rfl #[.slice Ao22 t254.length co22, .agg #[.int .i64 ((rd_T27 t257 x15_1).f0), .int .i64 ((rd_T27 t257 x15_1).f1)]] rfl Zf11 ?_; (with_reducible refine (impl_Cell.calls k1 _ _ t254 ((rd_T27 t257 x15_1).f0) ((rd_T27 t257 x15_1).f1) t262 _ ?side1 ?side2 A16.out).mono ?_); (case side1 => refine (Kd.R_reads' (e := 27) (base := w.heap.size) (ok := fun k_ => (some k_ ≠ (.slice (some ad260) t257.length co12 : Value).ownBlock ∧ k_ ≠ g261)) (n := t254.length) (c := co22) ?_).2.2; exact Zf1); (case side2 => exact (Kd.R_reads' HO_6.out).2.1); rintro e w23 ⟨rfl, hb⟩; refine ⟨_, rfl, ?_⟩; have n0_ := Afq (Kd.R_below Zf1 hb); have n1_ := Afq (Kd.R_below (by (with_reducible repeat (first | apply Kd.R_alloc | apply Kd.R_drewN | apply Kd.R_drew)); exact (Kd.R_mono (Kd.R_far (p := ⟨g261, 1, none⟩) (Kd.R_far (p := ⟨g261, 0, none⟩) (Kd.R_mono HO_13.out (fun k_ hk => (⟨hk, hk.2⟩ : _ ∧ k_ ≠ g261))) (fun _ hk => hk.2) (.int .i64 ((rd_T27 t257 x15_1).f0))) (fun _ hk => hk.2) (.int .i64 ((rd_T27 t257 x15_1).f1))) (fun _ h_ => h_.1))) hb); have n2_ := Afq (blk_below (g := g252) (o := .cells #[.int .i64 a0_0, .int .i64 a0_1, .string a0_2] 37 (0, 0)) (by (with_reducible repeat (first | refine blk_drewN ?_ _ | refine blk_drew ?_ | refine blk_alloc ?_ _)); refine blk_far ?_ NB252_261.out _; (with_reducible repeat (first | refine blk_drewN ?_ _ | refine blk_drew ?_ | refine blk_alloc ?_ _)); refine blk_far ?_ NB252_261.out _; (with_reducible repeat (first | refine blk_drewN ?_ _ | refine blk_drew ?_ | refine blk_alloc ?_ _)); exact BK252.out) hb); have n3_ := Afq (blk_below (g := g253) (o := .cells #[.int .i64 a1_0, .int .i64 a1_1, .string a1_2] 37 (0, 0)) (by (with_reducible repeat (first | refine blk_drewN ?_ _ | refine blk_drew ?_ | refine blk_alloc ?_ _)); refine blk_far ?_ NB253_261.out _; (with_reducible repeat (first | refine blk_drewN ?_ _ | refine blk_drew ?_ | refine blk_alloc ?_ _)); refine blk_far ?_ NB253_261.out _; (with_reducible repeat (first | refine blk_drewN ?_ _ | refine blk_drew ?_ | refine blk_alloc ?_ _)); exact BK253.out) hb); have n4_ := Afq (blk_below (g := g261) (o := .cells #[.int .i64 ((rd_T27 t257 x15_1).f0), .int .i64 ((rd_T27 t257 x15_1).f1)] 27 (0, 0)) (by (with_reducible repeat (first | refine blk_drewN ?_ _ | refine blk_drew ?_ | refine blk_alloc ?_ _)); refine blk_put (cs := #[.int .i64 ((rd_T27 t257 x15_1).f0), .int .i64 0]) ?_ 1 _ rfl; (with_reducible repeat (first | refine blk_drewN ?_ _ | refine blk_drew ?_ | refine blk_alloc ?_ _)); refine blk_put (cs := #[.int .i64 0, .int .i64 0]) ?_ 0 _ rfl; (with_reducible repeat (first | refine blk_drewN ?_ _ | refine blk_drew ?_ | refine blk_alloc ?_ _)); exact BK261.out) hb); have n5_ := Afq (below_step (by repeat (first | (with_reducible first | exact HB.out | apply below_alloc | apply pw_below_drewN | apply below_drew1 | refine below_set ?_ GE252.out | refine below_set ?_ GE253.out | refine below_set ?_ GE261.out) | exact HB.out)) hb); clear HO_6; clear HO_13; clear BK252; clear BK253; clear BK261; clear HB; have HO_6 := n0_; have HO_13 := n1_; have BK252 := n2_; have BK253 := n3_; have BK261 := n4_; have HB := n5_; clear n0_ n1_ n2_ n3_ n4_ n5_; (try clear hb)))
       go_ret2
       exact ⟨Zrf, by repeat (first | (with_reducible first | exact HB.out | apply below_alloc | apply pw_below_drewN | apply below_drew1 | refine below_set ?_ GE252.out | refine below_set ?_ GE253.out | refine below_set ?_ GE261.out) | exact HB.out)⟩
      ·
       rw [if_neg c17] at H
       have c17b0 : decide (0 ≤ t262) = false := decide_eq_false c17
       clear c17
       have H' := Afq H
       clear H
       have p260 : 0 ≤ (x15_1 : Int) := of_decide_eq_true Zf18
       have q260 : x15_1 < (t257.length : Int) := of_decide_eq_true Zf18
       obtain ⟨ad260, e260, hx260_0, hx260_1⟩ := at_T27 (Kd.R_reads' HO_13.out).2.2 x15_1 p260 q260
       cases e260
       replace p260 := eq_true p260
       replace q260 := eq_true q260
       go_wp2_with (first | ((with_reducible refine gate_dst (N := 8) rfl ?_); refine box_event ?hg (N := 8) ?hd (cs := #[.int .i64 0, .int .i64 0]) (t := 27) ?hr ?_; (case hd => rfl); (case hg => rfl); (case hr => first | (go_simp; done) | (go_simp; rfl)); intro g261 hg w24 hbox hb; have n0_ := Afq (Kd.R_below (Kd.R_elderB (by (with_reducible repeat (first | apply Kd.R_alloc | apply Kd.R_drewN | apply Kd.R_drew)); exact HO_6.out) g261 (Nat.le_of_eq hg.symm)) hb); have n1_ := Afq (Kd.R_below (Kd.R_elderB (by (with_reducible repeat (first | apply Kd.R_alloc | apply Kd.R_drewN | apply Kd.R_drew)); exact HO_13.out) g261 (Nat.le_of_eq hg.symm)) hb); have n2_ := Afq (blk_below (g := g252) (o := .cells #[.int .i64 a0_0, .int .i64 a0_1, .string a0_2] 37 (0, 0)) Zf15 hb); have n3_ := Afq (blk_below (g := g253) (o := .cells #[.int .i64 a1_0, .int .i64 a1_1, .string a1_2] 37 (0, 0)) Zf16 hb); have n4_ := Afq (below_step Zf7 hb); have n5_ := Afq (hbox); have n6_ := Afq ((Zf2 : w.heap.size ≤ g261)); have n7_ := Afq ((Zf2 : w.heap.size ≤ g261)); have n8_ := Afq ((by rw [hg]; exact Nat.ne_of_lt (blk_lt (g := g252) (o := .cells #[.int .i64 a0_0, .int .i64 a0_1, .string a0_2] 37 (0, 0)) Zf15) : g252 ≠ g261)); have n9_ := Afq ((by rw [hg]; exact Nat.ne_of_gt (blk_lt (g := g252) (o := .cells #[.int .i64 a0_0, .int .i64 a0_1, .string a0_2] 37 (0, 0)) Zf15) : g261 ≠ g252)); have n10_ := Afq ((by rw [hg]; exact Nat.ne_of_lt (blk_lt (g := g253) (o := .cells #[.int .i64 a1_0, .int .i64 a1_1, .string a1_2] 37 (0, 0)) Zf16) : g253 ≠ g261)); have n11_ := Afq ((by rw [hg]; exact Nat.ne_of_gt (blk_lt (g := g253) (o := .cells #[.int .i64 a1_0, .int .i64 a1_1, .string a1_2] 37 (0, 0)) Zf16) : g261 ≠ g253)); clear HO_6; clear HO_13; clear BK252; clear BK253; clear HB; have HO_6 := n0_; have HO_13 := n1_; have BK252 := n2_; have BK253 := n3_; have HB := n4_; have BK261 := n5_; have GW261 := n6_; have GE261 := n7_; have NB252_261 := n8_; have NB261_252 := n9_; have NB253_261 := n10_; have NB261_253 := n11_; clear n0_ n1_ n2_ n3_ n4_ n5_ n6_ n7_ n8_ n9_ n10_ n11_; clear hb hbox hg; have hnb25 := NB261_252.out; have hnc25 := NB252_261.out; have hnb26 := NB261_253.out; have hnc26 := NB253_261.out; have hcz27_0 : w24.cell? ⟨g261, 0, none⟩ = some (.int .i64 0) := (blk_cell BK261.out 0).trans rfl; have hcz27_1 : w24.cell? ⟨g261, 1, none⟩ = some (.int .i64 0) := (blk_cell BK261.out 1).trans rfl; have hfz27_0 := blk_frozen BK261.out 0; have hfz27_1 := blk_frozen BK261.out 1; obtain ⟨Ao28, co28, eo28⟩ := Kd.R_slice HO_6.out; subst eo28) | ((with_reducible refine gate_callee (f := 27) rfl ?_); refine goesL_ (some 22) rfl rfl Try.func27 (by kernel_rfl) rfl #[.slice Ao28 t254.length co28, .agg #[.int .i64 ((rd_T27 t257 x15_1).f0), .int .i64 ((rd_T27 t257 x15_1).f1)]] rfl Zf11 ?_; (with_reducible refine (impl_Cell.calls k1 _ _ t254 ((rd_T27 t257 x15_1).f0) ((rd_T27 t257 x15_1).f1) t262 _ ?side1 ?side2 A16.out).mono ?_); (case side1 => refine (Kd.R_reads' (e := 27) (base := w.heap.size) (ok := fun k_ => (some k_ ≠ (.slice (some ad260) t257.length co12 : Value).ownBlock ∧ k_ ≠ g261)) (n := t254.length) (c := co28) ?_).2.2; exact Zf1); (case side2 => exact (Kd.R_reads' HO_6.out).2.1); rintro e w29 ⟨rfl, hb⟩; refine ⟨_, rfl, ?_⟩; have n0_ := Afq (Kd.R_below Zf1 hb); have n1_ := Afq (Kd.R_below (by (with_reducible repeat (first | apply Kd.R_alloc | apply Kd.R_drewN | apply Kd.R_drew)); exact (Kd.R_mono (Kd.R_far (p := ⟨g261, 1, none⟩) (Kd.R_far (p := ⟨g261, 0, none⟩) (Kd.R_mono HO_13.out (fun k_ hk => (⟨hk, hk.2⟩ : _ ∧ k_ ≠ g261))) (fun _ hk => hk.2) (.int .i64 ((rd_T27 t257 x15_1).f0))) (fun _ hk => hk.2) (.int .i64 ((rd_T27 t257 x15_1).f1))) (fun _ h_ => h_.1))) hb); have n2_ := Afq (blk_below (g := g252) (o := .cells #[.int .i64 a0_0, .int .i64 a0_1, .string a0_2] 37 (0, 0)) (by (with_reducible repeat (first | refine blk_drewN ?_ _ | refine blk_drew ?_ | refine blk_alloc ?_ _)); refine blk_far ?_ NB252_261.out _; (with_reducible repeat (first | refine blk_drewN ?_ _ | refine blk_drew ?_ | refine blk_alloc ?_ _)); refine blk_far ?_ NB252_261.out _; (with_reducible repeat (first | refine blk_drewN ?_ _ | refine blk_drew ?_ | refine blk_alloc ?_ _)); exact BK252.out) hb); have n3_ := Afq (blk_below (g := g253) (o := .cells #[.int .i64 a1_0, .int .i64 a1_1, .string a1_2] 37 (0, 0)) (by (with_reducible repeat (first | refine blk_drewN ?_ _ | refine blk_drew ?_ | refine blk_alloc ?_ _)); refine blk_far ?_ NB253_261.out _; (with_reducible repeat (first | refine blk_drewN ?_ _ | refine blk_drew ?_ | refine blk_alloc ?_ _)); refine blk_far ?_ NB253_261.out _; (with_reducible repeat (first | refine blk_drewN ?_ _ | refine blk_drew ?_ | refine blk_alloc ?_ _)); exact BK253.out) hb); have n4_ := Afq (blk_below (g := g261) (o := .cells #[.int .i64 ((rd_T27 t257 x15_1).f0), .int .i64 ((rd_T27 t257 x15_1).f1)] 27 (0, 0)) (by (with_reducible repeat (first | refine blk_drewN ?_ _ | refine blk_drew ?_ | refine blk_alloc ?_ _)); refine blk_put (cs := #[.int .i64 ((rd_T27 t257 x15_1).f0), .int .i64 0]) ?_ 1 _ rfl; (with_reducible repeat (first | refine blk_drewN ?_ _ | refine blk_drew ?_ | refine blk_alloc ?_ _)); refine blk_put (cs := #[.int .i64 0, .int .i64 0]) ?_ 0 _ rfl; (with_reducible repeat (first | refine blk_drewN ?_ _ | refine blk_drew ?_ | refine blk_alloc ?_ _)); exact BK261.out) hb); have n5_ := Afq (below_step (by repeat (first | (with_reducible first | exact HB.out | apply below_alloc | apply pw_below_drewN | apply below_drew1 | refine below_set ?_ GE252.out | refine below_set ?_ GE253.out | refine below_set ?_ GE261.out) | exact HB.out)) hb); clear HO_6; clear HO_13; clear BK252; clear BK253; clear BK261; clear HB; have HO_6 := n0_; have HO_13 := n1_; have BK252 := n2_; have BK253 := n3_; have BK261 := n4_; have HB := n5_; clear n0_ n1_ n2_ n3_ n4_ n5_; (try clear hb)))
       go_roundg k1
       case measure => have := HK1.out; omega
       case rel => exact ⟨(wrap64 (x15_1 + 1)), Zf17, H', ⟨by have := HK1.out; omega⟩, ⟨by (with_reducible repeat (first | apply Kd.R_alloc | apply Kd.R_drewN | apply Kd.R_drew)); exact Kd.R_mono HO_6.out (fun _ hk => hk.1)⟩, ⟨by (with_reducible repeat (first | apply Kd.R_alloc | apply Kd.R_drewN | apply Kd.R_drew)); exact Kd.R_mono HO_13.out (fun _ hk => hk.1)⟩, ⟨by (with_reducible repeat (first | refine blk_drewN ?_ _ | refine blk_drew ?_ | refine blk_alloc ?_ _)); exact BK252.out⟩, ⟨by (with_reducible repeat (first | refine blk_drewN ?_ _ | refine blk_drew ?_ | refine blk_alloc ?_ _)); exact BK253.out⟩, ⟨by repeat (first | (with_reducible first | exact HB.out | apply below_alloc | apply pw_below_drewN | apply below_drew1 | refine below_set ?_ GE252.out | refine below_set ?_ GE253.out | refine below_set ?_ GE261.out) | exact HB.out)⟩⟩
     ·
      rw [if_neg c15] at H
      exact absurd H (by simp)
    ·
     rw [if_neg c14] at H
     exact absurd H (by simp)
   ·
    rw [if_neg c13] at H
    have c13b0 : decide (x15_1 < (t257.length : Int)) = false := decide_eq_false c13
    clear c13
    simp only [Option.some.injEq, Prod.mk.injEq] at H
    obtain ⟨rfl, rfl⟩ := H
    go_wp2
    go_ret2
    exact ⟨Zrf, by repeat (first | (with_reducible first | exact HB.out | apply below_alloc | apply pw_below_drewN | apply below_drew1 | refine below_set ?_ GE252.out | refine below_set ?_ GE253.out) | exact HB.out)⟩

end Go.Proofs.Ythlbbngmgioamaa.OFnExactAllPairsApart
