/- The functions that 'FnExactAllPairsApart' runs, each as a function over numbers and lists, with the proof that the Go text comes to its answers. No condition. -/
import Derived.Test.YthlbbngmgioamaaOFnExactAllPairsApartx0
import Derived.Test.YthlbbngmgioamaaOFnExactAllPairsApartx6
import Derived.Test.YthlbbngmgioamaaOFnExactAllPairsApartx7
namespace Go.Proofs.Ythlbbngmgioamaa.OFnExactAllPairsApart
open Go.Proofs.Ythlbbngmgioamaa.Stub
open Go.RowKit Go.Proofs.YthlbbngmgioamaaW.PrintWords Go.Proofs.YthlbbngmgioamaaW.PrintLast Go.Proofs.YthlbbngmgioamaaW.PrintMore
attribute [local go_sem] max2_int min2_int max_two min_two max_three min_three max_four min_four   -- for this text's walks alone
set_option linter.unusedVariables false
set_option linter.unusedSimpArgs false

/-! ### impl_AllPairsApart: function 6 -/
theorem Zrg {p : Prop} (h : p := by first | rfl | (simp [errW_none, errW_some] <;> rfl) | (simp [*, errW_none, errW_some] <;> rfl)) : p := h
theorem Zbg {p : Prop} (h : p := by repeat (first | (with_reducible first | exact HB.out | apply below_alloc | apply pw_below_drewN | apply below_drew1) | exact HB.out)) : p := h
theorem y1g {α : Type} (l : List α) (i : Nat) (a : α) : l.toArray.setIfInBounds i a = (l.set i a).toArray := List.setIfInBounds_toArray l i a
theorem y2g {α : Type} {x : α} {xs : List α} {b : α} : (x :: xs).set 0 b = b :: xs := List.set_cons_zero
theorem y3g {α : Type} {x : α} {xs : List α} {n : Nat} {b : α} : (x :: xs).set (n + 1) b = x :: xs.set n b := List.set_cons_succ
theorem Agq {p : Prop} (h : p) : Aside0 p := Aside0.mk h
theorem Zg1 {p : Prop} (h : p := by rw [hg]; exact (below_size (by repeat (first | (with_reducible first | exact HB.out | apply below_alloc | apply pw_below_drewN | apply below_drew1 | refine below_set ?_ GE263.out | refine below_set ?_ GE264.out | refine below_set ?_ GE265.out | refine below_set ?_ GE266.out | refine below_set ?_ GE283.out) | exact HB.out)))) : p := h
theorem Zg2 {p : Prop} (h : p := by repeat (first | (with_reducible first | exact HB.out | apply below_alloc | apply pw_below_drewN | apply below_drew1 | refine below_set ?_ GE263.out | refine below_set ?_ GE264.out | refine below_set ?_ GE265.out | refine below_set ?_ GE266.out | refine below_set ?_ GE283.out | refine below_set ?_ GE285.out) | exact HB.out)) : p := h
theorem Zg3 {p : Prop} (h : p := by repeat (first | (with_reducible first | exact HB.out | apply below_alloc | apply pw_below_drewN | apply below_drew1 | refine below_set ?_ GE263.out | refine below_set ?_ GE264.out | refine below_set ?_ GE265.out | refine below_set ?_ GE266.out) | exact HB.out)) : p := h
theorem Zg4 {p : Prop} (h : p := by repeat (first | (with_reducible first | exact HB.out | apply below_alloc | apply pw_below_drewN | apply below_drew1 | refine below_set ?_ GE263.out | refine below_set ?_ GE264.out | refine below_set ?_ GE265.out) | exact HB.out)) : p := h
theorem Zg5 {p : Prop} (h : p := by repeat (first | (with_reducible first | exact HB.out | apply below_alloc | apply pw_below_drewN | apply below_drew1 | refine below_set ?_ GE263.out | refine below_set ?_ GE264.out) | exact HB.out)) : p := h
theorem Zg6 {p : Prop} (h : p := by (try simp only [List.map_toArray, List.map_cons, List.map_nil]); first | done | rfl | (simp only [List.length_drop, List.length_take]; rfl)) : p := h
theorem Zg7 {p : Prop} (h : p := by (with_reducible repeat (first | refine blk_drewN ?_ _ | refine blk_drew ?_ | refine blk_alloc ?_ _)); exact BK263.out) : p := h
theorem Zg8 {p : Prop} (h : p := by (with_reducible repeat (first | refine blk_drewN ?_ _ | refine blk_drew ?_ | refine blk_alloc ?_ _)); exact BK264.out) : p := h
theorem Zg9 {p : Prop} (h : p := by (with_reducible repeat (first | refine blk_drewN ?_ _ | refine blk_drew ?_ | refine blk_alloc ?_ _)); exact BK265.out) : p := h
theorem Zg10 {p : Prop} (h : p := by (with_reducible repeat (first | refine blk_drewN ?_ _ | refine blk_drew ?_ | refine blk_alloc ?_ _)); exact BK266.out) : p := h
theorem Zg11 {p : Prop} (h : p := by (with_reducible repeat (first | refine blk_drewN ?_ _ | refine blk_drew ?_ | refine blk_alloc ?_ _)); exact BK283.out) : p := h
theorem Zg12 {p : Prop} (h : p := by (with_reducible repeat (first | apply Kd.R_alloc | apply Kd.R_drewN | apply Kd.R_drew)); exact HO_12.out) : p := h
theorem Zg13 {p : Prop} (h : p := by (with_reducible repeat (first | apply Kd.S_alloc | apply Kd.S_drewN | apply Kd.S_drew)); exact HO_14.out) : p := h
theorem Zg14 {p : Prop} (h : p := by (with_reducible repeat (first | apply Kd.R_alloc | apply Kd.R_drewN | apply Kd.R_drew)); exact HO_58.out) : p := h
theorem Zg15 {p : Prop} (h : p := by (with_reducible repeat (first | apply Kd.R_alloc | apply Kd.R_drewN | apply Kd.R_drew)); exact HO_64.out) : p := h
theorem Zg16 {p : Prop} (h : p := by first | rfl | (simp; done) | (simp [*]; done) | (simp only [i64_w]; done)) : p := h
mutual
def impl_AllPairsApart.j0 : Nat → Bool → Int → Int → Int → Int → Int → Int → Int → Int → Option ((List (List (S37))) × Bool)
  | 0, _, _, _, _, _, _, _, _, _ => none
  | k + 1, x38, x264000, x264001, x265000, x265001, x266000, x266001, x267000, x267001 => if x38 = true then (some (([] : List (List (S37))), false)) else ((impl_allWays.f k x264000 x264001 x266000 x266001).bind fun bt271 => ((impl_allWays.f k x265000 x265001 x267000 x267001).bind fun bt275 => (if bt271.2 = true then (impl_AllPairsApart.j1 k bt271.1 bt275.1 (!bt275.2)) else (impl_AllPairsApart.j1 k bt271.1 bt275.1 true))))
def impl_AllPairsApart.j1 : Nat → List (S37) → List (S37) → Bool → Option ((List (List (S37))) × Bool)
  | 0, _, _, _ => none
  | k + 1, x10, x12, x56 => if x56 = true then (some (([] : List (List (S37))), false)) else (impl_AllPairsApart.l0 k x12 (([] : List (List (S37)))) x10 (x10.length : Int) 0)
def impl_AllPairsApart.l0 : Nat → List (S37) → List (List (S37)) → List (S37) → Int → Int → Option ((List (List (S37))) × Bool)
  | 0, _, _, _, _, _ => none
  | k + 1, x12, x14, x58, x59, x60 => if x60 < x59 then (if 0 ≤ x60 then (if x60 < (x58.length : Int) then (impl_AllPairsApart.l1 k x12 x14 x58 x59 x60 x12 (x12.length : Int) 0 ((rd_T37 x58 x60).f0.f0) ((rd_T37 x58 x60).f0.f1) ((rd_T37 x58 x60).f1)) else (none)) else (none)) else (some (x14, true))
def impl_AllPairsApart.l1 : Nat → List (S37) → List (List (S37)) → List (S37) → Int → Int → List (S37) → Int → Int → Int → Int → ByteArray → Option ((List (List (S37))) × Bool)
  | 0, _, _, _, _, _, _, _, _, _, _, _ => none
  | k + 1, x12, x14, x58, x59, x60, x64, x65, x66, x284000, x284001, x284002 => if x66 < x65 then (if 0 ≤ x66 then (if x66 < (x64.length : Int) then ((impl_meeting.f k x284000 x284001 x284002 ((rd_T37 x64 x66).f0.f0) ((rd_T37 x64 x66).f0.f1) ((rd_T37 x64 x66).f1)).bind fun bt286 => (if bt286.1 < 0 then (if x14.length < 5864062014805 then (impl_AllPairsApart.l1 k x12 (x14 ++ [(([(⟨(⟨x284000, x284001⟩ : S27), x284002⟩ : S37), (⟨(⟨(rd_T37 x64 x66).f0.f0, (rd_T37 x64 x66).f0.f1⟩ : S27), (rd_T37 x64 x66).f1⟩ : S37)] : List (S37)))]) x58 x59 x60 x64 x65 (wrap64 (x66 + 1)) x284000 x284001 x284002) else (none)) else (impl_AllPairsApart.l1 k x12 x14 x58 x59 x60 x64 x65 (wrap64 (x66 + 1)) x284000 x284001 x284002))) else (none)) else (none)) else (if (x14.length : Int) > 200 then (some (([] : List (List (S37))), false)) else (impl_AllPairsApart.l0 k x12 x14 x58 x59 (wrap64 (x60 + 1))))
end
def impl_AllPairsApart.f (k : Nat) (a0_0 : Int) (a0_1 : Int) (a1_0 : Int) (a1_1 : Int) (a2_0 : Int) (a2_1 : Int) (a3_0 : Int) (a3_1 : Int) : Option ((List (List (S37))) × Bool) := (impl_IsCell.f a0_0 a0_1).bind fun t267 => (if t267 = true then ((impl_IsCell.f a1_0 a1_1).bind fun t268 => (if t268 = true then ((impl_IsCell.f a2_0 a2_1).bind fun t269 => (if t269 = true then ((impl_IsCell.f a3_0 a3_1).bind fun t270 => (impl_AllPairsApart.j0 k (!t270) a0_0 a0_1 a1_0 a1_1 a2_0 a2_1 a3_0 a3_1)) else (impl_AllPairsApart.j0 k true a0_0 a0_1 a1_0 a1_1 a2_0 a2_1 a3_0 a3_1))) else (impl_AllPairsApart.j0 k true a0_0 a0_1 a1_0 a1_1 a2_0 a2_1 a3_0 a3_1))) else (impl_AllPairsApart.j0 k true a0_0 a0_1 a1_0 a1_1 a2_0 a2_1 a3_0 a3_1))
theorem impl_AllPairsApart.mono_l : ∀ k, (∀ y0 y1 y2 y3 y4 y5 y6 y7 y8, LeO (impl_AllPairsApart.j0 k y0 y1 y2 y3 y4 y5 y6 y7 y8) (impl_AllPairsApart.j0 (k + 1) y0 y1 y2 y3 y4 y5 y6 y7 y8)) ∧ (∀ y0 y1 y2, LeO (impl_AllPairsApart.j1 k y0 y1 y2) (impl_AllPairsApart.j1 (k + 1) y0 y1 y2)) ∧ (∀ y0 y1 y2 y3 y4, LeO (impl_AllPairsApart.l0 k y0 y1 y2 y3 y4) (impl_AllPairsApart.l0 (k + 1) y0 y1 y2 y3 y4)) ∧ (∀ y0 y1 y2 y3 y4 y5 y6 y7 y8 y9 y10, LeO (impl_AllPairsApart.l1 k y0 y1 y2 y3 y4 y5 y6 y7 y8 y9 y10) (impl_AllPairsApart.l1 (k + 1) y0 y1 y2 y3 y4 y5 y6 y7 y8 y9 y10))
  | 0 => ⟨fun _ _ _ _ _ _ _ _ _ r h => by simp [impl_AllPairsApart.j0] at h, fun _ _ _ r h => by simp [impl_AllPairsApart.j1] at h, fun _ _ _ _ _ r h => by simp [impl_AllPairsApart.l0] at h, fun _ _ _ _ _ _ _ _ _ _ _ r h => by simp [impl_AllPairsApart.l1] at h⟩
  | k + 1 => by
    obtain ⟨ih0, ih1, ih2, ih3⟩ := impl_AllPairsApart.mono_l k
    refine ⟨?_, ?_, ?_, ?_⟩
    · intro y0 y1 y2 y3 y4 y5 y6 y7 y8
      unfold impl_AllPairsApart.j0
      repeat' first
      | (with_reducible exact ih0 _ _ _ _ _ _ _ _ _)
      | (with_reducible exact ih1 _ _ _)
      | (with_reducible exact ih2 _ _ _ _ _)
      | (with_reducible exact ih3 _ _ _ _ _ _ _ _ _ _ _)
      | (with_reducible exact impl_allWays.mono _ _ _ _ _)
      | (with_reducible exact impl_meeting.mono _ _ _ _ _ _ _)
      | (with_reducible exact LeO.refl _)
      | (with_reducible exact LeO.none _)
      | (with_reducible refine LeO.ite ?_ ?_)
      | (with_reducible refine LeO.bind ?_ (fun _ => ?_))
      | exact ih0 _ _ _ _ _ _ _ _ _
      | exact ih1 _ _ _
      | exact ih2 _ _ _ _ _
      | exact ih3 _ _ _ _ _ _ _ _ _ _ _
      | exact impl_allWays.mono _ _ _ _ _
      | exact impl_meeting.mono _ _ _ _ _ _ _
      | exact LeO.none _
      | refine LeO.ite ?_ ?_
      | refine LeO.bind ?_ (fun _ => ?_)
    · intro y0 y1 y2
      unfold impl_AllPairsApart.j1
      repeat' first
      | (with_reducible exact ih0 _ _ _ _ _ _ _ _ _)
      | (with_reducible exact ih1 _ _ _)
      | (with_reducible exact ih2 _ _ _ _ _)
      | (with_reducible exact ih3 _ _ _ _ _ _ _ _ _ _ _)
      | (with_reducible exact impl_allWays.mono _ _ _ _ _)
      | (with_reducible exact impl_meeting.mono _ _ _ _ _ _ _)
      | (with_reducible exact LeO.refl _)
      | (with_reducible exact LeO.none _)
      | (with_reducible refine LeO.ite ?_ ?_)
      | (with_reducible refine LeO.bind ?_ (fun _ => ?_))
      | exact ih0 _ _ _ _ _ _ _ _ _
      | exact ih1 _ _ _
      | exact ih2 _ _ _ _ _
      | exact ih3 _ _ _ _ _ _ _ _ _ _ _
      | exact impl_allWays.mono _ _ _ _ _
      | exact impl_meeting.mono _ _ _ _ _ _ _
      | exact LeO.none _
      | refine LeO.ite ?_ ?_
      | refine LeO.bind ?_ (fun _ => ?_)
    · intro y0 y1 y2 y3 y4
      unfold impl_AllPairsApart.l0
      repeat' first
      | (with_reducible exact ih0 _ _ _ _ _ _ _ _ _)
      | (with_reducible exact ih1 _ _ _)
      | (with_reducible exact ih2 _ _ _ _ _)
      | (with_reducible exact ih3 _ _ _ _ _ _ _ _ _ _ _)
      | (with_reducible exact impl_allWays.mono _ _ _ _ _)
      | (with_reducible exact impl_meeting.mono _ _ _ _ _ _ _)
      | (with_reducible exact LeO.refl _)
      | (with_reducible exact LeO.none _)
      | (with_reducible refine LeO.ite ?_ ?_)
      | (with_reducible refine LeO.bind ?_ (fun _ => ?_))
      | exact ih0 _ _ _ _ _ _ _ _ _
      | exact ih1 _ _ _
      | exact ih2 _ _ _ _ _
      | exact ih3 _ _ _ _ _ _ _ _ _ _ _
      | exact impl_allWays.mono _ _ _ _ _
      | exact impl_meeting.mono _ _ _ _ _ _ _
      | exact LeO.none _
      | refine LeO.ite ?_ ?_
      | refine LeO.bind ?_ (fun _ => ?_)
    · intro y0 y1 y2 y3 y4 y5 y6 y7 y8 y9 y10
      unfold impl_AllPairsApart.l1
      repeat' first
      | (with_reducible exact ih0 _ _ _ _ _ _ _ _ _)
      | (with_reducible exact ih1 _ _ _)
      | (with_reducible exact ih2 _ _ _ _ _)
      | (with_reducible exact ih3 _ _ _ _ _ _ _ _ _ _ _)
      | (with_reducible exact impl_allWays.mono _ _ _ _ _)
      | (with_reducible exact impl_meeting.mono _ _ _ _ _ _ _)
      | (with_reducible exact LeO.refl _)
      | (with_reducible exact LeO.none _)
      | (with_reducible refine LeO.ite ?_ ?_)
      | (with_reducible refine LeO.bind ?_ (fun _ => ?_))
      | exact ih0 _ _ _ _ _ _ _ _ _
      | exact ih1 _ _ _
      | exact ih2 _ _ _ _ _
      | exact ih3 _ _ _ _ _ _ _ _ _ _ _
      | exact impl_allWays.mono _ _ _ _ _
      | exact impl_meeting.mono _ _ _ _ _ _ _
      | exact LeO.none _
      | refine LeO.ite ?_ ?_
      | refine LeO.bind ?_ (fun _ => ?_)
theorem impl_AllPairsApart.mono : ∀ a0 a1 a2 a3 a4 a5 a6 a7 k, LeO (impl_AllPairsApart.f k a0 a1 a2 a3 a4 a5 a6 a7) (impl_AllPairsApart.f (k + 1) a0 a1 a2 a3 a4 a5 a6 a7) := by
  intro a0 a1 a2 a3 a4 a5 a6 a7 k
  obtain ⟨ih0, ih1, ih2, ih3⟩ := impl_AllPairsApart.mono_l k
  unfold impl_AllPairsApart.f
  repeat' first
      | (with_reducible exact ih0 _ _ _ _ _ _ _ _ _)
      | (with_reducible exact ih1 _ _ _)
      | (with_reducible exact ih2 _ _ _ _ _)
      | (with_reducible exact ih3 _ _ _ _ _ _ _ _ _ _ _)
      | (with_reducible exact impl_allWays.mono _ _ _ _ _)
      | (with_reducible exact impl_meeting.mono _ _ _ _ _ _ _)
      | (with_reducible exact LeO.refl _)
      | (with_reducible exact LeO.none _)
      | (with_reducible refine LeO.ite ?_ ?_)
      | (with_reducible refine LeO.bind ?_ (fun _ => ?_))
      | exact ih0 _ _ _ _ _ _ _ _ _
      | exact ih1 _ _ _
      | exact ih2 _ _ _ _ _
      | exact ih3 _ _ _ _ _ _ _ _ _ _ _
      | exact impl_allWays.mono _ _ _ _ _
      | exact impl_meeting.mono _ _ _ _ _ _ _
      | exact LeO.none _
      | refine LeO.ite ?_ ?_
      | refine LeO.bind ?_ (fun _ => ?_)
set_option maxHeartbeats 8000000 in
set_option maxRecDepth 100000 in
theorem impl_AllPairsApart.calls (k : Nat) (a0_0 : Int) (a0_1 : Int) (a1_0 : Int) (a1_1 : Int) (a2_0 : Int) (a2_1 : Int) (a3_0 : Int) (a3_1 : Int) (r1 : List (List (S37))) (r2 : Bool) (w : World) (h : impl_AllPairsApart.f k a0_0 a0_1 a1_0 a1_1 a2_0 a2_1 a3_0 a3_1 = some (r1, r2)) :
    Calls Try.prog 6 #[.agg #[.int .i64 a0_0, .int .i64 a0_1], .agg #[.int .i64 a1_0, .int .i64 a1_1], .agg #[.int .i64 a2_0, .int .i64 a2_1], .agg #[.int .i64 a3_0, .int .i64 a3_1]] w fun e w' => ∃ v0_ : Value, e = .returned (.tuple #[v0_, .bool r2]) ∧ Kd.S (Kd.slice 37 k37) 33 w' w.heap.size (fun _ => True) v0_ r1 ∧ Below w.heap.size w w' := by
 have hu27 := Try.underlying27
 have hu37 := Try.underlying37
 have HB := Agq (Below.refl w.heap.size w)
 have H : ((impl_IsCell.f a0_0 a0_1).bind fun t267 => (if t267 = true then ((impl_IsCell.f a1_0 a1_1).bind fun t268 => (if t268 = true then ((impl_IsCell.f a2_0 a2_1).bind fun t269 => (if t269 = true then ((impl_IsCell.f a3_0 a3_1).bind fun t270 => (impl_AllPairsApart.j0 k (!t270) a0_0 a0_1 a1_0 a1_1 a2_0 a2_1 a3_0 a3_1)) else (impl_AllPairsApart.j0 k true a0_0 a0_1 a1_0 a1_1 a2_0 a2_1 a3_0 a3_1))) else (impl_AllPairsApart.j0 k true a0_0 a0_1 a1_0 a1_1 a2_0 a2_1 a3_0 a3_1))) else (impl_AllPairsApart.j0 k true a0_0 a0_1 a1_0 a1_1 a2_0 a2_1 a3_0 a3_1))) = some (r1, r2) := h
 clear h
 have HC5 := Agq H
 clear H
 go_enter Try.func6, Try.ntmps6
 go_upto_region 1 with (first | ((with_reducible refine gate_dst (N := 4) rfl ?_); refine box_event ?hg (N := 4) ?hd (cs := #[.int .i64 a0_0, .int .i64 a0_1]) (t := 27) ?hr ?_; (case hd => rfl); (case hg => rfl); (case hr => first | (go_simp; done) | (go_simp; rfl)); intro g263 hg w6 hbox hb; have n0_ := Agq (below_step (Zbg) hb); have n1_ := Agq (hbox); have n2_ := Agq ((by rw [hg]; exact (below_size (Zbg)) : w.heap.size ≤ g263)); have n3_ := Agq ((by rw [hg]; exact (below_size (Zbg)) : w.heap.size ≤ g263)); clear HB; have HB := n0_; have BK263 := n1_; have GW263 := n2_; have GE263 := n3_; clear n0_ n1_ n2_ n3_; clear hb hbox hg) | ((with_reducible refine gate_dst (N := 5) rfl ?_); refine box_event ?hg (N := 5) ?hd (cs := #[.int .i64 a1_0, .int .i64 a1_1]) (t := 27) ?hr ?_; (case hd => rfl); (case hg => rfl); (case hr => first | (go_simp; done) | (go_simp; rfl)); intro g264 hg w7 hbox hb; have n0_ := Agq (blk_below (g := g263) (o := .cells #[.int .i64 a0_0, .int .i64 a0_1] 27 (0, 0)) Zg7 hb); have n1_ := Agq (below_step (by repeat (first | (with_reducible first | exact HB.out | apply below_alloc | apply pw_below_drewN | apply below_drew1 | refine below_set ?_ GE263.out) | exact HB.out)) hb); have n2_ := Agq (hbox); have n3_ := Agq ((by rw [hg]; exact (below_size (by repeat (first | (with_reducible first | exact HB.out | apply below_alloc | apply pw_below_drewN | apply below_drew1 | refine below_set ?_ GE263.out) | exact HB.out))) : w.heap.size ≤ g264)); have n4_ := Agq ((by rw [hg]; exact (below_size (by repeat (first | (with_reducible first | exact HB.out | apply below_alloc | apply pw_below_drewN | apply below_drew1 | refine below_set ?_ GE263.out) | exact HB.out))) : w.heap.size ≤ g264)); have n5_ := Agq ((by rw [hg]; exact Nat.ne_of_lt (blk_lt (g := g263) (o := .cells #[.int .i64 a0_0, .int .i64 a0_1] 27 (0, 0)) Zg7) : g263 ≠ g264)); have n6_ := Agq ((by rw [hg]; exact Nat.ne_of_gt (blk_lt (g := g263) (o := .cells #[.int .i64 a0_0, .int .i64 a0_1] 27 (0, 0)) Zg7) : g264 ≠ g263)); clear BK263; clear HB; have BK263 := n0_; have HB := n1_; have BK264 := n2_; have GW264 := n3_; have GE264 := n4_; have NB263_264 := n5_; have NB264_263 := n6_; clear n0_ n1_ n2_ n3_ n4_ n5_ n6_; clear hb hbox hg) | ((with_reducible refine gate_dst (N := 6) rfl ?_); refine box_event ?hg (N := 6) ?hd (cs := #[.int .i64 a2_0, .int .i64 a2_1]) (t := 27) ?hr ?_; (case hd => rfl); (case hg => rfl); (case hr => first | (go_simp; done) | (go_simp; rfl)); intro g265 hg w8 hbox hb; have n0_ := Agq (blk_below (g := g263) (o := .cells #[.int .i64 a0_0, .int .i64 a0_1] 27 (0, 0)) Zg7 hb); have n1_ := Agq (blk_below (g := g264) (o := .cells #[.int .i64 a1_0, .int .i64 a1_1] 27 (0, 0)) Zg8 hb); have n2_ := Agq (below_step Zg5 hb); have n3_ := Agq (hbox); have n4_ := Agq ((by rw [hg]; exact (below_size Zg5) : w.heap.size ≤ g265)); have n5_ := Agq ((by rw [hg]; exact (below_size Zg5) : w.heap.size ≤ g265)); have n6_ := Agq ((by rw [hg]; exact Nat.ne_of_lt (blk_lt (g := g263) (o := .cells #[.int .i64 a0_0, .int .i64 a0_1] 27 (0, 0)) Zg7) : g263 ≠ g265)); have n7_ := Agq ((by rw [hg]; exact Nat.ne_of_gt (blk_lt (g := g263) (o := .cells #[.int .i64 a0_0, .int .i64 a0_1] 27 (0, 0)) Zg7) : g265 ≠ g263)); have n8_ := Agq ((by rw [hg]; exact Nat.ne_of_lt (blk_lt (g := g264) (o := .cells #[.int .i64 a1_0, .int .i64 a1_1] 27 (0, 0)) Zg8) : g264 ≠ g265)); have n9_ := Agq ((by rw [hg]; exact Nat.ne_of_gt (blk_lt (g := g264) (o := .cells #[.int .i64 a1_0, .int .i64 a1_1] 27 (0, 0)) Zg8) : g265 ≠ g264)); clear BK263; clear BK264; clear HB; have BK263 := n0_; have BK264 := n1_; have HB := n2_; have BK265 := n3_; have GW265 := n4_; have GE265 := n5_; have NB263_265 := n6_; have NB265_263 := n7_; have NB264_265 := n8_; have NB265_264 := n9_; clear n0_ n1_ n2_ n3_ n4_ n5_ n6_ n7_ n8_ n9_; clear hb hbox hg) | ((with_reducible refine gate_dst (N := 7) rfl ?_); refine box_event ?hg (N := 7) ?hd (cs := #[.int .i64 a3_0, .int .i64 a3_1]) (t := 27) ?hr ?_; (case hd => rfl); (case hg => rfl); (case hr => first | (go_simp; done) | (go_simp; rfl)); intro g266 hg w9 hbox hb; have n0_ := Agq (blk_below (g := g263) (o := .cells #[.int .i64 a0_0, .int .i64 a0_1] 27 (0, 0)) Zg7 hb); have n1_ := Agq (blk_below (g := g264) (o := .cells #[.int .i64 a1_0, .int .i64 a1_1] 27 (0, 0)) Zg8 hb); have n2_ := Agq (blk_below (g := g265) (o := .cells #[.int .i64 a2_0, .int .i64 a2_1] 27 (0, 0)) Zg9 hb); have n3_ := Agq (below_step Zg4 hb); have n4_ := Agq (hbox); have n5_ := Agq ((by rw [hg]; exact (below_size Zg4) : w.heap.size ≤ g266)); have n6_ := Agq ((by rw [hg]; exact (below_size Zg4) : w.heap.size ≤ g266)); have n7_ := Agq ((by rw [hg]; exact Nat.ne_of_lt (blk_lt (g := g263) (o := .cells #[.int .i64 a0_0, .int .i64 a0_1] 27 (0, 0)) Zg7) : g263 ≠ g266)); have n8_ := Agq ((by rw [hg]; exact Nat.ne_of_gt (blk_lt (g := g263) (o := .cells #[.int .i64 a0_0, .int .i64 a0_1] 27 (0, 0)) Zg7) : g266 ≠ g263)); have n9_ := Agq ((by rw [hg]; exact Nat.ne_of_lt (blk_lt (g := g264) (o := .cells #[.int .i64 a1_0, .int .i64 a1_1] 27 (0, 0)) Zg8) : g264 ≠ g266)); have n10_ := Agq ((by rw [hg]; exact Nat.ne_of_gt (blk_lt (g := g264) (o := .cells #[.int .i64 a1_0, .int .i64 a1_1] 27 (0, 0)) Zg8) : g266 ≠ g264)); have n11_ := Agq ((by rw [hg]; exact Nat.ne_of_lt (blk_lt (g := g265) (o := .cells #[.int .i64 a2_0, .int .i64 a2_1] 27 (0, 0)) Zg9) : g265 ≠ g266)); have n12_ := Agq ((by rw [hg]; exact Nat.ne_of_gt (blk_lt (g := g265) (o := .cells #[.int .i64 a2_0, .int .i64 a2_1] 27 (0, 0)) Zg9) : g266 ≠ g265)); clear BK263; clear BK264; clear BK265; clear HB; have BK263 := n0_; have BK264 := n1_; have BK265 := n2_; have HB := n3_; have BK266 := n4_; have GW266 := n5_; have GE266 := n6_; have NB263_266 := n7_; have NB266_263 := n8_; have NB264_266 := n9_; have NB266_264 := n10_; have NB265_266 := n11_; have NB266_265 := n12_; clear n0_ n1_ n2_ n3_ n4_ n5_ n6_ n7_ n8_ n9_ n10_ n11_ n12_; clear hb hbox hg))
 (try simp only [Act.put, y1g, y2g, y3g])
 go_cut [38] (fun v38 wc => ∃ (kq : Nat) (x38_4 : Bool), v38 = .bool x38_4 ∧ Aside0 (impl_AllPairsApart.j0 kq x38_4 a0_0 a0_1 a1_0 a1_1 a2_0 a2_1 a3_0 a3_1 = some (r1, r2)) ∧ Aside0 (kq ≤ k) ∧ Aside0 (wc.heap[g263]? = some (.cells #[.int .i64 a0_0, .int .i64 a0_1] 27 (0, 0))) ∧ Aside0 (wc.heap[g264]? = some (.cells #[.int .i64 a1_0, .int .i64 a1_1] 27 (0, 0))) ∧ Aside0 (wc.heap[g265]? = some (.cells #[.int .i64 a2_0, .int .i64 a2_1] 27 (0, 0))) ∧ Aside0 (wc.heap[g266]? = some (.cells #[.int .i64 a3_0, .int .i64 a3_1] 27 (0, 0))) ∧ Aside0 (Below w.heap.size w wc))
 case first =>
  have H := HC5.out
  clear HC5
  replace H := Option.bind_eq_some_iff.mp H
  obtain ⟨t267, A100, H⟩ := H
  replace H : (if t267 = true then ((impl_IsCell.f a1_0 a1_1).bind fun t268 => (if t268 = true then ((impl_IsCell.f a2_0 a2_1).bind fun t269 => (if t269 = true then ((impl_IsCell.f a3_0 a3_1).bind fun t270 => (impl_AllPairsApart.j0 k (!t270) a0_0 a0_1 a1_0 a1_1 a2_0 a2_1 a3_0 a3_1)) else (impl_AllPairsApart.j0 k true a0_0 a0_1 a1_0 a1_1 a2_0 a2_1 a3_0 a3_1))) else (impl_AllPairsApart.j0 k true a0_0 a0_1 a1_0 a1_1 a2_0 a2_1 a3_0 a3_1))) else (impl_AllPairsApart.j0 k true a0_0 a0_1 a1_0 a1_1 a2_0 a2_1 a3_0 a3_1)) = some (r1, r2) := H
  have A10 := Agq A100
  clear A100
  by_cases c11 : t267 = true
  ·
   subst c11
   have H1 : ((impl_IsCell.f a1_0 a1_1).bind fun t268 => (if t268 = true then ((impl_IsCell.f a2_0 a2_1).bind fun t269 => (if t269 = true then ((impl_IsCell.f a3_0 a3_1).bind fun t270 => (impl_AllPairsApart.j0 k (!t270) a0_0 a0_1 a1_0 a1_1 a2_0 a2_1 a3_0 a3_1)) else (impl_AllPairsApart.j0 k true a0_0 a0_1 a1_0 a1_1 a2_0 a2_1 a3_0 a3_1))) else (impl_AllPairsApart.j0 k true a0_0 a0_1 a1_0 a1_1 a2_0 a2_1 a3_0 a3_1))) = some (r1, r2) := by rw [if_pos rfl] at H; exact H
   clear H
   have H := H1
   clear H1
   replace H := Option.bind_eq_some_iff.mp H
   obtain ⟨t268, A120, H⟩ := H
   replace H : (if t268 = true then ((impl_IsCell.f a2_0 a2_1).bind fun t269 => (if t269 = true then ((impl_IsCell.f a3_0 a3_1).bind fun t270 => (impl_AllPairsApart.j0 k (!t270) a0_0 a0_1 a1_0 a1_1 a2_0 a2_1 a3_0 a3_1)) else (impl_AllPairsApart.j0 k true a0_0 a0_1 a1_0 a1_1 a2_0 a2_1 a3_0 a3_1))) else (impl_AllPairsApart.j0 k true a0_0 a0_1 a1_0 a1_1 a2_0 a2_1 a3_0 a3_1)) = some (r1, r2) := H
   have A12 := Agq A120
   clear A120
   by_cases c13 : t268 = true
   ·
    subst c13
    have H1 : ((impl_IsCell.f a2_0 a2_1).bind fun t269 => (if t269 = true then ((impl_IsCell.f a3_0 a3_1).bind fun t270 => (impl_AllPairsApart.j0 k (!t270) a0_0 a0_1 a1_0 a1_1 a2_0 a2_1 a3_0 a3_1)) else (impl_AllPairsApart.j0 k true a0_0 a0_1 a1_0 a1_1 a2_0 a2_1 a3_0 a3_1))) = some (r1, r2) := by rw [if_pos rfl] at H; exact H
    clear H
    have H := H1
    clear H1
    replace H := Option.bind_eq_some_iff.mp H
    obtain ⟨t269, A140, H⟩ := H
    replace H : (if t269 = true then ((impl_IsCell.f a3_0 a3_1).bind fun t270 => (impl_AllPairsApart.j0 k (!t270) a0_0 a0_1 a1_0 a1_1 a2_0 a2_1 a3_0 a3_1)) else (impl_AllPairsApart.j0 k true a0_0 a0_1 a1_0 a1_1 a2_0 a2_1 a3_0 a3_1)) = some (r1, r2) := H
    have A14 := Agq A140
    clear A140
    by_cases c15 : t269 = true
    ·
     subst c15
     have H1 : ((impl_IsCell.f a3_0 a3_1).bind fun t270 => (impl_AllPairsApart.j0 k (!t270) a0_0 a0_1 a1_0 a1_1 a2_0 a2_1 a3_0 a3_1)) = some (r1, r2) := by rw [if_pos rfl] at H; exact H
     clear H
     have H := H1
     clear H1
     replace H := Option.bind_eq_some_iff.mp H
     obtain ⟨t270, A160, H⟩ := H
     replace H : (impl_AllPairsApart.j0 k (!t270) a0_0 a0_1 a1_0 a1_1 a2_0 a2_1 a3_0 a3_1) = some (r1, r2) := H
     have A16 := Agq A160
     clear A160
     have H' := Agq H
     clear H
     have hnb17 := NB263_264.out
     have hnc17 := NB264_263.out
     have hnb18 := NB263_265.out
     have hnc18 := NB265_263.out
     have hnb19 := NB263_266.out
     have hnc19 := NB266_263.out
     have hcz20_0 : w9.cell? ⟨g263, 0, none⟩ = some (.int .i64 a0_0) := (blk_cell BK263.out 0).trans rfl
     have hcz20_1 : w9.cell? ⟨g263, 1, none⟩ = some (.int .i64 a0_1) := (blk_cell BK263.out 1).trans rfl
     have hfz20_0 := blk_frozen BK263.out 0
     have hfz20_1 := blk_frozen BK263.out 1
     go_wp2_with (first | ((with_reducible refine gate_callee (f := 13) rfl ?_); refine goesL_ (some 22) rfl rfl Try.func13 (by kernel_rfl) rfl #[.agg #[.int .i64 a0_0, .int .i64 a0_1]] rfl Zg6 ?_; (with_reducible refine (impl_IsCell.calls a0_0 a0_1 true _ A10.out).mono ?_); rintro e w21 ⟨rfl, hb⟩; refine ⟨_, rfl, ?_⟩; have n0_ := Agq (blk_below (g := g263) (o := .cells #[.int .i64 a0_0, .int .i64 a0_1] 27 (0, 0)) Zg7 hb); have n1_ := Agq (blk_below (g := g264) (o := .cells #[.int .i64 a1_0, .int .i64 a1_1] 27 (0, 0)) Zg8 hb); have n2_ := Agq (blk_below (g := g265) (o := .cells #[.int .i64 a2_0, .int .i64 a2_1] 27 (0, 0)) Zg9 hb); have n3_ := Agq (blk_below (g := g266) (o := .cells #[.int .i64 a3_0, .int .i64 a3_1] 27 (0, 0)) Zg10 hb); have n4_ := Agq (below_step Zg3 hb); clear BK263; clear BK264; clear BK265; clear BK266; clear HB; have BK263 := n0_; have BK264 := n1_; have BK265 := n2_; have BK266 := n3_; have HB := n4_; clear n0_ n1_ n2_ n3_ n4_; (try clear hb); have hnb22 := NB264_265.out; have hnc22 := NB265_264.out; have hnb23 := NB264_266.out; have hnc23 := NB266_264.out; have hcz24_0 : w21.cell? ⟨g264, 0, none⟩ = some (.int .i64 a1_0) := (blk_cell BK264.out 0).trans rfl; have hcz24_1 : w21.cell? ⟨g264, 1, none⟩ = some (.int .i64 a1_1) := (blk_cell BK264.out 1).trans rfl; have hfz24_0 := blk_frozen BK264.out 0; have hfz24_1 := blk_frozen BK264.out 1) | (go_at_call 13; (with_reducible refine (impl_IsCell.calls a1_0 a1_1 true _ A12.out).mono ?_); rintro e w25 ⟨rfl, hb⟩; have n0_ := Agq (blk_below (g := g263) (o := .cells #[.int .i64 a0_0, .int .i64 a0_1] 27 (0, 0)) Zg7 hb); have n1_ := Agq (blk_below (g := g264) (o := .cells #[.int .i64 a1_0, .int .i64 a1_1] 27 (0, 0)) Zg8 hb); have n2_ := Agq (blk_below (g := g265) (o := .cells #[.int .i64 a2_0, .int .i64 a2_1] 27 (0, 0)) Zg9 hb); have n3_ := Agq (blk_below (g := g266) (o := .cells #[.int .i64 a3_0, .int .i64 a3_1] 27 (0, 0)) Zg10 hb); have n4_ := Agq (below_step Zg3 hb); clear BK263; clear BK264; clear BK265; clear BK266; clear HB; have BK263 := n0_; have BK264 := n1_; have BK265 := n2_; have BK266 := n3_; have HB := n4_; clear n0_ n1_ n2_ n3_ n4_; (try clear hb); have hnb26 := NB265_266.out; have hnc26 := NB266_265.out; have hcz27_0 : w25.cell? ⟨g265, 0, none⟩ = some (.int .i64 a2_0) := (blk_cell BK265.out 0).trans rfl; have hcz27_1 : w25.cell? ⟨g265, 1, none⟩ = some (.int .i64 a2_1) := (blk_cell BK265.out 1).trans rfl; have hfz27_0 := blk_frozen BK265.out 0; have hfz27_1 := blk_frozen BK265.out 1) | (go_at_call 13; (with_reducible refine (impl_IsCell.calls a2_0 a2_1 true _ A14.out).mono ?_); rintro e w28 ⟨rfl, hb⟩; have n0_ := Agq (blk_below (g := g263) (o := .cells #[.int .i64 a0_0, .int .i64 a0_1] 27 (0, 0)) Zg7 hb); have n1_ := Agq (blk_below (g := g264) (o := .cells #[.int .i64 a1_0, .int .i64 a1_1] 27 (0, 0)) Zg8 hb); have n2_ := Agq (blk_below (g := g265) (o := .cells #[.int .i64 a2_0, .int .i64 a2_1] 27 (0, 0)) Zg9 hb); have n3_ := Agq (blk_below (g := g266) (o := .cells #[.int .i64 a3_0, .int .i64 a3_1] 27 (0, 0)) Zg10 hb); have n4_ := Agq (below_step Zg3 hb); clear BK263; clear BK264; clear BK265; clear BK266; clear HB; have BK263 := n0_; have BK264 := n1_; have BK265 := n2_; have BK266 := n3_; have HB := n4_; clear n0_ n1_ n2_ n3_ n4_; (try clear hb); have hcz29_0 : w28.cell? ⟨g266, 0, none⟩ = some (.int .i64 a3_0) := (blk_cell BK266.out 0).trans rfl; have hcz29_1 : w28.cell? ⟨g266, 1, none⟩ = some (.int .i64 a3_1) := (blk_cell BK266.out 1).trans rfl; have hfz29_0 := blk_frozen BK266.out 0; have hfz29_1 := blk_frozen BK266.out 1) | (go_at_call 13; (with_reducible refine (impl_IsCell.calls a3_0 a3_1 t270 _ A16.out).mono ?_); rintro e w30 ⟨rfl, hb⟩; have n0_ := Agq (blk_below (g := g263) (o := .cells #[.int .i64 a0_0, .int .i64 a0_1] 27 (0, 0)) Zg7 hb); have n1_ := Agq (blk_below (g := g264) (o := .cells #[.int .i64 a1_0, .int .i64 a1_1] 27 (0, 0)) Zg8 hb); have n2_ := Agq (blk_below (g := g265) (o := .cells #[.int .i64 a2_0, .int .i64 a2_1] 27 (0, 0)) Zg9 hb); have n3_ := Agq (blk_below (g := g266) (o := .cells #[.int .i64 a3_0, .int .i64 a3_1] 27 (0, 0)) Zg10 hb); have n4_ := Agq (below_step Zg3 hb); clear BK263; clear BK264; clear BK265; clear BK266; clear HB; have BK263 := n0_; have BK264 := n1_; have BK265 := n2_; have BK266 := n3_; have HB := n4_; clear n0_ n1_ n2_ n3_ n4_; (try clear hb)))
     go_meet
     case rel => exact ⟨_, (!t270), Zg16, H', ⟨by first | omega | exact Nat.le_refl _⟩, ⟨by (with_reducible repeat (first | refine blk_drewN ?_ _ | refine blk_drew ?_ | refine blk_alloc ?_ _)); exact BK263.out⟩, ⟨by (with_reducible repeat (first | refine blk_drewN ?_ _ | refine blk_drew ?_ | refine blk_alloc ?_ _)); exact BK264.out⟩, ⟨by (with_reducible repeat (first | refine blk_drewN ?_ _ | refine blk_drew ?_ | refine blk_alloc ?_ _)); exact BK265.out⟩, ⟨by (with_reducible repeat (first | refine blk_drewN ?_ _ | refine blk_drew ?_ | refine blk_alloc ?_ _)); exact BK266.out⟩, ⟨by repeat (first | (with_reducible first | exact HB.out | apply below_alloc | apply pw_below_drewN | apply below_drew1 | refine below_set ?_ GE263.out | refine below_set ?_ GE264.out | refine below_set ?_ GE265.out | refine below_set ?_ GE266.out) | exact HB.out)⟩⟩
    ·
     replace c15 := Bool.eq_false_iff.mpr c15
     subst c15
     have H1 : (impl_AllPairsApart.j0 k true a0_0 a0_1 a1_0 a1_1 a2_0 a2_1 a3_0 a3_1) = some (r1, r2) := by rw [if_neg (show ¬ (false = true) by decide)] at H; exact H
     clear H
     have H := H1
     clear H1
     have H' := Agq H
     clear H
     have hnb31 := NB263_264.out
     have hnc31 := NB264_263.out
     have hnb32 := NB263_265.out
     have hnc32 := NB265_263.out
     have hnb33 := NB263_266.out
     have hnc33 := NB266_263.out
     have hcz34_0 : w9.cell? ⟨g263, 0, none⟩ = some (.int .i64 a0_0) := (blk_cell BK263.out 0).trans rfl
     have hcz34_1 : w9.cell? ⟨g263, 1, none⟩ = some (.int .i64 a0_1) := (blk_cell BK263.out 1).trans rfl
     have hfz34_0 := blk_frozen BK263.out 0
     have hfz34_1 := blk_frozen BK263.out 1
     go_wp2_with (first | ((with_reducible refine gate_callee (f := 13) rfl ?_); refine goesL_ (some 22) rfl rfl Try.func13 (by kernel_rfl) rfl #[.agg #[.int .i64 a0_0, .int .i64 a0_1]] rfl Zg6 ?_; (with_reducible refine (impl_IsCell.calls a0_0 a0_1 true _ A10.out).mono ?_); rintro e w35 ⟨rfl, hb⟩; refine ⟨_, rfl, ?_⟩; have n0_ := Agq (blk_below (g := g263) (o := .cells #[.int .i64 a0_0, .int .i64 a0_1] 27 (0, 0)) Zg7 hb); have n1_ := Agq (blk_below (g := g264) (o := .cells #[.int .i64 a1_0, .int .i64 a1_1] 27 (0, 0)) Zg8 hb); have n2_ := Agq (blk_below (g := g265) (o := .cells #[.int .i64 a2_0, .int .i64 a2_1] 27 (0, 0)) Zg9 hb); have n3_ := Agq (blk_below (g := g266) (o := .cells #[.int .i64 a3_0, .int .i64 a3_1] 27 (0, 0)) Zg10 hb); have n4_ := Agq (below_step Zg3 hb); clear BK263; clear BK264; clear BK265; clear BK266; clear HB; have BK263 := n0_; have BK264 := n1_; have BK265 := n2_; have BK266 := n3_; have HB := n4_; clear n0_ n1_ n2_ n3_ n4_; (try clear hb); have hnb36 := NB264_265.out; have hnc36 := NB265_264.out; have hnb37 := NB264_266.out; have hnc37 := NB266_264.out; have hcz38_0 : w35.cell? ⟨g264, 0, none⟩ = some (.int .i64 a1_0) := (blk_cell BK264.out 0).trans rfl; have hcz38_1 : w35.cell? ⟨g264, 1, none⟩ = some (.int .i64 a1_1) := (blk_cell BK264.out 1).trans rfl; have hfz38_0 := blk_frozen BK264.out 0; have hfz38_1 := blk_frozen BK264.out 1) | (go_at_call 13; (with_reducible refine (impl_IsCell.calls a1_0 a1_1 true _ A12.out).mono ?_); rintro e w39 ⟨rfl, hb⟩; have n0_ := Agq (blk_below (g := g263) (o := .cells #[.int .i64 a0_0, .int .i64 a0_1] 27 (0, 0)) Zg7 hb); have n1_ := Agq (blk_below (g := g264) (o := .cells #[.int .i64 a1_0, .int .i64 a1_1] 27 (0, 0)) Zg8 hb); have n2_ := Agq (blk_below (g := g265) (o := .cells #[.int .i64 a2_0, .int .i64 a2_1] 27 (0, 0)) Zg9 hb); have n3_ := Agq (blk_below (g := g266) (o := .cells #[.int .i64 a3_0, .int .i64 a3_1] 27 (0, 0)) Zg10 hb); have n4_ := Agq (below_step Zg3 hb); clear BK263; clear BK264; clear BK265; clear BK266; clear HB; have BK263 := n0_; have BK264 := n1_; have BK265 := n2_; have BK266 := n3_; have HB := n4_; clear n0_ n1_ n2_ n3_ n4_; (try clear hb); have hnb40 := NB265_266.out; have hnc40 := NB266_265.out; have hcz41_0 : w39.cell? ⟨g265, 0, none⟩ = some (.int .i64 a2_0) := (blk_cell BK265.out 0).trans rfl; have hcz41_1 : w39.cell? ⟨g265, 1, none⟩ = some (.int .i64 a2_1) := (blk_cell BK265.out 1).trans rfl; have hfz41_0 := blk_frozen BK265.out 0; have hfz41_1 := blk_frozen BK265.out 1) | (go_at_call 13; (with_reducible refine (impl_IsCell.calls a2_0 a2_1 false _ A14.out).mono ?_); rintro e w42 ⟨rfl, hb⟩; have n0_ := Agq (blk_below (g := g263) (o := .cells #[.int .i64 a0_0, .int .i64 a0_1] 27 (0, 0)) Zg7 hb); have n1_ := Agq (blk_below (g := g264) (o := .cells #[.int .i64 a1_0, .int .i64 a1_1] 27 (0, 0)) Zg8 hb); have n2_ := Agq (blk_below (g := g265) (o := .cells #[.int .i64 a2_0, .int .i64 a2_1] 27 (0, 0)) Zg9 hb); have n3_ := Agq (blk_below (g := g266) (o := .cells #[.int .i64 a3_0, .int .i64 a3_1] 27 (0, 0)) Zg10 hb); have n4_ := Agq (below_step Zg3 hb); clear BK263; clear BK264; clear BK265; clear BK266; clear HB; have BK263 := n0_; have BK264 := n1_; have BK265 := n2_; have BK266 := n3_; have HB := n4_; clear n0_ n1_ n2_ n3_ n4_; (try clear hb)))
     go_meet
     case rel => exact ⟨_, (true), Zg16, H', ⟨by first | omega | exact Nat.le_refl _⟩, ⟨by (with_reducible repeat (first | refine blk_drewN ?_ _ | refine blk_drew ?_ | refine blk_alloc ?_ _)); exact BK263.out⟩, ⟨by (with_reducible repeat (first | refine blk_drewN ?_ _ | refine blk_drew ?_ | refine blk_alloc ?_ _)); exact BK264.out⟩, ⟨by (with_reducible repeat (first | refine blk_drewN ?_ _ | refine blk_drew ?_ | refine blk_alloc ?_ _)); exact BK265.out⟩, ⟨by (with_reducible repeat (first | refine blk_drewN ?_ _ | refine blk_drew ?_ | refine blk_alloc ?_ _)); exact BK266.out⟩, ⟨by repeat (first | (with_reducible first | exact HB.out | apply below_alloc | apply pw_below_drewN | apply below_drew1 | refine below_set ?_ GE263.out | refine below_set ?_ GE264.out | refine below_set ?_ GE265.out | refine below_set ?_ GE266.out) | exact HB.out)⟩⟩
   ·
    replace c13 := Bool.eq_false_iff.mpr c13
    subst c13
    have H1 : (impl_AllPairsApart.j0 k true a0_0 a0_1 a1_0 a1_1 a2_0 a2_1 a3_0 a3_1) = some (r1, r2) := by rw [if_neg (show ¬ (false = true) by decide)] at H; exact H
    clear H
    have H := H1
    clear H1
    have H' := Agq H
    clear H
    have hnb43 := NB263_264.out
    have hnc43 := NB264_263.out
    have hnb44 := NB263_265.out
    have hnc44 := NB265_263.out
    have hnb45 := NB263_266.out
    have hnc45 := NB266_263.out
    have hcz46_0 : w9.cell? ⟨g263, 0, none⟩ = some (.int .i64 a0_0) := (blk_cell BK263.out 0).trans rfl
    have hcz46_1 : w9.cell? ⟨g263, 1, none⟩ = some (.int .i64 a0_1) := (blk_cell BK263.out 1).trans rfl
    have hfz46_0 := blk_frozen BK263.out 0
    have hfz46_1 := blk_frozen BK263.out 1
    go_wp2_with (first | ((with_reducible refine gate_callee (f := 13) rfl ?_); refine goesL_ (some 22) rfl rfl Try.func13 (by kernel_rfl) rfl #[.agg #[.int .i64 a0_0, .int .i64 a0_1]] rfl Zg6 ?_; (with_reducible refine (impl_IsCell.calls a0_0 a0_1 true _ A10.out).mono ?_); rintro e w47 ⟨rfl, hb⟩; refine ⟨_, rfl, ?_⟩; have n0_ := Agq (blk_below (g := g263) (o := .cells #[.int .i64 a0_0, .int .i64 a0_1] 27 (0, 0)) Zg7 hb); have n1_ := Agq (blk_below (g := g264) (o := .cells #[.int .i64 a1_0, .int .i64 a1_1] 27 (0, 0)) Zg8 hb); have n2_ := Agq (blk_below (g := g265) (o := .cells #[.int .i64 a2_0, .int .i64 a2_1] 27 (0, 0)) Zg9 hb); have n3_ := Agq (blk_below (g := g266) (o := .cells #[.int .i64 a3_0, .int .i64 a3_1] 27 (0, 0)) Zg10 hb); have n4_ := Agq (below_step Zg3 hb); clear BK263; clear BK264; clear BK265; clear BK266; clear HB; have BK263 := n0_; have BK264 := n1_; have BK265 := n2_; have BK266 := n3_; have HB := n4_; clear n0_ n1_ n2_ n3_ n4_; (try clear hb); have hnb48 := NB264_265.out; have hnc48 := NB265_264.out; have hnb49 := NB264_266.out; have hnc49 := NB266_264.out; have hcz50_0 : w47.cell? ⟨g264, 0, none⟩ = some (.int .i64 a1_0) := (blk_cell BK264.out 0).trans rfl; have hcz50_1 : w47.cell? ⟨g264, 1, none⟩ = some (.int .i64 a1_1) := (blk_cell BK264.out 1).trans rfl; have hfz50_0 := blk_frozen BK264.out 0; have hfz50_1 := blk_frozen BK264.out 1) | (go_at_call 13; (with_reducible refine (impl_IsCell.calls a1_0 a1_1 false _ A12.out).mono ?_); rintro e w51 ⟨rfl, hb⟩; have n0_ := Agq (blk_below (g := g263) (o := .cells #[.int .i64 a0_0, .int .i64 a0_1] 27 (0, 0)) Zg7 hb); have n1_ := Agq (blk_below (g := g264) (o := .cells #[.int .i64 a1_0, .int .i64 a1_1] 27 (0, 0)) Zg8 hb); have n2_ := Agq (blk_below (g := g265) (o := .cells #[.int .i64 a2_0, .int .i64 a2_1] 27 (0, 0)) Zg9 hb); have n3_ := Agq (blk_below (g := g266) (o := .cells #[.int .i64 a3_0, .int .i64 a3_1] 27 (0, 0)) Zg10 hb); have n4_ := Agq (below_step Zg3 hb); clear BK263; clear BK264; clear BK265; clear BK266; clear HB; have BK263 := n0_; have BK264 := n1_; have BK265 := n2_; have BK266 := n3_; have HB := n4_; clear n0_ n1_ n2_ n3_ n4_; (try clear hb)))
    go_meet
    case rel => exact ⟨_, (true), Zg16, H', ⟨by first | omega | exact Nat.le_refl _⟩, ⟨by (with_reducible repeat (first | refine blk_drewN ?_ _ | refine blk_drew ?_ | refine blk_alloc ?_ _)); exact BK263.out⟩, ⟨by (with_reducible repeat (first | refine blk_drewN ?_ _ | refine blk_drew ?_ | refine blk_alloc ?_ _)); exact BK264.out⟩, ⟨by (with_reducible repeat (first | refine blk_drewN ?_ _ | refine blk_drew ?_ | refine blk_alloc ?_ _)); exact BK265.out⟩, ⟨by (with_reducible repeat (first | refine blk_drewN ?_ _ | refine blk_drew ?_ | refine blk_alloc ?_ _)); exact BK266.out⟩, ⟨by repeat (first | (with_reducible first | exact HB.out | apply below_alloc | apply pw_below_drewN | apply below_drew1 | refine below_set ?_ GE263.out | refine below_set ?_ GE264.out | refine below_set ?_ GE265.out | refine below_set ?_ GE266.out) | exact HB.out)⟩⟩
  ·
   replace c11 := Bool.eq_false_iff.mpr c11
   subst c11
   have H1 : (impl_AllPairsApart.j0 k true a0_0 a0_1 a1_0 a1_1 a2_0 a2_1 a3_0 a3_1) = some (r1, r2) := by rw [if_neg (show ¬ (false = true) by decide)] at H; exact H
   clear H
   have H := H1
   clear H1
   have H' := Agq H
   clear H
   have hnb52 := NB263_264.out
   have hnc52 := NB264_263.out
   have hnb53 := NB263_265.out
   have hnc53 := NB265_263.out
   have hnb54 := NB263_266.out
   have hnc54 := NB266_263.out
   have hcz55_0 : w9.cell? ⟨g263, 0, none⟩ = some (.int .i64 a0_0) := (blk_cell BK263.out 0).trans rfl
   have hcz55_1 : w9.cell? ⟨g263, 1, none⟩ = some (.int .i64 a0_1) := (blk_cell BK263.out 1).trans rfl
   have hfz55_0 := blk_frozen BK263.out 0
   have hfz55_1 := blk_frozen BK263.out 1
   go_wp2_with (first | ((with_reducible refine gate_callee (f := 13) rfl ?_); refine goesL_ (some 22) rfl rfl Try.func13 (by kernel_rfl) rfl #[.agg #[.int .i64 a0_0, .int .i64 a0_1]] rfl Zg6 ?_; (with_reducible refine (impl_IsCell.calls a0_0 a0_1 false _ A10.out).mono ?_); rintro e w56 ⟨rfl, hb⟩; refine ⟨_, rfl, ?_⟩; have n0_ := Agq (blk_below (g := g263) (o := .cells #[.int .i64 a0_0, .int .i64 a0_1] 27 (0, 0)) Zg7 hb); have n1_ := Agq (blk_below (g := g264) (o := .cells #[.int .i64 a1_0, .int .i64 a1_1] 27 (0, 0)) Zg8 hb); have n2_ := Agq (blk_below (g := g265) (o := .cells #[.int .i64 a2_0, .int .i64 a2_1] 27 (0, 0)) Zg9 hb); have n3_ := Agq (blk_below (g := g266) (o := .cells #[.int .i64 a3_0, .int .i64 a3_1] 27 (0, 0)) Zg10 hb); have n4_ := Agq (below_step Zg3 hb); clear BK263; clear BK264; clear BK265; clear BK266; clear HB; have BK263 := n0_; have BK264 := n1_; have BK265 := n2_; have BK266 := n3_; have HB := n4_; clear n0_ n1_ n2_ n3_ n4_; (try clear hb)))
   go_meet
   case rel => exact ⟨_, (true), Zg16, H', ⟨by first | omega | exact Nat.le_refl _⟩, ⟨by (with_reducible repeat (first | refine blk_drewN ?_ _ | refine blk_drew ?_ | refine blk_alloc ?_ _)); exact BK263.out⟩, ⟨by (with_reducible repeat (first | refine blk_drewN ?_ _ | refine blk_drew ?_ | refine blk_alloc ?_ _)); exact BK264.out⟩, ⟨by (with_reducible repeat (first | refine blk_drewN ?_ _ | refine blk_drew ?_ | refine blk_alloc ?_ _)); exact BK265.out⟩, ⟨by (with_reducible repeat (first | refine blk_drewN ?_ _ | refine blk_drew ?_ | refine blk_alloc ?_ _)); exact BK266.out⟩, ⟨by repeat (first | (with_reducible first | exact HB.out | apply below_alloc | apply pw_below_drewN | apply below_drew1 | refine below_set ?_ GE263.out | refine below_set ?_ GE264.out | refine below_set ?_ GE265.out | refine below_set ?_ GE266.out) | exact HB.out)⟩⟩
 case rest =>
  clear HC5
  try clear c1
  try clear c2
  try clear p2
  try clear c3
  try clear c4
  try clear c5
  try clear c6
  try clear c11
  try clear c13
  try clear c15
  try clear c17
  try clear c18
  try clear c19
  try clear c22
  try clear c23
  try clear c26
  try clear c31
  try clear c32
  try clear c33
  try clear c36
  try clear c37
  try clear c40
  try clear c43
  try clear c44
  try clear c45
  try clear c48
  try clear c49
  try clear c52
  try clear c53
  try clear c54
  try clear hcz20_0
  try clear hcz20_1
  try clear hcz24_0
  try clear hcz24_1
  try clear hcz27_0
  try clear hcz27_1
  try clear hcz29_0
  try clear hcz29_1
  try clear hcz34_0
  try clear hcz34_1
  try clear hcz38_0
  try clear hcz38_1
  try clear hcz41_0
  try clear hcz41_1
  try clear hcz46_0
  try clear hcz46_1
  try clear hcz50_0
  try clear hcz50_1
  try clear hcz55_0
  try clear hcz55_1
  try clear hfz20_0
  try clear hfz20_1
  try clear hfz24_0
  try clear hfz24_1
  try clear hfz27_0
  try clear hfz27_1
  try clear hfz29_0
  try clear hfz29_1
  try clear hfz34_0
  try clear hfz34_1
  try clear hfz38_0
  try clear hfz38_1
  try clear hfz41_0
  try clear hfz41_1
  try clear hfz46_0
  try clear hfz46_1
  try clear hfz50_0
  try clear hfz50_1
  try clear hfz55_0
  try clear hfz55_1
  obtain ⟨kq, x38_4, rfl, HA, HJ4, BK263, BK264, BK265, BK266, HB⟩ := hcut
  cases kq with
  | zero => exact absurd HA.out (by simp [impl_AllPairsApart.j0])
  | succ kj4 =>
   have H := HA.out
   clear HA
   simp only [impl_AllPairsApart.j0] at H
   by_cases c57 : x38_4 = true
   ·
    subst c57
    have H1 : (some (([] : List (List (S37))), false)) = some (r1, r2) := by rw [if_pos rfl] at H; exact H
    clear H
    have H := H1
    clear H1
    simp only [Option.some.injEq, Prod.mk.injEq] at H
    obtain ⟨rfl, rfl⟩ := H
    go_wp2
    go_ret2
    exact ⟨_, Zrg, by first | exact Kd.S_nil _ _ _ _ _ | exact Kd.N_nil _ _ _ _ _ | exact Kd.V_nil _ _ _ _ _ | exact Kd.Q_nil _ _ _ _ _ | exact Kd.R_nil _ _ _ _ _, by repeat (first | (with_reducible first | exact HB.out | apply below_alloc | apply pw_below_drewN | apply below_drew1 | refine below_set ?_ GE263.out | refine below_set ?_ GE264.out | refine below_set ?_ GE265.out | refine below_set ?_ GE266.out) | exact HB.out)⟩
   ·
    replace c57 := Bool.eq_false_iff.mpr c57
    subst c57
    have H1 : ((impl_allWays.f kj4 a0_0 a0_1 a2_0 a2_1).bind fun bt271 => ((impl_allWays.f kj4 a1_0 a1_1 a3_0 a3_1).bind fun bt275 => (if bt271.2 = true then (impl_AllPairsApart.j1 kj4 bt271.1 bt275.1 (!bt275.2)) else (impl_AllPairsApart.j1 kj4 bt271.1 bt275.1 true)))) = some (r1, r2) := by rw [if_neg (show ¬ (false = true) by decide)] at H; exact H
    clear H
    have H := H1
    clear H1
    replace H := Option.bind_eq_some_iff.mp H
    obtain ⟨⟨t271, t274⟩, A580, H⟩ := H
    replace H : ((impl_allWays.f kj4 a1_0 a1_1 a3_0 a3_1).bind fun bt275 => (if t274 = true then (impl_AllPairsApart.j1 kj4 t271 bt275.1 (!bt275.2)) else (impl_AllPairsApart.j1 kj4 t271 bt275.1 true))) = some (r1, r2) := H
    have A58 := Agq A580
    clear A580
    replace H := Option.bind_eq_some_iff.mp H
    obtain ⟨⟨t275, t278⟩, A590, H⟩ := H
    replace H : (if t274 = true then (impl_AllPairsApart.j1 kj4 t271 t275 (!t278)) else (impl_AllPairsApart.j1 kj4 t271 t275 true)) = some (r1, r2) := H
    have A59 := Agq A590
    clear A590
    have HC60 := Agq H
    clear H
    have hnb61 := NB263_264.out
    have hnc61 := NB264_263.out
    have hnb62 := NB263_265.out
    have hnc62 := NB265_263.out
    have hnb63 := NB263_266.out
    have hnc63 := NB266_263.out
    have hcz64_0 : wc.cell? ⟨g263, 0, none⟩ = some (.int .i64 a0_0) := (blk_cell BK263.out 0).trans rfl
    have hcz64_1 : wc.cell? ⟨g263, 1, none⟩ = some (.int .i64 a0_1) := (blk_cell BK263.out 1).trans rfl
    have hfz64_0 := blk_frozen BK263.out 0
    have hfz64_1 := blk_frozen BK263.out 1
    have hnb65 := NB265_264.out
    have hnc65 := NB264_265.out
    have hnb66 := NB265_266.out
    have hnc66 := NB266_265.out
    have hcz67_0 : wc.cell? ⟨g265, 0, none⟩ = some (.int .i64 a2_0) := (blk_cell BK265.out 0).trans rfl
    have hcz67_1 : wc.cell? ⟨g265, 1, none⟩ = some (.int .i64 a2_1) := (blk_cell BK265.out 1).trans rfl
    have hfz67_0 := blk_frozen BK265.out 0
    have hfz67_1 := blk_frozen BK265.out 1
    go_upto_region 5 with (first | ((with_reducible refine gate_callee (f := 14) rfl ?_); refine goesL_ (some 42) rfl rfl Try.func14 (by kernel_rfl) rfl #[.agg #[.int .i64 a0_0, .int .i64 a0_1], .agg #[.int .i64 a2_0, .int .i64 a2_1]] rfl Zg6 ?_; (with_reducible refine (impl_allWays.calls kj4 a0_0 a0_1 a2_0 a2_1 t271 t274 _ A58.out).mono ?_); rintro e w68 ⟨v272, rfl, ho0, hb⟩; refine ⟨_, rfl, ?_⟩; have n0_ := Agq (Kd.R_lower ho0 (below_size Zg3)); have n1_ := Agq (blk_below (g := g263) (o := .cells #[.int .i64 a0_0, .int .i64 a0_1] 27 (0, 0)) Zg7 hb); have n2_ := Agq (blk_below (g := g264) (o := .cells #[.int .i64 a1_0, .int .i64 a1_1] 27 (0, 0)) Zg8 hb); have n3_ := Agq (blk_below (g := g265) (o := .cells #[.int .i64 a2_0, .int .i64 a2_1] 27 (0, 0)) Zg9 hb); have n4_ := Agq (blk_below (g := g266) (o := .cells #[.int .i64 a3_0, .int .i64 a3_1] 27 (0, 0)) Zg10 hb); have n5_ := Agq (below_step Zg3 hb); clear BK263; clear BK264; clear BK265; clear BK266; clear HB; have HO273 := n0_; have BK263 := n1_; have BK264 := n2_; have BK265 := n3_; have BK266 := n4_; have HB := n5_; clear n0_ n1_ n2_ n3_ n4_ n5_; (try clear hb); (try clear ho0); have hnb69 := NB264_266.out; have hnc69 := NB266_264.out; have hcz70_0 : w68.cell? ⟨g264, 0, none⟩ = some (.int .i64 a1_0) := (blk_cell BK264.out 0).trans rfl; have hcz70_1 : w68.cell? ⟨g264, 1, none⟩ = some (.int .i64 a1_1) := (blk_cell BK264.out 1).trans rfl; have hfz70_0 := blk_frozen BK264.out 0; have hfz70_1 := blk_frozen BK264.out 1; have hcz71_0 : w68.cell? ⟨g266, 0, none⟩ = some (.int .i64 a3_0) := (blk_cell BK266.out 0).trans rfl; have hcz71_1 : w68.cell? ⟨g266, 1, none⟩ = some (.int .i64 a3_1) := (blk_cell BK266.out 1).trans rfl; have hfz71_0 := blk_frozen BK266.out 0; have hfz71_1 := blk_frozen BK266.out 1) | ((with_reducible refine gate_callee (f := 14) rfl ?_); refine goesL_ (some 48) rfl rfl Try.func14 (by kernel_rfl) rfl #[.agg #[.int .i64 a1_0, .int .i64 a1_1], .agg #[.int .i64 a3_0, .int .i64 a3_1]] rfl Zg6 ?_; (with_reducible refine (impl_allWays.calls kj4 a1_0 a1_1 a3_0 a3_1 t275 t278 _ A59.out).mono ?_); rintro e w72 ⟨v276, rfl, ho0, hb⟩; refine ⟨_, rfl, ?_⟩; have n0_ := Agq (Kd.R_elder' (by (with_reducible repeat (first | apply Kd.R_alloc | apply Kd.R_drewN | apply Kd.R_drew)); exact HO273.out) (Kd.R_base ho0) hb); have n1_ := Agq (Kd.R_lower (Kd.R_new' ho0 (Kd.R_lt (by (with_reducible repeat (first | apply Kd.R_alloc | apply Kd.R_drewN | apply Kd.R_drew)); exact HO273.out))) (below_size Zg3)); have n2_ := Agq (blk_below (g := g263) (o := .cells #[.int .i64 a0_0, .int .i64 a0_1] 27 (0, 0)) Zg7 hb); have n3_ := Agq (blk_below (g := g264) (o := .cells #[.int .i64 a1_0, .int .i64 a1_1] 27 (0, 0)) Zg8 hb); have n4_ := Agq (blk_below (g := g265) (o := .cells #[.int .i64 a2_0, .int .i64 a2_1] 27 (0, 0)) Zg9 hb); have n5_ := Agq (blk_below (g := g266) (o := .cells #[.int .i64 a3_0, .int .i64 a3_1] 27 (0, 0)) Zg10 hb); have n6_ := Agq (below_step Zg3 hb); clear HO273; clear BK263; clear BK264; clear BK265; clear BK266; clear HB; have HO273 := n0_; have HO277 := n1_; have BK263 := n2_; have BK264 := n3_; have BK265 := n4_; have BK266 := n5_; have HB := n6_; clear n0_ n1_ n2_ n3_ n4_ n5_ n6_; (try clear hb); (try clear ho0)))
    (try simp only [Act.put, y1g, y2g, y3g])
    go_cut [56] (fun v56 wc => ∃ (kq : Nat) (x56_59 : Bool), v56 = .bool x56_59 ∧ Aside0 (impl_AllPairsApart.j1 kq t271 t275 x56_59 = some (r1, r2)) ∧ Aside0 (kq ≤ kj4) ∧ Aside0 (Kd.R k37 37 wc w.heap.size (fun k_ => some k_ ≠ (v276 : Value).ownBlock) v272 t271) ∧ Aside0 (Kd.R k37 37 wc w.heap.size (fun k_ => some k_ ≠ (v272 : Value).ownBlock) v276 t275) ∧ Aside0 (wc.heap[g263]? = some (.cells #[.int .i64 a0_0, .int .i64 a0_1] 27 (0, 0))) ∧ Aside0 (wc.heap[g264]? = some (.cells #[.int .i64 a1_0, .int .i64 a1_1] 27 (0, 0))) ∧ Aside0 (wc.heap[g265]? = some (.cells #[.int .i64 a2_0, .int .i64 a2_1] 27 (0, 0))) ∧ Aside0 (wc.heap[g266]? = some (.cells #[.int .i64 a3_0, .int .i64 a3_1] 27 (0, 0))) ∧ Aside0 (Below w.heap.size w wc))
    case first =>
     have H := HC60.out
     clear HC60
     by_cases c73 : t274 = true
     ·
      subst c73
      have H1 : (impl_AllPairsApart.j1 kj4 t271 t275 (!t278)) = some (r1, r2) := by rw [if_pos rfl] at H; exact H
      clear H
      have H := H1
      clear H1
      have H' := Agq H
      clear H
      go_wp2
      go_meet
      case rel => exact ⟨_, (!t278), Zg16, H', ⟨by have := HJ4.out; first | omega | exact Nat.le_refl _⟩, ⟨by (with_reducible repeat (first | apply Kd.R_alloc | apply Kd.R_drewN | apply Kd.R_drew)); exact Kd.R_mono HO273.out (fun _ hk => hk.2)⟩, ⟨by (with_reducible repeat (first | apply Kd.R_alloc | apply Kd.R_drewN | apply Kd.R_drew)); exact Kd.R_mono HO277.out (fun _ hk => hk.2)⟩, ⟨by (with_reducible repeat (first | refine blk_drewN ?_ _ | refine blk_drew ?_ | refine blk_alloc ?_ _)); exact BK263.out⟩, ⟨by (with_reducible repeat (first | refine blk_drewN ?_ _ | refine blk_drew ?_ | refine blk_alloc ?_ _)); exact BK264.out⟩, ⟨by (with_reducible repeat (first | refine blk_drewN ?_ _ | refine blk_drew ?_ | refine blk_alloc ?_ _)); exact BK265.out⟩, ⟨by (with_reducible repeat (first | refine blk_drewN ?_ _ | refine blk_drew ?_ | refine blk_alloc ?_ _)); exact BK266.out⟩, ⟨by repeat (first | (with_reducible first | exact HB.out | apply below_alloc | apply pw_below_drewN | apply below_drew1 | refine below_set ?_ GE263.out | refine below_set ?_ GE264.out | refine below_set ?_ GE265.out | refine below_set ?_ GE266.out) | exact HB.out)⟩⟩
     ·
      replace c73 := Bool.eq_false_iff.mpr c73
      subst c73
      have H1 : (impl_AllPairsApart.j1 kj4 t271 t275 true) = some (r1, r2) := by rw [if_neg (show ¬ (false = true) by decide)] at H; exact H
      clear H
      have H := H1
      clear H1
      have H' := Agq H
      clear H
      go_wp2
      go_meet
      case rel => exact ⟨_, (true), Zg16, H', ⟨by have := HJ4.out; first | omega | exact Nat.le_refl _⟩, ⟨by (with_reducible repeat (first | apply Kd.R_alloc | apply Kd.R_drewN | apply Kd.R_drew)); exact Kd.R_mono HO273.out (fun _ hk => hk.2)⟩, ⟨by (with_reducible repeat (first | apply Kd.R_alloc | apply Kd.R_drewN | apply Kd.R_drew)); exact Kd.R_mono HO277.out (fun _ hk => hk.2)⟩, ⟨by (with_reducible repeat (first | refine blk_drewN ?_ _ | refine blk_drew ?_ | refine blk_alloc ?_ _)); exact BK263.out⟩, ⟨by (with_reducible repeat (first | refine blk_drewN ?_ _ | refine blk_drew ?_ | refine blk_alloc ?_ _)); exact BK264.out⟩, ⟨by (with_reducible repeat (first | refine blk_drewN ?_ _ | refine blk_drew ?_ | refine blk_alloc ?_ _)); exact BK265.out⟩, ⟨by (with_reducible repeat (first | refine blk_drewN ?_ _ | refine blk_drew ?_ | refine blk_alloc ?_ _)); exact BK266.out⟩, ⟨by repeat (first | (with_reducible first | exact HB.out | apply below_alloc | apply pw_below_drewN | apply below_drew1 | refine below_set ?_ GE263.out | refine below_set ?_ GE264.out | refine below_set ?_ GE265.out | refine below_set ?_ GE266.out) | exact HB.out)⟩⟩
    case rest =>
     clear HC60
     try clear c1
     try clear c2
     try clear p2
     try clear c3
     try clear c4
     try clear c5
     try clear c6
     try clear c7
     try clear c11
     try clear c13
     try clear c14
     try clear c15
     try clear c17
     try clear c18
     try clear c19
     try clear c22
     try clear c23
     try clear c26
     try clear c31
     try clear c32
     try clear c33
     try clear c36
     try clear c37
     try clear c40
     try clear c43
     try clear c44
     try clear c45
     try clear c48
     try clear c49
     try clear c52
     try clear c53
     try clear c54
     try clear c57
     try clear c61
     try clear c62
     try clear c63
     try clear c65
     try clear c66
     try clear c69
     try clear c73
     try clear hcz20_0
     try clear hcz20_1
     try clear hcz24_0
     try clear hcz24_1
     try clear hcz27_0
     try clear hcz27_1
     try clear hcz29_0
     try clear hcz29_1
     try clear hcz34_0
     try clear hcz34_1
     try clear hcz38_0
     try clear hcz38_1
     try clear hcz41_0
     try clear hcz41_1
     try clear hcz46_0
     try clear hcz46_1
     try clear hcz50_0
     try clear hcz50_1
     try clear hcz55_0
     try clear hcz55_1
     try clear hcz64_0
     try clear hcz64_1
     try clear hcz67_0
     try clear hcz67_1
     try clear hcz70_0
     try clear hcz70_1
     try clear hcz71_0
     try clear hcz71_1
     try clear hfz20_0
     try clear hfz20_1
     try clear hfz24_0
     try clear hfz24_1
     try clear hfz27_0
     try clear hfz27_1
     try clear hfz29_0
     try clear hfz29_1
     try clear hfz34_0
     try clear hfz34_1
     try clear hfz38_0
     try clear hfz38_1
     try clear hfz41_0
     try clear hfz41_1
     try clear hfz46_0
     try clear hfz46_1
     try clear hfz50_0
     try clear hfz50_1
     try clear hfz55_0
     try clear hfz55_1
     try clear hfz64_0
     try clear hfz64_1
     try clear hfz67_0
     try clear hfz67_1
     try clear hfz70_0
     try clear hfz70_1
     try clear hfz71_0
     try clear hfz71_1
     try clear p2
     obtain ⟨kq, x56_59, rfl, HA, HJ59, HO_10, HO_12, BK263, BK264, BK265, BK266, HB⟩ := hcut
     cases kq with
     | zero => exact absurd HA.out (by simp [impl_AllPairsApart.j1])
     | succ kj59 =>
      have H := HA.out
      clear HA
      simp only [impl_AllPairsApart.j1] at H
      by_cases c74 : x56_59 = true
      ·
       subst c74
       have H1 : (some (([] : List (List (S37))), false)) = some (r1, r2) := by rw [if_pos rfl] at H; exact H
       clear H
       have H := H1
       clear H1
       simp only [Option.some.injEq, Prod.mk.injEq] at H
       obtain ⟨rfl, rfl⟩ := H
       go_wp2
       go_ret2
       exact ⟨_, Zrg, by first | exact Kd.S_nil _ _ _ _ _ | exact Kd.N_nil _ _ _ _ _ | exact Kd.V_nil _ _ _ _ _ | exact Kd.Q_nil _ _ _ _ _ | exact Kd.R_nil _ _ _ _ _, by repeat (first | (with_reducible first | exact HB.out | apply below_alloc | apply pw_below_drewN | apply below_drew1 | refine below_set ?_ GE263.out | refine below_set ?_ GE264.out | refine below_set ?_ GE265.out | refine below_set ?_ GE266.out) | exact HB.out)⟩
      ·
       replace c74 := Bool.eq_false_iff.mpr c74
       subst c74
       have H1 : (impl_AllPairsApart.l0 kj59 t275 (([] : List (List (S37)))) t271 (t271.length : Int) 0) = some (r1, r2) := by rw [if_neg (show ¬ (false = true) by decide)] at H; exact H
       clear H
       have H := H1
       clear H1
       obtain ⟨y279, hy279⟩ : ∃ y_ : List (List (S37)), y_ = (([] : List (List (S37)))) := ⟨_, rfl⟩
       replace H : (impl_AllPairsApart.l0 kj59 t275 y279 t271 (t271.length : Int) 0) = some (r1, r2) := by first | (rw [hy279]; with_reducible exact H) | (have H2_ := (Option.bind_some _ _).symm.trans H; rw [hy279]; with_reducible exact H2_) | (have H2_ := (Option.bind_some _ _).symm.trans H; with_reducible exact H2_) | with_reducible exact H | (rw [hy279]; exact H) | exact H
       have Ny279 := Agq hy279
       clear hy279
       have H' := Agq H
       clear H
       go_wp2_with (first | ((with_reducible refine gate_dst (N := 57) rfl ?_); refine Kd.S_lit (Kd.slice 37 k37) _ 33 ?hg (N := 57) ?hd (xs := ([] : List (List (S37)))) (inner := []) (ok := fun _ => True) (okp := fun _ => True) ?hr ?hp (fun _ hk => hk) trivial (Below.refl _ _) (Nat.le_refl _) (by simp) ?_; (case hd => rfl); (case hg => rfl); (case hr => first | (go_simp; done) | (go_simp; rfl)); (case hp => exact (Reps.none _ _)); intro v280 w75 ho76 hb hg_ hnew_; clear hg_ hnew_; (first | rw [← Ny279.out] at ho76 | (simp only [Int.reduceToNat] at ho76; rw [← Ny279.out] at ho76)); have n0_ := Agq (Kd.R_below (by (with_reducible repeat (first | apply Kd.R_alloc | apply Kd.R_drewN | apply Kd.R_drew)); exact HO_10.out) hb); have n1_ := Agq (Kd.R_below Zg12 hb); have n2_ := Agq (Kd.S_lower (Kd.S_new' (Kd.S_new' ho76 (Kd.R_lt (by (with_reducible repeat (first | apply Kd.R_alloc | apply Kd.R_drewN | apply Kd.R_drew)); exact HO_10.out))) (Kd.R_lt Zg12)) (below_size Zg3)); have n3_ := Agq (blk_below (g := g263) (o := .cells #[.int .i64 a0_0, .int .i64 a0_1] 27 (0, 0)) Zg7 hb); have n4_ := Agq (blk_below (g := g264) (o := .cells #[.int .i64 a1_0, .int .i64 a1_1] 27 (0, 0)) Zg8 hb); have n5_ := Agq (blk_below (g := g265) (o := .cells #[.int .i64 a2_0, .int .i64 a2_1] 27 (0, 0)) Zg9 hb); have n6_ := Agq (blk_below (g := g266) (o := .cells #[.int .i64 a3_0, .int .i64 a3_1] 27 (0, 0)) Zg10 hb); have n7_ := Agq (below_step Zg3 hb); clear HO_10; clear HO_12; clear BK263; clear BK264; clear BK265; clear BK266; clear HB; have HO_10 := n0_; have HO_12 := n1_; have HO281 := n2_; have BK263 := n3_; have BK264 := n4_; have BK265 := n5_; have BK266 := n6_; have HB := n7_; clear n0_ n1_ n2_ n3_ n4_ n5_ n6_ n7_; clear hb ho76; obtain ⟨Ao77, co77, eo77⟩ := Kd.R_slice HO_10.out; subst eo77))
       go_loopg [14, 60] kj59 (fun kq v14 v60 w' => ∃ (x14_3 : List (List (S37))) (x60_3 : Int), v60 = .int .i64 x60_3 ∧ Aside0 (impl_AllPairsApart.l0 kq t275 x14_3 t271 (t271.length : Int) x60_3 = some (r1, r2)) ∧ Aside0 (kq ≤ kj59) ∧ Aside0 (Kd.R k37 37 w' w.heap.size (fun k_ => some k_ ≠ ((.slice Ao77 t271.length co77) : Value).ownBlock) v276 t275) ∧ Aside0 (Kd.S (Kd.slice 37 k37) 33 w' w.heap.size (fun k_ => some k_ ≠ (v276 : Value).ownBlock ∧ some k_ ≠ ((.slice Ao77 t271.length co77) : Value).ownBlock) v14 x14_3) ∧ Aside0 (Kd.R k37 37 w' w.heap.size (fun k_ => some k_ ≠ (v276 : Value).ownBlock) (.slice Ao77 t271.length co77) t271) ∧ Aside0 (w'.heap[g263]? = some (.cells #[.int .i64 a0_0, .int .i64 a0_1] 27 (0, 0))) ∧ Aside0 (w'.heap[g264]? = some (.cells #[.int .i64 a1_0, .int .i64 a1_1] 27 (0, 0))) ∧ Aside0 (w'.heap[g265]? = some (.cells #[.int .i64 a2_0, .int .i64 a2_1] 27 (0, 0))) ∧ Aside0 (w'.heap[g266]? = some (.cells #[.int .i64 a3_0, .int .i64 a3_1] 27 (0, 0))) ∧ Aside0 (Below w.heap.size w w'))
       case atStart => exact ⟨(y279), (0), Zg16, H', ⟨Nat.le_refl _⟩, ⟨by (with_reducible repeat (first | apply Kd.R_alloc | apply Kd.R_drewN | apply Kd.R_drew)); exact HO_12.out⟩, ⟨by (with_reducible repeat (first | apply Kd.S_alloc | apply Kd.S_drewN | apply Kd.S_drew)); exact Kd.S_mono HO281.out (fun _ hk => ⟨hk.2, hk.1.2⟩)⟩, ⟨by (with_reducible repeat (first | apply Kd.R_alloc | apply Kd.R_drewN | apply Kd.R_drew)); exact HO_10.out⟩, ⟨by (with_reducible repeat (first | refine blk_drewN ?_ _ | refine blk_drew ?_ | refine blk_alloc ?_ _)); exact BK263.out⟩, ⟨by (with_reducible repeat (first | refine blk_drewN ?_ _ | refine blk_drew ?_ | refine blk_alloc ?_ _)); exact BK264.out⟩, ⟨by (with_reducible repeat (first | refine blk_drewN ?_ _ | refine blk_drew ?_ | refine blk_alloc ?_ _)); exact BK265.out⟩, ⟨by (with_reducible repeat (first | refine blk_drewN ?_ _ | refine blk_drew ?_ | refine blk_alloc ?_ _)); exact BK266.out⟩, ⟨by repeat (first | (with_reducible first | exact HB.out | apply below_alloc | apply pw_below_drewN | apply below_drew1 | refine below_set ?_ GE263.out | refine below_set ?_ GE264.out | refine below_set ?_ GE265.out | refine below_set ?_ GE266.out) | exact HB.out)⟩⟩
       case round =>
        clear H'
        try clear c1
        try clear c2
        try clear p2
        try clear c3
        try clear c4
        try clear c5
        try clear c6
        try clear c7
        try clear c11
        try clear c13
        try clear c14
        try clear c15
        try clear c17
        try clear c18
        try clear c19
        try clear c22
        try clear c23
        try clear c26
        try clear c31
        try clear c32
        try clear c33
        try clear c36
        try clear c37
        try clear c40
        try clear c43
        try clear c44
        try clear c45
        try clear c48
        try clear c49
        try clear c52
        try clear c53
        try clear c54
        try clear c57
        try clear c61
        try clear c62
        try clear c63
        try clear c65
        try clear c66
        try clear c69
        try clear c73
        try clear c74
        try clear hcz20_0
        try clear hcz20_1
        try clear hcz24_0
        try clear hcz24_1
        try clear hcz27_0
        try clear hcz27_1
        try clear hcz29_0
        try clear hcz29_1
        try clear hcz34_0
        try clear hcz34_1
        try clear hcz38_0
        try clear hcz38_1
        try clear hcz41_0
        try clear hcz41_1
        try clear hcz46_0
        try clear hcz46_1
        try clear hcz50_0
        try clear hcz50_1
        try clear hcz55_0
        try clear hcz55_1
        try clear hcz64_0
        try clear hcz64_1
        try clear hcz67_0
        try clear hcz67_1
        try clear hcz70_0
        try clear hcz70_1
        try clear hcz71_0
        try clear hcz71_1
        try clear hfz20_0
        try clear hfz20_1
        try clear hfz24_0
        try clear hfz24_1
        try clear hfz27_0
        try clear hfz27_1
        try clear hfz29_0
        try clear hfz29_1
        try clear hfz34_0
        try clear hfz34_1
        try clear hfz38_0
        try clear hfz38_1
        try clear hfz41_0
        try clear hfz41_1
        try clear hfz46_0
        try clear hfz46_1
        try clear hfz50_0
        try clear hfz50_1
        try clear hfz55_0
        try clear hfz55_1
        try clear hfz64_0
        try clear hfz64_1
        try clear hfz67_0
        try clear hfz67_1
        try clear hfz70_0
        try clear hfz70_1
        try clear hfz71_0
        try clear hfz71_1
        try clear p2
        obtain ⟨x14_3, x60_3, rfl, HA, HK3, HO_12, HO_14, HO_58, BK263, BK264, BK265, BK266, HB⟩ := hrel
        cases gk with
        | zero => exact absurd HA.out (by simp [impl_AllPairsApart.l0])
        | succ k3 =>
         have H := HA.out
         clear HA
         simp only [impl_AllPairsApart.l0] at H
         by_cases c78 : x60_3 < (t271.length : Int)
         ·
          rw [if_pos c78] at H
          have c78b0 : decide (x60_3 < (t271.length : Int)) = true := decide_eq_true c78
          clear c78
          by_cases c79 : 0 ≤ x60_3
          ·
           rw [if_pos c79] at H
           have c79b0 : decide (0 ≤ x60_3) = true := decide_eq_true c79
           clear c79
           by_cases c80 : x60_3 < (t271.length : Int)
           ·
            rw [if_pos c80] at H
            have c80b0 : decide (x60_3 < (t271.length : Int)) = true := decide_eq_true c80
            clear c80
            have H' := Agq H
            clear H
            have p282 : 0 ≤ (x60_3 : Int) := of_decide_eq_true (by first | (with_reducible assumption) | assumption)
            have q282 : x60_3 < (t271.length : Int) := of_decide_eq_true (by first | (with_reducible assumption) | assumption)
            obtain ⟨ad282, e282, hx282_0, hx282_1, hx282_2⟩ := at_T37 (Kd.R_reads' HO_58.out).2.2 x60_3 p282 q282
            cases e282
            replace p282 := eq_true p282
            replace q282 := eq_true q282
            go_wp2_with (first | ((with_reducible refine gate_dst (N := 16) rfl ?_); refine box_event ?hg (N := 16) ?hd (cs := #[.int .i64 0, .int .i64 0, .string (⟨#[]⟩ : ByteArray)]) (t := 37) ?hr ?_; (case hd => rfl); (case hg => rfl); (case hr => first | (go_simp; done) | (go_simp; rfl)); intro g283 hg w81 hbox hb; have n0_ := Agq (Kd.R_below (Kd.R_elderB Zg12 g283 (Nat.le_of_eq hg.symm)) hb); have n1_ := Agq (Kd.S_below (Kd.S_elderB Zg13 g283 (Nat.le_of_eq hg.symm)) hb); have n2_ := Agq (Kd.R_below (Kd.R_elderB Zg14 g283 (Nat.le_of_eq hg.symm)) hb); have n3_ := Agq (blk_below (g := g263) (o := .cells #[.int .i64 a0_0, .int .i64 a0_1] 27 (0, 0)) Zg7 hb); have n4_ := Agq (blk_below (g := g264) (o := .cells #[.int .i64 a1_0, .int .i64 a1_1] 27 (0, 0)) Zg8 hb); have n5_ := Agq (blk_below (g := g265) (o := .cells #[.int .i64 a2_0, .int .i64 a2_1] 27 (0, 0)) Zg9 hb); have n6_ := Agq (blk_below (g := g266) (o := .cells #[.int .i64 a3_0, .int .i64 a3_1] 27 (0, 0)) Zg10 hb); have n7_ := Agq (below_step Zg3 hb); have n8_ := Agq (hbox); have n9_ := Agq ((by rw [hg]; exact (below_size Zg3) : w.heap.size ≤ g283)); have n10_ := Agq ((by rw [hg]; exact (below_size Zg3) : w.heap.size ≤ g283)); have n11_ := Agq ((by rw [hg]; exact Nat.ne_of_lt (blk_lt (g := g263) (o := .cells #[.int .i64 a0_0, .int .i64 a0_1] 27 (0, 0)) Zg7) : g263 ≠ g283)); have n12_ := Agq ((by rw [hg]; exact Nat.ne_of_gt (blk_lt (g := g263) (o := .cells #[.int .i64 a0_0, .int .i64 a0_1] 27 (0, 0)) Zg7) : g283 ≠ g263)); have n13_ := Agq ((by rw [hg]; exact Nat.ne_of_lt (blk_lt (g := g264) (o := .cells #[.int .i64 a1_0, .int .i64 a1_1] 27 (0, 0)) Zg8) : g264 ≠ g283)); have n14_ := Agq ((by rw [hg]; exact Nat.ne_of_gt (blk_lt (g := g264) (o := .cells #[.int .i64 a1_0, .int .i64 a1_1] 27 (0, 0)) Zg8) : g283 ≠ g264)); have n15_ := Agq ((by rw [hg]; exact Nat.ne_of_lt (blk_lt (g := g265) (o := .cells #[.int .i64 a2_0, .int .i64 a2_1] 27 (0, 0)) Zg9) : g265 ≠ g283)); have n16_ := Agq ((by rw [hg]; exact Nat.ne_of_gt (blk_lt (g := g265) (o := .cells #[.int .i64 a2_0, .int .i64 a2_1] 27 (0, 0)) Zg9) : g283 ≠ g265)); have n17_ := Agq ((by rw [hg]; exact Nat.ne_of_lt (blk_lt (g := g266) (o := .cells #[.int .i64 a3_0, .int .i64 a3_1] 27 (0, 0)) Zg10) : g266 ≠ g283)); have n18_ := Agq ((by rw [hg]; exact Nat.ne_of_gt (blk_lt (g := g266) (o := .cells #[.int .i64 a3_0, .int .i64 a3_1] 27 (0, 0)) Zg10) : g283 ≠ g266)); clear HO_12; clear HO_14; clear HO_58; clear BK263; clear BK264; clear BK265; clear BK266; clear HB; have HO_12 := n0_; have HO_14 := n1_; have HO_58 := n2_; have BK263 := n3_; have BK264 := n4_; have BK265 := n5_; have BK266 := n6_; have HB := n7_; have BK283 := n8_; have GW283 := n9_; have GE283 := n10_; have NB263_283 := n11_; have NB283_263 := n12_; have NB264_283 := n13_; have NB283_264 := n14_; have NB265_283 := n15_; have NB283_265 := n16_; have NB266_283 := n17_; have NB283_266 := n18_; clear n0_ n1_ n2_ n3_ n4_ n5_ n6_ n7_ n8_ n9_ n10_ n11_ n12_ n13_ n14_ n15_ n16_ n17_ n18_; clear hb hbox hg; have hnb82 := NB283_263.out; have hnc82 := NB263_283.out; have hnb83 := NB283_264.out; have hnc83 := NB264_283.out; have hnb84 := NB283_265.out; have hnc84 := NB265_283.out; have hnb85 := NB283_266.out; have hnc85 := NB266_283.out; have hcz86_0 : w81.cell? ⟨g283, 0, none⟩ = some (.int .i64 0) := (blk_cell BK283.out 0).trans rfl; have hcz86_1 : w81.cell? ⟨g283, 1, none⟩ = some (.int .i64 0) := (blk_cell BK283.out 1).trans rfl; have hcz86_2 : w81.cell? ⟨g283, 2, none⟩ = some (.string (⟨#[]⟩ : ByteArray)) := (blk_cell BK283.out 2).trans rfl; have hfz86_0 := blk_frozen BK283.out 0; have hfz86_1 := blk_frozen BK283.out 1; have hfz86_2 := blk_frozen BK283.out 2; obtain ⟨Ao87, co87, eo87⟩ := Kd.R_slice HO_12.out; subst eo87))
            go_loopg [14, 66] k3 (fun kq v14 v66 w' => ∃ (x14_4 : List (List (S37))) (x66_4 : Int), v66 = .int .i64 x66_4 ∧ Aside0 (impl_AllPairsApart.l1 kq t275 x14_4 t271 (t271.length : Int) x60_3 t275 (t275.length : Int) x66_4 ((rd_T37 t271 x60_3).f0.f0) ((rd_T37 t271 x60_3).f0.f1) ((rd_T37 t271 x60_3).f1) = some (r1, r2)) ∧ Aside0 (kq ≤ k3) ∧ Aside0 (Kd.R k37 37 w' w.heap.size (fun k_ => some k_ ≠ ((.slice (some ad282) t271.length co77) : Value).ownBlock ∧ k_ ≠ g283) (.slice Ao87 t275.length co87) t275) ∧ Aside0 (Kd.S (Kd.slice 37 k37) 33 w' w.heap.size (fun k_ => some k_ ≠ ((.slice Ao87 t275.length co87) : Value).ownBlock ∧ some k_ ≠ ((.slice (some ad282) t271.length co77) : Value).ownBlock ∧ some k_ ≠ ((.slice Ao87 t275.length co87) : Value).ownBlock ∧ k_ ≠ g283) v14 x14_4) ∧ Aside0 (Kd.R k37 37 w' w.heap.size (fun k_ => some k_ ≠ ((.slice Ao87 t275.length co87) : Value).ownBlock ∧ some k_ ≠ ((.slice Ao87 t275.length co87) : Value).ownBlock ∧ k_ ≠ g283) (.slice (some ad282) t271.length co77) t271) ∧ Aside0 (Kd.R k37 37 w' w.heap.size (fun k_ => some k_ ≠ ((.slice (some ad282) t271.length co77) : Value).ownBlock ∧ k_ ≠ g283) (.slice Ao87 t275.length co87) t275) ∧ Aside0 (w'.heap[g263]? = some (.cells #[.int .i64 a0_0, .int .i64 a0_1] 27 (0, 0))) ∧ Aside0 (w'.heap[g264]? = some (.cells #[.int .i64 a1_0, .int .i64 a1_1] 27 (0, 0))) ∧ Aside0 (w'.heap[g265]? = some (.cells #[.int .i64 a2_0, .int .i64 a2_1] 27 (0, 0))) ∧ Aside0 (w'.heap[g266]? = some (.cells #[.int .i64 a3_0, .int .i64 a3_1] 27 (0, 0))) ∧ Aside0 (w'.heap[g283]? = some (.cells #[.int .i64 ((rd_T37 t271 x60_3).f0.f0), .int .i64 ((rd_T37 t271 x60_3).f0.f1), .string ((rd_T37 t271 x60_3).f1)] 37 (0, 0))) ∧ Aside0 (Below w.heap.size w w'))
            case atStart => exact ⟨(x14_3), (0), Zg16, H', ⟨Nat.le_refl _⟩, ⟨by (with_reducible repeat (first | apply Kd.R_alloc | apply Kd.R_drewN | apply Kd.R_drew)); exact Kd.R_mono (Kd.R_far (p := ⟨g283, 2, none⟩) (Kd.R_far (p := ⟨g283, 1, none⟩) (Kd.R_far (p := ⟨g283, 0, none⟩) (Kd.R_mono HO_12.out (fun k_ hk => (⟨hk, hk.2⟩ : _ ∧ k_ ≠ g283))) (fun _ hk => hk.2) (.int .i64 ((rd_T37 t271 x60_3).f0.f0))) (fun _ hk => hk.2) (.int .i64 ((rd_T37 t271 x60_3).f0.f1))) (fun _ hk => hk.2) (.string ((rd_T37 t271 x60_3).f1))) (fun _ hk => ⟨hk.1.1, hk.1.2⟩)⟩, ⟨by (with_reducible repeat (first | apply Kd.S_alloc | apply Kd.S_drewN | apply Kd.S_drew)); exact Kd.S_mono (Kd.S_far (p := ⟨g283, 2, none⟩) (Kd.S_far (p := ⟨g283, 1, none⟩) (Kd.S_far (p := ⟨g283, 0, none⟩) (Kd.S_mono HO_14.out (fun k_ hk => (⟨hk, hk.2⟩ : _ ∧ k_ ≠ g283))) (fun _ hk => hk.2) (.int .i64 ((rd_T37 t271 x60_3).f0.f0))) (fun _ hk => hk.2) (.int .i64 ((rd_T37 t271 x60_3).f0.f1))) (fun _ hk => hk.2) (.string ((rd_T37 t271 x60_3).f1))) (fun _ hk => ⟨hk.1.1.1, ⟨hk.1.1.2, ⟨hk.1.1.1, hk.1.2⟩⟩⟩)⟩, ⟨by (with_reducible repeat (first | apply Kd.R_alloc | apply Kd.R_drewN | apply Kd.R_drew)); exact Kd.R_mono (Kd.R_far (p := ⟨g283, 2, none⟩) (Kd.R_far (p := ⟨g283, 1, none⟩) (Kd.R_far (p := ⟨g283, 0, none⟩) (Kd.R_mono HO_58.out (fun k_ hk => (⟨hk, hk.2⟩ : _ ∧ k_ ≠ g283))) (fun _ hk => hk.2) (.int .i64 ((rd_T37 t271 x60_3).f0.f0))) (fun _ hk => hk.2) (.int .i64 ((rd_T37 t271 x60_3).f0.f1))) (fun _ hk => hk.2) (.string ((rd_T37 t271 x60_3).f1))) (fun _ hk => ⟨hk.1.1, ⟨hk.1.1, hk.1.2⟩⟩)⟩, ⟨by (with_reducible repeat (first | apply Kd.R_alloc | apply Kd.R_drewN | apply Kd.R_drew)); exact Kd.R_mono (Kd.R_far (p := ⟨g283, 2, none⟩) (Kd.R_far (p := ⟨g283, 1, none⟩) (Kd.R_far (p := ⟨g283, 0, none⟩) (Kd.R_mono HO_12.out (fun k_ hk => (⟨hk, hk.2⟩ : _ ∧ k_ ≠ g283))) (fun _ hk => hk.2) (.int .i64 ((rd_T37 t271 x60_3).f0.f0))) (fun _ hk => hk.2) (.int .i64 ((rd_T37 t271 x60_3).f0.f1))) (fun _ hk => hk.2) (.string ((rd_T37 t271 x60_3).f1))) (fun _ hk => ⟨hk.1.1, hk.1.2⟩)⟩, ⟨by (with_reducible repeat (first | refine blk_drewN ?_ _ | refine blk_drew ?_ | refine blk_alloc ?_ _)); refine blk_far ?_ NB263_283.out _; (with_reducible repeat (first | refine blk_drewN ?_ _ | refine blk_drew ?_ | refine blk_alloc ?_ _)); refine blk_far ?_ NB263_283.out _; (with_reducible repeat (first | refine blk_drewN ?_ _ | refine blk_drew ?_ | refine blk_alloc ?_ _)); refine blk_far ?_ NB263_283.out _; (with_reducible repeat (first | refine blk_drewN ?_ _ | refine blk_drew ?_ | refine blk_alloc ?_ _)); exact BK263.out⟩, ⟨by (with_reducible repeat (first | refine blk_drewN ?_ _ | refine blk_drew ?_ | refine blk_alloc ?_ _)); refine blk_far ?_ NB264_283.out _; (with_reducible repeat (first | refine blk_drewN ?_ _ | refine blk_drew ?_ | refine blk_alloc ?_ _)); refine blk_far ?_ NB264_283.out _; (with_reducible repeat (first | refine blk_drewN ?_ _ | refine blk_drew ?_ | refine blk_alloc ?_ _)); refine blk_far ?_ NB264_283.out _; (with_reducible repeat (first | refine blk_drewN ?_ _ | refine blk_drew ?_ | refine blk_alloc ?_ _)); exact BK264.out⟩, ⟨by (with_reducible repeat (first | refine blk_drewN ?_ _ | refine blk_drew ?_ | refine blk_alloc ?_ _)); refine blk_far ?_ NB265_283.out _; (with_reducible repeat (first | refine blk_drewN ?_ _ | refine blk_drew ?_ | refine blk_alloc ?_ _)); refine blk_far ?_ NB265_283.out _; (with_reducible repeat (first | refine blk_drewN ?_ _ | refine blk_drew ?_ | refine blk_alloc ?_ _)); refine blk_far ?_ NB265_283.out _; (with_reducible repeat (first | refine blk_drewN ?_ _ | refine blk_drew ?_ | refine blk_alloc ?_ _)); exact BK265.out⟩, ⟨by (with_reducible repeat (first | refine blk_drewN ?_ _ | refine blk_drew ?_ | refine blk_alloc ?_ _)); refine blk_far ?_ NB266_283.out _; (with_reducible repeat (first | refine blk_drewN ?_ _ | refine blk_drew ?_ | refine blk_alloc ?_ _)); refine blk_far ?_ NB266_283.out _; (with_reducible repeat (first | refine blk_drewN ?_ _ | refine blk_drew ?_ | refine blk_alloc ?_ _)); refine blk_far ?_ NB266_283.out _; (with_reducible repeat (first | refine blk_drewN ?_ _ | refine blk_drew ?_ | refine blk_alloc ?_ _)); exact BK266.out⟩, ⟨by (with_reducible repeat (first | refine blk_drewN ?_ _ | refine blk_drew ?_ | refine blk_alloc ?_ _)); refine blk_put (cs := #[.int .i64 ((rd_T37 t271 x60_3).f0.f0), .int .i64 ((rd_T37 t271 x60_3).f0.f1), .string (⟨#[]⟩ : ByteArray)]) ?_ 2 _ rfl; (with_reducible repeat (first | refine blk_drewN ?_ _ | refine blk_drew ?_ | refine blk_alloc ?_ _)); refine blk_put (cs := #[.int .i64 ((rd_T37 t271 x60_3).f0.f0), .int .i64 0, .string (⟨#[]⟩ : ByteArray)]) ?_ 1 _ rfl; (with_reducible repeat (first | refine blk_drewN ?_ _ | refine blk_drew ?_ | refine blk_alloc ?_ _)); refine blk_put (cs := #[.int .i64 0, .int .i64 0, .string (⟨#[]⟩ : ByteArray)]) ?_ 0 _ rfl; (with_reducible repeat (first | refine blk_drewN ?_ _ | refine blk_drew ?_ | refine blk_alloc ?_ _)); exact BK283.out⟩, ⟨by repeat (first | (with_reducible first | exact HB.out | apply below_alloc | apply pw_below_drewN | apply below_drew1 | refine below_set ?_ GE263.out | refine below_set ?_ GE264.out | refine below_set ?_ GE265.out | refine below_set ?_ GE266.out | refine below_set ?_ GE283.out) | exact HB.out)⟩⟩
            case round =>
             clear H'
             try clear c1
             try clear c2
             try clear p2
             try clear q2
             try clear hx2
             try clear c3
             try clear c4
             try clear c5
             try clear c6
             try clear c7
             try clear c8
             try clear c11
             try clear c13
             try clear c14
             try clear c15
             try clear c17
             try clear c18
             try clear c19
             try clear c22
             try clear c23
             try clear c26
             try clear p28
             try clear q28
             try clear hx28
             try clear c31
             try clear c32
             try clear c33
             try clear c36
             try clear c37
             try clear c40
             try clear c43
             try clear c44
             try clear c45
             try clear c48
             try clear c49
             try clear c52
             try clear c53
             try clear c54
             try clear c57
             try clear c61
             try clear c62
             try clear c63
             try clear c65
             try clear c66
             try clear c69
             try clear c73
             try clear c74
             try clear c78
             try clear c78b0
             try clear c79
             try clear c79b0
             try clear c80
             try clear c80b0
             try clear c82
             try clear c83
             try clear c84
             try clear c85
             try clear hcz20_0
             try clear hcz20_1
             try clear hcz24_0
             try clear hcz24_1
             try clear hcz27_0
             try clear hcz27_1
             try clear hcz29_0
             try clear hcz29_1
             try clear hcz34_0
             try clear hcz34_1
             try clear hcz38_0
             try clear hcz38_1
             try clear hcz41_0
             try clear hcz41_1
             try clear hcz46_0
             try clear hcz46_1
             try clear hcz50_0
             try clear hcz50_1
             try clear hcz55_0
             try clear hcz55_1
             try clear hcz64_0
             try clear hcz64_1
             try clear hcz67_0
             try clear hcz67_1
             try clear hcz70_0
             try clear hcz70_1
             try clear hcz71_0
             try clear hcz71_1
             try clear hcz86_0
             try clear hcz86_1
             try clear hcz86_2
             try clear hfz20_0
             try clear hfz20_1
             try clear hfz24_0
             try clear hfz24_1
             try clear hfz27_0
             try clear hfz27_1
             try clear hfz29_0
             try clear hfz29_1
             try clear hfz34_0
             try clear hfz34_1
             try clear hfz38_0
             try clear hfz38_1
             try clear hfz41_0
             try clear hfz41_1
             try clear hfz46_0
             try clear hfz46_1
             try clear hfz50_0
             try clear hfz50_1
             try clear hfz55_0
             try clear hfz55_1
             try clear hfz64_0
             try clear hfz64_1
             try clear hfz67_0
             try clear hfz67_1
             try clear hfz70_0
             try clear hfz70_1
             try clear hfz71_0
             try clear hfz71_1
             try clear hfz86_0
             try clear hfz86_1
             try clear hfz86_2
             try clear hx282_0
             try clear hx282_1
             try clear hx282_2
             try clear p2
             try clear p282
             try clear q282
             obtain ⟨x14_4, x66_4, rfl, HA, HK4, HO_12, HO_14, HO_58, HO_64, BK263, BK264, BK265, BK266, BK283, HB⟩ := hrel
             cases gk with
             | zero => exact absurd HA.out (by simp [impl_AllPairsApart.l1])
             | succ k4 =>
              have H := HA.out
              clear HA
              simp only [impl_AllPairsApart.l1] at H
              by_cases c88 : x66_4 < (t275.length : Int)
              ·
               rw [if_pos c88] at H
               have c88b0 : decide (x66_4 < (t275.length : Int)) = true := decide_eq_true c88
               clear c88
               by_cases c89 : 0 ≤ x66_4
               ·
                rw [if_pos c89] at H
                have c89b0 : decide (0 ≤ x66_4) = true := decide_eq_true c89
                clear c89
                by_cases c90 : x66_4 < (t275.length : Int)
                ·
                 rw [if_pos c90] at H
                 have c90b0 : decide (x66_4 < (t275.length : Int)) = true := decide_eq_true c90
                 clear c90
                 replace H := Option.bind_eq_some_iff.mp H
                 obtain ⟨⟨t286, t287⟩, A910, H⟩ := H
                 replace H : (if t286 < 0 then (if x14_4.length < 5864062014805 then (impl_AllPairsApart.l1 k4 t275 (x14_4 ++ [(([(⟨(⟨((rd_T37 t271 x60_3).f0.f0), ((rd_T37 t271 x60_3).f0.f1)⟩ : S27), ((rd_T37 t271 x60_3).f1)⟩ : S37), (⟨(⟨(rd_T37 t275 x66_4).f0.f0, (rd_T37 t275 x66_4).f0.f1⟩ : S27), (rd_T37 t275 x66_4).f1⟩ : S37)] : List (S37)))]) t271 (t271.length : Int) x60_3 t275 (t275.length : Int) (wrap64 (x66_4 + 1)) ((rd_T37 t271 x60_3).f0.f0) ((rd_T37 t271 x60_3).f0.f1) ((rd_T37 t271 x60_3).f1)) else (none)) else (impl_AllPairsApart.l1 k4 t275 x14_4 t271 (t271.length : Int) x60_3 t275 (t275.length : Int) (wrap64 (x66_4 + 1)) ((rd_T37 t271 x60_3).f0.f0) ((rd_T37 t271 x60_3).f0.f1) ((rd_T37 t271 x60_3).f1))) = some (r1, r2) := H
                 have A91 := Agq A910
                 clear A910
                 by_cases c92 : t286 < 0
                 ·
                  rw [if_pos c92] at H
                  have c92b0 : decide (t286 < 0) = true := decide_eq_true c92
                  clear c92
                  obtain ⟨y288, hy288⟩ : ∃ y_ : List (S37), y_ = (([(⟨(⟨((rd_T37 t271 x60_3).f0.f0), ((rd_T37 t271 x60_3).f0.f1)⟩ : S27), ((rd_T37 t271 x60_3).f1)⟩ : S37), (⟨(⟨(rd_T37 t275 x66_4).f0.f0, (rd_T37 t275 x66_4).f0.f1⟩ : S27), (rd_T37 t275 x66_4).f1⟩ : S37)] : List (S37))) := ⟨_, rfl⟩
                  replace H : (if x14_4.length < 5864062014805 then (impl_AllPairsApart.l1 k4 t275 (x14_4 ++ [y288]) t271 (t271.length : Int) x60_3 t275 (t275.length : Int) (wrap64 (x66_4 + 1)) ((rd_T37 t271 x60_3).f0.f0) ((rd_T37 t271 x60_3).f0.f1) ((rd_T37 t271 x60_3).f1)) else (none)) = some (r1, r2) := by first | (rw [hy288]; with_reducible exact H) | (have H2_ := (Option.bind_some _ _).symm.trans H; rw [hy288]; with_reducible exact H2_) | (have H2_ := (Option.bind_some _ _).symm.trans H; with_reducible exact H2_) | with_reducible exact H | (rw [hy288]; exact H) | exact H
                  have Ny288 := Agq hy288
                  clear hy288
                  by_cases c93 : x14_4.length < 5864062014805
                  ·
                   rw [if_pos c93] at H
                   have LMc93 := Agq c93
                   clear c93
                   obtain ⟨y291, hy291⟩ : ∃ y_ : List (List (S37)), y_ = (x14_4 ++ [y288]) := ⟨_, rfl⟩
                   replace H : (impl_AllPairsApart.l1 k4 t275 y291 t271 (t271.length : Int) x60_3 t275 (t275.length : Int) (wrap64 (x66_4 + 1)) ((rd_T37 t271 x60_3).f0.f0) ((rd_T37 t271 x60_3).f0.f1) ((rd_T37 t271 x60_3).f1)) = some (r1, r2) := by first | (rw [hy291]; with_reducible exact H) | (have H2_ := (Option.bind_some _ _).symm.trans H; rw [hy291]; with_reducible exact H2_) | (have H2_ := (Option.bind_some _ _).symm.trans H; with_reducible exact H2_) | with_reducible exact H | (rw [hy291]; exact H) | exact H
                   have Ny291 := Agq hy291
                   clear hy291
                   have H' := Agq H
                   clear H
                   have p284 : 0 ≤ (x66_4 : Int) := of_decide_eq_true (by first | (with_reducible assumption) | assumption)
                   have q284 : x66_4 < (t275.length : Int) := of_decide_eq_true (by first | (with_reducible assumption) | assumption)
                   obtain ⟨ad284, e284, hx284_0, hx284_1, hx284_2⟩ := at_T37 (Kd.R_reads' HO_64.out).2.2 x66_4 p284 q284
                   cases e284
                   replace p284 := eq_true p284
                   replace q284 := eq_true q284
                   go_wp2_with (first | ((with_reducible refine gate_dst (N := 18) rfl ?_); refine box_event ?hg (N := 18) ?hd (cs := #[.int .i64 0, .int .i64 0, .string (⟨#[]⟩ : ByteArray)]) (t := 37) ?hr ?_; (case hd => rfl); (case hg => rfl); (case hr => first | (go_simp; done) | (go_simp; rfl)); intro g285 hg w94 hbox hb; have n0_ := Agq (Kd.R_below (Kd.R_elderB Zg12 g285 (Nat.le_of_eq hg.symm)) hb); have n1_ := Agq (Kd.S_below (Kd.S_elderB Zg13 g285 (Nat.le_of_eq hg.symm)) hb); have n2_ := Agq (Kd.R_below (Kd.R_elderB Zg14 g285 (Nat.le_of_eq hg.symm)) hb); have n3_ := Agq (Kd.R_below (Kd.R_elderB Zg15 g285 (Nat.le_of_eq hg.symm)) hb); have n4_ := Agq (blk_below (g := g263) (o := .cells #[.int .i64 a0_0, .int .i64 a0_1] 27 (0, 0)) Zg7 hb); have n5_ := Agq (blk_below (g := g264) (o := .cells #[.int .i64 a1_0, .int .i64 a1_1] 27 (0, 0)) Zg8 hb); have n6_ := Agq (blk_below (g := g265) (o := .cells #[.int .i64 a2_0, .int .i64 a2_1] 27 (0, 0)) Zg9 hb); have n7_ := Agq (blk_below (g := g266) (o := .cells #[.int .i64 a3_0, .int .i64 a3_1] 27 (0, 0)) Zg10 hb); have n8_ := Agq (blk_below (g := g283) (o := .cells #[.int .i64 ((rd_T37 t271 x60_3).f0.f0), .int .i64 ((rd_T37 t271 x60_3).f0.f1), .string ((rd_T37 t271 x60_3).f1)] 37 (0, 0)) Zg11 hb); have n9_ := Agq (below_step (by repeat (first | (with_reducible first | exact HB.out | apply below_alloc | apply pw_below_drewN | apply below_drew1 | refine below_set ?_ GE263.out | refine below_set ?_ GE264.out | refine below_set ?_ GE265.out | refine below_set ?_ GE266.out | refine below_set ?_ GE283.out) | exact HB.out)) hb); have n10_ := Agq (hbox); have n11_ := Agq ((Zg1 : w.heap.size ≤ g285)); have n12_ := Agq ((Zg1 : w.heap.size ≤ g285)); have n13_ := Agq ((by rw [hg]; exact Nat.ne_of_lt (blk_lt (g := g263) (o := .cells #[.int .i64 a0_0, .int .i64 a0_1] 27 (0, 0)) Zg7) : g263 ≠ g285)); have n14_ := Agq ((by rw [hg]; exact Nat.ne_of_gt (blk_lt (g := g263) (o := .cells #[.int .i64 a0_0, .int .i64 a0_1] 27 (0, 0)) Zg7) : g285 ≠ g263)); have n15_ := Agq ((by rw [hg]; exact Nat.ne_of_lt (blk_lt (g := g264) (o := .cells #[.int .i64 a1_0, .int .i64 a1_1] 27 (0, 0)) Zg8) : g264 ≠ g285)); have n16_ := Agq ((by rw [hg]; exact Nat.ne_of_gt (blk_lt (g := g264) (o := .cells #[.int .i64 a1_0, .int .i64 a1_1] 27 (0, 0)) Zg8) : g285 ≠ g264)); have n17_ := Agq ((by rw [hg]; exact Nat.ne_of_lt (blk_lt (g := g265) (o := .cells #[.int .i64 a2_0, .int .i64 a2_1] 27 (0, 0)) Zg9) : g265 ≠ g285)); have n18_ := Agq ((by rw [hg]; exact Nat.ne_of_gt (blk_lt (g := g265) (o := .cells #[.int .i64 a2_0, .int .i64 a2_1] 27 (0, 0)) Zg9) : g285 ≠ g265)); have n19_ := Agq ((by rw [hg]; exact Nat.ne_of_lt (blk_lt (g := g266) (o := .cells #[.int .i64 a3_0, .int .i64 a3_1] 27 (0, 0)) Zg10) : g266 ≠ g285)); have n20_ := Agq ((by rw [hg]; exact Nat.ne_of_gt (blk_lt (g := g266) (o := .cells #[.int .i64 a3_0, .int .i64 a3_1] 27 (0, 0)) Zg10) : g285 ≠ g266)); have n21_ := Agq ((by rw [hg]; exact Nat.ne_of_lt (blk_lt (g := g283) (o := .cells #[.int .i64 ((rd_T37 t271 x60_3).f0.f0), .int .i64 ((rd_T37 t271 x60_3).f0.f1), .string ((rd_T37 t271 x60_3).f1)] 37 (0, 0)) Zg11) : g283 ≠ g285)); have n22_ := Agq ((by rw [hg]; exact Nat.ne_of_gt (blk_lt (g := g283) (o := .cells #[.int .i64 ((rd_T37 t271 x60_3).f0.f0), .int .i64 ((rd_T37 t271 x60_3).f0.f1), .string ((rd_T37 t271 x60_3).f1)] 37 (0, 0)) Zg11) : g285 ≠ g283)); clear HO_12; clear HO_14; clear HO_58; clear HO_64; clear BK263; clear BK264; clear BK265; clear BK266; clear BK283; clear HB; have HO_12 := n0_; have HO_14 := n1_; have HO_58 := n2_; have HO_64 := n3_; have BK263 := n4_; have BK264 := n5_; have BK265 := n6_; have BK266 := n7_; have BK283 := n8_; have HB := n9_; have BK285 := n10_; have GW285 := n11_; have GE285 := n12_; have NB263_285 := n13_; have NB285_263 := n14_; have NB264_285 := n15_; have NB285_264 := n16_; have NB265_285 := n17_; have NB285_265 := n18_; have NB266_285 := n19_; have NB285_266 := n20_; have NB283_285 := n21_; have NB285_283 := n22_; clear n0_ n1_ n2_ n3_ n4_ n5_ n6_ n7_ n8_ n9_ n10_ n11_ n12_ n13_ n14_ n15_ n16_ n17_ n18_ n19_ n20_ n21_ n22_; clear hb hbox hg; have hnb95 := NB285_263.out; have hnc95 := NB263_285.out; have hnb96 := NB285_264.out; have hnc96 := NB264_285.out; have hnb97 := NB285_265.out; have hnc97 := NB265_285.out; have hnb98 := NB285_266.out; have hnc98 := NB266_285.out; have hnb99 := NB285_283.out; have hnc99 := NB283_285.out; have hcz100_0 : w94.cell? ⟨g285, 0, none⟩ = some (.int .i64 0) := (blk_cell BK285.out 0).trans rfl; have hcz100_1 : w94.cell? ⟨g285, 1, none⟩ = some (.int .i64 0) := (blk_cell BK285.out 1).trans rfl; have hcz100_2 : w94.cell? ⟨g285, 2, none⟩ = some (.string (⟨#[]⟩ : ByteArray)) := (blk_cell BK285.out 2).trans rfl; have hfz100_0 := blk_frozen BK285.out 0; have hfz100_1 := blk_frozen BK285.out 1; have hfz100_2 := blk_frozen BK285.out 2; have hnb101 := NB283_263.out; have hnc101 := NB263_283.out; have hnb102 := NB283_264.out; have hnc102 := NB264_283.out; have hnb103 := NB283_265.out; have hnc103 := NB265_283.out; have hnb104 := NB283_266.out; have hnc104 := NB266_283.out; have hcz105_0 : w94.cell? ⟨g283, 0, none⟩ = some (.int .i64 ((rd_T37 t271 x60_3).f0.f0)) := (blk_cell BK283.out 0).trans rfl; have hcz105_1 : w94.cell? ⟨g283, 1, none⟩ = some (.int .i64 ((rd_T37 t271 x60_3).f0.f1)) := (blk_cell BK283.out 1).trans rfl; have hcz105_2 : w94.cell? ⟨g283, 2, none⟩ = some (.string ((rd_T37 t271 x60_3).f1)) := (blk_cell BK283.out 2).trans rfl; have hfz105_0 := blk_frozen BK283.out 0; have hfz105_1 := blk_frozen BK283.out 1; have hfz105_2 := blk_frozen BK283.out 2) | ((with_reducible refine gate_callee (f := 15) rfl ?_); refine goesL_ (some 73) rfl rfl Try.func15 (by kernel_rfl) rfl #[.agg #[.int .i64 ((rd_T37 t271 x60_3).f0.f0), .int .i64 ((rd_T37 t271 x60_3).f0.f1), .string ((rd_T37 t271 x60_3).f1)], .agg #[.int .i64 ((rd_T37 t275 x66_4).f0.f0), .int .i64 ((rd_T37 t275 x66_4).f0.f1), .string ((rd_T37 t275 x66_4).f1)]] rfl Zg6 ?_; (with_reducible refine (impl_meeting.calls k4 ((rd_T37 t271 x60_3).f0.f0) ((rd_T37 t271 x60_3).f0.f1) ((rd_T37 t271 x60_3).f1) ((rd_T37 t275 x66_4).f0.f0) ((rd_T37 t275 x66_4).f0.f1) ((rd_T37 t275 x66_4).f1) t286 t287 _ A91.out).mono ?_); rintro e w106 ⟨rfl, hb⟩; refine ⟨_, rfl, ?_⟩; have n0_ := Agq (Kd.R_below (by (with_reducible repeat (first | apply Kd.R_alloc | apply Kd.R_drewN | apply Kd.R_drew)); exact (Kd.R_mono (Kd.R_far (p := ⟨g285, 2, none⟩) (Kd.R_far (p := ⟨g285, 1, none⟩) (Kd.R_far (p := ⟨g285, 0, none⟩) (Kd.R_mono HO_12.out (fun k_ hk => (⟨hk, hk.2⟩ : _ ∧ k_ ≠ g285))) (fun _ hk => hk.2) (.int .i64 ((rd_T37 t275 x66_4).f0.f0))) (fun _ hk => hk.2) (.int .i64 ((rd_T37 t275 x66_4).f0.f1))) (fun _ hk => hk.2) (.string ((rd_T37 t275 x66_4).f1))) (fun _ h_ => h_.1))) hb); have n1_ := Agq (Kd.S_below (by (with_reducible repeat (first | apply Kd.S_alloc | apply Kd.S_drewN | apply Kd.S_drew)); exact (Kd.S_mono (Kd.S_far (p := ⟨g285, 2, none⟩) (Kd.S_far (p := ⟨g285, 1, none⟩) (Kd.S_far (p := ⟨g285, 0, none⟩) (Kd.S_mono HO_14.out (fun k_ hk => (⟨hk, hk.2⟩ : _ ∧ k_ ≠ g285))) (fun _ hk => hk.2) (.int .i64 ((rd_T37 t275 x66_4).f0.f0))) (fun _ hk => hk.2) (.int .i64 ((rd_T37 t275 x66_4).f0.f1))) (fun _ hk => hk.2) (.string ((rd_T37 t275 x66_4).f1))) (fun _ h_ => h_.1))) hb); have n2_ := Agq (Kd.R_below (by (with_reducible repeat (first | apply Kd.R_alloc | apply Kd.R_drewN | apply Kd.R_drew)); exact (Kd.R_mono (Kd.R_far (p := ⟨g285, 2, none⟩) (Kd.R_far (p := ⟨g285, 1, none⟩) (Kd.R_far (p := ⟨g285, 0, none⟩) (Kd.R_mono HO_58.out (fun k_ hk => (⟨hk, hk.2⟩ : _ ∧ k_ ≠ g285))) (fun _ hk => hk.2) (.int .i64 ((rd_T37 t275 x66_4).f0.f0))) (fun _ hk => hk.2) (.int .i64 ((rd_T37 t275 x66_4).f0.f1))) (fun _ hk => hk.2) (.string ((rd_T37 t275 x66_4).f1))) (fun _ h_ => h_.1))) hb); have n3_ := Agq (Kd.R_below (by (with_reducible repeat (first | apply Kd.R_alloc | apply Kd.R_drewN | apply Kd.R_drew)); exact (Kd.R_mono (Kd.R_far (p := ⟨g285, 2, none⟩) (Kd.R_far (p := ⟨g285, 1, none⟩) (Kd.R_far (p := ⟨g285, 0, none⟩) (Kd.R_mono HO_64.out (fun k_ hk => (⟨hk, hk.2⟩ : _ ∧ k_ ≠ g285))) (fun _ hk => hk.2) (.int .i64 ((rd_T37 t275 x66_4).f0.f0))) (fun _ hk => hk.2) (.int .i64 ((rd_T37 t275 x66_4).f0.f1))) (fun _ hk => hk.2) (.string ((rd_T37 t275 x66_4).f1))) (fun _ h_ => h_.1))) hb); have n4_ := Agq (blk_below (g := g263) (o := .cells #[.int .i64 a0_0, .int .i64 a0_1] 27 (0, 0)) (by (with_reducible repeat (first | refine blk_drewN ?_ _ | refine blk_drew ?_ | refine blk_alloc ?_ _)); refine blk_far ?_ NB263_285.out _; (with_reducible repeat (first | refine blk_drewN ?_ _ | refine blk_drew ?_ | refine blk_alloc ?_ _)); refine blk_far ?_ NB263_285.out _; (with_reducible repeat (first | refine blk_drewN ?_ _ | refine blk_drew ?_ | refine blk_alloc ?_ _)); refine blk_far ?_ NB263_285.out _; (with_reducible repeat (first | refine blk_drewN ?_ _ | refine blk_drew ?_ | refine blk_alloc ?_ _)); exact BK263.out) hb); have n5_ := Agq (blk_below (g := g264) (o := .cells #[.int .i64 a1_0, .int .i64 a1_1] 27 (0, 0)) (by (with_reducible repeat (first | refine blk_drewN ?_ _ | refine blk_drew ?_ | refine blk_alloc ?_ _)); refine blk_far ?_ NB264_285.out _; (with_reducible repeat (first | refine blk_drewN ?_ _ | refine blk_drew ?_ | refine blk_alloc ?_ _)); refine blk_far ?_ NB264_285.out _; (with_reducible repeat (first | refine blk_drewN ?_ _ | refine blk_drew ?_ | refine blk_alloc ?_ _)); refine blk_far ?_ NB264_285.out _; (with_reducible repeat (first | refine blk_drewN ?_ _ | refine blk_drew ?_ | refine blk_alloc ?_ _)); exact BK264.out) hb); have n6_ := Agq (blk_below (g := g265) (o := .cells #[.int .i64 a2_0, .int .i64 a2_1] 27 (0, 0)) (by (with_reducible repeat (first | refine blk_drewN ?_ _ | refine blk_drew ?_ | refine blk_alloc ?_ _)); refine blk_far ?_ NB265_285.out _; (with_reducible repeat (first | refine blk_drewN ?_ _ | refine blk_drew ?_ | refine blk_alloc ?_ _)); refine blk_far ?_ NB265_285.out _; (with_reducible repeat (first | refine blk_drewN ?_ _ | refine blk_drew ?_ | refine blk_alloc ?_ _)); refine blk_far ?_ NB265_285.out _; (with_reducible repeat (first | refine blk_drewN ?_ _ | refine blk_drew ?_ | refine blk_alloc ?_ _)); exact BK265.out) hb); have n7_ := Agq (blk_below (g := g266) (o := .cells #[.int .i64 a3_0, .int .i64 a3_1] 27 (0, 0)) (by (with_reducible repeat (first | refine blk_drewN ?_ _ | refine blk_drew ?_ | refine blk_alloc ?_ _)); refine blk_far ?_ NB266_285.out _; (with_reducible repeat (first | refine blk_drewN ?_ _ | refine blk_drew ?_ | refine blk_alloc ?_ _)); refine blk_far ?_ NB266_285.out _; (with_reducible repeat (first | refine blk_drewN ?_ _ | refine blk_drew ?_ | refine blk_alloc ?_ _)); refine blk_far ?_ NB266_285.out _; (with_reducible repeat (first | refine blk_drewN ?_ _ | refine blk_drew ?_ | refine blk_alloc ?_ _)); exact BK266.out) hb); have n8_ := Agq (blk_below (g := g283) (o := .cells #[.int .i64 ((rd_T37 t271 x60_3).f0.f0), .int .i64 ((rd_T37 t271 x60_3).f0.f1), .string ((rd_T37 t271 x60_3).f1)] 37 (0, 0)) (by (with_reducible repeat (first | refine blk_drewN ?_ _ | refine blk_drew ?_ | refine blk_alloc ?_ _)); refine blk_far ?_ NB283_285.out _; (with_reducible repeat (first | refine blk_drewN ?_ _ | refine blk_drew ?_ | refine blk_alloc ?_ _)); refine blk_far ?_ NB283_285.out _; (with_reducible repeat (first | refine blk_drewN ?_ _ | refine blk_drew ?_ | refine blk_alloc ?_ _)); refine blk_far ?_ NB283_285.out _; (with_reducible repeat (first | refine blk_drewN ?_ _ | refine blk_drew ?_ | refine blk_alloc ?_ _)); exact BK283.out) hb); have n9_ := Agq (blk_below (g := g285) (o := .cells #[.int .i64 ((rd_T37 t275 x66_4).f0.f0), .int .i64 ((rd_T37 t275 x66_4).f0.f1), .string ((rd_T37 t275 x66_4).f1)] 37 (0, 0)) (by (with_reducible repeat (first | refine blk_drewN ?_ _ | refine blk_drew ?_ | refine blk_alloc ?_ _)); refine blk_put (cs := #[.int .i64 ((rd_T37 t275 x66_4).f0.f0), .int .i64 ((rd_T37 t275 x66_4).f0.f1), .string (⟨#[]⟩ : ByteArray)]) ?_ 2 _ rfl; (with_reducible repeat (first | refine blk_drewN ?_ _ | refine blk_drew ?_ | refine blk_alloc ?_ _)); refine blk_put (cs := #[.int .i64 ((rd_T37 t275 x66_4).f0.f0), .int .i64 0, .string (⟨#[]⟩ : ByteArray)]) ?_ 1 _ rfl; (with_reducible repeat (first | refine blk_drewN ?_ _ | refine blk_drew ?_ | refine blk_alloc ?_ _)); refine blk_put (cs := #[.int .i64 0, .int .i64 0, .string (⟨#[]⟩ : ByteArray)]) ?_ 0 _ rfl; (with_reducible repeat (first | refine blk_drewN ?_ _ | refine blk_drew ?_ | refine blk_alloc ?_ _)); exact BK285.out) hb); have n10_ := Agq (below_step Zg2 hb); clear HO_12; clear HO_14; clear HO_58; clear HO_64; clear BK263; clear BK264; clear BK265; clear BK266; clear BK283; clear BK285; clear HB; have HO_12 := n0_; have HO_14 := n1_; have HO_58 := n2_; have HO_64 := n3_; have BK263 := n4_; have BK264 := n5_; have BK265 := n6_; have BK266 := n7_; have BK283 := n8_; have BK285 := n9_; have HB := n10_; clear n0_ n1_ n2_ n3_ n4_ n5_ n6_ n7_ n8_ n9_ n10_; (try clear hb); have hcz107_0 : w106.cell? ⟨g283, 0, none⟩ = some (.int .i64 ((rd_T37 t271 x60_3).f0.f0)) := (blk_cell BK283.out 0).trans rfl; have hcz107_1 : w106.cell? ⟨g283, 1, none⟩ = some (.int .i64 ((rd_T37 t271 x60_3).f0.f1)) := (blk_cell BK283.out 1).trans rfl; have hcz107_2 : w106.cell? ⟨g283, 2, none⟩ = some (.string ((rd_T37 t271 x60_3).f1)) := (blk_cell BK283.out 2).trans rfl; have hfz107_0 := blk_frozen BK283.out 0; have hfz107_1 := blk_frozen BK283.out 1; have hfz107_2 := blk_frozen BK283.out 2; have hcz108_0 : w106.cell? ⟨g285, 0, none⟩ = some (.int .i64 ((rd_T37 t275 x66_4).f0.f0)) := (blk_cell BK285.out 0).trans rfl; have hcz108_1 : w106.cell? ⟨g285, 1, none⟩ = some (.int .i64 ((rd_T37 t275 x66_4).f0.f1)) := (blk_cell BK285.out 1).trans rfl; have hcz108_2 : w106.cell? ⟨g285, 2, none⟩ = some (.string ((rd_T37 t275 x66_4).f1)) := (blk_cell BK285.out 2).trans rfl; have hfz108_0 := blk_frozen BK285.out 0; have hfz108_1 := blk_frozen BK285.out 1; have hfz108_2 := blk_frozen BK285.out 2) | ((with_reducible refine gate_dst (N := 81) rfl ?_); refine Kd.R_lit k37 _ 37 ?hg (N := 81) ?hd (xs := ([(⟨(⟨((rd_T37 t271 x60_3).f0.f0), ((rd_T37 t271 x60_3).f0.f1)⟩ : S27), ((rd_T37 t271 x60_3).f1)⟩ : S37), (⟨(⟨(rd_T37 t275 x66_4).f0.f0, (rd_T37 t275 x66_4).f0.f1⟩ : S27), (rd_T37 t275 x66_4).f1⟩ : S37)] : List (S37))) (inner := [.int .i64 ((rd_T37 t271 x60_3).f0.f0), .int .i64 ((rd_T37 t271 x60_3).f0.f1), .string ((rd_T37 t271 x60_3).f1), .int .i64 ((rd_T37 t275 x66_4).f0.f0), .int .i64 ((rd_T37 t275 x66_4).f0.f1), .string ((rd_T37 t275 x66_4).f1)]) (ok := fun _ => True) (okp := fun _ => True) ?hr ?hp (fun _ hk => hk) trivial (Below.refl _ _) (Nat.le_refl _) (by simp) ?_; (case hd => rfl); (case hg => rfl); (case hr => first | (go_simp; done) | (go_simp; rfl)); (case hp => exact (Reps.c3 (show Kd.M k37 _ _ _ (⟨(⟨((rd_T37 t271 x60_3).f0.f0), ((rd_T37 t271 x60_3).f0.f1)⟩ : S27), ((rd_T37 t271 x60_3).f1)⟩ : S37) [.int .i64 ((rd_T37 t271 x60_3).f0.f0), .int .i64 ((rd_T37 t271 x60_3).f0.f1), .string ((rd_T37 t271 x60_3).f1)] from (k37_mkM _ _ _ (⟨(⟨((rd_T37 t271 x60_3).f0.f0), ((rd_T37 t271 x60_3).f0.f1)⟩ : S27), ((rd_T37 t271 x60_3).f1)⟩ : S37) )) (Reps.c3 (show Kd.M k37 _ _ _ (⟨(⟨(rd_T37 t275 x66_4).f0.f0, (rd_T37 t275 x66_4).f0.f1⟩ : S27), (rd_T37 t275 x66_4).f1⟩ : S37) [.int .i64 ((rd_T37 t275 x66_4).f0.f0), .int .i64 ((rd_T37 t275 x66_4).f0.f1), .string ((rd_T37 t275 x66_4).f1)] from (k37_mkM _ _ _ (⟨(⟨(rd_T37 t275 x66_4).f0.f0, (rd_T37 t275 x66_4).f0.f1⟩ : S27), (rd_T37 t275 x66_4).f1⟩ : S37) )) (Reps.none _ _)))); intro v289 w109 ho110 hb hg_ hnew_; clear hg_ hnew_; (first | rw [← Ny288.out] at ho110 | (simp only [Int.reduceToNat] at ho110; rw [← Ny288.out] at ho110)); have n0_ := Agq (Kd.R_elder' Zg12 (Kd.R_base ho110) hb); have n1_ := Agq (Kd.S_elder' Zg13 (Kd.R_base ho110) hb); have n2_ := Agq (Kd.R_elder' Zg14 (Kd.R_base ho110) hb); have n3_ := Agq (Kd.R_elder' Zg15 (Kd.R_base ho110) hb); have n4_ := Agq (Kd.R_lower (Kd.R_newB (Kd.R_newB (Kd.R_new' (Kd.R_new' (Kd.R_new' ho110 (Kd.R_lt Zg12)) (Kd.R_lt Zg14)) (Kd.R_lt Zg15)) (g := g283) (o := .cells #[.int .i64 ((rd_T37 t271 x60_3).f0.f0), .int .i64 ((rd_T37 t271 x60_3).f0.f1), .string ((rd_T37 t271 x60_3).f1)] 37 (0, 0)) Zg11) (g := g285) (o := .cells #[.int .i64 ((rd_T37 t275 x66_4).f0.f0), .int .i64 ((rd_T37 t275 x66_4).f0.f1), .string ((rd_T37 t275 x66_4).f1)] 37 (0, 0)) (by (with_reducible repeat (first | refine blk_drewN ?_ _ | refine blk_drew ?_ | refine blk_alloc ?_ _)); exact BK285.out)) (below_size Zg2)); have n5_ := Agq (blk_below (g := g263) (o := .cells #[.int .i64 a0_0, .int .i64 a0_1] 27 (0, 0)) Zg7 hb); have n6_ := Agq (blk_below (g := g264) (o := .cells #[.int .i64 a1_0, .int .i64 a1_1] 27 (0, 0)) Zg8 hb); have n7_ := Agq (blk_below (g := g265) (o := .cells #[.int .i64 a2_0, .int .i64 a2_1] 27 (0, 0)) Zg9 hb); have n8_ := Agq (blk_below (g := g266) (o := .cells #[.int .i64 a3_0, .int .i64 a3_1] 27 (0, 0)) Zg10 hb); have n9_ := Agq (blk_below (g := g283) (o := .cells #[.int .i64 ((rd_T37 t271 x60_3).f0.f0), .int .i64 ((rd_T37 t271 x60_3).f0.f1), .string ((rd_T37 t271 x60_3).f1)] 37 (0, 0)) Zg11 hb); have n10_ := Agq (blk_below (g := g285) (o := .cells #[.int .i64 ((rd_T37 t275 x66_4).f0.f0), .int .i64 ((rd_T37 t275 x66_4).f0.f1), .string ((rd_T37 t275 x66_4).f1)] 37 (0, 0)) (by (with_reducible repeat (first | refine blk_drewN ?_ _ | refine blk_drew ?_ | refine blk_alloc ?_ _)); exact BK285.out) hb); have n11_ := Agq (below_step Zg2 hb); clear HO_12; clear HO_14; clear HO_58; clear HO_64; clear BK263; clear BK264; clear BK265; clear BK266; clear BK283; clear BK285; clear HB; have HO_12 := n0_; have HO_14 := n1_; have HO_58 := n2_; have HO_64 := n3_; have HO290 := n4_; have BK263 := n5_; have BK264 := n6_; have BK265 := n7_; have BK266 := n8_; have BK283 := n9_; have BK285 := n10_; have HB := n11_; clear n0_ n1_ n2_ n3_ n4_ n5_ n6_ n7_ n8_ n9_ n10_ n11_; clear hb ho110; obtain ⟨Ao112, co112, eo112⟩ := Kd.R_slice HO290.out; subst eo112) | ((with_reducible refine gate_builtin (b := .append) (xs := #[.tmp 78, .tmp 82]) rfl ?_); at_builtin; refine Kd.S_append (Kd.slice 37 k37) (w0 := w) w.heap.size rfl (.tmp 78) (.tmp 82) 24 33 (.slice none 0 0) 24 rfl Try.underlying24 info33 rfl (by decide) (by omega) u14 x14_4 y288 [.slice Ao112 y288.length co112] (fun k_ => some k_ ≠ (.slice (some ad284) t275.length co87 : Value).ownBlock ∧ some k_ ≠ (.slice (some ad282) t271.length co77 : Value).ownBlock ∧ some k_ ≠ (.slice (some ad284) t275.length co87 : Value).ownBlock ∧ k_ ≠ g283 ∧ k_ ≠ g285) (fun k_ => some k_ = (.slice Ao112 y288.length co112 : Value).ownBlock) rfl rfl ?aP (fun k_ hk_ => ((Kd.R_mono (ok' := fun k_ => ((fun k_ => some k_ ≠ (.slice (some ad284) t275.length co87 : Value).ownBlock ∧ some k_ ≠ (.slice (some ad282) t271.length co77 : Value).ownBlock ∧ some k_ ≠ (.slice (some ad284) t275.length co87 : Value).ownBlock ∧ k_ ≠ g283 ∧ k_ ≠ g285)) k_ ∧ some k_ ≠ (u14 : Value).ownBlock) (Kd.R_apart' (HO290.out) (Kd.S_typed HO_14.out) (by decide)) (fun k_ hk => ⟨⟨hk.1.1.1.1.1.2, ⟨hk.1.1.1.1.2, ⟨hk.1.1.1.2, ⟨hk.1.1.2, hk.1.2⟩⟩⟩⟩, hk.2⟩))).1 k_ hk_.symm) ?aF ?aO ?aB ?aS ?aL ?_; (case aP => exact Kd.M_row (Kd.R_mono (Kd.R_tight rfl (Kd.R_mono (ok' := fun k_ => ((fun k_ => some k_ ≠ (.slice (some ad284) t275.length co87 : Value).ownBlock ∧ some k_ ≠ (.slice (some ad282) t271.length co77 : Value).ownBlock ∧ some k_ ≠ (.slice (some ad284) t275.length co87 : Value).ownBlock ∧ k_ ≠ g283 ∧ k_ ≠ g285)) k_ ∧ some k_ ≠ (u14 : Value).ownBlock) (Kd.R_apart' (HO290.out) (Kd.S_typed HO_14.out) (by decide)) (fun k_ hk => ⟨⟨hk.1.1.1.1.1.2, ⟨hk.1.1.1.1.2, ⟨hk.1.1.1.2, ⟨hk.1.1.2, hk.1.2⟩⟩⟩⟩, hk.2⟩))) (fun _ h_ => h_))); (case aB => exact Zg2); (case aF => exact (fun k_ hk => ⟨Kd.fresh' (Kd.R_lt Zg12) k_ hk, Kd.fresh' (Kd.R_lt Zg14) k_ hk, Kd.fresh' (Kd.R_lt Zg15) k_ hk, Kd.freshB (g := g283) (o := .cells #[.int .i64 ((rd_T37 t271 x60_3).f0.f0), .int .i64 ((rd_T37 t271 x60_3).f0.f1), .string ((rd_T37 t271 x60_3).f1)] 37 (0, 0)) Zg11 k_ hk, Kd.freshB (g := g285) (o := .cells #[.int .i64 ((rd_T37 t275 x66_4).f0.f0), .int .i64 ((rd_T37 t275 x66_4).f0.f1), .string ((rd_T37 t275 x66_4).f1)] 37 (0, 0)) (by (with_reducible repeat (first | refine blk_drewN ?_ _ | refine blk_drew ?_ | refine blk_alloc ?_ _)); exact BK285.out) k_ hk⟩)); (case aO => exact (by (with_reducible repeat (first | apply Kd.S_alloc | apply Kd.S_drewN | apply Kd.S_drew)); exact Kd.S_mono HO_14.out (fun k_ hk => ⟨⟨hk.1.1.1, ⟨hk.1.1.2.1, ⟨hk.1.1.2.2.1, ⟨hk.1.1.2.2.2, hk.1.2⟩⟩⟩⟩, fun e_ => hk.2 e_⟩))); (case aS => exact (below_size Zg2)); (case aL => have := LMc93.out; omega); intro v292 w111 ho hb hg hat; rw [← Ny291.out] at ho; have n0_ := Agq (Kd.R_over' Zg12 (Kd.S_typed Zg13) (by decide) hg); have n1_ := Agq (Kd.R_over' Zg14 (Kd.S_typed Zg13) (by decide) hg); have n2_ := Agq (Kd.R_over' Zg15 (Kd.S_typed Zg13) (by decide) hg); have n3_ := Agq (blk_grown (g := g263) (o := .cells #[.int .i64 a0_0, .int .i64 a0_1] 27 (0, 0)) Zg7 hg (Kd.S_ne HO_14.out BK263.out (by decide))); have n4_ := Agq (blk_grown (g := g264) (o := .cells #[.int .i64 a1_0, .int .i64 a1_1] 27 (0, 0)) Zg8 hg (Kd.S_ne HO_14.out BK264.out (by decide))); have n5_ := Agq (blk_grown (g := g265) (o := .cells #[.int .i64 a2_0, .int .i64 a2_1] 27 (0, 0)) Zg9 hg (Kd.S_ne HO_14.out BK265.out (by decide))); have n6_ := Agq (blk_grown (g := g266) (o := .cells #[.int .i64 a3_0, .int .i64 a3_1] 27 (0, 0)) Zg10 hg (Kd.S_ne HO_14.out BK266.out (by decide))); have n7_ := Agq (blk_grown (g := g283) (o := .cells #[.int .i64 ((rd_T37 t271 x60_3).f0.f0), .int .i64 ((rd_T37 t271 x60_3).f0.f1), .string ((rd_T37 t271 x60_3).f1)] 37 (0, 0)) Zg11 hg (Kd.S_ne HO_14.out BK283.out (by decide))); have n8_ := Agq (blk_grown (g := g285) (o := .cells #[.int .i64 ((rd_T37 t275 x66_4).f0.f0), .int .i64 ((rd_T37 t275 x66_4).f0.f1), .string ((rd_T37 t275 x66_4).f1)] 37 (0, 0)) (by (with_reducible repeat (first | refine blk_drewN ?_ _ | refine blk_drew ?_ | refine blk_alloc ?_ _)); exact BK285.out) hg (Kd.S_ne HO_14.out BK285.out (by decide))); have n9_ := Agq (hb); have n10_ := Agq (ho); clear HO_12; clear HO_58; clear HO_64; clear BK263; clear BK264; clear BK265; clear BK266; clear BK283; clear BK285; clear HB; clear HO_14; clear HO290; have HO_12 := n0_; have HO_58 := n1_; have HO_64 := n2_; have BK263 := n3_; have BK264 := n4_; have BK265 := n5_; have BK266 := n6_; have BK283 := n7_; have BK285 := n8_; have HB := n9_; have HO293 := n10_; clear n0_ n1_ n2_ n3_ n4_ n5_ n6_ n7_ n8_ n9_ n10_; clear ho hb hg hat))
                   go_roundg k4
                   case measure => have := HJ4.out; have := HJ59.out; have := HK3.out; have := HK4.out; omega
                   case rel => exact ⟨(y291), (wrap64 (x66_4 + 1)), Zg16, H', ⟨by have := HJ4.out; have := HJ59.out; have := HK3.out; have := HK4.out; omega⟩, ⟨by (with_reducible repeat (first | apply Kd.R_alloc | apply Kd.R_drewN | apply Kd.R_drew)); exact Kd.R_mono HO_12.out (fun _ hk => ⟨hk.1.1.1, hk.1.1.2⟩)⟩, ⟨by (with_reducible repeat (first | apply Kd.S_alloc | apply Kd.S_drewN | apply Kd.S_drew)); exact Kd.S_mono HO293.out (fun _ hk => ⟨hk.1, ⟨hk.2.1, ⟨hk.2.2.1, hk.2.2.2.1⟩⟩⟩)⟩, ⟨by (with_reducible repeat (first | apply Kd.R_alloc | apply Kd.R_drewN | apply Kd.R_drew)); exact Kd.R_mono HO_58.out (fun _ hk => ⟨hk.1.1.1, ⟨hk.1.1.2.1, hk.1.1.2.2⟩⟩)⟩, ⟨by (with_reducible repeat (first | apply Kd.R_alloc | apply Kd.R_drewN | apply Kd.R_drew)); exact Kd.R_mono HO_64.out (fun _ hk => ⟨hk.1.1.1, hk.1.1.2⟩)⟩, ⟨by (with_reducible repeat (first | refine blk_drewN ?_ _ | refine blk_drew ?_ | refine blk_alloc ?_ _)); exact BK263.out⟩, ⟨by (with_reducible repeat (first | refine blk_drewN ?_ _ | refine blk_drew ?_ | refine blk_alloc ?_ _)); exact BK264.out⟩, ⟨by (with_reducible repeat (first | refine blk_drewN ?_ _ | refine blk_drew ?_ | refine blk_alloc ?_ _)); exact BK265.out⟩, ⟨by (with_reducible repeat (first | refine blk_drewN ?_ _ | refine blk_drew ?_ | refine blk_alloc ?_ _)); exact BK266.out⟩, ⟨by (with_reducible repeat (first | refine blk_drewN ?_ _ | refine blk_drew ?_ | refine blk_alloc ?_ _)); exact BK283.out⟩, ⟨by repeat (first | (with_reducible first | exact HB.out | apply below_alloc | apply pw_below_drewN | apply below_drew1 | refine below_set ?_ GE263.out | refine below_set ?_ GE264.out | refine below_set ?_ GE265.out | refine below_set ?_ GE266.out | refine below_set ?_ GE283.out | refine below_set ?_ GE285.out) | exact HB.out)⟩⟩
                  ·
                   rw [if_neg c93] at H
                   exact absurd H (by simp)
                 ·
                  rw [if_neg c92] at H
                  have c92b0 : decide (t286 < 0) = false := decide_eq_false c92
                  clear c92
                  have H' := Agq H
                  clear H
                  have p284 : 0 ≤ (x66_4 : Int) := of_decide_eq_true (by first | (with_reducible assumption) | assumption)
                  have q284 : x66_4 < (t275.length : Int) := of_decide_eq_true (by first | (with_reducible assumption) | assumption)
                  obtain ⟨ad284, e284, hx284_0, hx284_1, hx284_2⟩ := at_T37 (Kd.R_reads' HO_64.out).2.2 x66_4 p284 q284
                  cases e284
                  replace p284 := eq_true p284
                  replace q284 := eq_true q284
                  go_wp2_with (first | ((with_reducible refine gate_dst (N := 18) rfl ?_); refine box_event ?hg (N := 18) ?hd (cs := #[.int .i64 0, .int .i64 0, .string (⟨#[]⟩ : ByteArray)]) (t := 37) ?hr ?_; (case hd => rfl); (case hg => rfl); (case hr => first | (go_simp; done) | (go_simp; rfl)); intro g285 hg w113 hbox hb; have n0_ := Agq (Kd.R_below (Kd.R_elderB Zg12 g285 (Nat.le_of_eq hg.symm)) hb); have n1_ := Agq (Kd.S_below (Kd.S_elderB Zg13 g285 (Nat.le_of_eq hg.symm)) hb); have n2_ := Agq (Kd.R_below (Kd.R_elderB Zg14 g285 (Nat.le_of_eq hg.symm)) hb); have n3_ := Agq (Kd.R_below (Kd.R_elderB Zg15 g285 (Nat.le_of_eq hg.symm)) hb); have n4_ := Agq (blk_below (g := g263) (o := .cells #[.int .i64 a0_0, .int .i64 a0_1] 27 (0, 0)) Zg7 hb); have n5_ := Agq (blk_below (g := g264) (o := .cells #[.int .i64 a1_0, .int .i64 a1_1] 27 (0, 0)) Zg8 hb); have n6_ := Agq (blk_below (g := g265) (o := .cells #[.int .i64 a2_0, .int .i64 a2_1] 27 (0, 0)) Zg9 hb); have n7_ := Agq (blk_below (g := g266) (o := .cells #[.int .i64 a3_0, .int .i64 a3_1] 27 (0, 0)) Zg10 hb); have n8_ := Agq (blk_below (g := g283) (o := .cells #[.int .i64 ((rd_T37 t271 x60_3).f0.f0), .int .i64 ((rd_T37 t271 x60_3).f0.f1), .string ((rd_T37 t271 x60_3).f1)] 37 (0, 0)) Zg11 hb); have n9_ := Agq (below_step (by repeat (first | (with_reducible first | exact HB.out | apply below_alloc | apply pw_below_drewN | apply below_drew1 | refine below_set ?_ GE263.out | refine below_set ?_ GE264.out | refine below_set ?_ GE265.out | refine below_set ?_ GE266.out | refine below_set ?_ GE283.out) | exact HB.out)) hb); have n10_ := Agq (hbox); have n11_ := Agq ((Zg1 : w.heap.size ≤ g285)); have n12_ := Agq ((Zg1 : w.heap.size ≤ g285)); have n13_ := Agq ((by rw [hg]; exact Nat.ne_of_lt (blk_lt (g := g263) (o := .cells #[.int .i64 a0_0, .int .i64 a0_1] 27 (0, 0)) Zg7) : g263 ≠ g285)); have n14_ := Agq ((by rw [hg]; exact Nat.ne_of_gt (blk_lt (g := g263) (o := .cells #[.int .i64 a0_0, .int .i64 a0_1] 27 (0, 0)) Zg7) : g285 ≠ g263)); have n15_ := Agq ((by rw [hg]; exact Nat.ne_of_lt (blk_lt (g := g264) (o := .cells #[.int .i64 a1_0, .int .i64 a1_1] 27 (0, 0)) Zg8) : g264 ≠ g285)); have n16_ := Agq ((by rw [hg]; exact Nat.ne_of_gt (blk_lt (g := g264) (o := .cells #[.int .i64 a1_0, .int .i64 a1_1] 27 (0, 0)) Zg8) : g285 ≠ g264)); have n17_ := Agq ((by rw [hg]; exact Nat.ne_of_lt (blk_lt (g := g265) (o := .cells #[.int .i64 a2_0, .int .i64 a2_1] 27 (0, 0)) Zg9) : g265 ≠ g285)); have n18_ := Agq ((by rw [hg]; exact Nat.ne_of_gt (blk_lt (g := g265) (o := .cells #[.int .i64 a2_0, .int .i64 a2_1] 27 (0, 0)) Zg9) : g285 ≠ g265)); have n19_ := Agq ((by rw [hg]; exact Nat.ne_of_lt (blk_lt (g := g266) (o := .cells #[.int .i64 a3_0, .int .i64 a3_1] 27 (0, 0)) Zg10) : g266 ≠ g285)); have n20_ := Agq ((by rw [hg]; exact Nat.ne_of_gt (blk_lt (g := g266) (o := .cells #[.int .i64 a3_0, .int .i64 a3_1] 27 (0, 0)) Zg10) : g285 ≠ g266)); have n21_ := Agq ((by rw [hg]; exact Nat.ne_of_lt (blk_lt (g := g283) (o := .cells #[.int .i64 ((rd_T37 t271 x60_3).f0.f0), .int .i64 ((rd_T37 t271 x60_3).f0.f1), .string ((rd_T37 t271 x60_3).f1)] 37 (0, 0)) Zg11) : g283 ≠ g285)); have n22_ := Agq ((by rw [hg]; exact Nat.ne_of_gt (blk_lt (g := g283) (o := .cells #[.int .i64 ((rd_T37 t271 x60_3).f0.f0), .int .i64 ((rd_T37 t271 x60_3).f0.f1), .string ((rd_T37 t271 x60_3).f1)] 37 (0, 0)) Zg11) : g285 ≠ g283)); clear HO_12; clear HO_14; clear HO_58; clear HO_64; clear BK263; clear BK264; clear BK265; clear BK266; clear BK283; clear HB; have HO_12 := n0_; have HO_14 := n1_; have HO_58 := n2_; have HO_64 := n3_; have BK263 := n4_; have BK264 := n5_; have BK265 := n6_; have BK266 := n7_; have BK283 := n8_; have HB := n9_; have BK285 := n10_; have GW285 := n11_; have GE285 := n12_; have NB263_285 := n13_; have NB285_263 := n14_; have NB264_285 := n15_; have NB285_264 := n16_; have NB265_285 := n17_; have NB285_265 := n18_; have NB266_285 := n19_; have NB285_266 := n20_; have NB283_285 := n21_; have NB285_283 := n22_; clear n0_ n1_ n2_ n3_ n4_ n5_ n6_ n7_ n8_ n9_ n10_ n11_ n12_ n13_ n14_ n15_ n16_ n17_ n18_ n19_ n20_ n21_ n22_; clear hb hbox hg; have hnb114 := NB285_263.out; have hnc114 := NB263_285.out; have hnb115 := NB285_264.out; have hnc115 := NB264_285.out; have hnb116 := NB285_265.out; have hnc116 := NB265_285.out; have hnb117 := NB285_266.out; have hnc117 := NB266_285.out; have hnb118 := NB285_283.out; have hnc118 := NB283_285.out; have hcz119_0 : w113.cell? ⟨g285, 0, none⟩ = some (.int .i64 0) := (blk_cell BK285.out 0).trans rfl; have hcz119_1 : w113.cell? ⟨g285, 1, none⟩ = some (.int .i64 0) := (blk_cell BK285.out 1).trans rfl; have hcz119_2 : w113.cell? ⟨g285, 2, none⟩ = some (.string (⟨#[]⟩ : ByteArray)) := (blk_cell BK285.out 2).trans rfl; have hfz119_0 := blk_frozen BK285.out 0; have hfz119_1 := blk_frozen BK285.out 1; have hfz119_2 := blk_frozen BK285.out 2; have hnb120 := NB283_263.out; have hnc120 := NB263_283.out; have hnb121 := NB283_264.out; have hnc121 := NB264_283.out; have hnb122 := NB283_265.out; have hnc122 := NB265_283.out; have hnb123 := NB283_266.out; have hnc123 := NB266_283.out; have hcz124_0 : w113.cell? ⟨g283, 0, none⟩ = some (.int .i64 ((rd_T37 t271 x60_3).f0.f0)) := (blk_cell BK283.out 0).trans rfl; have hcz124_1 : w113.cell? ⟨g283, 1, none⟩ = some (.int .i64 ((rd_T37 t271 x60_3).f0.f1)) := (blk_cell BK283.out 1).trans rfl; have hcz124_2 : w113.cell? ⟨g283, 2, none⟩ = some (.string ((rd_T37 t271 x60_3).f1)) := (blk_cell BK283.out 2).trans rfl; have hfz124_0 := blk_frozen BK283.out 0; have hfz124_1 := blk_frozen BK283.out 1; have hfz124_2 := blk_frozen BK283.out 2) | ((with_reducible refine gate_callee (f := 15) rfl ?_); refine goesL_ (some 73) rfl rfl Try.func15 (by kernel_rfl) rfl #[.agg #[.int .i64 ((rd_T37 t271 x60_3).f0.f0), .int .i64 ((rd_T37 t271 x60_3).f0.f1), .string ((rd_T37 t271 x60_3).f1)], .agg #[.int .i64 ((rd_T37 t275 x66_4).f0.f0), .int .i64 ((rd_T37 t275 x66_4).f0.f1), .string ((rd_T37 t275 x66_4).f1)]] rfl Zg6 ?_; (with_reducible refine (impl_meeting.calls k4 ((rd_T37 t271 x60_3).f0.f0) ((rd_T37 t271 x60_3).f0.f1) ((rd_T37 t271 x60_3).f1) ((rd_T37 t275 x66_4).f0.f0) ((rd_T37 t275 x66_4).f0.f1) ((rd_T37 t275 x66_4).f1) t286 t287 _ A91.out).mono ?_); rintro e w125 ⟨rfl, hb⟩; refine ⟨_, rfl, ?_⟩; have n0_ := Agq (Kd.R_below (by (with_reducible repeat (first | apply Kd.R_alloc | apply Kd.R_drewN | apply Kd.R_drew)); exact (Kd.R_mono (Kd.R_far (p := ⟨g285, 2, none⟩) (Kd.R_far (p := ⟨g285, 1, none⟩) (Kd.R_far (p := ⟨g285, 0, none⟩) (Kd.R_mono HO_12.out (fun k_ hk => (⟨hk, hk.2⟩ : _ ∧ k_ ≠ g285))) (fun _ hk => hk.2) (.int .i64 ((rd_T37 t275 x66_4).f0.f0))) (fun _ hk => hk.2) (.int .i64 ((rd_T37 t275 x66_4).f0.f1))) (fun _ hk => hk.2) (.string ((rd_T37 t275 x66_4).f1))) (fun _ h_ => h_.1))) hb); have n1_ := Agq (Kd.S_below (by (with_reducible repeat (first | apply Kd.S_alloc | apply Kd.S_drewN | apply Kd.S_drew)); exact (Kd.S_mono (Kd.S_far (p := ⟨g285, 2, none⟩) (Kd.S_far (p := ⟨g285, 1, none⟩) (Kd.S_far (p := ⟨g285, 0, none⟩) (Kd.S_mono HO_14.out (fun k_ hk => (⟨hk, hk.2⟩ : _ ∧ k_ ≠ g285))) (fun _ hk => hk.2) (.int .i64 ((rd_T37 t275 x66_4).f0.f0))) (fun _ hk => hk.2) (.int .i64 ((rd_T37 t275 x66_4).f0.f1))) (fun _ hk => hk.2) (.string ((rd_T37 t275 x66_4).f1))) (fun _ h_ => h_.1))) hb); have n2_ := Agq (Kd.R_below (by (with_reducible repeat (first | apply Kd.R_alloc | apply Kd.R_drewN | apply Kd.R_drew)); exact (Kd.R_mono (Kd.R_far (p := ⟨g285, 2, none⟩) (Kd.R_far (p := ⟨g285, 1, none⟩) (Kd.R_far (p := ⟨g285, 0, none⟩) (Kd.R_mono HO_58.out (fun k_ hk => (⟨hk, hk.2⟩ : _ ∧ k_ ≠ g285))) (fun _ hk => hk.2) (.int .i64 ((rd_T37 t275 x66_4).f0.f0))) (fun _ hk => hk.2) (.int .i64 ((rd_T37 t275 x66_4).f0.f1))) (fun _ hk => hk.2) (.string ((rd_T37 t275 x66_4).f1))) (fun _ h_ => h_.1))) hb); have n3_ := Agq (Kd.R_below (by (with_reducible repeat (first | apply Kd.R_alloc | apply Kd.R_drewN | apply Kd.R_drew)); exact (Kd.R_mono (Kd.R_far (p := ⟨g285, 2, none⟩) (Kd.R_far (p := ⟨g285, 1, none⟩) (Kd.R_far (p := ⟨g285, 0, none⟩) (Kd.R_mono HO_64.out (fun k_ hk => (⟨hk, hk.2⟩ : _ ∧ k_ ≠ g285))) (fun _ hk => hk.2) (.int .i64 ((rd_T37 t275 x66_4).f0.f0))) (fun _ hk => hk.2) (.int .i64 ((rd_T37 t275 x66_4).f0.f1))) (fun _ hk => hk.2) (.string ((rd_T37 t275 x66_4).f1))) (fun _ h_ => h_.1))) hb); have n4_ := Agq (blk_below (g := g263) (o := .cells #[.int .i64 a0_0, .int .i64 a0_1] 27 (0, 0)) (by (with_reducible repeat (first | refine blk_drewN ?_ _ | refine blk_drew ?_ | refine blk_alloc ?_ _)); refine blk_far ?_ NB263_285.out _; (with_reducible repeat (first | refine blk_drewN ?_ _ | refine blk_drew ?_ | refine blk_alloc ?_ _)); refine blk_far ?_ NB263_285.out _; (with_reducible repeat (first | refine blk_drewN ?_ _ | refine blk_drew ?_ | refine blk_alloc ?_ _)); refine blk_far ?_ NB263_285.out _; (with_reducible repeat (first | refine blk_drewN ?_ _ | refine blk_drew ?_ | refine blk_alloc ?_ _)); exact BK263.out) hb); have n5_ := Agq (blk_below (g := g264) (o := .cells #[.int .i64 a1_0, .int .i64 a1_1] 27 (0, 0)) (by (with_reducible repeat (first | refine blk_drewN ?_ _ | refine blk_drew ?_ | refine blk_alloc ?_ _)); refine blk_far ?_ NB264_285.out _; (with_reducible repeat (first | refine blk_drewN ?_ _ | refine blk_drew ?_ | refine blk_alloc ?_ _)); refine blk_far ?_ NB264_285.out _; (with_reducible repeat (first | refine blk_drewN ?_ _ | refine blk_drew ?_ | refine blk_alloc ?_ _)); refine blk_far ?_ NB264_285.out _; (with_reducible repeat (first | refine blk_drewN ?_ _ | refine blk_drew ?_ | refine blk_alloc ?_ _)); exact BK264.out) hb); have n6_ := Agq (blk_below (g := g265) (o := .cells #[.int .i64 a2_0, .int .i64 a2_1] 27 (0, 0)) (by (with_reducible repeat (first | refine blk_drewN ?_ _ | refine blk_drew ?_ | refine blk_alloc ?_ _)); refine blk_far ?_ NB265_285.out _; (with_reducible repeat (first | refine blk_drewN ?_ _ | refine blk_drew ?_ | refine blk_alloc ?_ _)); refine blk_far ?_ NB265_285.out _; (with_reducible repeat (first | refine blk_drewN ?_ _ | refine blk_drew ?_ | refine blk_alloc ?_ _)); refine blk_far ?_ NB265_285.out _; (with_reducible repeat (first | refine blk_drewN ?_ _ | refine blk_drew ?_ | refine blk_alloc ?_ _)); exact BK265.out) hb); have n7_ := Agq (blk_below (g := g266) (o := .cells #[.int .i64 a3_0, .int .i64 a3_1] 27 (0, 0)) (by (with_reducible repeat (first | refine blk_drewN ?_ _ | refine blk_drew ?_ | refine blk_alloc ?_ _)); refine blk_far ?_ NB266_285.out _; (with_reducible repeat (first | refine blk_drewN ?_ _ | refine blk_drew ?_ | refine blk_alloc ?_ _)); refine blk_far ?_ NB266_285.out _; (with_reducible repeat (first | refine blk_drewN ?_ _ | refine blk_drew ?_ | refine blk_alloc ?_ _)); refine blk_far ?_ NB266_285.out _; (with_reducible repeat (first | refine blk_drewN ?_ _ | refine blk_drew ?_ | refine blk_alloc ?_ _)); exact BK266.out) hb); have n8_ := Agq (blk_below (g := g283) (o := .cells #[.int .i64 ((rd_T37 t271 x60_3).f0.f0), .int .i64 ((rd_T37 t271 x60_3).f0.f1), .string ((rd_T37 t271 x60_3).f1)] 37 (0, 0)) (by (with_reducible repeat (first | refine blk_drewN ?_ _ | refine blk_drew ?_ | refine blk_alloc ?_ _)); refine blk_far ?_ NB283_285.out _; (with_reducible repeat (first | refine blk_drewN ?_ _ | refine blk_drew ?_ | refine blk_alloc ?_ _)); refine blk_far ?_ NB283_285.out _; (with_reducible repeat (first | refine blk_drewN ?_ _ | refine blk_drew ?_ | refine blk_alloc ?_ _)); refine blk_far ?_ NB283_285.out _; (with_reducible repeat (first | refine blk_drewN ?_ _ | refine blk_drew ?_ | refine blk_alloc ?_ _)); exact BK283.out) hb); have n9_ := Agq (blk_below (g := g285) (o := .cells #[.int .i64 ((rd_T37 t275 x66_4).f0.f0), .int .i64 ((rd_T37 t275 x66_4).f0.f1), .string ((rd_T37 t275 x66_4).f1)] 37 (0, 0)) (by (with_reducible repeat (first | refine blk_drewN ?_ _ | refine blk_drew ?_ | refine blk_alloc ?_ _)); refine blk_put (cs := #[.int .i64 ((rd_T37 t275 x66_4).f0.f0), .int .i64 ((rd_T37 t275 x66_4).f0.f1), .string (⟨#[]⟩ : ByteArray)]) ?_ 2 _ rfl; (with_reducible repeat (first | refine blk_drewN ?_ _ | refine blk_drew ?_ | refine blk_alloc ?_ _)); refine blk_put (cs := #[.int .i64 ((rd_T37 t275 x66_4).f0.f0), .int .i64 0, .string (⟨#[]⟩ : ByteArray)]) ?_ 1 _ rfl; (with_reducible repeat (first | refine blk_drewN ?_ _ | refine blk_drew ?_ | refine blk_alloc ?_ _)); refine blk_put (cs := #[.int .i64 0, .int .i64 0, .string (⟨#[]⟩ : ByteArray)]) ?_ 0 _ rfl; (with_reducible repeat (first | refine blk_drewN ?_ _ | refine blk_drew ?_ | refine blk_alloc ?_ _)); exact BK285.out) hb); have n10_ := Agq (below_step Zg2 hb); clear HO_12; clear HO_14; clear HO_58; clear HO_64; clear BK263; clear BK264; clear BK265; clear BK266; clear BK283; clear BK285; clear HB; have HO_12 := n0_; have HO_14 := n1_; have HO_58 := n2_; have HO_64 := n3_; have BK263 := n4_; have BK264 := n5_; have BK265 := n6_; have BK266 := n7_; have BK283 := n8_; have BK285 := n9_; have HB := n10_; clear n0_ n1_ n2_ n3_ n4_ n5_ n6_ n7_ n8_ n9_ n10_; (try clear hb)))
                  go_roundg k4
                  case measure => have := HJ4.out; have := HJ59.out; have := HK3.out; have := HK4.out; omega
                  case rel => exact ⟨(x14_4), (wrap64 (x66_4 + 1)), Zg16, H', ⟨by have := HJ4.out; have := HJ59.out; have := HK3.out; have := HK4.out; omega⟩, ⟨by (with_reducible repeat (first | apply Kd.R_alloc | apply Kd.R_drewN | apply Kd.R_drew)); exact Kd.R_mono HO_12.out (fun _ hk => ⟨hk.1.1, hk.1.2⟩)⟩, ⟨by (with_reducible repeat (first | apply Kd.S_alloc | apply Kd.S_drewN | apply Kd.S_drew)); exact Kd.S_mono HO_14.out (fun _ hk => ⟨hk.1.1, ⟨hk.1.2.1, ⟨hk.1.2.2.1, hk.1.2.2.2⟩⟩⟩)⟩, ⟨by (with_reducible repeat (first | apply Kd.R_alloc | apply Kd.R_drewN | apply Kd.R_drew)); exact Kd.R_mono HO_58.out (fun _ hk => ⟨hk.1.1, ⟨hk.1.2.1, hk.1.2.2⟩⟩)⟩, ⟨by (with_reducible repeat (first | apply Kd.R_alloc | apply Kd.R_drewN | apply Kd.R_drew)); exact Kd.R_mono HO_64.out (fun _ hk => ⟨hk.1.1, hk.1.2⟩)⟩, ⟨by (with_reducible repeat (first | refine blk_drewN ?_ _ | refine blk_drew ?_ | refine blk_alloc ?_ _)); exact BK263.out⟩, ⟨by (with_reducible repeat (first | refine blk_drewN ?_ _ | refine blk_drew ?_ | refine blk_alloc ?_ _)); exact BK264.out⟩, ⟨by (with_reducible repeat (first | refine blk_drewN ?_ _ | refine blk_drew ?_ | refine blk_alloc ?_ _)); exact BK265.out⟩, ⟨by (with_reducible repeat (first | refine blk_drewN ?_ _ | refine blk_drew ?_ | refine blk_alloc ?_ _)); exact BK266.out⟩, ⟨by (with_reducible repeat (first | refine blk_drewN ?_ _ | refine blk_drew ?_ | refine blk_alloc ?_ _)); exact BK283.out⟩, ⟨by repeat (first | (with_reducible first | exact HB.out | apply below_alloc | apply pw_below_drewN | apply below_drew1 | refine below_set ?_ GE263.out | refine below_set ?_ GE264.out | refine below_set ?_ GE265.out | refine below_set ?_ GE266.out | refine below_set ?_ GE283.out | refine below_set ?_ GE285.out) | exact HB.out)⟩⟩
                ·
                 rw [if_neg c90] at H
                 exact absurd H (by simp)
               ·
                rw [if_neg c89] at H
                exact absurd H (by simp)
              ·
               rw [if_neg c88] at H
               have c88b0 : decide (x66_4 < (t275.length : Int)) = false := decide_eq_false c88
               clear c88
               by_cases c126 : (x14_4.length : Int) > 200
               ·
                rw [if_pos c126] at H
                have c126b0 : decide (200 < (x14_4.length : Int)) = true := decide_eq_true c126
                have c126b1 : decide (200 < x14_4.length) = true := decide_eq_true (by omega)
                clear c126
                simp only [Option.some.injEq, Prod.mk.injEq] at H
                obtain ⟨rfl, rfl⟩ := H
                obtain ⟨Ao127, co127, eo127⟩ := Kd.S_slice HO_14.out
                subst eo127
                go_wp2
                go_ret2
                exact ⟨_, Zrg, by first | exact Kd.S_nil _ _ _ _ _ | exact Kd.N_nil _ _ _ _ _ | exact Kd.V_nil _ _ _ _ _ | exact Kd.Q_nil _ _ _ _ _ | exact Kd.R_nil _ _ _ _ _, by repeat (first | (with_reducible first | exact HB.out | apply below_alloc | apply pw_below_drewN | apply below_drew1 | refine below_set ?_ GE263.out | refine below_set ?_ GE264.out | refine below_set ?_ GE265.out | refine below_set ?_ GE266.out | refine below_set ?_ GE283.out) | exact HB.out)⟩
               ·
                rw [if_neg c126] at H
                have c126b0 : decide (200 < (x14_4.length : Int)) = false := decide_eq_false c126
                have c126b1 : decide (200 < x14_4.length) = false := decide_eq_false (by omega)
                clear c126
                have H' := Agq H
                clear H
                obtain ⟨Ao128, co128, eo128⟩ := Kd.S_slice HO_14.out
                subst eo128
                go_wp2
                go_roundg k4
                case measure => have := HJ4.out; have := HJ59.out; have := HK3.out; have := HK4.out; omega
                case rel => exact ⟨(x14_4), (wrap64 (x60_3 + 1)), Zg16, H', ⟨by have := HJ4.out; have := HJ59.out; have := HK3.out; have := HK4.out; omega⟩, ⟨by (with_reducible repeat (first | apply Kd.R_alloc | apply Kd.R_drewN | apply Kd.R_drew)); exact Kd.R_mono HO_12.out (fun _ hk => hk.1)⟩, ⟨by (with_reducible repeat (first | apply Kd.S_alloc | apply Kd.S_drewN | apply Kd.S_drew)); exact Kd.S_mono HO_14.out (fun _ hk => ⟨hk.1, hk.2.1⟩)⟩, ⟨by (with_reducible repeat (first | apply Kd.R_alloc | apply Kd.R_drewN | apply Kd.R_drew)); exact Kd.R_mono HO_58.out (fun _ hk => hk.1)⟩, ⟨by (with_reducible repeat (first | refine blk_drewN ?_ _ | refine blk_drew ?_ | refine blk_alloc ?_ _)); exact BK263.out⟩, ⟨by (with_reducible repeat (first | refine blk_drewN ?_ _ | refine blk_drew ?_ | refine blk_alloc ?_ _)); exact BK264.out⟩, ⟨by (with_reducible repeat (first | refine blk_drewN ?_ _ | refine blk_drew ?_ | refine blk_alloc ?_ _)); exact BK265.out⟩, ⟨by (with_reducible repeat (first | refine blk_drewN ?_ _ | refine blk_drew ?_ | refine blk_alloc ?_ _)); exact BK266.out⟩, ⟨by repeat (first | (with_reducible first | exact HB.out | apply below_alloc | apply pw_below_drewN | apply below_drew1 | refine below_set ?_ GE263.out | refine below_set ?_ GE264.out | refine below_set ?_ GE265.out | refine below_set ?_ GE266.out | refine below_set ?_ GE283.out) | exact HB.out)⟩⟩
           ·
            rw [if_neg c80] at H
            exact absurd H (by simp)
          ·
           rw [if_neg c79] at H
           exact absurd H (by simp)
         ·
          rw [if_neg c78] at H
          have c78b0 : decide (x60_3 < (t271.length : Int)) = false := decide_eq_false c78
          clear c78
          simp only [Option.some.injEq, Prod.mk.injEq] at H
          obtain ⟨rfl, rfl⟩ := H
          go_wp2
          go_ret2
          exact ⟨_, Zrg, by (with_reducible repeat (first | apply Kd.S_alloc | apply Kd.S_drewN | apply Kd.S_drew)); exact Kd.S_mono HO_14.out (fun _ hk => trivial), by repeat (first | (with_reducible first | exact HB.out | apply below_alloc | apply pw_below_drewN | apply below_drew1 | refine below_set ?_ GE263.out | refine below_set ?_ GE264.out | refine below_set ?_ GE265.out | refine below_set ?_ GE266.out) | exact HB.out)⟩

end Go.Proofs.Ythlbbngmgioamaa.OFnExactAllPairsApart
