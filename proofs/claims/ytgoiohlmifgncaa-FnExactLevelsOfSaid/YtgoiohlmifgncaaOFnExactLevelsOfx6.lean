/- The functions that 'FnExactLevelsOf' runs, each as a function over numbers and lists, with the proof that the Go text comes to its answers. No condition. -/
import Derived.Test.YtgoiohlmifgncaaOFnExactLevelsOfx0
import Derived.Test.YtgoiohlmifgncaaOFnExactLevelsOfx5
namespace Go.Proofs.Ytgoiohlmifgncaa.OFnExactLevelsOf
open Go.Proofs.Ytgoiohlmifgncaa.Stub
open Go.RowKit Go.Proofs.YtgoiohlmifgncaaW.PrintWords Go.Proofs.YtgoiohlmifgncaaW.PrintLast Go.Proofs.YtgoiohlmifgncaaW.PrintMore
attribute [local go_sem] max2_int min2_int max_two min_two max_three min_three max_four min_four   -- for this text's walks alone
set_option linter.unusedVariables false
set_option linter.unusedSimpArgs false

/-! ### impl_LevelsOf: function 6 -/
theorem y1a6 {α : Type} (l : List α) (i : Nat) (a : α) : l.toArray.setIfInBounds i a = (l.set i a).toArray := List.setIfInBounds_toArray l i a
theorem y2a6 {α : Type} {x : α} {xs : List α} {b : α} : (x :: xs).set 0 b = b :: xs := List.set_cons_zero
theorem y3a6 {α : Type} {x : α} {xs : List α} {n : Nat} {b : α} : (x :: xs).set (n + 1) b = x :: xs.set n b := List.set_cons_succ
theorem Aa6q {p : Prop} (h : p) : Aside0 p := Aside0.mk h
theorem Za61 {p : Prop} (h : p := by (with_reducible repeat (first | refine blk_drewN ?_ _ | refine blk_drew ?_ | refine blk_alloc ?_ _)); refine blk_put (cs := #[.slice none 0 0, .slice none 0 0]) ?_ 1 _ rfl; (with_reducible repeat (first | refine blk_drewN ?_ _ | refine blk_drew ?_ | refine blk_alloc ?_ _)); refine blk_put (cs := #[.slice none 0 0, .slice none 0 0]) ?_ 0 _ rfl; (with_reducible repeat (first | refine blk_drewN ?_ _ | refine blk_drew ?_ | refine blk_alloc ?_ _)); exact BK193.out) : p := h
theorem Za62 {p : Prop} (h : p := by rw [hg]; exact Nat.ne_of_lt (blk_lt (g := g193) (o := .cells #[.slice none 0 0, .slice none 0 0] 24 (0, 0)) (by (with_reducible repeat (first | refine blk_drewN ?_ _ | refine blk_drew ?_ | refine blk_alloc ?_ _)); exact BK193.out))) : p := h
theorem Za63 {p : Prop} (h : p := by rw [hg]; exact Nat.ne_of_gt (blk_lt (g := g193) (o := .cells #[.slice none 0 0, .slice none 0 0] 24 (0, 0)) (by (with_reducible repeat (first | refine blk_drewN ?_ _ | refine blk_drew ?_ | refine blk_alloc ?_ _)); exact BK193.out))) : p := h
theorem Za64 {p : Prop} (h : p := by rw [hg]; exact (below_size (by repeat (first | (with_reducible first | exact HB.out | apply below_alloc | apply pw_below_drewN | apply below_drew1 | refine below_set ?_ GE193.out) | exact HB.out)))) : p := h
theorem Za65 {p : Prop} (h : p := by first | (simp only [putAll, Act.put, y1a6, y2a6, y3a6]; done) | (simp only [putAll, Act.put, y1a6, y2a6, y3a6]; rfl)) : p := h
theorem Za66 {p : Prop} (h : p := by repeat (first | (with_reducible first | exact HB.out | apply below_alloc | apply pw_below_drewN | apply below_drew1 | refine below_set ?_ GE193.out | refine below_set ?_ GE202.out) | exact HB.out)) : p := h
theorem Za67 {p : Prop} (h : p := by repeat (first | (with_reducible first | exact HB.out | apply below_alloc | apply pw_below_drewN | apply below_drew1 | refine below_set ?_ GE193.out) | exact HB.out)) : p := h
theorem Za68 {p : Prop} (h : p := by (try simp only [List.map_toArray, List.map_cons, List.map_nil]); first | done | rfl | (simp only [List.length_drop, List.length_take]; rfl)) : p := h
theorem Za69 {p : Prop} (h : p := by (with_reducible repeat (first | apply Kd.R_alloc | apply Kd.R_drewN | apply Kd.R_drew)); exact Kd.R_mono HO198.out (fun _ hk => hk.2)) : p := h
theorem Za610 {p : Prop} (h : p := by (with_reducible repeat (first | apply Kd.R_alloc | apply Kd.R_drewN | apply Kd.R_drew)); exact Kd.R_mono HO201.out (fun _ hk => hk.2)) : p := h
theorem Za611 {p : Prop} (h : p := by (with_reducible repeat (first | refine blk_drewN ?_ _ | refine blk_drew ?_ | refine blk_alloc ?_ _)); exact BK193.out) : p := h
theorem Za612 {p : Prop} (h : p := by (with_reducible repeat (first | refine blk_drewN ?_ _ | refine blk_drew ?_ | refine blk_alloc ?_ _)); exact BK202.out) : p := h
theorem Za613 {p : Prop} (h : p := by (with_reducible repeat (first | apply Kd.R_alloc | apply Kd.R_drewN | apply Kd.R_drew)); exact HO_203000.out) : p := h
theorem Za614 {p : Prop} (h : p := by (with_reducible repeat (first | apply Kd.R_alloc | apply Kd.R_drewN | apply Kd.R_drew)); exact HO_203001.out) : p := h
theorem Za615 {p : Prop} (h : p := by (with_reducible repeat (first | apply Kd.R_alloc | apply Kd.R_drewN | apply Kd.R_drew)); exact HO198.out) : p := h
theorem Za616 {p : Prop} (h : p := by (with_reducible repeat (first | apply Kd.R_alloc | apply Kd.R_drewN | apply Kd.R_drew)); exact HO201.out) : p := h
theorem Za617 {p : Prop} (h : p := by first | rfl | (simp; done) | (simp [*]; done) | (simp only [i64_w]; done)) : p := h
theorem Za618 {p : Prop} (h : p := by first | (with_reducible assumption) | assumption) : p := h
theorem Za619 {p : Prop} (h : p := by kernel_rfl) : p := h
mutual
def impl_LevelsOf.j0 : Nat → List Int → Bool → Option (List Int × List Int × Bool)
  | 0, _, _ => none
  | k + 1, x0, x24 => if x24 = true then (some (([] : List Int), ([] : List Int), false)) else (if 0 ≤ (wrap64 ((x0.length : Int) / 2)) then (if (wrap64 ((x0.length : Int) / 2) : Int).toNat ≤ 35184372088832 then (impl_LevelsOf.l0 k x0 (wrap64 ((x0.length : Int) / 2)) 1 1 (List.replicate (wrap64 ((x0.length : Int) / 2) : Int).toNat 0) (List.replicate (wrap64 ((x0.length : Int) / 2) : Int).toNat 0)) else (none)) else (none))
def impl_LevelsOf.l0 : Nat → List Int → Int → Int → Int → List Int → List Int → Option (List Int × List Int × Bool)
  | 0, _, _, _, _, _, _ => none
  | k + 1, x0, x4, x6, x7, x203000, x203001 => if x7 < (x0.length : Int) then (if 0 ≤ x7 then ((impl_Levels_moment.f k x203000 x203001 x7).bind fun t205 => (if x6 = 0 then (none) else (if (Int.tmod (wrap64 ((rd x0 x7) - t205)) x6) = 0 then (if (Int.tmod x7 2) = 1 then ((impl_in.f (wrap64 (Int.tdiv (wrap64 ((rd x0 x7) - t205)) x6)) (-5) 5).bind fun t206 => (if t206 = true then (if 0 ≤ (wrap64 (Int.tdiv x7 2)) then (if (wrap64 (Int.tdiv x7 2)) < (x203000.length : Int) then (impl_LevelsOf.l0 k x0 x4 x6 (wrap64 (x7 + 1)) (x203000.set ((wrap64 (Int.tdiv x7 2)) : Int).toNat (wrap64 (Int.tdiv (wrap64 ((rd x0 x7) - t205)) x6))) x203001) else (none)) else (none)) else (some (([] : List Int), ([] : List Int), false)))) else ((impl_in.f (wrap64 (Int.tdiv (wrap64 ((rd x0 x7) - t205)) x6)) 1 5).bind fun t208 => (if t208 = true then (if 0 ≤ (wrap64 ((wrap64 (Int.tdiv x7 2)) - 1)) then (if (wrap64 ((wrap64 (Int.tdiv x7 2)) - 1)) < (x203001.length : Int) then (impl_LevelsOf.l0 k x0 x4 (wrap64 (x6 * (wrap64 (Int.tdiv (wrap64 ((rd x0 x7) - t205)) x6)))) (wrap64 (x7 + 1)) x203000 (x203001.set ((wrap64 ((wrap64 (Int.tdiv x7 2)) - 1)) : Int).toNat (wrap64 (Int.tdiv (wrap64 ((rd x0 x7) - t205)) x6)))) else (none)) else (none)) else (some (([] : List Int), ([] : List Int), false))))) else (some (([] : List Int), ([] : List Int), false))))) else (none)) else (if 0 ≤ (wrap64 (x4 - 1)) then (if (wrap64 (x4 - 1)) < (x203001.length : Int) then (some (x203000, (x203001.set ((wrap64 (x4 - 1)) : Int).toNat 1), true)) else (none)) else (none))
end
def impl_LevelsOf.f (k : Nat) (l0 : List Int) : Option (List Int × List Int × Bool) := (impl_areMoments.f l0 1000000000).bind fun t194 => (if t194 = true then (if ((l0.length : Int) % 2) = 0 then (if 0 < (l0.length : Int) then (impl_LevelsOf.j0 k l0 ((rd l0 0) != 1)) else (none)) else (impl_LevelsOf.j0 k l0 true)) else (impl_LevelsOf.j0 k l0 true))
theorem impl_LevelsOf.mono_l : ∀ k, (∀ y0 y1, LeO (impl_LevelsOf.j0 k y0 y1) (impl_LevelsOf.j0 (k + 1) y0 y1)) ∧ (∀ y0 y1 y2 y3 y4 y5, LeO (impl_LevelsOf.l0 k y0 y1 y2 y3 y4 y5) (impl_LevelsOf.l0 (k + 1) y0 y1 y2 y3 y4 y5))
  | 0 => ⟨fun _ _ r h => by simp [impl_LevelsOf.j0] at h, fun _ _ _ _ _ _ r h => by simp [impl_LevelsOf.l0] at h⟩
  | k + 1 => by
    obtain ⟨ih0, ih1⟩ := impl_LevelsOf.mono_l k
    refine ⟨?_, ?_⟩
    · intro y0 y1
      unfold impl_LevelsOf.j0
      repeat' first
      | (with_reducible exact ih0 _ _)
      | (with_reducible exact ih1 _ _ _ _ _ _)
      | (with_reducible exact impl_Levels_moment.mono _ _ _ _)
      | (with_reducible exact LeO.refl _)
      | (with_reducible exact LeO.none _)
      | (with_reducible refine LeO.ite ?_ ?_)
      | (with_reducible refine LeO.bind ?_ (fun _ => ?_))
      | exact ih0 _ _
      | exact ih1 _ _ _ _ _ _
      | exact impl_Levels_moment.mono _ _ _ _
      | exact LeO.none _
      | refine LeO.ite ?_ ?_
      | refine LeO.bind ?_ (fun _ => ?_)
    · intro y0 y1 y2 y3 y4 y5
      unfold impl_LevelsOf.l0
      repeat' first
      | (with_reducible exact ih0 _ _)
      | (with_reducible exact ih1 _ _ _ _ _ _)
      | (with_reducible exact impl_Levels_moment.mono _ _ _ _)
      | (with_reducible exact LeO.refl _)
      | (with_reducible exact LeO.none _)
      | (with_reducible refine LeO.ite ?_ ?_)
      | (with_reducible refine LeO.bind ?_ (fun _ => ?_))
      | exact ih0 _ _
      | exact ih1 _ _ _ _ _ _
      | exact impl_Levels_moment.mono _ _ _ _
      | exact LeO.none _
      | refine LeO.ite ?_ ?_
      | refine LeO.bind ?_ (fun _ => ?_)
theorem impl_LevelsOf.mono : ∀ a0 k, LeO (impl_LevelsOf.f k a0) (impl_LevelsOf.f (k + 1) a0) := by
  intro a0 k
  obtain ⟨ih0, ih1⟩ := impl_LevelsOf.mono_l k
  unfold impl_LevelsOf.f
  repeat' first
      | (with_reducible exact ih0 _ _)
      | (with_reducible exact ih1 _ _ _ _ _ _)
      | (with_reducible exact impl_Levels_moment.mono _ _ _ _)
      | (with_reducible exact LeO.refl _)
      | (with_reducible exact LeO.none _)
      | (with_reducible refine LeO.ite ?_ ?_)
      | (with_reducible refine LeO.bind ?_ (fun _ => ?_))
      | exact ih0 _ _
      | exact ih1 _ _ _ _ _ _
      | exact impl_Levels_moment.mono _ _ _ _
      | exact LeO.none _
      | refine LeO.ite ?_ ?_
      | refine LeO.bind ?_ (fun _ => ?_)
def impl_LevelsOf.T4 : Bool × List (List Nat × List Nat) := (true, [([], []), ([0, 0], [0]), ([], []), ([2, 2], [2]), ([1, 3], [1, 3]), ([], []), ([5, 4, 0, 1, 2, 3, 4, 5], [4, 5]), ([6, 0, 1, 2, 3, 4, 5, 6], [])])
def impl_LevelsOf.B4 : List Nat := [0, 1, 0, 4, 15, 0, 63, 127]
theorem impl_LevelsOf.tab4 : rtab .any (opsOf Try.f6 4) = impl_LevelsOf.T4 := by kernel_rfl
theorem impl_LevelsOf.bits4 : waitsOk impl_LevelsOf.T4.2 impl_LevelsOf.B4 = true := by kernel_rfl
def impl_LevelsOf.T8 : Bool × List (List Nat × List Nat) := (true, [([], []), ([], []), ([0, 1], [0, 1]), ([2], [2]), ([], []), ([], []), ([4, 5], [4, 5]), ([3, 6], [3, 6]), ([7, 6, 0, 1, 2, 3, 4, 5, 6, 7], [7])])
def impl_LevelsOf.B8 : List Nat := [0, 0, 3, 7, 0, 0, 48, 127, 255]
theorem impl_LevelsOf.tab8 : rtab .any (opsOf Try.f6 8) = impl_LevelsOf.T8 := by kernel_rfl
theorem impl_LevelsOf.bits8 : waitsOk impl_LevelsOf.T8.2 impl_LevelsOf.B8 = true := by kernel_rfl
set_option maxHeartbeats 8000000 in
set_option maxRecDepth 100000 in
theorem impl_LevelsOf.calls (k : Nat) (A0 : Option Addr) (c0 : Nat) (l0 : List Int) (r1 : List Int) (r2 : List Int) (r3 : Bool) (w : World) (hr0 : Kd.C (Kd.int .i64) w A0 l0.length l0) (hc0 : l0.length ≤ c0) (h : impl_LevelsOf.f k l0 = some (r1, r2, r3)) :
  Calls Try.prog 6 #[.slice A0 l0.length c0] w fun e w' => ∃ v0_ v1_ : Value, e = .returned (.tuple #[.agg #[v0_, v1_], .bool r3]) ∧ Kd.R (Kd.int .i64) 3 w' w.heap.size (fun k_ => some k_ ≠ (v1_ : Value).ownBlock) v0_ r1 ∧ Kd.R (Kd.int .i64) 3 w' w.heap.size (fun k_ => some k_ ≠ (v0_ : Value).ownBlock) v1_ r2 ∧ Below w.heap.size w w' := by
 have hu24 := Try.underlying24
 have HR0 := Aa6q hr0
 have HC0 := Aa6q hc0
 clear hr0 hc0
 have HB := Aa6q (Below.refl w.heap.size w)
 have H : ((impl_areMoments.f l0 1000000000).bind fun t194 => (if t194 = true then (if ((l0.length : Int) % 2) = 0 then (if 0 < (l0.length : Int) then (impl_LevelsOf.j0 k l0 ((rd l0 0) != 1)) else (none)) else (impl_LevelsOf.j0 k l0 true)) else (impl_LevelsOf.j0 k l0 true))) = some (r1, r2, r3) := h
 clear h
 have HC2 := Aa6q H
 clear H
 go_enter Try.func6, Try.ntmps6
 go_upto_region 1 with (first | ((with_reducible refine gate_dst (N := 2) rfl ?_); (try (refine gate_guard (by rfl) ?_; dsimp only)); refine box_event ?hg (N := 2) ?hd (cs := #[.slice none 0 0, .slice none 0 0]) (t := 24) ?hr ?_; (case hd => rfl); (case hg => rfl); (case hr => first | (go_simp; done) | (go_simp; rfl)); intro g193 hg w3 hbox hb; have n0_ := Aa6q (below_step (by repeat (first | (with_reducible first | exact HB.out | apply below_alloc | apply pw_below_drewN | apply below_drew1) | exact HB.out)) hb); have n1_ := Aa6q (hbox); have n2_ := Aa6q ((by rw [hg]; exact (below_size (by repeat (first | (with_reducible first | exact HB.out | apply below_alloc | apply pw_below_drewN | apply below_drew1) | exact HB.out))) : w.heap.size ≤ g193)); have n3_ := Aa6q ((by rw [hg]; exact (below_size (by repeat (first | (with_reducible first | exact HB.out | apply below_alloc | apply pw_below_drewN | apply below_drew1) | exact HB.out))) : w.heap.size ≤ g193)); clear HB; have HB := n0_; have BK193 := n1_; have GW193 := n2_; have GE193 := n3_; clear n0_ n1_ n2_ n3_; clear hb hbox hg))
 (try simp only [Act.put, y1a6, y2a6, y3a6])
 go_cut [24] (fun v24 wc => ∃ (kq : Nat) (x24_1 : Bool), v24 = .bool x24_1 ∧ Aside0 (impl_LevelsOf.j0 kq l0 x24_1 = some (r1, r2, r3)) ∧ Aside0 (kq ≤ k) ∧ Aside0 (wc.heap[g193]? = some (.cells #[(.slice none 0 0), (.slice none 0 0)] 24 (0, 0))) ∧ Aside0 (Below w.heap.size w wc))
 case first =>
  have H := HC2.out
  clear HC2
  replace H := Option.bind_eq_some_iff.mp H
  obtain ⟨t194, A40, H⟩ := H
  replace H : (if t194 = true then (if ((l0.length : Int) % 2) = 0 then (if 0 < (l0.length : Int) then (impl_LevelsOf.j0 k l0 ((rd l0 0) != 1)) else (none)) else (impl_LevelsOf.j0 k l0 true)) else (impl_LevelsOf.j0 k l0 true)) = some (r1, r2, r3) := H
  have A4 := Aa6q A40
  clear A40
  by_cases c5 : t194 = true
  rotate_left
  ·
   replace c5 := Bool.eq_false_iff.mpr c5
   subst c5
   have H1 : (impl_LevelsOf.j0 k l0 true) = some (r1, r2, r3) := by rw [if_neg (show ¬ (false = true) by decide)] at H; exact H
   clear H
   have H := H1
   clear H1
   have H' := Aa6q H
   clear H
   go_wp2_with (first | ((with_reducible refine gate_callee (f := 15) rfl ?_); refine goesL_ (some 11) rfl rfl Try.func15 Za619 rfl #[.slice A0 l0.length c0, .int .i64 1000000000] rfl Za68 ?_; (with_reducible refine (impl_areMoments.calls _ _ l0 1000000000 false _ ?side1 ?side2 A4.out).mono ?_); (case side1 => repeat (first | exact (Kd.C_below HR0.out HB.out) | (with_reducible refine Kd.C_alloc ?_ _) | (with_reducible refine Kd.C_drewN ?_ _) | (with_reducible refine Kd.C_drew ?_))); (case side2 => exact HC0.out); rintro e w10 ⟨rfl, hb⟩; refine ⟨_, rfl, ?_⟩; have n0_ := Aa6q (blk_below (g := g193) (o := .cells #[.slice none 0 0, .slice none 0 0] 24 (0, 0)) Za611 hb); have n1_ := Aa6q (below_step Za67 hb); clear BK193; clear HB; have BK193 := n0_; have HB := n1_; clear n0_ n1_; (try clear hb); (try clear hb2); (try clear hk); (try clear hi)))
   go_meet
   case rel => exact ⟨_, (true), Za617, H', ⟨by first | omega | exact Nat.le_refl _⟩, ⟨by (with_reducible repeat (first | refine blk_drewN ?_ _ | refine blk_drew ?_ | refine blk_alloc ?_ _)); exact BK193.out⟩, ⟨by repeat (first | (with_reducible first | exact HB.out | apply below_alloc | apply pw_below_drewN | apply below_drew1 | refine below_set ?_ GE193.out) | exact HB.out)⟩⟩
  subst c5
  have H1 : (if ((l0.length : Int) % 2) = 0 then (if 0 < (l0.length : Int) then (impl_LevelsOf.j0 k l0 ((rd l0 0) != 1)) else (none)) else (impl_LevelsOf.j0 k l0 true)) = some (r1, r2, r3) := by rw [if_pos rfl] at H; exact H
  clear H
  have H := H1
  clear H1
  by_cases c6 : ((l0.length : Int) % 2) = 0
  rotate_left
  ·
   rw [if_neg c6] at H
   have c6b0 : (((l0.length : Int) % 2) == 0) = false := beq_eq_false_iff_ne.mpr c6
   have c6b1 : (((l0.length : Int) % 2) != 0) = true := bne_iff_ne.mpr c6
   (first | rw [c6b0] | (simp only [i64_w, i32_w]; rw [c6b0]) | skip)
   have H' := Aa6q H
   clear H
   go_wp2_with (first | ((with_reducible refine gate_callee (f := 15) rfl ?_); refine goesL_ (some 11) rfl rfl Try.func15 Za619 rfl #[.slice A0 l0.length c0, .int .i64 1000000000] rfl Za68 ?_; (with_reducible refine (impl_areMoments.calls _ _ l0 1000000000 true _ ?side1 ?side2 A4.out).mono ?_); (case side1 => repeat (first | exact (Kd.C_below HR0.out HB.out) | (with_reducible refine Kd.C_alloc ?_ _) | (with_reducible refine Kd.C_drewN ?_ _) | (with_reducible refine Kd.C_drew ?_))); (case side2 => exact HC0.out); rintro e w9 ⟨rfl, hb⟩; refine ⟨_, rfl, ?_⟩; have n0_ := Aa6q (blk_below (g := g193) (o := .cells #[.slice none 0 0, .slice none 0 0] 24 (0, 0)) Za611 hb); have n1_ := Aa6q (below_step Za67 hb); clear BK193; clear HB; have BK193 := n0_; have HB := n1_; clear n0_ n1_; (try clear hb); (try clear hb2); (try clear hk); (try clear hi)))
   go_meet
   case rel => exact ⟨_, (true), Za617, H', ⟨by first | omega | exact Nat.le_refl _⟩, ⟨by (with_reducible repeat (first | refine blk_drewN ?_ _ | refine blk_drew ?_ | refine blk_alloc ?_ _)); exact BK193.out⟩, ⟨by repeat (first | (with_reducible first | exact HB.out | apply below_alloc | apply pw_below_drewN | apply below_drew1 | refine below_set ?_ GE193.out) | exact HB.out)⟩⟩
  rw [if_pos c6] at H
  have c6b0 : (((l0.length : Int) % 2) == 0) = true := beq_iff_eq.mpr c6
  have c6b1 : (((l0.length : Int) % 2) != 0) = false := bne_eq_false_iff_eq.mpr c6
  clear c6
  (first | rw [c6b0] | (simp only [i64_w, i32_w]; rw [c6b0]) | skip)
  by_cases c7 : 0 < (l0.length : Int)
  rotate_left
  ·
   rw [if_neg c7] at H
   exact absurd H (by simp)
  rw [if_pos c7] at H
  have c7b0 : decide (0 < (l0.length : Int)) = true := decide_eq_true c7
  have c7b1 : decide (0 < l0.length) = true := decide_eq_true (by omega)
  clear c7
  have H' := Aa6q H
  clear H
  go_wp2_with (first | ((with_reducible refine gate_callee (f := 15) rfl ?_); refine goesL_ (some 11) rfl rfl Try.func15 Za619 rfl #[.slice A0 l0.length c0, .int .i64 1000000000] rfl Za68 ?_; (with_reducible refine (impl_areMoments.calls _ _ l0 1000000000 true _ ?side1 ?side2 A4.out).mono ?_); (case side1 => repeat (first | exact (Kd.C_below HR0.out HB.out) | (with_reducible refine Kd.C_alloc ?_ _) | (with_reducible refine Kd.C_drewN ?_ _) | (with_reducible refine Kd.C_drew ?_))); (case side2 => exact HC0.out); rintro e w8 ⟨rfl, hb⟩; refine ⟨_, rfl, ?_⟩; have n0_ := Aa6q (blk_below (g := g193) (o := .cells #[.slice none 0 0, .slice none 0 0] 24 (0, 0)) Za611 hb); have n1_ := Aa6q (below_step Za67 hb); clear BK193; clear HB; have BK193 := n0_; have HB := n1_; clear n0_ n1_; (try clear hb); (try clear hb2); (try clear hk); (try clear hi); have p195 : 0 ≤ (0 : Int) := (by omega); have q195 : 0 < (l0.length : Int) := of_decide_eq_true Za618; obtain ⟨ad195, e195, hx195_0⟩ := Kd.at_int HR0.out 0 p195 q195; cases e195; have qi195 : (0 < l0.length) = True := eq_true (by omega); (try rw [show ((0 : Int)).toNat = 0 from rfl] at hx195_0); (try rw [Addr.add_zero'] at hx195_0); replace hx195_0 := (HB.out.cell (World.block_lt_of_cell? w _ hx195_0)).trans hx195_0; replace p195 := eq_true p195; replace q195 := eq_true q195))
  go_meet
  case rel => exact ⟨_, (((rd l0 0) != 1)), Za617, H', ⟨by first | omega | exact Nat.le_refl _⟩, ⟨by (with_reducible repeat (first | refine blk_drewN ?_ _ | refine blk_drew ?_ | refine blk_alloc ?_ _)); exact BK193.out⟩, ⟨by repeat (first | (with_reducible first | exact HB.out | apply below_alloc | apply pw_below_drewN | apply below_drew1 | refine below_set ?_ GE193.out) | exact HB.out)⟩⟩
 clear HC2
 try clear c1
 try clear p1
 try clear q1
 try clear hx1
 try clear qi1
 try clear p2
 try clear c5
 try clear c6
 try clear c6b0
 try clear c6b1
 try clear c7
 try clear c7b0
 try clear c7b1
 try clear hx195_0
 try clear p195
 try clear q195
 obtain ⟨kq, x24_1, rfl, HA, HJ1, BK193, HB⟩ := hcut
 obtain _ | kj1 := kq
 · exact absurd HA.out (by simp [impl_LevelsOf.j0])
 have H := HA.out
 clear HA
 simp only [impl_LevelsOf.j0] at H
 by_cases c11 : x24_1 = true
 ·
  subst c11
  have H1 : (some (([] : List Int), ([] : List Int), false)) = some (r1, r2, r3) := by rw [if_pos rfl] at H; exact H
  clear H
  have H := H1
  clear H1
  simp only [Option.some.injEq, Prod.mk.injEq] at H
  obtain ⟨rfl, rfl, rfl⟩ := H
  have hcz12_0 : wc.cell? ⟨g193, 0, none⟩ = some (.slice none 0 0) := (blk_cell BK193.out 0).trans rfl
  have hcz12_1 : wc.cell? ⟨g193, 1, none⟩ = some (.slice none 0 0) := (blk_cell BK193.out 1).trans rfl
  have hfz12_0 := blk_frozen BK193.out 0
  have hfz12_1 := blk_frozen BK193.out 1
  go_wp2
  refine bodyPost_ret (results_ct rfl _ _ g193 24 #[.slice none 0 0, .slice none 0 0] (0, 0) _ rfl Za61 Try.underlying24 rfl Za619) rfl ?_
  exact ⟨_, _, by first | rfl | (simp [errW_none, errW_some] <;> rfl) | (simp [*, errW_none, errW_some] <;> rfl), by first | exact Kd.R_nil _ _ _ _ _ | exact Kd.N_nil _ _ _ _ _ | exact Kd.V_nil _ _ _ _ _ | exact Kd.Q_nil _ _ _ _ _ | exact Kd.S_nil _ _ _ _ _, by first | exact Kd.R_nil _ _ _ _ _ | exact Kd.N_nil _ _ _ _ _ | exact Kd.V_nil _ _ _ _ _ | exact Kd.Q_nil _ _ _ _ _ | exact Kd.S_nil _ _ _ _ _, by repeat (first | (with_reducible first | exact HB.out | apply below_alloc | apply pw_below_drewN | apply below_drew1 | refine below_set ?_ GE193.out) | exact HB.out)⟩
 replace c11 := Bool.eq_false_iff.mpr c11
 subst c11
 have H1 : (if 0 ≤ (wrap64 ((l0.length : Int) / 2)) then (if (wrap64 ((l0.length : Int) / 2) : Int).toNat ≤ 35184372088832 then (impl_LevelsOf.l0 kj1 l0 (wrap64 ((l0.length : Int) / 2)) 1 1 (List.replicate (wrap64 ((l0.length : Int) / 2) : Int).toNat 0) (List.replicate (wrap64 ((l0.length : Int) / 2) : Int).toNat 0)) else (none)) else (none)) = some (r1, r2, r3) := by rw [if_neg (show ¬ (false = true) by decide)] at H; exact H
 clear H
 have H := H1
 clear H1
 obtain ⟨ji13, hji13⟩ : ∃ j_ : Int, (wrap64 ((l0.length : Int) / 2)) = j_ := ⟨_, rfl⟩
 replace H : (if 0 ≤ (ji13) then (if (ji13 : Int).toNat ≤ 35184372088832 then (impl_LevelsOf.l0 kj1 l0 ji13 1 1 (List.replicate (ji13 : Int).toNat 0) (List.replicate (ji13 : Int).toNat 0)) else (none)) else (none)) = some (r1, r2, r3) := by first | (rw [hji13] at H; exact H) | (simp only [hji13] at H ⊢; exact H)
 have hji13w : (IntKind.i64.wrap ((l0.length : Int) / 2)) = ji13 := (i64_w _).trans hji13
 by_cases c14 : 0 ≤ (ji13)
 rotate_left
 ·
  rw [if_neg c14] at H
  exact absurd H (by simp)
 rw [if_pos c14] at H
 have c14b0 := eq_true c14
 have c14b1 : decide (0 ≤ (ji13)) = true := decide_eq_true c14
 clear c14
 by_cases c15 : (ji13 : Int).toNat ≤ 35184372088832
 rotate_left
 ·
  rw [if_neg c15] at H
  exact absurd H (by simp)
 rw [if_pos c15] at H
 have c15b0 := eq_true c15
 have c15b1 : decide ((ji13 : Int).toNat ≤ 35184372088832) = true := decide_eq_true c15
 clear c15
 obtain ⟨y196, hy196⟩ : ∃ y_ : List Int, y_ = (List.replicate (ji13 : Int).toNat 0) := ⟨_, rfl⟩
 replace H : (impl_LevelsOf.l0 kj1 l0 ji13 1 1 y196 (List.replicate (ji13 : Int).toNat 0)) = some (r1, r2, r3) := by first | (rw [hy196]; with_reducible exact H) | (have H2_ := (Option.bind_some _ _).symm.trans H; rw [hy196]; with_reducible exact H2_) | (have H2_ := (Option.bind_some _ _).symm.trans H; with_reducible exact H2_) | with_reducible exact H | (rw [hy196]; exact H) | exact H
 have Ny196 := Aa6q hy196
 clear hy196
 obtain ⟨y199, hy199⟩ : ∃ y_ : List Int, y_ = (List.replicate (ji13 : Int).toNat 0) := ⟨_, rfl⟩
 replace H : (impl_LevelsOf.l0 kj1 l0 ji13 1 1 y196 y199) = some (r1, r2, r3) := by first | (rw [hy199]; with_reducible exact H) | (have H2_ := (Option.bind_some _ _).symm.trans H; rw [hy199]; with_reducible exact H2_) | (have H2_ := (Option.bind_some _ _).symm.trans H; with_reducible exact H2_) | with_reducible exact H | (rw [hy199]; exact H) | exact H
 have Ny199 := Aa6q hy199
 clear hy199
 have H' := Aa6q H
 clear H
 try go_wp2
 have n0_ := Aa6q (blk_drew BK193.out)
 have n1_ := Aa6q (below_drew1 HB.out)
 clear BK193 HB
 have BK193 := n0_
 have HB := n1_
 clear n0_ n1_
 refine start_ (n := 8) (S := fun w' => True) (ds := []) #[false, false, false, false, false, false, false, false] Za619 rfl rfl trivial (fun hHeld => ?_); refine with_tabW impl_LevelsOf.tab4 impl_LevelsOf.bits4 (fun HT_ HW_ => ?_)
 generalize wc.drew = w16 at BK193 HB hHeld ⊢
 refine pure_ (i := 0) (N := some 29) (v := ?_) (a' := ?_) #[true, false, false, false, false, false, false, false] rfl rfl (any_of HT_.out Za619) (fun _ _ _ h => h) (Or.inl ⟨by rfl, ?_⟩) ?_ ?_
 rotate_left
 ·
  intro w'
  go_simp
  with_reducible rfl
 rotate_left
 ·
  simp only [Act.put, y1a6, y2a6, y3a6, i64_w, i32_w]
  rfl
 refine pure_ (i := 2) (N := some 31) (v := ?_) (a' := ?_) #[true, false, true, false, false, false, false, false] rfl rfl (any_of HT_.out Za619) (fun _ _ _ h => h) (Or.inl ⟨by rfl, ?_⟩) ?_ ?_
 rotate_left
 ·
  intro w'
  go_simp
  with_reducible rfl
 rotate_left
 ·
  simp only [Act.put, y1a6, y2a6, y3a6, i64_w, i32_w]
  rfl
 refine join_ (σ := Value × Value × Nat) 2 #[true, true, true, true, true, true, false, false] (fun s_ => [(30, s_.1), (32, s_.2.1), (5, .pointer (some ⟨s_.2.2, 0, none⟩)), (33, .agg #[s_.1, s_.2.1])]) (fun s_ w' => (Kd.R (Kd.int .i64) 3 w' w.heap.size (fun k_ => some k_ ≠ (s_.2.1 : Value).ownBlock) s_.1 y196) ∧ (Kd.R (Kd.int .i64) 3 w' w.heap.size (fun k_ => some k_ ≠ (s_.1 : Value).ownBlock) s_.2.1 y199) ∧ (w'.heap[g193]? = some (.cells #[.slice none 0 0, .slice none 0 0] 24 (0, 0))) ∧ (w'.heap[s_.2.2]? = some (.cells #[.slice none 0 0, .slice none 0 0] 24 (0, 0))) ∧ (w.heap.size ≤ s_.2.2) ∧ (w.heap.size ≤ s_.2.2) ∧ (g193 ≠ s_.2.2) ∧ (s_.2.2 ≠ g193) ∧ (Below w.heap.size w w')) ?_ ?_
 rotate_left
 ·
  intro hJ1_3_5
  refine join_ (σ := Value × Value) 3 #[true, true, true, true, true, false, false, false] (fun s_ => [(30, s_.1), (32, s_.2), (33, .agg #[s_.1, s_.2])]) (fun s_ w' => (Kd.R (Kd.int .i64) 3 w' w.heap.size (fun k_ => some k_ ≠ (s_.2 : Value).ownBlock) s_.1 y196) ∧ (Kd.R (Kd.int .i64) 3 w' w.heap.size (fun k_ => some k_ ≠ (s_.1 : Value).ownBlock) s_.2 y199) ∧ (w'.heap[g193]? = some (.cells #[.slice none 0 0, .slice none 0 0] 24 (0, 0))) ∧ (Below w.heap.size w w')) ?_ ?_
  rotate_left
  rotate_left
  ·
   skip
   rintro ⟨v197, v200⟩ w23 ⟨h0_, h1_, h2_, h3_⟩
   have HO198 := Aa6q h0_
   have HO201 := Aa6q h1_
   have n2_ : Aside0 (w23.heap[g193]? = some (.cells #[.slice none 0 0, .slice none 0 0] 24 (0, 0))) := ⟨h2_⟩
   have n3_ : Aside0 (Below w.heap.size w w23) := ⟨h3_⟩
   clear BK193 HB
   clear h0_ h1_ h2_ h3_
   have BK193 := n2_
   have HB := n3_
   clear n2_ n3_
   have hHeld := trivial
   obtain ⟨Ao24, co24, eo24⟩ := Kd.R_slice HO201.out
   (first | subst eo24 | (injection eo24 with f1_ f2_ f3_; have f4_ := f1_.symm; have f5_ := f3_.symm; clear f1_ f2_ f3_; subst f4_; subst f5_))
   obtain ⟨Ao25, co25, eo25⟩ := Kd.R_slice HO198.out
   (first | subst eo25 | (injection eo25 with f1_ f2_ f3_; have f4_ := f1_.symm; have f5_ := f3_.symm; clear f1_ f2_ f3_; subst f4_; subst f5_))
   refine norm_ (a' := ?_) ?_ ?_
   rotate_left
   ·
    simp only [putAll, Act.put, y1a6, y2a6, y3a6]
    rfl
   refine one_ (i := 5) (N := some 5) #[true, true, true, true, true, true, false, false] rfl rfl (one_of HT_.out Za619) (by decide) (fun K hK => ?_)
   refine box_step ?hg (N := 5) ?hd (cs := #[.slice none 0 0, .slice none 0 0]) (t := 24) ?hr ?_; (case hd => rfl); (case hg => rfl); (case hr => first | (go_simp; done) | (go_simp; rfl))
   intro g202 hg w26 hbox hb
   have n0_ := Aa6q (Kd.R_below Za615 hb)
   have n1_ := Aa6q (Kd.R_below Za616 hb)
   have n2_ := Aa6q (blk_below (g := g193) (o := .cells #[.slice none 0 0, .slice none 0 0] 24 (0, 0)) Za611 hb)
   have n3_ := Aa6q (below_step Za67 hb)
   have BK202 := Aa6q (hbox)
   have GW202 := Aa6q ((Za64 : w.heap.size ≤ g202))
   have GE202 := Aa6q ((Za64 : w.heap.size ≤ g202))
   have NB193_202 := Aa6q ((Za62 : g193 ≠ g202))
   have NB202_193 := Aa6q ((Za63 : g202 ≠ g193))
   clear HO198 HO201 BK193 HB
   have HO198 := n0_
   have HO201 := n1_
   have BK193 := n2_
   have HB := n3_
   clear n0_ n1_ n2_ n3_
   clear hb hbox hg
   refine hK.out _ _ trivial (fun hHeld => ?_)
   clear hK K
   refine norm_ (a' := ?_) ?_ ?_
   rotate_left
   ·
    show Act.put _ (some 5) _ = _
    simp only [Act.put, y1a6, y2a6, y3a6, i64_w, i32_w]
    rfl
   exact norm_ Za65 (hJ1_3_5 (.slice Ao25 y196.length co25, .slice Ao24 y199.length co24, g202) _ ⟨Za615, Za616, Za611, Za612, GW202.out, GE202.out, NB193_202.out, NB202_193.out, Za66⟩)
  intro hJ1_3
  refine join_ (σ := Value × Nat) 4 #[true, true, true, false, false, true, false, false] (fun s_ => [(30, s_.1), (5, .pointer (some ⟨s_.2, 0, none⟩))]) (fun s_ w' => (Kd.R (Kd.int .i64) 3 w' w.heap.size (fun _ => True) s_.1 y196) ∧ (w'.heap[g193]? = some (.cells #[.slice none 0 0, .slice none 0 0] 24 (0, 0))) ∧ (w'.heap[s_.2]? = some (.cells #[.slice none 0 0, .slice none 0 0] 24 (0, 0))) ∧ (w.heap.size ≤ s_.2) ∧ (w.heap.size ≤ s_.2) ∧ (g193 ≠ s_.2) ∧ (s_.2 ≠ g193) ∧ (Below w.heap.size w w')) ?_ ?_
  rotate_left
  rotate_left
  ·
   skip
   rintro ⟨v197, g202⟩ w20 ⟨h0_, h1_, h2_, h3_, h4_, h5_, h6_, h7_⟩
   have HO198 : Aside0 (Kd.R (Kd.int .i64) 3 w20 w.heap.size (fun _ => True) v197 y196) := ⟨h0_⟩
   have n1_ : Aside0 (w20.heap[g193]? = some (.cells #[.slice none 0 0, .slice none 0 0] 24 (0, 0))) := ⟨h1_⟩
   have BK202 : Aside0 (w20.heap[g202]? = some (.cells #[.slice none 0 0, .slice none 0 0] 24 (0, 0))) := ⟨h2_⟩
   have GW202 := Aa6q h3_
   have GE202 := Aa6q h4_
   have NB193_202 := Aa6q h5_
   have NB202_193 := Aa6q h6_
   have n7_ : Aside0 (Below w.heap.size w w20) := ⟨h7_⟩
   clear BK193 HB
   clear h0_ h1_ h2_ h3_ h4_ h5_ h6_ h7_
   have BK193 := n1_
   have HB := n7_
   clear n1_ n7_
   have hHeld := trivial
   refine norm_ (a' := ?_) ?_ ?_
   rotate_left
   ·
    simp only [putAll, Act.put, y1a6, y2a6, y3a6]
    rfl
   refine one_ (i := 3) (N := some 32) #[true, true, true, true, false, true, false, false] rfl rfl (one_of HT_.out Za619) (by decide) (fun K hK => ?_)
   refine Kd.R_make_step (Kd.int .i64) _ 3 (by rfl) (N := 32) rfl 22 _ _ rfl ji13 rfl rfl Try.underlying22 (.int .i64 0) 8 info3 rfl (by decide) (by omega) 0 (ok := fun _ => True) (okp := fun _ => True) rfl (fun _ hk => hk) trivial (of_decide_eq_true Za618) (Nat.le_trans (Nat.mul_le_mul_right _ (of_decide_eq_true Za618 : ji13.toNat ≤ 35184372088832)) (by omega)) (Below.refl _ _) (Nat.le_refl _) ?_
   intro v200 w21 ho22 hb hg_ hnew_
   clear hg_ hnew_
   (first | rw [← Ny199.out] at ho22 | (simp only [Int.reduceToNat] at ho22; rw [← Ny199.out] at ho22))
   have n0_ := Aa6q (Kd.R_elder' Za615 (Kd.R_base ho22) hb)
   have HO201 := Aa6q (Kd.R_lower (Kd.R_new' ho22 (Kd.R_lt Za615)) (below_size Za66))
   have n2_ := Aa6q (blk_below (g := g193) (o := .cells #[.slice none 0 0, .slice none 0 0] 24 (0, 0)) Za611 hb)
   have n3_ := Aa6q (blk_below (g := g202) (o := .cells #[.slice none 0 0, .slice none 0 0] 24 (0, 0)) Za612 hb)
   have n4_ := Aa6q (below_step Za66 hb)
   clear HO198 BK193 BK202 HB
   have HO198 := n0_
   have BK193 := n2_
   have BK202 := n3_
   have HB := n4_
   clear n0_ n2_ n3_ n4_
   clear hb ho22
   obtain ⟨Ao23, co23, eo23⟩ := Kd.R_slice HO201.out
   (first | subst eo23 | (injection eo23 with f1_ f2_ f3_; have f4_ := f1_.symm; have f5_ := f3_.symm; clear f1_ f2_ f3_; subst f4_; subst f5_))
   obtain ⟨Ao24, co24, eo24⟩ := Kd.R_slice HO198.out
   (first | subst eo24 | (injection eo24 with f1_ f2_ f3_; have f4_ := f1_.symm; have f5_ := f3_.symm; clear f1_ f2_ f3_; subst f4_; subst f5_))
   refine hK.out _ _ trivial (fun hHeld => ?_)
   clear hK K
   refine norm_ (a' := ?_) ?_ ?_
   rotate_left
   ·
    show Act.put _ (some 32) _ = _
    simp only [Act.put, y1a6, y2a6, y3a6, i64_w, i32_w]
    rfl
   refine pure_ (i := 4) (N := some 33) (v := ?_) (a' := ?_) #[true, true, true, true, true, true, false, false] rfl rfl (any_of HT_.out Za619) (fun _ _ _ h => h) (Or.inl ⟨by rfl, ?_⟩) ?_ ?_
   rotate_left
   ·
    intro w'
    go_simp
    with_reducible rfl
   rotate_left
   ·
    simp only [Act.put, y1a6, y2a6, y3a6, i64_w, i32_w]
    rfl
   exact norm_ Za65 (hJ1_3_5 (.slice Ao24 y196.length co24, .slice Ao23 y199.length co23, g202) _ ⟨Za69, Za610, Za611, Za612, GW202.out, GE202.out, NB193_202.out, NB202_193.out, Za66⟩)
  intro hJ1_5
  refine join_ (σ := Value × Nat) 4 #[true, false, true, true, false, true, false, false] (fun s_ => [(32, s_.1), (5, .pointer (some ⟨s_.2, 0, none⟩))]) (fun s_ w' => (Kd.R (Kd.int .i64) 3 w' w.heap.size (fun _ => True) s_.1 y199) ∧ (w'.heap[g193]? = some (.cells #[.slice none 0 0, .slice none 0 0] 24 (0, 0))) ∧ (w'.heap[s_.2]? = some (.cells #[.slice none 0 0, .slice none 0 0] 24 (0, 0))) ∧ (w.heap.size ≤ s_.2) ∧ (w.heap.size ≤ s_.2) ∧ (g193 ≠ s_.2) ∧ (s_.2 ≠ g193) ∧ (Below w.heap.size w w')) ?_ ?_
  rotate_left
  rotate_left
  ·
   skip
   rintro ⟨v200, g202⟩ w20 ⟨h0_, h1_, h2_, h3_, h4_, h5_, h6_, h7_⟩
   have HO201 : Aside0 (Kd.R (Kd.int .i64) 3 w20 w.heap.size (fun _ => True) v200 y199) := ⟨h0_⟩
   have n1_ : Aside0 (w20.heap[g193]? = some (.cells #[.slice none 0 0, .slice none 0 0] 24 (0, 0))) := ⟨h1_⟩
   have BK202 : Aside0 (w20.heap[g202]? = some (.cells #[.slice none 0 0, .slice none 0 0] 24 (0, 0))) := ⟨h2_⟩
   have GW202 := Aa6q h3_
   have GE202 := Aa6q h4_
   have NB193_202 := Aa6q h5_
   have NB202_193 := Aa6q h6_
   have n7_ : Aside0 (Below w.heap.size w w20) := ⟨h7_⟩
   clear BK193 HB
   clear h0_ h1_ h2_ h3_ h4_ h5_ h6_ h7_
   have BK193 := n1_
   have HB := n7_
   clear n1_ n7_
   have hHeld := trivial
   refine norm_ (a' := ?_) ?_ ?_
   rotate_left
   ·
    simp only [putAll, Act.put, y1a6, y2a6, y3a6]
    rfl
   refine one_ (i := 1) (N := some 30) #[true, true, true, true, false, true, false, false] rfl rfl (one_of HT_.out Za619) (by decide) (fun K hK => ?_)
   refine Kd.R_make_step (Kd.int .i64) _ 3 (by rfl) (N := 30) rfl 22 _ _ rfl ji13 rfl rfl Try.underlying22 (.int .i64 0) 8 info3 rfl (by decide) (by omega) 0 (ok := fun _ => True) (okp := fun _ => True) rfl (fun _ hk => hk) trivial (of_decide_eq_true Za618) (Nat.le_trans (Nat.mul_le_mul_right _ (of_decide_eq_true Za618 : ji13.toNat ≤ 35184372088832)) (by omega)) (Below.refl _ _) (Nat.le_refl _) ?_
   intro v197 w21 ho22 hb hg_ hnew_
   clear hg_ hnew_
   (first | rw [← Ny196.out] at ho22 | (simp only [Int.reduceToNat] at ho22; rw [← Ny196.out] at ho22))
   have n0_ := Aa6q (Kd.R_elder' Za616 (Kd.R_base ho22) hb)
   have HO198 := Aa6q (Kd.R_lower (Kd.R_new' ho22 (Kd.R_lt Za616)) (below_size Za66))
   have n2_ := Aa6q (blk_below (g := g193) (o := .cells #[.slice none 0 0, .slice none 0 0] 24 (0, 0)) Za611 hb)
   have n3_ := Aa6q (blk_below (g := g202) (o := .cells #[.slice none 0 0, .slice none 0 0] 24 (0, 0)) Za612 hb)
   have n4_ := Aa6q (below_step Za66 hb)
   clear HO201 BK193 BK202 HB
   have HO201 := n0_
   have BK193 := n2_
   have BK202 := n3_
   have HB := n4_
   clear n0_ n2_ n3_ n4_
   clear hb ho22
   obtain ⟨Ao23, co23, eo23⟩ := Kd.R_slice HO201.out
   (first | subst eo23 | (injection eo23 with f1_ f2_ f3_; have f4_ := f1_.symm; have f5_ := f3_.symm; clear f1_ f2_ f3_; subst f4_; subst f5_))
   obtain ⟨Ao24, co24, eo24⟩ := Kd.R_slice HO198.out
   (first | subst eo24 | (injection eo24 with f1_ f2_ f3_; have f4_ := f1_.symm; have f5_ := f3_.symm; clear f1_ f2_ f3_; subst f4_; subst f5_))
   refine hK.out _ _ trivial (fun hHeld => ?_)
   clear hK K
   refine norm_ (a' := ?_) ?_ ?_
   rotate_left
   ·
    show Act.put _ (some 30) _ = _
    simp only [Act.put, y1a6, y2a6, y3a6, i64_w, i32_w]
    rfl
   refine pure_ (i := 4) (N := some 33) (v := ?_) (a' := ?_) #[true, true, true, true, true, true, false, false] rfl rfl (any_of HT_.out Za619) (fun _ _ _ h => h) (Or.inl ⟨by rfl, ?_⟩) ?_ ?_
   rotate_left
   ·
    intro w'
    go_simp
    with_reducible rfl
   rotate_left
   ·
    simp only [Act.put, y1a6, y2a6, y3a6, i64_w, i32_w]
    rfl
   exact norm_ Za65 (hJ1_3_5 (.slice Ao24 y196.length co24, .slice Ao23 y199.length co23, g202) _ ⟨Za69, Za610, Za611, Za612, GW202.out, GE202.out, NB193_202.out, NB202_193.out, Za66⟩)
  intro hJ3_5
  refine join_ (σ := Value) 5 #[true, true, true, false, false, false, false, false] (fun s_ => [(30, s_)]) (fun s_ w' => (Kd.R (Kd.int .i64) 3 w' w.heap.size (fun _ => True) s_ y196) ∧ (w'.heap[g193]? = some (.cells #[.slice none 0 0, .slice none 0 0] 24 (0, 0))) ∧ (Below w.heap.size w w')) ?_ ?_
  rotate_left
  rotate_left
  ·
   skip
   rintro v197 w19 ⟨h0_, h1_, h2_⟩
   have HO198 : Aside0 (Kd.R (Kd.int .i64) 3 w19 w.heap.size (fun _ => True) v197 y196) := ⟨h0_⟩
   have n1_ : Aside0 (w19.heap[g193]? = some (.cells #[.slice none 0 0, .slice none 0 0] 24 (0, 0))) := ⟨h1_⟩
   have n2_ : Aside0 (Below w.heap.size w w19) := ⟨h2_⟩
   clear BK193 HB
   clear h0_ h1_ h2_
   have BK193 := n1_
   have HB := n2_
   clear n1_ n2_
   have hHeld := trivial
   refine norm_ (a' := ?_) ?_ ?_
   rotate_left
   ·
    simp only [putAll, Act.put, y1a6, y2a6, y3a6]
    rfl
   refine two_ (i := 3) (j := 5) (Ni := some 32) (Nj := some 5) #[true, true, true, true, false, false, false, false] #[true, true, true, false, false, true, false, false] rfl rfl rfl rfl (two_of HT_.out Za619) (by decide) (by decide) (fun K hK => ?_) (fun K hK => ?_)
   rotate_left
   ·
    skip
    refine box_step ?hg (N := 5) ?hd (cs := #[.slice none 0 0, .slice none 0 0]) (t := 24) ?hr ?_; (case hd => rfl); (case hg => rfl); (case hr => first | (go_simp; done) | (go_simp; rfl))
    intro g202 hg w20 hbox hb
    have n0_ := Aa6q (Kd.R_below Za615 hb)
    have n1_ := Aa6q (blk_below (g := g193) (o := .cells #[.slice none 0 0, .slice none 0 0] 24 (0, 0)) Za611 hb)
    have n2_ := Aa6q (below_step Za67 hb)
    have BK202 := Aa6q (hbox)
    have GW202 := Aa6q ((Za64 : w.heap.size ≤ g202))
    have GE202 := Aa6q ((Za64 : w.heap.size ≤ g202))
    have NB193_202 := Aa6q ((Za62 : g193 ≠ g202))
    have NB202_193 := Aa6q ((Za63 : g202 ≠ g193))
    clear HO198 BK193 HB
    have HO198 := n0_
    have BK193 := n1_
    have HB := n2_
    clear n0_ n1_ n2_
    clear hb hbox hg
    refine hK.out _ _ trivial (fun hHeld => ?_)
    clear hK K
    refine norm_ (a' := ?_) ?_ ?_
    rotate_left
    ·
     show Act.put _ (some 5) _ = _
     simp only [Act.put, y1a6, y2a6, y3a6, i64_w, i32_w]
     rfl
    exact norm_ Za65 (hJ1_5 (v197, g202) _ ⟨Za615, Za611, Za612, GW202.out, GE202.out, NB193_202.out, NB202_193.out, Za66⟩)
   skip
   refine Kd.R_make_step (Kd.int .i64) _ 3 (by rfl) (N := 32) rfl 22 _ _ rfl ji13 rfl rfl Try.underlying22 (.int .i64 0) 8 info3 rfl (by decide) (by omega) 0 (ok := fun _ => True) (okp := fun _ => True) rfl (fun _ hk => hk) trivial (of_decide_eq_true Za618) (Nat.le_trans (Nat.mul_le_mul_right _ (of_decide_eq_true Za618 : ji13.toNat ≤ 35184372088832)) (by omega)) (Below.refl _ _) (Nat.le_refl _) ?_
   intro v200 w20 ho21 hb hg_ hnew_
   clear hg_ hnew_
   (first | rw [← Ny199.out] at ho21 | (simp only [Int.reduceToNat] at ho21; rw [← Ny199.out] at ho21))
   have n0_ := Aa6q (Kd.R_elder' Za615 (Kd.R_base ho21) hb)
   have HO201 := Aa6q (Kd.R_lower (Kd.R_new' ho21 (Kd.R_lt Za615)) (below_size Za67))
   have n2_ := Aa6q (blk_below (g := g193) (o := .cells #[.slice none 0 0, .slice none 0 0] 24 (0, 0)) Za611 hb)
   have n3_ := Aa6q (below_step Za67 hb)
   clear HO198 BK193 HB
   have HO198 := n0_
   have BK193 := n2_
   have HB := n3_
   clear n0_ n2_ n3_
   clear hb ho21
   obtain ⟨Ao22, co22, eo22⟩ := Kd.R_slice HO201.out
   (first | subst eo22 | (injection eo22 with f1_ f2_ f3_; have f4_ := f1_.symm; have f5_ := f3_.symm; clear f1_ f2_ f3_; subst f4_; subst f5_))
   obtain ⟨Ao23, co23, eo23⟩ := Kd.R_slice HO198.out
   (first | subst eo23 | (injection eo23 with f1_ f2_ f3_; have f4_ := f1_.symm; have f5_ := f3_.symm; clear f1_ f2_ f3_; subst f4_; subst f5_))
   refine hK.out _ _ trivial (fun hHeld => ?_)
   clear hK K
   refine norm_ (a' := ?_) ?_ ?_
   rotate_left
   ·
    show Act.put _ (some 32) _ = _
    simp only [Act.put, y1a6, y2a6, y3a6, i64_w, i32_w]
    rfl
   refine pure_ (i := 4) (N := some 33) (v := ?_) (a' := ?_) #[true, true, true, true, true, false, false, false] rfl rfl (any_of HT_.out Za619) (fun _ _ _ h => h) (Or.inl ⟨by rfl, ?_⟩) ?_ ?_
   rotate_left
   ·
    intro w'
    go_simp
    with_reducible rfl
   rotate_left
   ·
    simp only [Act.put, y1a6, y2a6, y3a6, i64_w, i32_w]
    rfl
   exact norm_ Za65 (hJ1_3 (.slice Ao23 y196.length co23, .slice Ao22 y199.length co22) _ ⟨Za69, Za610, Za611, Za67⟩)
  intro hJ1
  refine join_ (σ := Value) 5 #[true, false, true, true, false, false, false, false] (fun s_ => [(32, s_)]) (fun s_ w' => (Kd.R (Kd.int .i64) 3 w' w.heap.size (fun _ => True) s_ y199) ∧ (w'.heap[g193]? = some (.cells #[.slice none 0 0, .slice none 0 0] 24 (0, 0))) ∧ (Below w.heap.size w w')) ?_ ?_
  rotate_left
  rotate_left
  ·
   skip
   rintro v200 w19 ⟨h0_, h1_, h2_⟩
   have HO201 : Aside0 (Kd.R (Kd.int .i64) 3 w19 w.heap.size (fun _ => True) v200 y199) := ⟨h0_⟩
   have n1_ : Aside0 (w19.heap[g193]? = some (.cells #[.slice none 0 0, .slice none 0 0] 24 (0, 0))) := ⟨h1_⟩
   have n2_ : Aside0 (Below w.heap.size w w19) := ⟨h2_⟩
   clear BK193 HB
   clear h0_ h1_ h2_
   have BK193 := n1_
   have HB := n2_
   clear n1_ n2_
   have hHeld := trivial
   refine norm_ (a' := ?_) ?_ ?_
   rotate_left
   ·
    simp only [putAll, Act.put, y1a6, y2a6, y3a6]
    rfl
   refine two_ (i := 1) (j := 5) (Ni := some 30) (Nj := some 5) #[true, true, true, true, false, false, false, false] #[true, false, true, true, false, true, false, false] rfl rfl rfl rfl (two_of HT_.out Za619) (by decide) (by decide) (fun K hK => ?_) (fun K hK => ?_)
   rotate_left
   ·
    skip
    refine box_step ?hg (N := 5) ?hd (cs := #[.slice none 0 0, .slice none 0 0]) (t := 24) ?hr ?_; (case hd => rfl); (case hg => rfl); (case hr => first | (go_simp; done) | (go_simp; rfl))
    intro g202 hg w20 hbox hb
    have n0_ := Aa6q (Kd.R_below Za616 hb)
    have n1_ := Aa6q (blk_below (g := g193) (o := .cells #[.slice none 0 0, .slice none 0 0] 24 (0, 0)) Za611 hb)
    have n2_ := Aa6q (below_step Za67 hb)
    have BK202 := Aa6q (hbox)
    have GW202 := Aa6q ((Za64 : w.heap.size ≤ g202))
    have GE202 := Aa6q ((Za64 : w.heap.size ≤ g202))
    have NB193_202 := Aa6q ((Za62 : g193 ≠ g202))
    have NB202_193 := Aa6q ((Za63 : g202 ≠ g193))
    clear HO201 BK193 HB
    have HO201 := n0_
    have BK193 := n1_
    have HB := n2_
    clear n0_ n1_ n2_
    clear hb hbox hg
    refine hK.out _ _ trivial (fun hHeld => ?_)
    clear hK K
    refine norm_ (a' := ?_) ?_ ?_
    rotate_left
    ·
     show Act.put _ (some 5) _ = _
     simp only [Act.put, y1a6, y2a6, y3a6, i64_w, i32_w]
     rfl
    exact norm_ Za65 (hJ3_5 (v200, g202) _ ⟨Za616, Za611, Za612, GW202.out, GE202.out, NB193_202.out, NB202_193.out, Za66⟩)
   skip
   refine Kd.R_make_step (Kd.int .i64) _ 3 (by rfl) (N := 30) rfl 22 _ _ rfl ji13 rfl rfl Try.underlying22 (.int .i64 0) 8 info3 rfl (by decide) (by omega) 0 (ok := fun _ => True) (okp := fun _ => True) rfl (fun _ hk => hk) trivial (of_decide_eq_true Za618) (Nat.le_trans (Nat.mul_le_mul_right _ (of_decide_eq_true Za618 : ji13.toNat ≤ 35184372088832)) (by omega)) (Below.refl _ _) (Nat.le_refl _) ?_
   intro v197 w20 ho21 hb hg_ hnew_
   clear hg_ hnew_
   (first | rw [← Ny196.out] at ho21 | (simp only [Int.reduceToNat] at ho21; rw [← Ny196.out] at ho21))
   have n0_ := Aa6q (Kd.R_elder' Za616 (Kd.R_base ho21) hb)
   have HO198 := Aa6q (Kd.R_lower (Kd.R_new' ho21 (Kd.R_lt Za616)) (below_size Za67))
   have n2_ := Aa6q (blk_below (g := g193) (o := .cells #[.slice none 0 0, .slice none 0 0] 24 (0, 0)) Za611 hb)
   have n3_ := Aa6q (below_step Za67 hb)
   clear HO201 BK193 HB
   have HO201 := n0_
   have BK193 := n2_
   have HB := n3_
   clear n0_ n2_ n3_
   clear hb ho21
   obtain ⟨Ao22, co22, eo22⟩ := Kd.R_slice HO201.out
   (first | subst eo22 | (injection eo22 with f1_ f2_ f3_; have f4_ := f1_.symm; have f5_ := f3_.symm; clear f1_ f2_ f3_; subst f4_; subst f5_))
   obtain ⟨Ao23, co23, eo23⟩ := Kd.R_slice HO198.out
   (first | subst eo23 | (injection eo23 with f1_ f2_ f3_; have f4_ := f1_.symm; have f5_ := f3_.symm; clear f1_ f2_ f3_; subst f4_; subst f5_))
   refine hK.out _ _ trivial (fun hHeld => ?_)
   clear hK K
   refine norm_ (a' := ?_) ?_ ?_
   rotate_left
   ·
    show Act.put _ (some 30) _ = _
    simp only [Act.put, y1a6, y2a6, y3a6, i64_w, i32_w]
    rfl
   refine pure_ (i := 4) (N := some 33) (v := ?_) (a' := ?_) #[true, true, true, true, true, false, false, false] rfl rfl (any_of HT_.out Za619) (fun _ _ _ h => h) (Or.inl ⟨by rfl, ?_⟩) ?_ ?_
   rotate_left
   ·
    intro w'
    go_simp
    with_reducible rfl
   rotate_left
   ·
    simp only [Act.put, y1a6, y2a6, y3a6, i64_w, i32_w]
    rfl
   exact norm_ Za65 (hJ1_3 (.slice Ao23 y196.length co23, .slice Ao22 y199.length co22) _ ⟨Za69, Za610, Za611, Za67⟩)
  intro hJ3
  refine join_ (σ := Nat) 5 #[true, false, true, false, false, true, false, false] (fun s_ => [(5, .pointer (some ⟨s_, 0, none⟩))]) (fun s_ w' => (w'.heap[g193]? = some (.cells #[.slice none 0 0, .slice none 0 0] 24 (0, 0))) ∧ (w'.heap[s_]? = some (.cells #[.slice none 0 0, .slice none 0 0] 24 (0, 0))) ∧ (w.heap.size ≤ s_) ∧ (w.heap.size ≤ s_) ∧ (g193 ≠ s_) ∧ (s_ ≠ g193) ∧ (Below w.heap.size w w')) ?_ ?_
  rotate_left
  rotate_left
  ·
   skip
   rintro g202 w18 ⟨h0_, h1_, h2_, h3_, h4_, h5_, h6_⟩
   have n0_ : Aside0 (w18.heap[g193]? = some (.cells #[.slice none 0 0, .slice none 0 0] 24 (0, 0))) := ⟨h0_⟩
   have BK202 : Aside0 (w18.heap[g202]? = some (.cells #[.slice none 0 0, .slice none 0 0] 24 (0, 0))) := ⟨h1_⟩
   have GW202 := Aa6q h2_
   have GE202 := Aa6q h3_
   have NB193_202 := Aa6q h4_
   have NB202_193 := Aa6q h5_
   have n6_ : Aside0 (Below w.heap.size w w18) := ⟨h6_⟩
   clear BK193 HB
   clear h0_ h1_ h2_ h3_ h4_ h5_ h6_
   have BK193 := n0_
   have HB := n6_
   clear n0_ n6_
   have hHeld := trivial
   refine norm_ (a' := ?_) ?_ ?_
   rotate_left
   ·
    simp only [putAll, Act.put, y1a6, y2a6, y3a6]
    rfl
   refine two_ (i := 1) (j := 3) (Ni := some 30) (Nj := some 32) #[true, true, true, false, false, true, false, false] #[true, false, true, true, false, true, false, false] rfl rfl rfl rfl (two_of HT_.out Za619) (by decide) (by decide) (fun K hK => ?_) (fun K hK => ?_)
   rotate_left
   ·
    skip
    refine Kd.R_make_step (Kd.int .i64) _ 3 (by rfl) (N := 32) rfl 22 _ _ rfl ji13 rfl rfl Try.underlying22 (.int .i64 0) 8 info3 rfl (by decide) (by omega) 0 (ok := fun _ => True) (okp := fun _ => True) rfl (fun _ hk => hk) trivial (of_decide_eq_true Za618) (Nat.le_trans (Nat.mul_le_mul_right _ (of_decide_eq_true Za618 : ji13.toNat ≤ 35184372088832)) (by omega)) (Below.refl _ _) (Nat.le_refl _) ?_
    intro v200 w19 ho20 hb hg_ hnew_
    clear hg_ hnew_
    (first | rw [← Ny199.out] at ho20 | (simp only [Int.reduceToNat] at ho20; rw [← Ny199.out] at ho20))
    have HO201 := Aa6q (Kd.R_lower ho20 (below_size Za66))
    have n1_ := Aa6q (blk_below (g := g193) (o := .cells #[.slice none 0 0, .slice none 0 0] 24 (0, 0)) Za611 hb)
    have n2_ := Aa6q (blk_below (g := g202) (o := .cells #[.slice none 0 0, .slice none 0 0] 24 (0, 0)) Za612 hb)
    have n3_ := Aa6q (below_step Za66 hb)
    clear BK193 BK202 HB
    have BK193 := n1_
    have BK202 := n2_
    have HB := n3_
    clear n1_ n2_ n3_
    clear hb ho20
    refine hK.out _ _ trivial (fun hHeld => ?_)
    clear hK K
    refine norm_ (a' := ?_) ?_ ?_
    rotate_left
    ·
     show Act.put _ (some 32) _ = _
     simp only [Act.put, y1a6, y2a6, y3a6, i64_w, i32_w]
     rfl
    exact norm_ Za65 (hJ3_5 (v200, g202) _ ⟨Za616, Za611, Za612, GW202.out, GE202.out, NB193_202.out, NB202_193.out, Za66⟩)
   skip
   refine Kd.R_make_step (Kd.int .i64) _ 3 (by rfl) (N := 30) rfl 22 _ _ rfl ji13 rfl rfl Try.underlying22 (.int .i64 0) 8 info3 rfl (by decide) (by omega) 0 (ok := fun _ => True) (okp := fun _ => True) rfl (fun _ hk => hk) trivial (of_decide_eq_true Za618) (Nat.le_trans (Nat.mul_le_mul_right _ (of_decide_eq_true Za618 : ji13.toNat ≤ 35184372088832)) (by omega)) (Below.refl _ _) (Nat.le_refl _) ?_
   intro v197 w19 ho20 hb hg_ hnew_
   clear hg_ hnew_
   (first | rw [← Ny196.out] at ho20 | (simp only [Int.reduceToNat] at ho20; rw [← Ny196.out] at ho20))
   have HO198 := Aa6q (Kd.R_lower ho20 (below_size Za66))
   have n1_ := Aa6q (blk_below (g := g193) (o := .cells #[.slice none 0 0, .slice none 0 0] 24 (0, 0)) Za611 hb)
   have n2_ := Aa6q (blk_below (g := g202) (o := .cells #[.slice none 0 0, .slice none 0 0] 24 (0, 0)) Za612 hb)
   have n3_ := Aa6q (below_step Za66 hb)
   clear BK193 BK202 HB
   have BK193 := n1_
   have BK202 := n2_
   have HB := n3_
   clear n1_ n2_ n3_
   clear hb ho20
   refine hK.out _ _ trivial (fun hHeld => ?_)
   clear hK K
   refine norm_ (a' := ?_) ?_ ?_
   rotate_left
   ·
    show Act.put _ (some 30) _ = _
    simp only [Act.put, y1a6, y2a6, y3a6, i64_w, i32_w]
    rfl
   exact norm_ Za65 (hJ1_5 (v197, g202) _ ⟨Za615, Za611, Za612, GW202.out, GE202.out, NB193_202.out, NB202_193.out, Za66⟩)
  intro hJ5
  refine three_ (i := 1) (j := 3) (k := 5) (Ni := some 30) (Nj := some 32) (Nk := some 5) #[true, true, true, false, false, false, false, false] #[true, false, true, true, false, false, false, false] #[true, false, true, false, false, true, false, false] rfl rfl rfl rfl rfl rfl (three_of HT_.out Za619) (by decide) (by decide) (by decide) (fun K hK => ?_) (fun K hK => ?_) (fun K hK => ?_)
  rotate_left
  ·
   skip
   refine Kd.R_make_step (Kd.int .i64) _ 3 (by rfl) (N := 32) rfl 22 _ _ rfl ji13 rfl rfl Try.underlying22 (.int .i64 0) 8 info3 rfl (by decide) (by omega) 0 (ok := fun _ => True) (okp := fun _ => True) rfl (fun _ hk => hk) trivial (of_decide_eq_true Za618) (Nat.le_trans (Nat.mul_le_mul_right _ (of_decide_eq_true Za618 : ji13.toNat ≤ 35184372088832)) (by omega)) (Below.refl _ _) (Nat.le_refl _) ?_
   intro v200 w17 ho18 hb hg_ hnew_
   clear hg_ hnew_
   (first | rw [← Ny199.out] at ho18 | (simp only [Int.reduceToNat] at ho18; rw [← Ny199.out] at ho18))
   have HO201 := Aa6q (Kd.R_lower ho18 (below_size Za67))
   have n1_ := Aa6q (blk_below (g := g193) (o := .cells #[.slice none 0 0, .slice none 0 0] 24 (0, 0)) Za611 hb)
   have n2_ := Aa6q (below_step Za67 hb)
   clear BK193 HB
   have BK193 := n1_
   have HB := n2_
   clear n1_ n2_
   clear hb ho18
   refine hK.out _ _ trivial (fun hHeld => ?_)
   clear hK K
   refine norm_ (a' := ?_) ?_ ?_
   rotate_left
   ·
    show Act.put _ (some 32) _ = _
    simp only [Act.put, y1a6, y2a6, y3a6, i64_w, i32_w]
    rfl
   exact norm_ Za65 (hJ3 (v200) _ ⟨Za616, Za611, Za67⟩)
  ·
   skip
   refine box_step ?hg (N := 5) ?hd (cs := #[.slice none 0 0, .slice none 0 0]) (t := 24) ?hr ?_; (case hd => rfl); (case hg => rfl); (case hr => first | (go_simp; done) | (go_simp; rfl))
   intro g202 hg w17 hbox hb
   have n0_ := Aa6q (blk_below (g := g193) (o := .cells #[.slice none 0 0, .slice none 0 0] 24 (0, 0)) Za611 hb)
   have n1_ := Aa6q (below_step Za67 hb)
   have BK202 := Aa6q (hbox)
   have GW202 := Aa6q ((Za64 : w.heap.size ≤ g202))
   have GE202 := Aa6q ((Za64 : w.heap.size ≤ g202))
   have NB193_202 := Aa6q ((Za62 : g193 ≠ g202))
   have NB202_193 := Aa6q ((Za63 : g202 ≠ g193))
   clear BK193 HB
   have BK193 := n0_
   have HB := n1_
   clear n0_ n1_
   clear hb hbox hg
   refine hK.out _ _ trivial (fun hHeld => ?_)
   clear hK K
   refine norm_ (a' := ?_) ?_ ?_
   rotate_left
   ·
    show Act.put _ (some 5) _ = _
    simp only [Act.put, y1a6, y2a6, y3a6, i64_w, i32_w]
    rfl
   exact norm_ Za65 (hJ5 (g202) _ ⟨Za611, Za612, GW202.out, GE202.out, NB193_202.out, NB202_193.out, Za66⟩)
  skip
  refine Kd.R_make_step (Kd.int .i64) _ 3 (by rfl) (N := 30) rfl 22 _ _ rfl ji13 rfl rfl Try.underlying22 (.int .i64 0) 8 info3 rfl (by decide) (by omega) 0 (ok := fun _ => True) (okp := fun _ => True) rfl (fun _ hk => hk) trivial (of_decide_eq_true Za618) (Nat.le_trans (Nat.mul_le_mul_right _ (of_decide_eq_true Za618 : ji13.toNat ≤ 35184372088832)) (by omega)) (Below.refl _ _) (Nat.le_refl _) ?_
  intro v197 w17 ho18 hb hg_ hnew_
  clear hg_ hnew_
  (first | rw [← Ny196.out] at ho18 | (simp only [Int.reduceToNat] at ho18; rw [← Ny196.out] at ho18))
  have HO198 := Aa6q (Kd.R_lower ho18 (below_size Za67))
  have n1_ := Aa6q (blk_below (g := g193) (o := .cells #[.slice none 0 0, .slice none 0 0] 24 (0, 0)) Za611 hb)
  have n2_ := Aa6q (below_step Za67 hb)
  clear BK193 HB
  have BK193 := n1_
  have HB := n2_
  clear n1_ n2_
  clear hb ho18
  refine hK.out _ _ trivial (fun hHeld => ?_)
  clear hK K
  refine norm_ (a' := ?_) ?_ ?_
  rotate_left
  ·
   show Act.put _ (some 30) _ = _
   simp only [Act.put, y1a6, y2a6, y3a6, i64_w, i32_w]
   rfl
  exact norm_ Za65 (hJ1 (v197) _ ⟨Za615, Za611, Za67⟩)
 rintro ⟨v197, v200, g202⟩ w24 ⟨h0_, h1_, h2_, h3_, h4_, h5_, h6_, h7_, h8_⟩
 have HO198 := Aa6q h0_
 have HO201 := Aa6q h1_
 have n2_ : Aside0 (w24.heap[g193]? = some (.cells #[.slice none 0 0, .slice none 0 0] 24 (0, 0))) := ⟨h2_⟩
 have BK202 : Aside0 (w24.heap[g202]? = some (.cells #[.slice none 0 0, .slice none 0 0] 24 (0, 0))) := ⟨h3_⟩
 have GW202 := Aa6q h4_
 have GE202 := Aa6q h5_
 have NB193_202 := Aa6q h6_
 have NB202_193 := Aa6q h7_
 have n8_ : Aside0 (Below w.heap.size w w24) := ⟨h8_⟩
 clear BK193 HB
 clear h0_ h1_ h2_ h3_ h4_ h5_ h6_ h7_ h8_
 have BK193 := n2_
 have HB := n8_
 clear n2_ n8_
 have hHeld := trivial
 obtain ⟨Ao25, co25, eo25⟩ := Kd.R_slice HO201.out
 (first | subst eo25 | (injection eo25 with f1_ f2_ f3_; have f4_ := f1_.symm; have f5_ := f3_.symm; clear f1_ f2_ f3_; subst f4_; subst f5_))
 obtain ⟨Ao26, co26, eo26⟩ := Kd.R_slice HO198.out
 (first | subst eo26 | (injection eo26 with f1_ f2_ f3_; have f4_ := f1_.symm; have f5_ := f3_.symm; clear f1_ f2_ f3_; subst f4_; subst f5_))
 refine norm_ (a' := ?_) ?_ ?_
 rotate_left
 ·
  simp only [putAll, Act.put, y1a6, y2a6, y3a6]
  rfl
 refine one_ (i := 6) (N := none) #[true, true, true, true, true, true, true, false] rfl rfl (one_of HT_.out Za619) (by decide) (fun K hK => ?_)
 have hs27 : w24.cell? ⟨g202, 0, none⟩ = some (.slice none 0 0) := (blk_cell BK202.out 0).trans rfl
 have hfs27 := blk_frozen BK202.out 0
 have hns27_0 := NB193_202.out
 have hms27_0 := NB202_193.out
 have hs28 : w24.cell? ⟨g202, 1, none⟩ = some (.slice none 0 0) := (blk_cell BK202.out 1).trans rfl
 have hfs28 := blk_frozen BK202.out 1
 have hns28_0 := NB193_202.out
 have hms28_0 := NB202_193.out
 refine skip_ (w1 := ?_) (by rfl) rfl ?_ ?_
 rotate_left
 ·
  go_simp
  rfl
 refine hK.out _ _ trivial (fun hHeld => ?_)
 clear hK K
 refine pure_ (i := 7) (N := some 6) (v := ?_) (a' := ?_) #[true, true, true, true, true, true, true, true] rfl rfl (any_of HT_.out Za619) (fun _ _ _ h => h) (Or.inl ⟨by rfl, ?_⟩) ?_ ?_
 rotate_left
 ·
  intro w'
  go_simp
  with_reducible rfl
 rotate_left
 ·
  simp only [Act.put, y1a6, y2a6, y3a6, i64_w, i32_w]
  rfl
 refine done_ (done_of HT_.out Za619) ?_
 try go_wp2
 go_loopg [6, 7] kj1 (fun kq v6 v7 w' => ∃ (x6_2 : Int) (x7_2 : Int) (x203000_2 : List Int) (x203001_2 : List Int) (u203000 : Value) (u203001 : Value), v6 = .int .i64 x6_2 ∧ v7 = .int .i64 x7_2 ∧ Aside0 (impl_LevelsOf.l0 kq l0 ji13 x6_2 x7_2 x203000_2 x203001_2 = some (r1, r2, r3)) ∧ Aside0 (kq ≤ kj1) ∧ Aside0 (Kd.R (Kd.int .i64) 3 w' w.heap.size (fun k_ => some k_ ≠ (u203001 : Value).ownBlock) u203000 x203000_2) ∧ Aside0 (Kd.R (Kd.int .i64) 3 w' w.heap.size (fun k_ => some k_ ≠ (u203000 : Value).ownBlock) u203001 x203001_2) ∧ Aside0 (w'.heap[g193]? = some (.cells #[(.slice none 0 0), (.slice none 0 0)] 24 (0, 0))) ∧ Aside0 (w'.heap[g202]? = some (.cells #[u203000, u203001] 24 (0, 0))) ∧ Aside0 (Below w.heap.size w w'))
 case atStart => exact ⟨(1), (1), (y196), (y199), (.slice Ao26 y196.length co26), (.slice Ao25 y199.length co25), Za617, Za617, H', ⟨Nat.le_refl _⟩, ⟨by (with_reducible repeat (first | apply Kd.R_alloc | apply Kd.R_drewN | apply Kd.R_drew)); exact Kd.R_mono (Kd.R_far (p := ⟨g202, 1, none⟩) (Kd.R_far (p := ⟨g202, 0, none⟩) (Kd.R_types HO198.out BK202.out (by decide)) (fun _ hk => hk.2) (.slice Ao26 y196.length co26)) (fun _ hk => hk.2) (.slice Ao25 y199.length co25)) (fun _ hk => hk.1)⟩, ⟨by (with_reducible repeat (first | apply Kd.R_alloc | apply Kd.R_drewN | apply Kd.R_drew)); exact Kd.R_mono (Kd.R_far (p := ⟨g202, 1, none⟩) (Kd.R_far (p := ⟨g202, 0, none⟩) (Kd.R_types HO201.out BK202.out (by decide)) (fun _ hk => hk.2) (.slice Ao26 y196.length co26)) (fun _ hk => hk.2) (.slice Ao25 y199.length co25)) (fun _ hk => hk.1)⟩, ⟨by (with_reducible repeat (first | refine blk_drewN ?_ _ | refine blk_drew ?_ | refine blk_alloc ?_ _)); refine blk_far ?_ NB193_202.out _; (with_reducible repeat (first | refine blk_drewN ?_ _ | refine blk_drew ?_ | refine blk_alloc ?_ _)); refine blk_far ?_ NB193_202.out _; (with_reducible repeat (first | refine blk_drewN ?_ _ | refine blk_drew ?_ | refine blk_alloc ?_ _)); exact BK193.out⟩, ⟨by (with_reducible repeat (first | refine blk_drewN ?_ _ | refine blk_drew ?_ | refine blk_alloc ?_ _)); refine blk_put (cs := #[.slice Ao26 y196.length co26, .slice none 0 0]) ?_ 1 _ rfl; (with_reducible repeat (first | refine blk_drewN ?_ _ | refine blk_drew ?_ | refine blk_alloc ?_ _)); refine blk_put (cs := #[.slice none 0 0, .slice none 0 0]) ?_ 0 _ rfl; (with_reducible repeat (first | refine blk_drewN ?_ _ | refine blk_drew ?_ | refine blk_alloc ?_ _)); exact BK202.out⟩, ⟨by repeat (first | (with_reducible first | exact HB.out | apply below_alloc | apply pw_below_drewN | apply below_drew1 | refine below_set ?_ GE193.out | refine below_set ?_ GE202.out) | exact HB.out)⟩⟩
 clear H'
 try clear p2
 obtain ⟨x6_2, x7_2, x203000_2, x203001_2, u203000, u203001, rfl, rfl, HA, HK2, HO_203000, HO_203001, BK193, BK202, HB⟩ := hrel
 obtain _ | k2 := gk
 · exact absurd HA.out (by simp [impl_LevelsOf.l0])
 have H := HA.out
 clear HA
 simp only [impl_LevelsOf.l0] at H
 by_cases c29 : x7_2 < (l0.length : Int)
 rotate_left
 ·
  rw [if_neg c29] at H
  have c29b0 : decide (x7_2 < (l0.length : Int)) = false := decide_eq_false c29
  clear c29
  obtain ⟨ji81, hji81⟩ : ∃ j_ : Int, (wrap64 (ji13 - 1)) = j_ := ⟨_, rfl⟩
  replace H : (if 0 ≤ (ji81) then (if (ji81) < (x203001_2.length : Int) then (some (x203000_2, (x203001_2.set ((ji81) : Int).toNat 1), true)) else (none)) else (none)) = some (r1, r2, r3) := by first | (rw [hji81] at H; exact H) | (simp only [hji81] at H ⊢; exact H)
  have hji81w : (IntKind.i64.wrap (ji13 - 1)) = ji81 := (i64_w _).trans hji81
  by_cases c82 : 0 ≤ (ji81)
  rotate_left
  ·
   rw [if_neg c82] at H
   exact absurd H (by simp)
  rw [if_pos c82] at H
  have c82b0 : decide (0 ≤ (ji81)) = true := decide_eq_true c82
  clear c82
  by_cases c83 : (ji81) < (x203001_2.length : Int)
  rotate_left
  ·
   rw [if_neg c83] at H
   exact absurd H (by simp)
  rw [if_pos c83] at H
  have c83b0 : decide ((ji81) < (x203001_2.length : Int)) = true := decide_eq_true c83
  clear c83
  obtain ⟨y203, hy203⟩ : ∃ y_ : List Int, y_ = (x203001_2.set ((ji81) : Int).toNat 1) := ⟨_, rfl⟩
  replace H : (some (x203000_2, y203, true)) = some (r1, r2, r3) := by first | (rw [hy203]; with_reducible exact H) | (have H2_ := (Option.bind_some _ _).symm.trans H; rw [hy203]; with_reducible exact H2_) | (have H2_ := (Option.bind_some _ _).symm.trans H; with_reducible exact H2_) | with_reducible exact H | (rw [hy203]; exact H) | exact H
  have Ny203 := Aa6q hy203
  clear hy203
  simp only [Option.some.injEq, Prod.mk.injEq] at H
  obtain ⟨rfl, rfl, rfl⟩ := H
  have hnb85 := NB202_193.out
  have hnc85 := NB193_202.out
  have hcz86_0 : wr.cell? ⟨g202, 0, none⟩ = some (u203000) := (blk_cell BK202.out 0).trans rfl
  have hcz86_1 : wr.cell? ⟨g202, 1, none⟩ = some (u203001) := (blk_cell BK202.out 1).trans rfl
  have hfz86_0 := blk_frozen BK202.out 0
  have hfz86_1 := blk_frozen BK202.out 1
  have p84 : 0 ≤ ((ji81) : Int) := of_decide_eq_true Za618
  have q84 : ((ji81) : Int) < ((x203001_2.length : Int) : Int) := of_decide_eq_true Za618
  obtain ⟨go84, co84, eo84, g84, gl84, cl84, HG84⟩ := Kd.R_form HO_203001.out (by omega)
  (first | cases eo84 | (injection eo84 with ea_ en_ ec_; (first | subst ea_ | (injection ea_ with ea_; subst ea_)); subst ec_; clear en_))
  have GB84 := Aa6q g84
  have GG84 := Aa6q HG84
  clear g84 gl84 HG84
  obtain ⟨hx84_0, hf84_0⟩ := Kd.R_celln 0 HO_203001.out ((ji81) : Int) p84 q84
  replace p84 := eq_true p84
  replace q84 := eq_true q84
  have HP87 := Kd.R_putg HO_203001.out ((ji81) : Int) 1
  go_wp2_with (first | ((with_reducible refine gate_store (t := 3) (p := 87) rfl ?_); refine store_event (t := 3) (p := 87) (v := ?vo_w88) (w1 := (wr.setCell ⟨go84, ((ji81) : Int).toNat, none⟩ (.int .i64 1))) ?hg ?ho ?hn ?hr ?_; (case ho => rfl); (case hg => rfl); (case hn => rfl); (case hr => first | (go_simp; done) | (go_simp; rfl)); intro w88 hw; have hg : wr.grownBy w88 (some go84) := (by rw [hw]; exact HP87.2); have hp_ : Kd.R (Kd.int .i64) 3 w88 w.heap.size (fun k_ => some k_ ≠ (u203000 : Value).ownBlock) (.slice (some ⟨go84, 0, none⟩) x203001_2.length co84) y203 := (by rw [hw, Ny203.out]; exact HP87.1); clear HP87; have n0_ := Aa6q (Kd.R_after (v := (.slice (some ⟨go84, 0, none⟩) x203001_2.length co84)) (v1 := (.slice (some ⟨go84, 0, none⟩) x203001_2.length co84)) (ok := (fun _ => True)) (by (with_reducible repeat (first | apply Kd.R_alloc | apply Kd.R_drewN | apply Kd.R_drew)); exact Kd.R_mono HO_203000.out (fun _ hk => ⟨trivial, hk⟩)) hg (.inl rfl)); have n1_ := Aa6q (hp_); have n2_ := Aa6q (blk_grown (g := g193) (o := .cells #[.slice none 0 0, .slice none 0 0] 24 (0, 0)) Za611 hg (Kd.R_ne HO_203001.out BK193.out (by decide))); have n3_ := Aa6q (blk_grown (g := g202) (o := .cells #[u203000, .slice (some ⟨go84, 0, none⟩) x203001_2.length co84] 24 (0, 0)) Za612 hg (Kd.R_ne HO_203001.out BK202.out (by decide))); have n4_ := Aa6q ((by rw [hw]; exact below_set (HB.out) GB84.out : Below w.heap.size w w88)); clear HO_203000; clear HO_203001; clear BK193; clear BK202; clear HB; have HO_203000 := n0_; have HO_203001 := n1_; have BK193 := n2_; have BK202 := n3_; have HB := n4_; clear n0_ n1_ n2_ n3_ n4_; clear hg hw hp_; have hcz89_0 : w88.cell? ⟨g202, 0, none⟩ = some (u203000) := (blk_cell BK202.out 0).trans rfl; have hcz89_1 : w88.cell? ⟨g202, 1, none⟩ = some (.slice (some ⟨go84, 0, none⟩) x203001_2.length co84) := (blk_cell BK202.out 1).trans rfl; have hfz89_0 := blk_frozen BK202.out 0; have hfz89_1 := blk_frozen BK202.out 1; obtain ⟨Ao90, co90, eo90⟩ := Kd.R_slice HO_203000.out; subst eo90; have hcz91_0 : w88.cell? ⟨g193, 0, none⟩ = some (.slice none 0 0) := (blk_cell BK193.out 0).trans rfl; have hcz91_1 : w88.cell? ⟨g193, 1, none⟩ = some (.slice none 0 0) := (blk_cell BK193.out 1).trans rfl; have hfz91_0 := blk_frozen BK193.out 0; have hfz91_1 := blk_frozen BK193.out 1))
  refine bodyPost_ret (results_ct rfl _ _ g193 24 #[.slice Ao90 x203000_2.length co90, .slice (some ⟨go84, 0, none⟩) x203001_2.length co84] (0, 0) _ rfl (by (with_reducible repeat (first | refine blk_drewN ?_ _ | refine blk_drew ?_ | refine blk_alloc ?_ _)); refine blk_put (cs := #[.slice Ao90 x203000_2.length co90, .slice none 0 0]) ?_ 1 _ rfl; (with_reducible repeat (first | refine blk_drewN ?_ _ | refine blk_drew ?_ | refine blk_alloc ?_ _)); refine blk_put (cs := #[.slice none 0 0, .slice none 0 0]) ?_ 0 _ rfl; (with_reducible repeat (first | refine blk_drewN ?_ _ | refine blk_drew ?_ | refine blk_alloc ?_ _)); exact BK193.out) Try.underlying24 rfl Za619) rfl ?_
  exact ⟨_, _, by first | rfl | (simp [errW_none, errW_some] <;> rfl) | (simp only [← hji13, ← hji81]; first | rfl | (simp [errW_none, errW_some] <;> rfl)) | (simp [*, errW_none, errW_some] <;> rfl), by (with_reducible repeat (first | apply Kd.R_alloc | apply Kd.R_drewN | apply Kd.R_drew)); exact Kd.R_mono (Kd.R_far (p := ⟨g193, 1, none⟩) (Kd.R_far (p := ⟨g193, 0, none⟩) (Kd.R_types HO_203000.out BK193.out (by decide)) (fun _ hk => hk.2) (.slice Ao90 x203000_2.length co90)) (fun _ hk => hk.2) (.slice (some ⟨go84, 0, none⟩) x203001_2.length co84)) (fun _ hk => hk.1.2), by (with_reducible repeat (first | apply Kd.R_alloc | apply Kd.R_drewN | apply Kd.R_drew)); exact Kd.R_mono (Kd.R_far (p := ⟨g193, 1, none⟩) (Kd.R_far (p := ⟨g193, 0, none⟩) (Kd.R_types HO_203001.out BK193.out (by decide)) (fun _ hk => hk.2) (.slice Ao90 x203000_2.length co90)) (fun _ hk => hk.2) (.slice (some ⟨go84, 0, none⟩) x203001_2.length co84)) (fun _ hk => hk.1), by repeat (first | (with_reducible first | exact HB.out | apply below_alloc | apply pw_below_drewN | apply below_drew1 | refine below_set ?_ GE193.out | refine below_set ?_ GE202.out) | exact HB.out)⟩
 rw [if_pos c29] at H
 have c29b0 : decide (x7_2 < (l0.length : Int)) = true := decide_eq_true c29
 clear c29
 by_cases c30 : 0 ≤ x7_2
 rotate_left
 ·
  rw [if_neg c30] at H
  exact absurd H (by simp)
 rw [if_pos c30] at H
 have c30b0 : decide (0 ≤ x7_2) = true := decide_eq_true c30
 clear c30
 replace H := Option.bind_eq_some_iff.mp H
 obtain ⟨t205, A310, H⟩ := H
 replace H : (if x6_2 = 0 then (none) else (if (Int.tmod (wrap64 ((rd l0 x7_2) - t205)) x6_2) = 0 then (if (Int.tmod x7_2 2) = 1 then ((impl_in.f (wrap64 (Int.tdiv (wrap64 ((rd l0 x7_2) - t205)) x6_2)) (-5) 5).bind fun t206 => (if t206 = true then (if 0 ≤ (wrap64 (Int.tdiv x7_2 2)) then (if (wrap64 (Int.tdiv x7_2 2)) < (x203000_2.length : Int) then (impl_LevelsOf.l0 k2 l0 ji13 x6_2 (wrap64 (x7_2 + 1)) (x203000_2.set ((wrap64 (Int.tdiv x7_2 2)) : Int).toNat (wrap64 (Int.tdiv (wrap64 ((rd l0 x7_2) - t205)) x6_2))) x203001_2) else (none)) else (none)) else (some (([] : List Int), ([] : List Int), false)))) else ((impl_in.f (wrap64 (Int.tdiv (wrap64 ((rd l0 x7_2) - t205)) x6_2)) 1 5).bind fun t208 => (if t208 = true then (if 0 ≤ (wrap64 ((wrap64 (Int.tdiv x7_2 2)) - 1)) then (if (wrap64 ((wrap64 (Int.tdiv x7_2 2)) - 1)) < (x203001_2.length : Int) then (impl_LevelsOf.l0 k2 l0 ji13 (wrap64 (x6_2 * (wrap64 (Int.tdiv (wrap64 ((rd l0 x7_2) - t205)) x6_2)))) (wrap64 (x7_2 + 1)) x203000_2 (x203001_2.set ((wrap64 ((wrap64 (Int.tdiv x7_2 2)) - 1)) : Int).toNat (wrap64 (Int.tdiv (wrap64 ((rd l0 x7_2) - t205)) x6_2)))) else (none)) else (none)) else (some (([] : List Int), ([] : List Int), false))))) else (some (([] : List Int), ([] : List Int), false)))) = some (r1, r2, r3) := H
 have A31 := Aa6q A310
 clear A310
 by_cases c32 : x6_2 = 0
 ·
  rw [if_pos c32] at H
  exact absurd H (by simp)
 rw [if_neg c32] at H
 have c32b0 : (x6_2 == 0) = false := beq_eq_false_iff_ne.mpr c32
 have c32b1 : (x6_2 != 0) = true := bne_iff_ne.mpr c32
 by_cases c33 : (Int.tmod (wrap64 ((rd l0 x7_2) - t205)) x6_2) = 0
 rotate_left
 ·
  rw [if_neg c33] at H
  have c33b0 : ((Int.tmod (wrap64 ((rd l0 x7_2) - t205)) x6_2) == 0) = false := beq_eq_false_iff_ne.mpr c33
  have c33b1 : ((Int.tmod (wrap64 ((rd l0 x7_2) - t205)) x6_2) != 0) = true := bne_iff_ne.mpr c33
  simp only [Option.some.injEq, Prod.mk.injEq] at H
  obtain ⟨rfl, rfl, rfl⟩ := H
  try go_wp2
  have n0_ := Aa6q (Kd.R_drew HO_203000.out)
  have n1_ := Aa6q (Kd.R_drew HO_203001.out)
  have n2_ := Aa6q (blk_drew BK193.out)
  have n3_ := Aa6q (blk_drew BK202.out)
  have n4_ := Aa6q (below_drew1 HB.out)
  clear HO_203000 HO_203001 BK193 BK202 HB
  have HO_203000 := n0_
  have HO_203001 := n1_
  have BK193 := n2_
  have BK202 := n3_
  have HB := n4_
  clear n0_ n1_ n2_ n3_ n4_
  have p204 : 0 ≤ (x7_2 : Int) := of_decide_eq_true Za618
  have q204 : x7_2 < (l0.length : Int) := of_decide_eq_true Za618
  obtain ⟨ad204, e204, hx204_0⟩ := Kd.at_int HR0.out x7_2 p204 q204
  have hw204_0 := hx204_0
  cases e204
  replace hx204_0 := (HB.out.cell (World.block_lt_of_cell? w _ hx204_0)).trans hx204_0
  replace p204 := eq_true p204
  replace q204 := eq_true q204
  obtain ⟨Ao76, co76, eo76⟩ := Kd.R_slice HO_203000.out
  (first | subst eo76 | (injection eo76 with f1_ f2_ f3_; have f4_ := f1_.symm; have f5_ := f3_.symm; clear f1_ f2_ f3_; subst f4_; subst f5_))
  obtain ⟨Ao77, co77, eo77⟩ := Kd.R_slice HO_203001.out
  (first | subst eo77 | (injection eo77 with f1_ f2_ f3_; have f4_ := f1_.symm; have f5_ := f3_.symm; clear f1_ f2_ f3_; subst f4_; subst f5_))
  refine start_ (n := 9) (S := fun w' => w'.cell? ⟨g202, 0, none⟩ = some (.slice Ao76 x203000_2.length co76) ∧ w'.cell? ⟨g202, 1, none⟩ = some (.slice Ao77 x203001_2.length co77) ∧ w'.cell? (ad204.add (x7_2).toNat) = some (.int .i64 (rd l0 x7_2))) (ds := []) #[false, false, false, false, false, false, false, false, false] Za619 rfl rfl ⟨(blk_cell BK202.out 0).trans rfl, (blk_cell BK202.out 1).trans rfl, ((HB.out.cell (World.block_lt_of_cell? w _ hw204_0)).trans hw204_0)⟩ (fun hHeld => ?_); refine with_tabW impl_LevelsOf.tab8 impl_LevelsOf.bits8 (fun HT_ HW_ => ?_)
  generalize wr.drew = w75 at HO_203000 HO_203001 BK193 BK202 HB hx204_0 hHeld ⊢
  refine pure_ (i := 0) (N := some 40) (v := ?_) (a' := ?_) #[true, false, false, false, false, false, false, false, false] rfl rfl (any_of HT_.out Za619) (fun _ _ _ h => h) (Or.inl ⟨by rfl, ?_⟩) ?_ ?_
  rotate_left
  ·
   intro w'
   go_simp
   with_reducible rfl
  rotate_left
  ·
   simp only [Act.put, y1a6, y2a6, y3a6, i64_w, i32_w]
   rfl
  refine pure_ (i := 1) (N := some 41) (v := ?_) (a' := ?_) #[true, true, false, false, false, false, false, false, false] rfl rfl (any_of HT_.out Za619) (fun _ _ _ h => h) (Or.inl ⟨by rfl, ?_⟩) ?_ ?_
  rotate_left
  ·
   intro w'
   go_simp
   with_reducible rfl
  rotate_left
  ·
   simp only [Act.put, y1a6, y2a6, y3a6, i64_w, i32_w]
   rfl
  refine pure_ (i := 2) (N := some 42) (v := ?_) (a' := ?_) #[true, true, true, false, false, false, false, false, false] rfl rfl (any_of HT_.out Za619) (fun _ _ _ h => h) (Or.inl ⟨by rfl, ?_⟩) ?_ ?_
  rotate_left
  ·
   intro w'
   go_simp
   with_reducible rfl
  rotate_left
  ·
   simp only [Act.put, y1a6, y2a6, y3a6, i64_w, i32_w]
   rfl
  refine pure_ (i := 5) (N := some 45) (v := ?_) (a' := ?_) #[true, true, true, false, false, true, false, false, false] rfl rfl (any_of HT_.out Za619) (fun _ _ _ h => h) (Or.inl ⟨by rfl, ?_⟩) ?_ ?_
  rotate_left
  ·
   intro w'
   go_simp
   with_reducible rfl
  rotate_left
  ·
   simp only [Act.put, y1a6, y2a6, y3a6, i64_w, i32_w]
   rfl
  refine take_ (i := 3) (N := some 43) (v := ?_) (a' := ?_) #[true, true, true, true, false, true, false, false, false] rfl rfl (take_ofW HT_.out HW_.out Za619) (fun _ _ _ h => h) (Or.inl ⟨by rfl, ?_⟩) hHeld ?_ ?_
  rotate_left
  ·
   rintro w' ⟨s0, s1, s2⟩
   go_simp
   with_reducible rfl
  rotate_left
  ·
   simp only [Act.put, y1a6, y2a6, y3a6, i64_w, i32_w]
   rfl
  refine take_ (i := 4) (N := some 44) (v := ?_) (a' := ?_) #[true, true, true, true, true, true, false, false, false] rfl rfl (take_ofW HT_.out HW_.out Za619) (fun _ _ _ h => h) (Or.inl ⟨by rfl, ?_⟩) hHeld ?_ ?_
  rotate_left
  ·
   rintro w' ⟨s0, s1, s2⟩
   go_simp
   with_reducible rfl
  rotate_left
  ·
   simp only [Act.put, y1a6, y2a6, y3a6, i64_w, i32_w]
   rfl
  refine one_ (i := 6) (N := some 46) #[true, true, true, true, true, true, true, false, false] rfl rfl (one_of HT_.out Za619) (by decide) (fun K hK => ?_)
  refine goes_ Try.func16 Za619 rfl #[.agg #[.slice Ao76 x203000_2.length co76, .slice Ao77 x203001_2.length co77], .int .i64 x7_2] (by rfl) rfl rfl Za68 ?_
  with_reducible refine (impl_Levels_moment.calls k2 _ _ x203000_2 _ _ x203001_2 x7_2 t205 _ ?side1 ?side2 ?side3 ?side4 A31.out).mono ?_
  (case side1 => repeat (first | exact (Kd.R_reads' HO_203000.out).2.2 | (with_reducible refine Kd.C_alloc ?_ _) | (with_reducible refine Kd.C_drewN ?_ _) | (with_reducible refine Kd.C_drew ?_)))
  (case side2 => exact (Kd.R_reads' HO_203000.out).2.1)
  (case side3 => repeat (first | exact (Kd.R_reads' HO_203001.out).2.2 | (with_reducible refine Kd.C_alloc ?_ _) | (with_reducible refine Kd.C_drewN ?_ _) | (with_reducible refine Kd.C_drew ?_)))
  (case side4 => exact (Kd.R_reads' HO_203001.out).2.1)
  rintro e w78 ⟨rfl, hb⟩
  refine ⟨_, rfl, ?_⟩
  have n0_ := Aa6q (Kd.R_below Za613 hb)
  have n1_ := Aa6q (Kd.R_below Za614 hb)
  have n2_ := Aa6q (blk_below (g := g193) (o := .cells #[.slice none 0 0, .slice none 0 0] 24 (0, 0)) Za611 hb)
  have n3_ := Aa6q (blk_below (g := g202) (o := .cells #[.slice Ao76 x203000_2.length co76, .slice Ao77 x203001_2.length co77] 24 (0, 0)) Za612 hb)
  have n4_ := Aa6q (below_step Za66 hb)
  clear HO_203000 HO_203001 BK193 BK202 HB
  have HO_203000 := n0_
  have HO_203001 := n1_
  have BK193 := n2_
  have BK202 := n3_
  have HB := n4_
  clear n0_ n1_ n2_ n3_ n4_
  (try clear hb)
  (try clear hb2)
  (try clear hk)
  (try clear hi)
  refine hK.out _ _ ⟨(blk_cell BK202.out 0).trans rfl, (blk_cell BK202.out 1).trans rfl, ((HB.out.cell (World.block_lt_of_cell? w _ hw204_0)).trans hw204_0)⟩ (fun hHeld => ?_)
  clear hK K
  refine norm_ (a' := ?_) ?_ ?_
  rotate_left
  ·
   show Act.put _ (some 46) _ = _
   simp only [Act.put, y1a6, y2a6, y3a6, i64_w, i32_w]
   rfl
  refine pure_ (i := 7) (N := some 47) (v := ?_) (a' := ?_) #[true, true, true, true, true, true, true, true, false] rfl rfl (any_of HT_.out Za619) (fun _ _ _ h => h) (Or.inl ⟨by rfl, ?_⟩) ?_ ?_
  rotate_left
  ·
   intro w'
   go_simp
   with_reducible rfl
  rotate_left
  ·
   simp only [Act.put, y1a6, y2a6, y3a6, i64_w, i32_w]
   rfl
  refine pure_ (i := 8) (N := some 8) (v := ?_) (a' := ?_) #[true, true, true, true, true, true, true, true, true] rfl rfl (any_of HT_.out Za619) (fun _ _ _ h => h) (Or.inl ⟨by rfl, ?_⟩) ?_ ?_
  rotate_left
  ·
   intro w'
   go_simp
   with_reducible rfl
  rotate_left
  ·
   simp only [Act.put, y1a6, y2a6, y3a6, i64_w, i32_w]
   rfl
  refine done_ (done_of HT_.out Za619) ?_
  have hnb79 := NB193_202.out
  have hnc79 := NB202_193.out
  have hcz80_0 : w78.cell? ⟨g193, 0, none⟩ = some (.slice none 0 0) := (blk_cell BK193.out 0).trans rfl
  have hcz80_1 : w78.cell? ⟨g193, 1, none⟩ = some (.slice none 0 0) := (blk_cell BK193.out 1).trans rfl
  have hfz80_0 := blk_frozen BK193.out 0
  have hfz80_1 := blk_frozen BK193.out 1
  try go_wp2
  refine bodyPost_ret (results_ct rfl _ _ g193 24 #[.slice none 0 0, .slice none 0 0] (0, 0) _ rfl Za61 Try.underlying24 rfl Za619) rfl ?_
  exact ⟨_, _, by first | rfl | (simp [errW_none, errW_some] <;> rfl) | (simp only [← hji13]; first | rfl | (simp [errW_none, errW_some] <;> rfl)) | (simp [*, errW_none, errW_some] <;> rfl), by first | exact Kd.R_nil _ _ _ _ _ | exact Kd.N_nil _ _ _ _ _ | exact Kd.V_nil _ _ _ _ _ | exact Kd.Q_nil _ _ _ _ _ | exact Kd.S_nil _ _ _ _ _, by first | exact Kd.R_nil _ _ _ _ _ | exact Kd.N_nil _ _ _ _ _ | exact Kd.V_nil _ _ _ _ _ | exact Kd.Q_nil _ _ _ _ _ | exact Kd.S_nil _ _ _ _ _, by repeat (first | (with_reducible first | exact HB.out | apply below_alloc | apply pw_below_drewN | apply below_drew1 | refine below_set ?_ GE193.out | refine below_set ?_ GE202.out) | exact HB.out)⟩
 rw [if_pos c33] at H
 have c33b0 : ((Int.tmod (wrap64 ((rd l0 x7_2) - t205)) x6_2) == 0) = true := beq_iff_eq.mpr c33
 have c33b1 : ((Int.tmod (wrap64 ((rd l0 x7_2) - t205)) x6_2) != 0) = false := bne_eq_false_iff_eq.mpr c33
 clear c33
 by_cases c34 : (Int.tmod x7_2 2) = 1
 ·
  rw [if_pos c34] at H
  have c34b0 : ((Int.tmod x7_2 2) == 1) = true := beq_iff_eq.mpr c34
  have c34b1 : ((Int.tmod x7_2 2) != 1) = false := bne_eq_false_iff_eq.mpr c34
  clear c34
  replace H := Option.bind_eq_some_iff.mp H
  obtain ⟨t206, A350, H⟩ := H
  replace H : (if t206 = true then (if 0 ≤ (wrap64 (Int.tdiv x7_2 2)) then (if (wrap64 (Int.tdiv x7_2 2)) < (x203000_2.length : Int) then (impl_LevelsOf.l0 k2 l0 ji13 x6_2 (wrap64 (x7_2 + 1)) (x203000_2.set ((wrap64 (Int.tdiv x7_2 2)) : Int).toNat (wrap64 (Int.tdiv (wrap64 ((rd l0 x7_2) - t205)) x6_2))) x203001_2) else (none)) else (none)) else (some (([] : List Int), ([] : List Int), false))) = some (r1, r2, r3) := H
  have A35 := Aa6q A350
  clear A350
  by_cases c36 : t206 = true
  rotate_left
  ·
   replace c36 := Bool.eq_false_iff.mpr c36
   subst c36
   have H1 : (some (([] : List Int), ([] : List Int), false)) = some (r1, r2, r3) := by rw [if_neg (show ¬ (false = true) by decide)] at H; exact H
   clear H
   have H := H1
   clear H1
   simp only [Option.some.injEq, Prod.mk.injEq] at H
   obtain ⟨rfl, rfl, rfl⟩ := H
   try go_wp2
   have n0_ := Aa6q (Kd.R_drew HO_203000.out)
   have n1_ := Aa6q (Kd.R_drew HO_203001.out)
   have n2_ := Aa6q (blk_drew BK193.out)
   have n3_ := Aa6q (blk_drew BK202.out)
   have n4_ := Aa6q (below_drew1 HB.out)
   clear HO_203000 HO_203001 BK193 BK202 HB
   have HO_203000 := n0_
   have HO_203001 := n1_
   have BK193 := n2_
   have BK202 := n3_
   have HB := n4_
   clear n0_ n1_ n2_ n3_ n4_
   have p204 : 0 ≤ (x7_2 : Int) := of_decide_eq_true Za618
   have q204 : x7_2 < (l0.length : Int) := of_decide_eq_true Za618
   obtain ⟨ad204, e204, hx204_0⟩ := Kd.at_int HR0.out x7_2 p204 q204
   have hw204_0 := hx204_0
   cases e204
   replace hx204_0 := (HB.out.cell (World.block_lt_of_cell? w _ hx204_0)).trans hx204_0
   replace p204 := eq_true p204
   replace q204 := eq_true q204
   obtain ⟨Ao50, co50, eo50⟩ := Kd.R_slice HO_203000.out
   (first | subst eo50 | (injection eo50 with f1_ f2_ f3_; have f4_ := f1_.symm; have f5_ := f3_.symm; clear f1_ f2_ f3_; subst f4_; subst f5_))
   obtain ⟨Ao51, co51, eo51⟩ := Kd.R_slice HO_203001.out
   (first | subst eo51 | (injection eo51 with f1_ f2_ f3_; have f4_ := f1_.symm; have f5_ := f3_.symm; clear f1_ f2_ f3_; subst f4_; subst f5_))
   refine start_ (n := 9) (S := fun w' => w'.cell? ⟨g202, 0, none⟩ = some (.slice Ao50 x203000_2.length co50) ∧ w'.cell? ⟨g202, 1, none⟩ = some (.slice Ao51 x203001_2.length co51) ∧ w'.cell? (ad204.add (x7_2).toNat) = some (.int .i64 (rd l0 x7_2))) (ds := []) #[false, false, false, false, false, false, false, false, false] Za619 rfl rfl ⟨(blk_cell BK202.out 0).trans rfl, (blk_cell BK202.out 1).trans rfl, ((HB.out.cell (World.block_lt_of_cell? w _ hw204_0)).trans hw204_0)⟩ (fun hHeld => ?_); refine with_tabW impl_LevelsOf.tab8 impl_LevelsOf.bits8 (fun HT_ HW_ => ?_)
   generalize wr.drew = w49 at HO_203000 HO_203001 BK193 BK202 HB hx204_0 hHeld ⊢
   refine pure_ (i := 0) (N := some 40) (v := ?_) (a' := ?_) #[true, false, false, false, false, false, false, false, false] rfl rfl (any_of HT_.out Za619) (fun _ _ _ h => h) (Or.inl ⟨by rfl, ?_⟩) ?_ ?_
   rotate_left
   ·
    intro w'
    go_simp
    with_reducible rfl
   rotate_left
   ·
    simp only [Act.put, y1a6, y2a6, y3a6, i64_w, i32_w]
    rfl
   refine pure_ (i := 1) (N := some 41) (v := ?_) (a' := ?_) #[true, true, false, false, false, false, false, false, false] rfl rfl (any_of HT_.out Za619) (fun _ _ _ h => h) (Or.inl ⟨by rfl, ?_⟩) ?_ ?_
   rotate_left
   ·
    intro w'
    go_simp
    with_reducible rfl
   rotate_left
   ·
    simp only [Act.put, y1a6, y2a6, y3a6, i64_w, i32_w]
    rfl
   refine pure_ (i := 2) (N := some 42) (v := ?_) (a' := ?_) #[true, true, true, false, false, false, false, false, false] rfl rfl (any_of HT_.out Za619) (fun _ _ _ h => h) (Or.inl ⟨by rfl, ?_⟩) ?_ ?_
   rotate_left
   ·
    intro w'
    go_simp
    with_reducible rfl
   rotate_left
   ·
    simp only [Act.put, y1a6, y2a6, y3a6, i64_w, i32_w]
    rfl
   refine pure_ (i := 5) (N := some 45) (v := ?_) (a' := ?_) #[true, true, true, false, false, true, false, false, false] rfl rfl (any_of HT_.out Za619) (fun _ _ _ h => h) (Or.inl ⟨by rfl, ?_⟩) ?_ ?_
   rotate_left
   ·
    intro w'
    go_simp
    with_reducible rfl
   rotate_left
   ·
    simp only [Act.put, y1a6, y2a6, y3a6, i64_w, i32_w]
    rfl
   refine take_ (i := 3) (N := some 43) (v := ?_) (a' := ?_) #[true, true, true, true, false, true, false, false, false] rfl rfl (take_ofW HT_.out HW_.out Za619) (fun _ _ _ h => h) (Or.inl ⟨by rfl, ?_⟩) hHeld ?_ ?_
   rotate_left
   ·
    rintro w' ⟨s0, s1, s2⟩
    go_simp
    with_reducible rfl
   rotate_left
   ·
    simp only [Act.put, y1a6, y2a6, y3a6, i64_w, i32_w]
    rfl
   refine take_ (i := 4) (N := some 44) (v := ?_) (a' := ?_) #[true, true, true, true, true, true, false, false, false] rfl rfl (take_ofW HT_.out HW_.out Za619) (fun _ _ _ h => h) (Or.inl ⟨by rfl, ?_⟩) hHeld ?_ ?_
   rotate_left
   ·
    rintro w' ⟨s0, s1, s2⟩
    go_simp
    with_reducible rfl
   rotate_left
   ·
    simp only [Act.put, y1a6, y2a6, y3a6, i64_w, i32_w]
    rfl
   refine one_ (i := 6) (N := some 46) #[true, true, true, true, true, true, true, false, false] rfl rfl (one_of HT_.out Za619) (by decide) (fun K hK => ?_)
   refine goes_ Try.func16 Za619 rfl #[.agg #[.slice Ao50 x203000_2.length co50, .slice Ao51 x203001_2.length co51], .int .i64 x7_2] (by rfl) rfl rfl Za68 ?_
   with_reducible refine (impl_Levels_moment.calls k2 _ _ x203000_2 _ _ x203001_2 x7_2 t205 _ ?side1 ?side2 ?side3 ?side4 A31.out).mono ?_
   (case side1 => repeat (first | exact (Kd.R_reads' HO_203000.out).2.2 | (with_reducible refine Kd.C_alloc ?_ _) | (with_reducible refine Kd.C_drewN ?_ _) | (with_reducible refine Kd.C_drew ?_)))
   (case side2 => exact (Kd.R_reads' HO_203000.out).2.1)
   (case side3 => repeat (first | exact (Kd.R_reads' HO_203001.out).2.2 | (with_reducible refine Kd.C_alloc ?_ _) | (with_reducible refine Kd.C_drewN ?_ _) | (with_reducible refine Kd.C_drew ?_)))
   (case side4 => exact (Kd.R_reads' HO_203001.out).2.1)
   rintro e w52 ⟨rfl, hb⟩
   refine ⟨_, rfl, ?_⟩
   have n0_ := Aa6q (Kd.R_below Za613 hb)
   have n1_ := Aa6q (Kd.R_below Za614 hb)
   have n2_ := Aa6q (blk_below (g := g193) (o := .cells #[.slice none 0 0, .slice none 0 0] 24 (0, 0)) Za611 hb)
   have n3_ := Aa6q (blk_below (g := g202) (o := .cells #[.slice Ao50 x203000_2.length co50, .slice Ao51 x203001_2.length co51] 24 (0, 0)) Za612 hb)
   have n4_ := Aa6q (below_step Za66 hb)
   clear HO_203000 HO_203001 BK193 BK202 HB
   have HO_203000 := n0_
   have HO_203001 := n1_
   have BK193 := n2_
   have BK202 := n3_
   have HB := n4_
   clear n0_ n1_ n2_ n3_ n4_
   (try clear hb)
   (try clear hb2)
   (try clear hk)
   (try clear hi)
   refine hK.out _ _ ⟨(blk_cell BK202.out 0).trans rfl, (blk_cell BK202.out 1).trans rfl, ((HB.out.cell (World.block_lt_of_cell? w _ hw204_0)).trans hw204_0)⟩ (fun hHeld => ?_)
   clear hK K
   refine norm_ (a' := ?_) ?_ ?_
   rotate_left
   ·
    show Act.put _ (some 46) _ = _
    simp only [Act.put, y1a6, y2a6, y3a6, i64_w, i32_w]
    rfl
   refine pure_ (i := 7) (N := some 47) (v := ?_) (a' := ?_) #[true, true, true, true, true, true, true, true, false] rfl rfl (any_of HT_.out Za619) (fun _ _ _ h => h) (Or.inl ⟨by rfl, ?_⟩) ?_ ?_
   rotate_left
   ·
    intro w'
    go_simp
    with_reducible rfl
   rotate_left
   ·
    simp only [Act.put, y1a6, y2a6, y3a6, i64_w, i32_w]
    rfl
   refine pure_ (i := 8) (N := some 8) (v := ?_) (a' := ?_) #[true, true, true, true, true, true, true, true, true] rfl rfl (any_of HT_.out Za619) (fun _ _ _ h => h) (Or.inl ⟨by rfl, ?_⟩) ?_ ?_
   rotate_left
   ·
    intro w'
    go_simp
    with_reducible rfl
   rotate_left
   ·
    simp only [Act.put, y1a6, y2a6, y3a6, i64_w, i32_w]
    rfl
   refine done_ (done_of HT_.out Za619) ?_
   try go_wp2_with (first | ((with_reducible refine gate_callee (f := 17) rfl ?_); refine goesL_ (some 60) rfl rfl Try.func17 Za619 rfl #[.int .i64 (wrap64 (Int.tdiv (wrap64 ((rd l0 x7_2) - t205)) x6_2)), .int .i64 (-5), .int .i64 5] rfl Za68 ?_; (with_reducible refine (impl_in.calls (wrap64 (Int.tdiv (wrap64 ((rd l0 x7_2) - t205)) x6_2)) (-5) 5 false _ A35.out).mono ?_); rintro e w' ⟨rfl, ⟨nd, rfl⟩⟩; refine ⟨_, rfl, ?_⟩; (try (rw [drewN_self w52]; generalize hq_ : World.drewN w52 _ = w52; have n0_ : Aside0 (Kd.R (Kd.int .i64) 3 w52 w.heap.size (fun k_ => some k_ ≠ (.slice Ao51 x203001_2.length co51 : Value).ownBlock) (.slice Ao50 x203000_2.length co50) x203000_2) := ⟨by rw [← hq_]; exact Za613⟩; have n1_ : Aside0 (Kd.R (Kd.int .i64) 3 w52 w.heap.size (fun k_ => some k_ ≠ (.slice Ao50 x203000_2.length co50 : Value).ownBlock) (.slice Ao51 x203001_2.length co51) x203001_2) := ⟨by rw [← hq_]; exact Za614⟩; have n2_ : Aside0 (w52.heap[g193]? = some (.cells #[.slice none 0 0, .slice none 0 0] 24 (0, 0))) := ⟨by rw [← hq_]; exact Za611⟩; have n3_ : Aside0 (w52.heap[g202]? = some (.cells #[.slice Ao50 x203000_2.length co50, .slice Ao51 x203001_2.length co51] 24 (0, 0))) := ⟨by rw [← hq_]; exact Za612⟩; have n4_ : Aside0 (Below w.heap.size w w52) := ⟨by rw [← hq_]; exact Za66⟩; clear HO_203000 HO_203001 BK193 BK202 HB hq_; have HO_203000 := n0_; have HO_203001 := n1_; have BK193 := n2_; have BK202 := n3_; have HB := n4_; clear n0_ n1_ n2_ n3_ n4_)); have hnb53 := NB193_202.out; have hnc53 := NB202_193.out; have hcz54_0 : w52.cell? ⟨g193, 0, none⟩ = some (.slice none 0 0) := (blk_cell BK193.out 0).trans rfl; have hcz54_1 : w52.cell? ⟨g193, 1, none⟩ = some (.slice none 0 0) := (blk_cell BK193.out 1).trans rfl; have hfz54_0 := blk_frozen BK193.out 0; have hfz54_1 := blk_frozen BK193.out 1))
   refine bodyPost_ret (results_ct rfl _ _ g193 24 #[.slice none 0 0, .slice none 0 0] (0, 0) _ rfl Za61 Try.underlying24 rfl Za619) rfl ?_
   exact ⟨_, _, by first | rfl | (simp [errW_none, errW_some] <;> rfl) | (simp only [← hji13]; first | rfl | (simp [errW_none, errW_some] <;> rfl)) | (simp [*, errW_none, errW_some] <;> rfl), by first | exact Kd.R_nil _ _ _ _ _ | exact Kd.N_nil _ _ _ _ _ | exact Kd.V_nil _ _ _ _ _ | exact Kd.Q_nil _ _ _ _ _ | exact Kd.S_nil _ _ _ _ _, by first | exact Kd.R_nil _ _ _ _ _ | exact Kd.N_nil _ _ _ _ _ | exact Kd.V_nil _ _ _ _ _ | exact Kd.Q_nil _ _ _ _ _ | exact Kd.S_nil _ _ _ _ _, by repeat (first | (with_reducible first | exact HB.out | apply below_alloc | apply pw_below_drewN | apply below_drew1 | refine below_set ?_ GE193.out | refine below_set ?_ GE202.out) | exact HB.out)⟩
  subst c36
  have H1 : (if 0 ≤ (wrap64 (Int.tdiv x7_2 2)) then (if (wrap64 (Int.tdiv x7_2 2)) < (x203000_2.length : Int) then (impl_LevelsOf.l0 k2 l0 ji13 x6_2 (wrap64 (x7_2 + 1)) (x203000_2.set ((wrap64 (Int.tdiv x7_2 2)) : Int).toNat (wrap64 (Int.tdiv (wrap64 ((rd l0 x7_2) - t205)) x6_2))) x203001_2) else (none)) else (none)) = some (r1, r2, r3) := by rw [if_pos rfl] at H; exact H
  clear H
  have H := H1
  clear H1
  obtain ⟨ji37, hji37⟩ : ∃ j_ : Int, (wrap64 (Int.tdiv x7_2 2)) = j_ := ⟨_, rfl⟩
  replace H : (if 0 ≤ (ji37) then (if (ji37) < (x203000_2.length : Int) then (impl_LevelsOf.l0 k2 l0 ji13 x6_2 (wrap64 (x7_2 + 1)) (x203000_2.set ((ji37) : Int).toNat (wrap64 (Int.tdiv (wrap64 ((rd l0 x7_2) - t205)) x6_2))) x203001_2) else (none)) else (none)) = some (r1, r2, r3) := by first | (rw [hji37] at H; exact H) | (simp only [hji37] at H ⊢; exact H)
  (try rw [hji37] at A31)
  (try rw [hji37] at A35)
  have hji37w : (IntKind.i64.wrap (Int.tdiv x7_2 2)) = ji37 := (i64_w _).trans hji37
  by_cases c38 : 0 ≤ (ji37)
  rotate_left
  ·
   rw [if_neg c38] at H
   exact absurd H (by simp)
  rw [if_pos c38] at H
  have c38b0 : decide (0 ≤ (ji37)) = true := decide_eq_true c38
  clear c38
  by_cases c39 : (ji37) < (x203000_2.length : Int)
  rotate_left
  ·
   rw [if_neg c39] at H
   exact absurd H (by simp)
  rw [if_pos c39] at H
  have c39b0 : decide ((ji37) < (x203000_2.length : Int)) = true := decide_eq_true c39
  clear c39
  obtain ⟨y207, hy207⟩ : ∃ y_ : List Int, y_ = (x203000_2.set ((ji37) : Int).toNat (wrap64 (Int.tdiv (wrap64 ((rd l0 x7_2) - t205)) x6_2))) := ⟨_, rfl⟩
  replace H : (impl_LevelsOf.l0 k2 l0 ji13 x6_2 (wrap64 (x7_2 + 1)) y207 x203001_2) = some (r1, r2, r3) := by first | (rw [hy207]; with_reducible exact H) | (have H2_ := (Option.bind_some _ _).symm.trans H; rw [hy207]; with_reducible exact H2_) | (have H2_ := (Option.bind_some _ _).symm.trans H; with_reducible exact H2_) | with_reducible exact H | (rw [hy207]; exact H) | exact H
  have Ny207 := Aa6q hy207
  clear hy207
  have H' := Aa6q H
  clear H
  try go_wp2
  have n0_ := Aa6q (Kd.R_drew HO_203000.out)
  have n1_ := Aa6q (Kd.R_drew HO_203001.out)
  have n2_ := Aa6q (blk_drew BK193.out)
  have n3_ := Aa6q (blk_drew BK202.out)
  have n4_ := Aa6q (below_drew1 HB.out)
  clear HO_203000 HO_203001 BK193 BK202 HB
  have HO_203000 := n0_
  have HO_203001 := n1_
  have BK193 := n2_
  have BK202 := n3_
  have HB := n4_
  clear n0_ n1_ n2_ n3_ n4_
  have p204 : 0 ≤ (x7_2 : Int) := of_decide_eq_true Za618
  have q204 : x7_2 < (l0.length : Int) := of_decide_eq_true Za618
  obtain ⟨ad204, e204, hx204_0⟩ := Kd.at_int HR0.out x7_2 p204 q204
  have hw204_0 := hx204_0
  cases e204
  replace hx204_0 := (HB.out.cell (World.block_lt_of_cell? w _ hx204_0)).trans hx204_0
  replace p204 := eq_true p204
  replace q204 := eq_true q204
  obtain ⟨Ao42, co42, eo42⟩ := Kd.R_slice HO_203000.out
  (first | subst eo42 | (injection eo42 with f1_ f2_ f3_; have f4_ := f1_.symm; have f5_ := f3_.symm; clear f1_ f2_ f3_; subst f4_; subst f5_))
  obtain ⟨Ao43, co43, eo43⟩ := Kd.R_slice HO_203001.out
  (first | subst eo43 | (injection eo43 with f1_ f2_ f3_; have f4_ := f1_.symm; have f5_ := f3_.symm; clear f1_ f2_ f3_; subst f4_; subst f5_))
  refine start_ (n := 9) (S := fun w' => w'.cell? ⟨g202, 0, none⟩ = some (.slice Ao42 x203000_2.length co42) ∧ w'.cell? ⟨g202, 1, none⟩ = some (.slice Ao43 x203001_2.length co43) ∧ w'.cell? (ad204.add (x7_2).toNat) = some (.int .i64 (rd l0 x7_2))) (ds := []) #[false, false, false, false, false, false, false, false, false] Za619 rfl rfl ⟨(blk_cell BK202.out 0).trans rfl, (blk_cell BK202.out 1).trans rfl, ((HB.out.cell (World.block_lt_of_cell? w _ hw204_0)).trans hw204_0)⟩ (fun hHeld => ?_); refine with_tabW impl_LevelsOf.tab8 impl_LevelsOf.bits8 (fun HT_ HW_ => ?_)
  generalize wr.drew = w41 at HO_203000 HO_203001 BK193 BK202 HB hx204_0 hHeld ⊢
  refine pure_ (i := 0) (N := some 40) (v := ?_) (a' := ?_) #[true, false, false, false, false, false, false, false, false] rfl rfl (any_of HT_.out Za619) (fun _ _ _ h => h) (Or.inl ⟨by rfl, ?_⟩) ?_ ?_
  rotate_left
  ·
   intro w'
   go_simp
   with_reducible rfl
  rotate_left
  ·
   simp only [Act.put, y1a6, y2a6, y3a6, i64_w, i32_w]
   rfl
  refine pure_ (i := 1) (N := some 41) (v := ?_) (a' := ?_) #[true, true, false, false, false, false, false, false, false] rfl rfl (any_of HT_.out Za619) (fun _ _ _ h => h) (Or.inl ⟨by rfl, ?_⟩) ?_ ?_
  rotate_left
  ·
   intro w'
   go_simp
   with_reducible rfl
  rotate_left
  ·
   simp only [Act.put, y1a6, y2a6, y3a6, i64_w, i32_w]
   rfl
  refine pure_ (i := 2) (N := some 42) (v := ?_) (a' := ?_) #[true, true, true, false, false, false, false, false, false] rfl rfl (any_of HT_.out Za619) (fun _ _ _ h => h) (Or.inl ⟨by rfl, ?_⟩) ?_ ?_
  rotate_left
  ·
   intro w'
   go_simp
   with_reducible rfl
  rotate_left
  ·
   simp only [Act.put, y1a6, y2a6, y3a6, i64_w, i32_w]
   rfl
  refine pure_ (i := 5) (N := some 45) (v := ?_) (a' := ?_) #[true, true, true, false, false, true, false, false, false] rfl rfl (any_of HT_.out Za619) (fun _ _ _ h => h) (Or.inl ⟨by rfl, ?_⟩) ?_ ?_
  rotate_left
  ·
   intro w'
   go_simp
   with_reducible rfl
  rotate_left
  ·
   simp only [Act.put, y1a6, y2a6, y3a6, i64_w, i32_w]
   rfl
  refine take_ (i := 3) (N := some 43) (v := ?_) (a' := ?_) #[true, true, true, true, false, true, false, false, false] rfl rfl (take_ofW HT_.out HW_.out Za619) (fun _ _ _ h => h) (Or.inl ⟨by rfl, ?_⟩) hHeld ?_ ?_
  rotate_left
  ·
   rintro w' ⟨s0, s1, s2⟩
   go_simp
   with_reducible rfl
  rotate_left
  ·
   simp only [Act.put, y1a6, y2a6, y3a6, i64_w, i32_w]
   rfl
  refine take_ (i := 4) (N := some 44) (v := ?_) (a' := ?_) #[true, true, true, true, true, true, false, false, false] rfl rfl (take_ofW HT_.out HW_.out Za619) (fun _ _ _ h => h) (Or.inl ⟨by rfl, ?_⟩) hHeld ?_ ?_
  rotate_left
  ·
   rintro w' ⟨s0, s1, s2⟩
   go_simp
   with_reducible rfl
  rotate_left
  ·
   simp only [Act.put, y1a6, y2a6, y3a6, i64_w, i32_w]
   rfl
  refine one_ (i := 6) (N := some 46) #[true, true, true, true, true, true, true, false, false] rfl rfl (one_of HT_.out Za619) (by decide) (fun K hK => ?_)
  refine goes_ Try.func16 Za619 rfl #[.agg #[.slice Ao42 x203000_2.length co42, .slice Ao43 x203001_2.length co43], .int .i64 x7_2] (by rfl) rfl rfl Za68 ?_
  with_reducible refine (impl_Levels_moment.calls k2 _ _ x203000_2 _ _ x203001_2 x7_2 t205 _ ?side1 ?side2 ?side3 ?side4 A31.out).mono ?_
  (case side1 => repeat (first | exact (Kd.R_reads' HO_203000.out).2.2 | (with_reducible refine Kd.C_alloc ?_ _) | (with_reducible refine Kd.C_drewN ?_ _) | (with_reducible refine Kd.C_drew ?_)))
  (case side2 => exact (Kd.R_reads' HO_203000.out).2.1)
  (case side3 => repeat (first | exact (Kd.R_reads' HO_203001.out).2.2 | (with_reducible refine Kd.C_alloc ?_ _) | (with_reducible refine Kd.C_drewN ?_ _) | (with_reducible refine Kd.C_drew ?_)))
  (case side4 => exact (Kd.R_reads' HO_203001.out).2.1)
  rintro e w44 ⟨rfl, hb⟩
  refine ⟨_, rfl, ?_⟩
  have n0_ := Aa6q (Kd.R_below Za613 hb)
  have n1_ := Aa6q (Kd.R_below Za614 hb)
  have n2_ := Aa6q (blk_below (g := g193) (o := .cells #[.slice none 0 0, .slice none 0 0] 24 (0, 0)) Za611 hb)
  have n3_ := Aa6q (blk_below (g := g202) (o := .cells #[.slice Ao42 x203000_2.length co42, .slice Ao43 x203001_2.length co43] 24 (0, 0)) Za612 hb)
  have n4_ := Aa6q (below_step Za66 hb)
  clear HO_203000 HO_203001 BK193 BK202 HB
  have HO_203000 := n0_
  have HO_203001 := n1_
  have BK193 := n2_
  have BK202 := n3_
  have HB := n4_
  clear n0_ n1_ n2_ n3_ n4_
  (try clear hb)
  (try clear hb2)
  (try clear hk)
  (try clear hi)
  refine hK.out _ _ ⟨(blk_cell BK202.out 0).trans rfl, (blk_cell BK202.out 1).trans rfl, ((HB.out.cell (World.block_lt_of_cell? w _ hw204_0)).trans hw204_0)⟩ (fun hHeld => ?_)
  clear hK K
  refine norm_ (a' := ?_) ?_ ?_
  rotate_left
  ·
   show Act.put _ (some 46) _ = _
   simp only [Act.put, y1a6, y2a6, y3a6, i64_w, i32_w]
   rfl
  refine pure_ (i := 7) (N := some 47) (v := ?_) (a' := ?_) #[true, true, true, true, true, true, true, true, false] rfl rfl (any_of HT_.out Za619) (fun _ _ _ h => h) (Or.inl ⟨by rfl, ?_⟩) ?_ ?_
  rotate_left
  ·
   intro w'
   go_simp
   with_reducible rfl
  rotate_left
  ·
   simp only [Act.put, y1a6, y2a6, y3a6, i64_w, i32_w]
   rfl
  refine pure_ (i := 8) (N := some 8) (v := ?_) (a' := ?_) #[true, true, true, true, true, true, true, true, true] rfl rfl (any_of HT_.out Za619) (fun _ _ _ h => h) (Or.inl ⟨by rfl, ?_⟩) ?_ ?_
  rotate_left
  ·
   intro w'
   go_simp
   with_reducible rfl
  rotate_left
  ·
   simp only [Act.put, y1a6, y2a6, y3a6, i64_w, i32_w]
   rfl
  refine done_ (done_of HT_.out Za619) ?_
  try go_wp2_with (first | ((with_reducible refine gate_callee (f := 17) rfl ?_); refine goesL_ (some 60) rfl rfl Try.func17 Za619 rfl #[.int .i64 (wrap64 (Int.tdiv (wrap64 ((rd l0 x7_2) - t205)) x6_2)), .int .i64 (-5), .int .i64 5] rfl Za68 ?_; (with_reducible refine (impl_in.calls (wrap64 (Int.tdiv (wrap64 ((rd l0 x7_2) - t205)) x6_2)) (-5) 5 true _ A35.out).mono ?_); rintro e w' ⟨rfl, ⟨nd, rfl⟩⟩; refine ⟨_, rfl, ?_⟩; (try (rw [drewN_self w44]; generalize hq_ : World.drewN w44 _ = w44; have n0_ : Aside0 (Kd.R (Kd.int .i64) 3 w44 w.heap.size (fun k_ => some k_ ≠ (.slice Ao43 x203001_2.length co43 : Value).ownBlock) (.slice Ao42 x203000_2.length co42) x203000_2) := ⟨by rw [← hq_]; exact Za613⟩; have n1_ : Aside0 (Kd.R (Kd.int .i64) 3 w44 w.heap.size (fun k_ => some k_ ≠ (.slice Ao42 x203000_2.length co42 : Value).ownBlock) (.slice Ao43 x203001_2.length co43) x203001_2) := ⟨by rw [← hq_]; exact Za614⟩; have n2_ : Aside0 (w44.heap[g193]? = some (.cells #[.slice none 0 0, .slice none 0 0] 24 (0, 0))) := ⟨by rw [← hq_]; exact Za611⟩; have n3_ : Aside0 (w44.heap[g202]? = some (.cells #[.slice Ao42 x203000_2.length co42, .slice Ao43 x203001_2.length co43] 24 (0, 0))) := ⟨by rw [← hq_]; exact Za612⟩; have n4_ : Aside0 (Below w.heap.size w w44) := ⟨by rw [← hq_]; exact Za66⟩; clear HO_203000 HO_203001 BK193 BK202 HB hq_; have HO_203000 := n0_; have HO_203001 := n1_; have BK193 := n2_; have BK202 := n3_; have HB := n4_; clear n0_ n1_ n2_ n3_ n4_)); have hnb45 := NB202_193.out; have hnc45 := NB193_202.out; have hcz46_0 : w44.cell? ⟨g202, 0, none⟩ = some (.slice Ao42 x203000_2.length co42) := (blk_cell BK202.out 0).trans rfl; have hcz46_1 : w44.cell? ⟨g202, 1, none⟩ = some (.slice Ao43 x203001_2.length co43) := (blk_cell BK202.out 1).trans rfl; have hfz46_0 := blk_frozen BK202.out 0; have hfz46_1 := blk_frozen BK202.out 1; have p40 : 0 ≤ ((ji37) : Int) := of_decide_eq_true Za618; have q40 : ((ji37) : Int) < ((x203000_2.length : Int) : Int) := of_decide_eq_true Za618; obtain ⟨go40, co40, eo40, g40, gl40, cl40, HG40⟩ := Kd.R_form HO_203000.out (by omega); (first | cases eo40 | (injection eo40 with ea_ en_ ec_; (first | subst ea_ | (injection ea_ with ea_; subst ea_)); subst ec_; clear en_)); have GB40 := Aa6q g40; have GG40 := Aa6q HG40; clear g40 gl40 HG40; obtain ⟨hx40_0, hf40_0⟩ := Kd.R_celln 0 HO_203000.out ((ji37) : Int) p40 q40; replace p40 := eq_true p40; replace q40 := eq_true q40; obtain ⟨hy47_, hz47_⟩ := Kd.R_celln 0 HO_203000.out ((ji37) : Int) (of_decide_eq_true Za618) (of_decide_eq_true Za618); have HP47 := Kd.R_putg HO_203000.out ((ji37) : Int) (wrap64 (Int.tdiv (wrap64 ((rd l0 x7_2) - t205)) x6_2))) | ((with_reducible refine gate_store (t := 3) (p := 68) rfl ?_); refine store_event (t := 3) (p := 68) (v := ?vo_w48) (w1 := (w44.setCell ⟨go40, ((ji37) : Int).toNat, none⟩ (.int .i64 (wrap64 (Int.tdiv (wrap64 ((rd l0 x7_2) - t205)) x6_2))))) ?hg ?ho ?hn ?hr ?_; (case ho => rfl); (case hg => rfl); (case hn => rfl); (case hr => first | (go_simp; done) | (go_simp; rfl)); intro w48 hw; have hg : w44.grownBy w48 (some go40) := (by rw [hw]; exact HP47.2); have hp_ : Kd.R (Kd.int .i64) 3 w48 w.heap.size (fun k_ => some k_ ≠ (.slice Ao43 x203001_2.length co43 : Value).ownBlock) (.slice (some ⟨go40, 0, none⟩) x203000_2.length co42) y207 := (by rw [hw, Ny207.out]; exact HP47.1); clear HP47; have n0_ := Aa6q (hp_); have n1_ := Aa6q (Kd.R_after (v := (.slice (some ⟨go40, 0, none⟩) x203000_2.length co42)) (v1 := (.slice (some ⟨go40, 0, none⟩) x203000_2.length co42)) (ok := (fun _ => True)) (by (with_reducible repeat (first | apply Kd.R_alloc | apply Kd.R_drewN | apply Kd.R_drew)); exact Kd.R_mono HO_203001.out (fun _ hk => ⟨trivial, hk⟩)) hg (.inl rfl)); have n2_ := Aa6q (blk_grown (g := g193) (o := .cells #[.slice none 0 0, .slice none 0 0] 24 (0, 0)) Za611 hg (Kd.R_ne HO_203000.out BK193.out (by decide))); have n3_ := Aa6q (blk_grown (g := g202) (o := .cells #[.slice (some ⟨go40, 0, none⟩) x203000_2.length co42, .slice Ao43 x203001_2.length co43] 24 (0, 0)) Za612 hg (Kd.R_ne HO_203000.out BK202.out (by decide))); have n4_ := Aa6q ((by rw [hw]; exact below_set (HB.out) GB40.out : Below w.heap.size w w48)); clear HO_203000; clear HO_203001; clear BK193; clear BK202; clear HB; have HO_203000 := n0_; have HO_203001 := n1_; have BK193 := n2_; have BK202 := n3_; have HB := n4_; clear n0_ n1_ n2_ n3_ n4_; clear hg hw hp_))
  go_roundg k2
  case measure => have := HJ1.out; have := HK2.out; omega
  case rel => exact ⟨(x6_2), (wrap64 (x7_2 + 1)), (y207), (x203001_2), (.slice (some ⟨go40, 0, none⟩) x203000_2.length co42), (.slice Ao43 x203001_2.length co43), Za617, Za617, H', ⟨by have := HJ1.out; have := HK2.out; omega⟩, ⟨by (with_reducible repeat (first | apply Kd.R_alloc | apply Kd.R_drewN | apply Kd.R_drew)); exact HO_203000.out⟩, ⟨by (with_reducible repeat (first | apply Kd.R_alloc | apply Kd.R_drewN | apply Kd.R_drew)); exact Kd.R_mono HO_203001.out (fun _ hk => hk.2)⟩, ⟨by (with_reducible repeat (first | refine blk_drewN ?_ _ | refine blk_drew ?_ | refine blk_alloc ?_ _)); exact BK193.out⟩, ⟨by (with_reducible repeat (first | refine blk_drewN ?_ _ | refine blk_drew ?_ | refine blk_alloc ?_ _)); exact BK202.out⟩, ⟨by repeat (first | (with_reducible first | exact HB.out | apply below_alloc | apply pw_below_drewN | apply below_drew1 | refine below_set ?_ GE193.out | refine below_set ?_ GE202.out) | exact HB.out)⟩⟩
 rw [if_neg c34] at H
 have c34b0 : ((Int.tmod x7_2 2) == 1) = false := beq_eq_false_iff_ne.mpr c34
 have c34b1 : ((Int.tmod x7_2 2) != 1) = true := bne_iff_ne.mpr c34
 replace H := Option.bind_eq_some_iff.mp H
 obtain ⟨t208, A550, H⟩ := H
 replace H : (if t208 = true then (if 0 ≤ (wrap64 ((wrap64 (Int.tdiv x7_2 2)) - 1)) then (if (wrap64 ((wrap64 (Int.tdiv x7_2 2)) - 1)) < (x203001_2.length : Int) then (impl_LevelsOf.l0 k2 l0 ji13 (wrap64 (x6_2 * (wrap64 (Int.tdiv (wrap64 ((rd l0 x7_2) - t205)) x6_2)))) (wrap64 (x7_2 + 1)) x203000_2 (x203001_2.set ((wrap64 ((wrap64 (Int.tdiv x7_2 2)) - 1)) : Int).toNat (wrap64 (Int.tdiv (wrap64 ((rd l0 x7_2) - t205)) x6_2)))) else (none)) else (none)) else (some (([] : List Int), ([] : List Int), false))) = some (r1, r2, r3) := H
 have A55 := Aa6q A550
 clear A550
 by_cases c56 : t208 = true
 rotate_left
 ·
  replace c56 := Bool.eq_false_iff.mpr c56
  subst c56
  have H1 : (some (([] : List Int), ([] : List Int), false)) = some (r1, r2, r3) := by rw [if_neg (show ¬ (false = true) by decide)] at H; exact H
  clear H
  have H := H1
  clear H1
  simp only [Option.some.injEq, Prod.mk.injEq] at H
  obtain ⟨rfl, rfl, rfl⟩ := H
  try go_wp2
  have n0_ := Aa6q (Kd.R_drew HO_203000.out)
  have n1_ := Aa6q (Kd.R_drew HO_203001.out)
  have n2_ := Aa6q (blk_drew BK193.out)
  have n3_ := Aa6q (blk_drew BK202.out)
  have n4_ := Aa6q (below_drew1 HB.out)
  clear HO_203000 HO_203001 BK193 BK202 HB
  have HO_203000 := n0_
  have HO_203001 := n1_
  have BK193 := n2_
  have BK202 := n3_
  have HB := n4_
  clear n0_ n1_ n2_ n3_ n4_
  have p204 : 0 ≤ (x7_2 : Int) := of_decide_eq_true Za618
  have q204 : x7_2 < (l0.length : Int) := of_decide_eq_true Za618
  obtain ⟨ad204, e204, hx204_0⟩ := Kd.at_int HR0.out x7_2 p204 q204
  have hw204_0 := hx204_0
  cases e204
  replace hx204_0 := (HB.out.cell (World.block_lt_of_cell? w _ hx204_0)).trans hx204_0
  replace p204 := eq_true p204
  replace q204 := eq_true q204
  obtain ⟨Ao70, co70, eo70⟩ := Kd.R_slice HO_203000.out
  (first | subst eo70 | (injection eo70 with f1_ f2_ f3_; have f4_ := f1_.symm; have f5_ := f3_.symm; clear f1_ f2_ f3_; subst f4_; subst f5_))
  obtain ⟨Ao71, co71, eo71⟩ := Kd.R_slice HO_203001.out
  (first | subst eo71 | (injection eo71 with f1_ f2_ f3_; have f4_ := f1_.symm; have f5_ := f3_.symm; clear f1_ f2_ f3_; subst f4_; subst f5_))
  refine start_ (n := 9) (S := fun w' => w'.cell? ⟨g202, 0, none⟩ = some (.slice Ao70 x203000_2.length co70) ∧ w'.cell? ⟨g202, 1, none⟩ = some (.slice Ao71 x203001_2.length co71) ∧ w'.cell? (ad204.add (x7_2).toNat) = some (.int .i64 (rd l0 x7_2))) (ds := []) #[false, false, false, false, false, false, false, false, false] Za619 rfl rfl ⟨(blk_cell BK202.out 0).trans rfl, (blk_cell BK202.out 1).trans rfl, ((HB.out.cell (World.block_lt_of_cell? w _ hw204_0)).trans hw204_0)⟩ (fun hHeld => ?_); refine with_tabW impl_LevelsOf.tab8 impl_LevelsOf.bits8 (fun HT_ HW_ => ?_)
  generalize wr.drew = w69 at HO_203000 HO_203001 BK193 BK202 HB hx204_0 hHeld ⊢
  refine pure_ (i := 0) (N := some 40) (v := ?_) (a' := ?_) #[true, false, false, false, false, false, false, false, false] rfl rfl (any_of HT_.out Za619) (fun _ _ _ h => h) (Or.inl ⟨by rfl, ?_⟩) ?_ ?_
  rotate_left
  ·
   intro w'
   go_simp
   with_reducible rfl
  rotate_left
  ·
   simp only [Act.put, y1a6, y2a6, y3a6, i64_w, i32_w]
   rfl
  refine pure_ (i := 1) (N := some 41) (v := ?_) (a' := ?_) #[true, true, false, false, false, false, false, false, false] rfl rfl (any_of HT_.out Za619) (fun _ _ _ h => h) (Or.inl ⟨by rfl, ?_⟩) ?_ ?_
  rotate_left
  ·
   intro w'
   go_simp
   with_reducible rfl
  rotate_left
  ·
   simp only [Act.put, y1a6, y2a6, y3a6, i64_w, i32_w]
   rfl
  refine pure_ (i := 2) (N := some 42) (v := ?_) (a' := ?_) #[true, true, true, false, false, false, false, false, false] rfl rfl (any_of HT_.out Za619) (fun _ _ _ h => h) (Or.inl ⟨by rfl, ?_⟩) ?_ ?_
  rotate_left
  ·
   intro w'
   go_simp
   with_reducible rfl
  rotate_left
  ·
   simp only [Act.put, y1a6, y2a6, y3a6, i64_w, i32_w]
   rfl
  refine pure_ (i := 5) (N := some 45) (v := ?_) (a' := ?_) #[true, true, true, false, false, true, false, false, false] rfl rfl (any_of HT_.out Za619) (fun _ _ _ h => h) (Or.inl ⟨by rfl, ?_⟩) ?_ ?_
  rotate_left
  ·
   intro w'
   go_simp
   with_reducible rfl
  rotate_left
  ·
   simp only [Act.put, y1a6, y2a6, y3a6, i64_w, i32_w]
   rfl
  refine take_ (i := 3) (N := some 43) (v := ?_) (a' := ?_) #[true, true, true, true, false, true, false, false, false] rfl rfl (take_ofW HT_.out HW_.out Za619) (fun _ _ _ h => h) (Or.inl ⟨by rfl, ?_⟩) hHeld ?_ ?_
  rotate_left
  ·
   rintro w' ⟨s0, s1, s2⟩
   go_simp
   with_reducible rfl
  rotate_left
  ·
   simp only [Act.put, y1a6, y2a6, y3a6, i64_w, i32_w]
   rfl
  refine take_ (i := 4) (N := some 44) (v := ?_) (a' := ?_) #[true, true, true, true, true, true, false, false, false] rfl rfl (take_ofW HT_.out HW_.out Za619) (fun _ _ _ h => h) (Or.inl ⟨by rfl, ?_⟩) hHeld ?_ ?_
  rotate_left
  ·
   rintro w' ⟨s0, s1, s2⟩
   go_simp
   with_reducible rfl
  rotate_left
  ·
   simp only [Act.put, y1a6, y2a6, y3a6, i64_w, i32_w]
   rfl
  refine one_ (i := 6) (N := some 46) #[true, true, true, true, true, true, true, false, false] rfl rfl (one_of HT_.out Za619) (by decide) (fun K hK => ?_)
  refine goes_ Try.func16 Za619 rfl #[.agg #[.slice Ao70 x203000_2.length co70, .slice Ao71 x203001_2.length co71], .int .i64 x7_2] (by rfl) rfl rfl Za68 ?_
  with_reducible refine (impl_Levels_moment.calls k2 _ _ x203000_2 _ _ x203001_2 x7_2 t205 _ ?side1 ?side2 ?side3 ?side4 A31.out).mono ?_
  (case side1 => repeat (first | exact (Kd.R_reads' HO_203000.out).2.2 | (with_reducible refine Kd.C_alloc ?_ _) | (with_reducible refine Kd.C_drewN ?_ _) | (with_reducible refine Kd.C_drew ?_)))
  (case side2 => exact (Kd.R_reads' HO_203000.out).2.1)
  (case side3 => repeat (first | exact (Kd.R_reads' HO_203001.out).2.2 | (with_reducible refine Kd.C_alloc ?_ _) | (with_reducible refine Kd.C_drewN ?_ _) | (with_reducible refine Kd.C_drew ?_)))
  (case side4 => exact (Kd.R_reads' HO_203001.out).2.1)
  rintro e w72 ⟨rfl, hb⟩
  refine ⟨_, rfl, ?_⟩
  have n0_ := Aa6q (Kd.R_below Za613 hb)
  have n1_ := Aa6q (Kd.R_below Za614 hb)
  have n2_ := Aa6q (blk_below (g := g193) (o := .cells #[.slice none 0 0, .slice none 0 0] 24 (0, 0)) Za611 hb)
  have n3_ := Aa6q (blk_below (g := g202) (o := .cells #[.slice Ao70 x203000_2.length co70, .slice Ao71 x203001_2.length co71] 24 (0, 0)) Za612 hb)
  have n4_ := Aa6q (below_step Za66 hb)
  clear HO_203000 HO_203001 BK193 BK202 HB
  have HO_203000 := n0_
  have HO_203001 := n1_
  have BK193 := n2_
  have BK202 := n3_
  have HB := n4_
  clear n0_ n1_ n2_ n3_ n4_
  (try clear hb)
  (try clear hb2)
  (try clear hk)
  (try clear hi)
  refine hK.out _ _ ⟨(blk_cell BK202.out 0).trans rfl, (blk_cell BK202.out 1).trans rfl, ((HB.out.cell (World.block_lt_of_cell? w _ hw204_0)).trans hw204_0)⟩ (fun hHeld => ?_)
  clear hK K
  refine norm_ (a' := ?_) ?_ ?_
  rotate_left
  ·
   show Act.put _ (some 46) _ = _
   simp only [Act.put, y1a6, y2a6, y3a6, i64_w, i32_w]
   rfl
  refine pure_ (i := 7) (N := some 47) (v := ?_) (a' := ?_) #[true, true, true, true, true, true, true, true, false] rfl rfl (any_of HT_.out Za619) (fun _ _ _ h => h) (Or.inl ⟨by rfl, ?_⟩) ?_ ?_
  rotate_left
  ·
   intro w'
   go_simp
   with_reducible rfl
  rotate_left
  ·
   simp only [Act.put, y1a6, y2a6, y3a6, i64_w, i32_w]
   rfl
  refine pure_ (i := 8) (N := some 8) (v := ?_) (a' := ?_) #[true, true, true, true, true, true, true, true, true] rfl rfl (any_of HT_.out Za619) (fun _ _ _ h => h) (Or.inl ⟨by rfl, ?_⟩) ?_ ?_
  rotate_left
  ·
   intro w'
   go_simp
   with_reducible rfl
  rotate_left
  ·
   simp only [Act.put, y1a6, y2a6, y3a6, i64_w, i32_w]
   rfl
  refine done_ (done_of HT_.out Za619) ?_
  try go_wp2_with (first | ((with_reducible refine gate_callee (f := 17) rfl ?_); refine goesL_ (some 70) rfl rfl Try.func17 Za619 rfl #[.int .i64 (wrap64 (Int.tdiv (wrap64 ((rd l0 x7_2) - t205)) x6_2)), .int .i64 1, .int .i64 5] rfl Za68 ?_; (with_reducible refine (impl_in.calls (wrap64 (Int.tdiv (wrap64 ((rd l0 x7_2) - t205)) x6_2)) 1 5 false _ A55.out).mono ?_); rintro e w' ⟨rfl, ⟨nd, rfl⟩⟩; refine ⟨_, rfl, ?_⟩; (try (rw [drewN_self w72]; generalize hq_ : World.drewN w72 _ = w72; have n0_ : Aside0 (Kd.R (Kd.int .i64) 3 w72 w.heap.size (fun k_ => some k_ ≠ (.slice Ao71 x203001_2.length co71 : Value).ownBlock) (.slice Ao70 x203000_2.length co70) x203000_2) := ⟨by rw [← hq_]; exact Za613⟩; have n1_ : Aside0 (Kd.R (Kd.int .i64) 3 w72 w.heap.size (fun k_ => some k_ ≠ (.slice Ao70 x203000_2.length co70 : Value).ownBlock) (.slice Ao71 x203001_2.length co71) x203001_2) := ⟨by rw [← hq_]; exact Za614⟩; have n2_ : Aside0 (w72.heap[g193]? = some (.cells #[.slice none 0 0, .slice none 0 0] 24 (0, 0))) := ⟨by rw [← hq_]; exact Za611⟩; have n3_ : Aside0 (w72.heap[g202]? = some (.cells #[.slice Ao70 x203000_2.length co70, .slice Ao71 x203001_2.length co71] 24 (0, 0))) := ⟨by rw [← hq_]; exact Za612⟩; have n4_ : Aside0 (Below w.heap.size w w72) := ⟨by rw [← hq_]; exact Za66⟩; clear HO_203000 HO_203001 BK193 BK202 HB hq_; have HO_203000 := n0_; have HO_203001 := n1_; have BK193 := n2_; have BK202 := n3_; have HB := n4_; clear n0_ n1_ n2_ n3_ n4_)); have hnb73 := NB193_202.out; have hnc73 := NB202_193.out; have hcz74_0 : w72.cell? ⟨g193, 0, none⟩ = some (.slice none 0 0) := (blk_cell BK193.out 0).trans rfl; have hcz74_1 : w72.cell? ⟨g193, 1, none⟩ = some (.slice none 0 0) := (blk_cell BK193.out 1).trans rfl; have hfz74_0 := blk_frozen BK193.out 0; have hfz74_1 := blk_frozen BK193.out 1))
  refine bodyPost_ret (results_ct rfl _ _ g193 24 #[.slice none 0 0, .slice none 0 0] (0, 0) _ rfl Za61 Try.underlying24 rfl Za619) rfl ?_
  exact ⟨_, _, by first | rfl | (simp [errW_none, errW_some] <;> rfl) | (simp only [← hji13]; first | rfl | (simp [errW_none, errW_some] <;> rfl)) | (simp [*, errW_none, errW_some] <;> rfl), by first | exact Kd.R_nil _ _ _ _ _ | exact Kd.N_nil _ _ _ _ _ | exact Kd.V_nil _ _ _ _ _ | exact Kd.Q_nil _ _ _ _ _ | exact Kd.S_nil _ _ _ _ _, by first | exact Kd.R_nil _ _ _ _ _ | exact Kd.N_nil _ _ _ _ _ | exact Kd.V_nil _ _ _ _ _ | exact Kd.Q_nil _ _ _ _ _ | exact Kd.S_nil _ _ _ _ _, by repeat (first | (with_reducible first | exact HB.out | apply below_alloc | apply pw_below_drewN | apply below_drew1 | refine below_set ?_ GE193.out | refine below_set ?_ GE202.out) | exact HB.out)⟩
 subst c56
 have H1 : (if 0 ≤ (wrap64 ((wrap64 (Int.tdiv x7_2 2)) - 1)) then (if (wrap64 ((wrap64 (Int.tdiv x7_2 2)) - 1)) < (x203001_2.length : Int) then (impl_LevelsOf.l0 k2 l0 ji13 (wrap64 (x6_2 * (wrap64 (Int.tdiv (wrap64 ((rd l0 x7_2) - t205)) x6_2)))) (wrap64 (x7_2 + 1)) x203000_2 (x203001_2.set ((wrap64 ((wrap64 (Int.tdiv x7_2 2)) - 1)) : Int).toNat (wrap64 (Int.tdiv (wrap64 ((rd l0 x7_2) - t205)) x6_2)))) else (none)) else (none)) = some (r1, r2, r3) := by rw [if_pos rfl] at H; exact H
 clear H
 have H := H1
 clear H1
 obtain ⟨ji57, hji57⟩ : ∃ j_ : Int, (wrap64 ((wrap64 (Int.tdiv x7_2 2)) - 1)) = j_ := ⟨_, rfl⟩
 replace H : (if 0 ≤ (ji57) then (if (ji57) < (x203001_2.length : Int) then (impl_LevelsOf.l0 k2 l0 ji13 (wrap64 (x6_2 * (wrap64 (Int.tdiv (wrap64 ((rd l0 x7_2) - t205)) x6_2)))) (wrap64 (x7_2 + 1)) x203000_2 (x203001_2.set ((ji57) : Int).toNat (wrap64 (Int.tdiv (wrap64 ((rd l0 x7_2) - t205)) x6_2)))) else (none)) else (none)) = some (r1, r2, r3) := by first | (rw [hji57] at H; exact H) | (simp only [hji57] at H ⊢; exact H)
 (try rw [hji57] at A31)
 (try rw [hji57] at A55)
 have hji57w : (IntKind.i64.wrap ((wrap64 (Int.tdiv x7_2 2)) - 1)) = ji57 := (i64_w _).trans hji57
 by_cases c58 : 0 ≤ (ji57)
 rotate_left
 ·
  rw [if_neg c58] at H
  exact absurd H (by simp)
 rw [if_pos c58] at H
 have c58b0 : decide (0 ≤ (ji57)) = true := decide_eq_true c58
 clear c58
 by_cases c59 : (ji57) < (x203001_2.length : Int)
 rotate_left
 ·
  rw [if_neg c59] at H
  exact absurd H (by simp)
 rw [if_pos c59] at H
 have c59b0 : decide ((ji57) < (x203001_2.length : Int)) = true := decide_eq_true c59
 clear c59
 obtain ⟨y209, hy209⟩ : ∃ y_ : List Int, y_ = (x203001_2.set ((ji57) : Int).toNat (wrap64 (Int.tdiv (wrap64 ((rd l0 x7_2) - t205)) x6_2))) := ⟨_, rfl⟩
 replace H : (impl_LevelsOf.l0 k2 l0 ji13 (wrap64 (x6_2 * (wrap64 (Int.tdiv (wrap64 ((rd l0 x7_2) - t205)) x6_2)))) (wrap64 (x7_2 + 1)) x203000_2 y209) = some (r1, r2, r3) := by first | (rw [hy209]; with_reducible exact H) | (have H2_ := (Option.bind_some _ _).symm.trans H; rw [hy209]; with_reducible exact H2_) | (have H2_ := (Option.bind_some _ _).symm.trans H; with_reducible exact H2_) | with_reducible exact H | (rw [hy209]; exact H) | exact H
 have Ny209 := Aa6q hy209
 clear hy209
 have H' := Aa6q H
 clear H
 try go_wp2
 have n0_ := Aa6q (Kd.R_drew HO_203000.out)
 have n1_ := Aa6q (Kd.R_drew HO_203001.out)
 have n2_ := Aa6q (blk_drew BK193.out)
 have n3_ := Aa6q (blk_drew BK202.out)
 have n4_ := Aa6q (below_drew1 HB.out)
 clear HO_203000 HO_203001 BK193 BK202 HB
 have HO_203000 := n0_
 have HO_203001 := n1_
 have BK193 := n2_
 have BK202 := n3_
 have HB := n4_
 clear n0_ n1_ n2_ n3_ n4_
 have p204 : 0 ≤ (x7_2 : Int) := of_decide_eq_true Za618
 have q204 : x7_2 < (l0.length : Int) := of_decide_eq_true Za618
 obtain ⟨ad204, e204, hx204_0⟩ := Kd.at_int HR0.out x7_2 p204 q204
 have hw204_0 := hx204_0
 cases e204
 replace hx204_0 := (HB.out.cell (World.block_lt_of_cell? w _ hx204_0)).trans hx204_0
 replace p204 := eq_true p204
 replace q204 := eq_true q204
 obtain ⟨Ao62, co62, eo62⟩ := Kd.R_slice HO_203000.out
 (first | subst eo62 | (injection eo62 with f1_ f2_ f3_; have f4_ := f1_.symm; have f5_ := f3_.symm; clear f1_ f2_ f3_; subst f4_; subst f5_))
 obtain ⟨Ao63, co63, eo63⟩ := Kd.R_slice HO_203001.out
 (first | subst eo63 | (injection eo63 with f1_ f2_ f3_; have f4_ := f1_.symm; have f5_ := f3_.symm; clear f1_ f2_ f3_; subst f4_; subst f5_))
 refine start_ (n := 9) (S := fun w' => w'.cell? ⟨g202, 0, none⟩ = some (.slice Ao62 x203000_2.length co62) ∧ w'.cell? ⟨g202, 1, none⟩ = some (.slice Ao63 x203001_2.length co63) ∧ w'.cell? (ad204.add (x7_2).toNat) = some (.int .i64 (rd l0 x7_2))) (ds := []) #[false, false, false, false, false, false, false, false, false] Za619 rfl rfl ⟨(blk_cell BK202.out 0).trans rfl, (blk_cell BK202.out 1).trans rfl, ((HB.out.cell (World.block_lt_of_cell? w _ hw204_0)).trans hw204_0)⟩ (fun hHeld => ?_); refine with_tabW impl_LevelsOf.tab8 impl_LevelsOf.bits8 (fun HT_ HW_ => ?_)
 generalize wr.drew = w61 at HO_203000 HO_203001 BK193 BK202 HB hx204_0 hHeld ⊢
 refine pure_ (i := 0) (N := some 40) (v := ?_) (a' := ?_) #[true, false, false, false, false, false, false, false, false] rfl rfl (any_of HT_.out Za619) (fun _ _ _ h => h) (Or.inl ⟨by rfl, ?_⟩) ?_ ?_
 rotate_left
 ·
  intro w'
  go_simp
  with_reducible rfl
 rotate_left
 ·
  simp only [Act.put, y1a6, y2a6, y3a6, i64_w, i32_w]
  rfl
 refine pure_ (i := 1) (N := some 41) (v := ?_) (a' := ?_) #[true, true, false, false, false, false, false, false, false] rfl rfl (any_of HT_.out Za619) (fun _ _ _ h => h) (Or.inl ⟨by rfl, ?_⟩) ?_ ?_
 rotate_left
 ·
  intro w'
  go_simp
  with_reducible rfl
 rotate_left
 ·
  simp only [Act.put, y1a6, y2a6, y3a6, i64_w, i32_w]
  rfl
 refine pure_ (i := 2) (N := some 42) (v := ?_) (a' := ?_) #[true, true, true, false, false, false, false, false, false] rfl rfl (any_of HT_.out Za619) (fun _ _ _ h => h) (Or.inl ⟨by rfl, ?_⟩) ?_ ?_
 rotate_left
 ·
  intro w'
  go_simp
  with_reducible rfl
 rotate_left
 ·
  simp only [Act.put, y1a6, y2a6, y3a6, i64_w, i32_w]
  rfl
 refine pure_ (i := 5) (N := some 45) (v := ?_) (a' := ?_) #[true, true, true, false, false, true, false, false, false] rfl rfl (any_of HT_.out Za619) (fun _ _ _ h => h) (Or.inl ⟨by rfl, ?_⟩) ?_ ?_
 rotate_left
 ·
  intro w'
  go_simp
  with_reducible rfl
 rotate_left
 ·
  simp only [Act.put, y1a6, y2a6, y3a6, i64_w, i32_w]
  rfl
 refine take_ (i := 3) (N := some 43) (v := ?_) (a' := ?_) #[true, true, true, true, false, true, false, false, false] rfl rfl (take_ofW HT_.out HW_.out Za619) (fun _ _ _ h => h) (Or.inl ⟨by rfl, ?_⟩) hHeld ?_ ?_
 rotate_left
 ·
  rintro w' ⟨s0, s1, s2⟩
  go_simp
  with_reducible rfl
 rotate_left
 ·
  simp only [Act.put, y1a6, y2a6, y3a6, i64_w, i32_w]
  rfl
 refine take_ (i := 4) (N := some 44) (v := ?_) (a' := ?_) #[true, true, true, true, true, true, false, false, false] rfl rfl (take_ofW HT_.out HW_.out Za619) (fun _ _ _ h => h) (Or.inl ⟨by rfl, ?_⟩) hHeld ?_ ?_
 rotate_left
 ·
  rintro w' ⟨s0, s1, s2⟩
  go_simp
  with_reducible rfl
 rotate_left
 ·
  simp only [Act.put, y1a6, y2a6, y3a6, i64_w, i32_w]
  rfl
 refine one_ (i := 6) (N := some 46) #[true, true, true, true, true, true, true, false, false] rfl rfl (one_of HT_.out Za619) (by decide) (fun K hK => ?_)
 refine goes_ Try.func16 Za619 rfl #[.agg #[.slice Ao62 x203000_2.length co62, .slice Ao63 x203001_2.length co63], .int .i64 x7_2] (by rfl) rfl rfl Za68 ?_
 with_reducible refine (impl_Levels_moment.calls k2 _ _ x203000_2 _ _ x203001_2 x7_2 t205 _ ?side1 ?side2 ?side3 ?side4 A31.out).mono ?_
 (case side1 => repeat (first | exact (Kd.R_reads' HO_203000.out).2.2 | (with_reducible refine Kd.C_alloc ?_ _) | (with_reducible refine Kd.C_drewN ?_ _) | (with_reducible refine Kd.C_drew ?_)))
 (case side2 => exact (Kd.R_reads' HO_203000.out).2.1)
 (case side3 => repeat (first | exact (Kd.R_reads' HO_203001.out).2.2 | (with_reducible refine Kd.C_alloc ?_ _) | (with_reducible refine Kd.C_drewN ?_ _) | (with_reducible refine Kd.C_drew ?_)))
 (case side4 => exact (Kd.R_reads' HO_203001.out).2.1)
 rintro e w64 ⟨rfl, hb⟩
 refine ⟨_, rfl, ?_⟩
 have n0_ := Aa6q (Kd.R_below Za613 hb)
 have n1_ := Aa6q (Kd.R_below Za614 hb)
 have n2_ := Aa6q (blk_below (g := g193) (o := .cells #[.slice none 0 0, .slice none 0 0] 24 (0, 0)) Za611 hb)
 have n3_ := Aa6q (blk_below (g := g202) (o := .cells #[.slice Ao62 x203000_2.length co62, .slice Ao63 x203001_2.length co63] 24 (0, 0)) Za612 hb)
 have n4_ := Aa6q (below_step Za66 hb)
 clear HO_203000 HO_203001 BK193 BK202 HB
 have HO_203000 := n0_
 have HO_203001 := n1_
 have BK193 := n2_
 have BK202 := n3_
 have HB := n4_
 clear n0_ n1_ n2_ n3_ n4_
 (try clear hb)
 (try clear hb2)
 (try clear hk)
 (try clear hi)
 refine hK.out _ _ ⟨(blk_cell BK202.out 0).trans rfl, (blk_cell BK202.out 1).trans rfl, ((HB.out.cell (World.block_lt_of_cell? w _ hw204_0)).trans hw204_0)⟩ (fun hHeld => ?_)
 clear hK K
 refine norm_ (a' := ?_) ?_ ?_
 rotate_left
 ·
  show Act.put _ (some 46) _ = _
  simp only [Act.put, y1a6, y2a6, y3a6, i64_w, i32_w]
  rfl
 refine pure_ (i := 7) (N := some 47) (v := ?_) (a' := ?_) #[true, true, true, true, true, true, true, true, false] rfl rfl (any_of HT_.out Za619) (fun _ _ _ h => h) (Or.inl ⟨by rfl, ?_⟩) ?_ ?_
 rotate_left
 ·
  intro w'
  go_simp
  with_reducible rfl
 rotate_left
 ·
  simp only [Act.put, y1a6, y2a6, y3a6, i64_w, i32_w]
  rfl
 refine pure_ (i := 8) (N := some 8) (v := ?_) (a' := ?_) #[true, true, true, true, true, true, true, true, true] rfl rfl (any_of HT_.out Za619) (fun _ _ _ h => h) (Or.inl ⟨by rfl, ?_⟩) ?_ ?_
 rotate_left
 ·
  intro w'
  go_simp
  with_reducible rfl
 rotate_left
 ·
  simp only [Act.put, y1a6, y2a6, y3a6, i64_w, i32_w]
  rfl
 refine done_ (done_of HT_.out Za619) ?_
 try go_wp2_with (first | ((with_reducible refine gate_callee (f := 17) rfl ?_); refine goesL_ (some 70) rfl rfl Try.func17 Za619 rfl #[.int .i64 (wrap64 (Int.tdiv (wrap64 ((rd l0 x7_2) - t205)) x6_2)), .int .i64 1, .int .i64 5] rfl Za68 ?_; (with_reducible refine (impl_in.calls (wrap64 (Int.tdiv (wrap64 ((rd l0 x7_2) - t205)) x6_2)) 1 5 true _ A55.out).mono ?_); rintro e w' ⟨rfl, ⟨nd, rfl⟩⟩; refine ⟨_, rfl, ?_⟩; (try (rw [drewN_self w64]; generalize hq_ : World.drewN w64 _ = w64; have n0_ : Aside0 (Kd.R (Kd.int .i64) 3 w64 w.heap.size (fun k_ => some k_ ≠ (.slice Ao63 x203001_2.length co63 : Value).ownBlock) (.slice Ao62 x203000_2.length co62) x203000_2) := ⟨by rw [← hq_]; exact Za613⟩; have n1_ : Aside0 (Kd.R (Kd.int .i64) 3 w64 w.heap.size (fun k_ => some k_ ≠ (.slice Ao62 x203000_2.length co62 : Value).ownBlock) (.slice Ao63 x203001_2.length co63) x203001_2) := ⟨by rw [← hq_]; exact Za614⟩; have n2_ : Aside0 (w64.heap[g193]? = some (.cells #[.slice none 0 0, .slice none 0 0] 24 (0, 0))) := ⟨by rw [← hq_]; exact Za611⟩; have n3_ : Aside0 (w64.heap[g202]? = some (.cells #[.slice Ao62 x203000_2.length co62, .slice Ao63 x203001_2.length co63] 24 (0, 0))) := ⟨by rw [← hq_]; exact Za612⟩; have n4_ : Aside0 (Below w.heap.size w w64) := ⟨by rw [← hq_]; exact Za66⟩; clear HO_203000 HO_203001 BK193 BK202 HB hq_; have HO_203000 := n0_; have HO_203001 := n1_; have BK193 := n2_; have BK202 := n3_; have HB := n4_; clear n0_ n1_ n2_ n3_ n4_)); have hnb65 := NB202_193.out; have hnc65 := NB193_202.out; have hcz66_0 : w64.cell? ⟨g202, 0, none⟩ = some (.slice Ao62 x203000_2.length co62) := (blk_cell BK202.out 0).trans rfl; have hcz66_1 : w64.cell? ⟨g202, 1, none⟩ = some (.slice Ao63 x203001_2.length co63) := (blk_cell BK202.out 1).trans rfl; have hfz66_0 := blk_frozen BK202.out 0; have hfz66_1 := blk_frozen BK202.out 1; have p60 : 0 ≤ ((ji57) : Int) := of_decide_eq_true Za618; have q60 : ((ji57) : Int) < ((x203001_2.length : Int) : Int) := of_decide_eq_true Za618; obtain ⟨go60, co60, eo60, g60, gl60, cl60, HG60⟩ := Kd.R_form HO_203001.out (by omega); (first | cases eo60 | (injection eo60 with ea_ en_ ec_; (first | subst ea_ | (injection ea_ with ea_; subst ea_)); subst ec_; clear en_)); have GB60 := Aa6q g60; have GG60 := Aa6q HG60; clear g60 gl60 HG60; obtain ⟨hx60_0, hf60_0⟩ := Kd.R_celln 0 HO_203001.out ((ji57) : Int) p60 q60; replace p60 := eq_true p60; replace q60 := eq_true q60; obtain ⟨hy67_, hz67_⟩ := Kd.R_celln 0 HO_203001.out ((ji57) : Int) (of_decide_eq_true Za618) (of_decide_eq_true Za618); have HP67 := Kd.R_putg HO_203001.out ((ji57) : Int) (wrap64 (Int.tdiv (wrap64 ((rd l0 x7_2) - t205)) x6_2))) | ((with_reducible refine gate_store (t := 3) (p := 79) rfl ?_); refine store_event (t := 3) (p := 79) (v := ?vo_w68) (w1 := (w64.setCell ⟨go60, ((ji57) : Int).toNat, none⟩ (.int .i64 (wrap64 (Int.tdiv (wrap64 ((rd l0 x7_2) - t205)) x6_2))))) ?hg ?ho ?hn ?hr ?_; (case ho => rfl); (case hg => rfl); (case hn => rfl); (case hr => first | (go_simp; done) | (go_simp; rfl)); intro w68 hw; have hg : w64.grownBy w68 (some go60) := (by rw [hw]; exact HP67.2); have hp_ : Kd.R (Kd.int .i64) 3 w68 w.heap.size (fun k_ => some k_ ≠ (.slice Ao62 x203000_2.length co62 : Value).ownBlock) (.slice (some ⟨go60, 0, none⟩) x203001_2.length co63) y209 := (by rw [hw, Ny209.out]; exact HP67.1); clear HP67; have n0_ := Aa6q (Kd.R_after (v := (.slice (some ⟨go60, 0, none⟩) x203001_2.length co63)) (v1 := (.slice (some ⟨go60, 0, none⟩) x203001_2.length co63)) (ok := (fun _ => True)) (by (with_reducible repeat (first | apply Kd.R_alloc | apply Kd.R_drewN | apply Kd.R_drew)); exact Kd.R_mono HO_203000.out (fun _ hk => ⟨trivial, hk⟩)) hg (.inl rfl)); have n1_ := Aa6q (hp_); have n2_ := Aa6q (blk_grown (g := g193) (o := .cells #[.slice none 0 0, .slice none 0 0] 24 (0, 0)) Za611 hg (Kd.R_ne HO_203001.out BK193.out (by decide))); have n3_ := Aa6q (blk_grown (g := g202) (o := .cells #[.slice Ao62 x203000_2.length co62, .slice (some ⟨go60, 0, none⟩) x203001_2.length co63] 24 (0, 0)) Za612 hg (Kd.R_ne HO_203001.out BK202.out (by decide))); have n4_ := Aa6q ((by rw [hw]; exact below_set (HB.out) GB60.out : Below w.heap.size w w68)); clear HO_203000; clear HO_203001; clear BK193; clear BK202; clear HB; have HO_203000 := n0_; have HO_203001 := n1_; have BK193 := n2_; have BK202 := n3_; have HB := n4_; clear n0_ n1_ n2_ n3_ n4_; clear hg hw hp_))
 go_roundg k2
 case measure => have := HJ1.out; have := HK2.out; omega
 case rel => exact ⟨(wrap64 (x6_2 * (wrap64 (Int.tdiv (wrap64 ((rd l0 x7_2) - t205)) x6_2)))), (wrap64 (x7_2 + 1)), (x203000_2), (y209), (.slice Ao62 x203000_2.length co62), (.slice (some ⟨go60, 0, none⟩) x203001_2.length co63), Za617, Za617, H', ⟨by have := HJ1.out; have := HK2.out; omega⟩, ⟨by (with_reducible repeat (first | apply Kd.R_alloc | apply Kd.R_drewN | apply Kd.R_drew)); exact Kd.R_mono HO_203000.out (fun _ hk => hk.2)⟩, ⟨by (with_reducible repeat (first | apply Kd.R_alloc | apply Kd.R_drewN | apply Kd.R_drew)); exact HO_203001.out⟩, ⟨by (with_reducible repeat (first | refine blk_drewN ?_ _ | refine blk_drew ?_ | refine blk_alloc ?_ _)); exact BK193.out⟩, ⟨by (with_reducible repeat (first | refine blk_drewN ?_ _ | refine blk_drew ?_ | refine blk_alloc ?_ _)); exact BK202.out⟩, ⟨by repeat (first | (with_reducible first | exact HB.out | apply below_alloc | apply pw_below_drewN | apply below_drew1 | refine below_set ?_ GE193.out | refine below_set ?_ GE202.out) | exact HB.out)⟩⟩
end Go.Proofs.Ytgoiohlmifgncaa.OFnExactLevelsOf
