/- The functions that 'FnExactAllPairsApart' runs, each as a function over numbers and lists, with the proof that the Go text comes to its answers. No condition. -/
import Derived.Test.YthlbbngmgioamaaOFnExactAllPairsApartx0
import Derived.Test.YthlbbngmgioamaaOFnExactAllPairsApartx1
namespace Go.Proofs.Ythlbbngmgioamaa.OFnExactAllPairsApart
open Go.Proofs.Ythlbbngmgioamaa.Stub
open Go.RowKit Go.Proofs.YthlbbngmgioamaaW.PrintWords Go.Proofs.YthlbbngmgioamaaW.PrintLast Go.Proofs.YthlbbngmgioamaaW.PrintMore
attribute [local go_sem] max2_int min2_int max_two min_two max_three min_three max_four min_four   -- for this text's walks alone
set_option linter.unusedVariables false
set_option linter.unusedSimpArgs false

attribute [local go_sem high] eqA27
/-! ### laws_toCell: function 5 -/
theorem Zre {p : Prop} (h : p := by first | rfl | (simp [errW_none, errW_some] <;> rfl) | (simp [*, errW_none, errW_some] <;> rfl)) : p := h
theorem Zbe {p : Prop} (h : p := by repeat (first | (with_reducible first | exact HB.out | apply below_alloc | apply pw_below_drewN | apply below_drew1) | exact HB.out)) : p := h
theorem Zse {p : Prop} (h : p := by first | rfl | (simp; done) | (simp [*]; done)) : p := h
theorem y1e {α : Type} (l : List α) (i : Nat) (a : α) : l.toArray.setIfInBounds i a = (l.set i a).toArray := List.setIfInBounds_toArray l i a
theorem y2e {α : Type} {x : α} {xs : List α} {b : α} : (x :: xs).set 0 b = b :: xs := List.set_cons_zero
theorem y3e {α : Type} {x : α} {xs : List α} {n : Nat} {b : α} : (x :: xs).set (n + 1) b = x :: xs.set n b := List.set_cons_succ
theorem Aeq {p : Prop} (h : p) : Aside0 p := Aside0.mk h
theorem Ze1 {p : Prop} (h : p := by first | exact HK.out.1 | exact (show Kept w _ (fun k_ => P0_ k_) from by repeat (first | (with_reducible first | exact HK.out | apply Kept.alloc | apply Kept.drewN | apply Kept.drew | refine Kept.setCell ?_ (.inr GW212.out) _ | refine Kept.setCell ?_ (.inr GW213.out) _) | exact HK.out)).1) : p := h
theorem Ze2 {p : Prop} (h : p := by rw [hg]; exact Nat.ne_of_lt (blk_lt (g := g207) (o := .cells #[.int .i64 a0_0, .int .i64 a0_1] 27 (0, 0)) (by (with_reducible repeat (first | refine blk_drewN ?_ _ | refine blk_drew ?_ | refine blk_alloc ?_ _)); exact BK207.out))) : p := h
theorem Ze3 {p : Prop} (h : p := by rw [hg]; exact Nat.ne_of_gt (blk_lt (g := g207) (o := .cells #[.int .i64 a0_0, .int .i64 a0_1] 27 (0, 0)) (by (with_reducible repeat (first | refine blk_drewN ?_ _ | refine blk_drew ?_ | refine blk_alloc ?_ _)); exact BK207.out))) : p := h
theorem Ze4 {p : Prop} (h : p := by rw [hg]; exact (below_size (by repeat (first | (with_reducible first | exact HB.out | apply below_alloc | apply pw_below_drewN | apply below_drew1 | refine below_set ?_ GE207.out) | exact HB.out)))) : p := h
theorem Ze5 {p : Prop} (h : p := by rw [hg]; exact (below_size (by repeat (first | (with_reducible first | exact HB.out | apply below_alloc | apply pw_below_drewN | apply below_drew1 | refine below_set ?_ GE210.out) | exact HB.out)))) : p := h
theorem Ze6 {p : Prop} (h : p := by repeat (first | (with_reducible first | exact HK.out | apply Kept.alloc | apply Kept.drewN | apply Kept.drew | refine Kept.setCell ?_ (.inr GW212.out) _ | refine Kept.setCell ?_ (.inr GW213.out) _) | exact HK.out)) : p := h
theorem Ze7 {p : Prop} (h : p := by repeat (first | (with_reducible first | exact HB.out | apply below_alloc | apply pw_below_drewN | apply below_drew1 | refine below_set ?_ GE200.out | refine below_set ?_ GE201.out) | exact HB.out)) : p := h
theorem Ze8 {p : Prop} (h : p := by repeat (first | (with_reducible first | exact HB.out | apply below_alloc | apply pw_below_drewN | apply below_drew1 | refine below_set ?_ GE212.out | refine below_set ?_ GE213.out) | exact HB.out)) : p := h
theorem Ze9 {p : Prop} (h : p := by rw [hg]; exact (below_size (Zbe))) : p := h
theorem Ze10 {p : Prop} (h : p := by rw [hg]; exact (below_size (Zbe))) : p := h
theorem Ze11 {p : Prop} (h : p := by rw [hg]; exact (below_size (Zbe))) : p := h
theorem Ze12 {p : Prop} (h : p := by repeat (first | (with_reducible first | exact HB.out | apply below_alloc | apply pw_below_drewN | apply below_drew1 | refine below_set ?_ GE212.out) | exact HB.out)) : p := h
theorem Ze13 {p : Prop} (h : p := by (try simp only [List.map_toArray, List.map_cons, List.map_nil]); first | done | rfl | (simp only [List.length_drop, List.length_take]; rfl)) : p := h
theorem Ze14 {p : Prop} (h : p := by repeat (first | (with_reducible first | exact HB.out | apply below_alloc | apply pw_below_drewN | apply below_drew1) | exact HB.out)) : p := h
theorem Ze15 {p : Prop} (h : p := by (with_reducible repeat (first | refine blk_drewN ?_ _ | refine blk_drew ?_ | refine blk_alloc ?_ _)); exact BK200.out) : p := h
theorem Ze16 {p : Prop} (h : p := by (with_reducible repeat (first | refine blk_drewN ?_ _ | refine blk_drew ?_ | refine blk_alloc ?_ _)); exact BK210.out) : p := h
theorem Ze17 {p : Prop} (h : p := by (with_reducible repeat (first | refine blk_drewN ?_ _ | refine blk_drew ?_ | refine blk_alloc ?_ _)); exact BK212.out) : p := h
theorem Ze18 {p : Prop} (h : p := by (with_reducible repeat (first | refine blk_drewN ?_ _ | refine blk_drew ?_ | refine blk_alloc ?_ _)); exact BK213.out) : p := h
theorem Ze19 {p : Prop} (h : p := by (with_reducible repeat (first | apply Kd.R_alloc | apply Kd.R_drewN | apply Kd.R_drew)); exact HO0.out) : p := h
def laws_toCell.f (a0_0 : Int) (a0_1 : Int) : Option (Int × Int) := some (a0_0, a0_1)
set_option maxHeartbeats 8000000 in
set_option maxRecDepth 100000 in
theorem laws_toCell.calls (a0_0 : Int) (a0_1 : Int) (r1 : Int) (r2 : Int) (w : World) (h : laws_toCell.f a0_0 a0_1 = some (r1, r2)) :
    Calls Try.prog 5 #[.agg #[.int .i64 a0_0, .int .i64 a0_1]] w fun e w' => e = .returned (.agg #[.int .i64 r1, .int .i64 r2]) ∧ Below w.heap.size w w' := by
 have hu23 := Try.underlying23
 have hu27 := Try.underlying27
 have HB := Aeq (Below.refl w.heap.size w)
 have H : (some (a0_0, a0_1)) = some (r1, r2) := h
 clear h
 simp only [Option.some.injEq, Prod.mk.injEq] at H
 obtain ⟨rfl, rfl⟩ := H
 go_enter Try.func5, Try.ntmps5
 go_wp2_with (first | ((with_reducible refine gate_dst (N := 1) rfl ?_); refine box_event ?hg (N := 1) ?hd (cs := #[.int .i64 a0_0, .int .i64 a0_1]) (t := 23) ?hr ?_; (case hd => rfl); (case hg => rfl); (case hr => first | (go_simp; done) | (go_simp; rfl)); intro g200 hg w2 hbox hb; have n0_ := Aeq (below_step Ze14 hb); have n1_ := Aeq (hbox); have n2_ := Aeq ((by rw [hg]; exact (below_size Ze14) : w.heap.size ≤ g200)); have n3_ := Aeq ((by rw [hg]; exact (below_size Ze14) : w.heap.size ≤ g200)); clear HB; have HB := n0_; have BK200 := n1_; have GW200 := n2_; have GE200 := n3_; clear n0_ n1_ n2_ n3_; clear hb hbox hg) | ((with_reducible refine gate_dst (N := 2) rfl ?_); refine box_event ?hg (N := 2) ?hd (cs := #[.int .i64 0, .int .i64 0]) (t := 27) ?hr ?_; (case hd => rfl); (case hg => rfl); (case hr => first | (go_simp; done) | (go_simp; rfl)); intro g201 hg w3 hbox hb; have n0_ := Aeq (blk_below (g := g200) (o := .cells #[.int .i64 a0_0, .int .i64 a0_1] 23 (0, 0)) Ze15 hb); have n1_ := Aeq (below_step (by repeat (first | (with_reducible first | exact HB.out | apply below_alloc | apply pw_below_drewN | apply below_drew1 | refine below_set ?_ GE200.out) | exact HB.out)) hb); have n2_ := Aeq (hbox); have n3_ := Aeq ((by rw [hg]; exact (below_size (by repeat (first | (with_reducible first | exact HB.out | apply below_alloc | apply pw_below_drewN | apply below_drew1 | refine below_set ?_ GE200.out) | exact HB.out))) : w.heap.size ≤ g201)); have n4_ := Aeq ((by rw [hg]; exact (below_size (by repeat (first | (with_reducible first | exact HB.out | apply below_alloc | apply pw_below_drewN | apply below_drew1 | refine below_set ?_ GE200.out) | exact HB.out))) : w.heap.size ≤ g201)); have n5_ := Aeq ((by rw [hg]; exact Nat.ne_of_lt (blk_lt (g := g200) (o := .cells #[.int .i64 a0_0, .int .i64 a0_1] 23 (0, 0)) Ze15) : g200 ≠ g201)); have n6_ := Aeq ((by rw [hg]; exact Nat.ne_of_gt (blk_lt (g := g200) (o := .cells #[.int .i64 a0_0, .int .i64 a0_1] 23 (0, 0)) Ze15) : g201 ≠ g200)); clear BK200; clear HB; have BK200 := n0_; have HB := n1_; have BK201 := n2_; have GW201 := n3_; have GE201 := n4_; have NB200_201 := n5_; have NB201_200 := n6_; clear n0_ n1_ n2_ n3_ n4_ n5_ n6_; clear hb hbox hg) | ((with_reducible refine gate_dst (N := 3) rfl ?_); refine box_event ?hg (N := 3) ?hd (cs := #[.int .i64 0, .int .i64 0]) (t := 27) ?hr ?_; (case hd => rfl); (case hg => rfl); (case hr => first | (go_simp; done) | (go_simp; rfl)); intro g202 hg w4 hbox hb; have n0_ := Aeq (blk_below (g := g200) (o := .cells #[.int .i64 a0_0, .int .i64 a0_1] 23 (0, 0)) Ze15 hb); have n1_ := Aeq (blk_below (g := g201) (o := .cells #[.int .i64 0, .int .i64 0] 27 (0, 0)) (by (with_reducible repeat (first | refine blk_drewN ?_ _ | refine blk_drew ?_ | refine blk_alloc ?_ _)); exact BK201.out) hb); have n2_ := Aeq (below_step Ze7 hb); have n3_ := Aeq (hbox); have n4_ := Aeq ((by rw [hg]; exact (below_size Ze7) : w.heap.size ≤ g202)); have n5_ := Aeq ((by rw [hg]; exact (below_size Ze7) : w.heap.size ≤ g202)); have n6_ := Aeq ((by rw [hg]; exact Nat.ne_of_lt (blk_lt (g := g200) (o := .cells #[.int .i64 a0_0, .int .i64 a0_1] 23 (0, 0)) Ze15) : g200 ≠ g202)); have n7_ := Aeq ((by rw [hg]; exact Nat.ne_of_gt (blk_lt (g := g200) (o := .cells #[.int .i64 a0_0, .int .i64 a0_1] 23 (0, 0)) Ze15) : g202 ≠ g200)); have n8_ := Aeq ((by rw [hg]; exact Nat.ne_of_lt (blk_lt (g := g201) (o := .cells #[.int .i64 0, .int .i64 0] 27 (0, 0)) (by (with_reducible repeat (first | refine blk_drewN ?_ _ | refine blk_drew ?_ | refine blk_alloc ?_ _)); exact BK201.out)) : g201 ≠ g202)); have n9_ := Aeq ((by rw [hg]; exact Nat.ne_of_gt (blk_lt (g := g201) (o := .cells #[.int .i64 0, .int .i64 0] 27 (0, 0)) (by (with_reducible repeat (first | refine blk_drewN ?_ _ | refine blk_drew ?_ | refine blk_alloc ?_ _)); exact BK201.out)) : g202 ≠ g201)); clear BK200; clear BK201; clear HB; have BK200 := n0_; have BK201 := n1_; have HB := n2_; have BK202 := n3_; have GW202 := n4_; have GE202 := n5_; have NB200_202 := n6_; have NB202_200 := n7_; have NB201_202 := n8_; have NB202_201 := n9_; clear n0_ n1_ n2_ n3_ n4_ n5_ n6_ n7_ n8_ n9_; clear hb hbox hg; have hnb5 := NB200_201.out; have hnc5 := NB201_200.out; have hnb6 := NB200_202.out; have hnc6 := NB202_200.out; have hcz7_0 : w4.cell? ⟨g200, 0, none⟩ = some (.int .i64 a0_0) := (blk_cell BK200.out 0).trans rfl; have hcz7_1 : w4.cell? ⟨g200, 1, none⟩ = some (.int .i64 a0_1) := (blk_cell BK200.out 1).trans rfl; have hfz7_0 := blk_frozen BK200.out 0; have hfz7_1 := blk_frozen BK200.out 1; have hnb8 := NB202_201.out; have hnc8 := NB201_202.out; have hcz9_0 : w4.cell? ⟨g202, 0, none⟩ = some (.int .i64 0) := (blk_cell BK202.out 0).trans rfl; have hcz9_1 : w4.cell? ⟨g202, 1, none⟩ = some (.int .i64 0) := (blk_cell BK202.out 1).trans rfl; have hfz9_0 := blk_frozen BK202.out 0; have hfz9_1 := blk_frozen BK202.out 1; have hcz10_0 : w4.cell? ⟨g201, 0, none⟩ = some (.int .i64 0) := (blk_cell BK201.out 0).trans rfl; have hcz10_1 : w4.cell? ⟨g201, 1, none⟩ = some (.int .i64 0) := (blk_cell BK201.out 1).trans rfl; have hfz10_0 := blk_frozen BK201.out 0; have hfz10_1 := blk_frozen BK201.out 1))
 refine bodyPost_ret (results_cell_row rfl _ _ g201 27 #[.int .i64 a0_0, .int .i64 a0_1] (0, 0) _ rfl (by (with_reducible repeat (first | refine blk_drewN ?_ _ | refine blk_drew ?_ | refine blk_alloc ?_ _)); refine blk_put (cs := #[.int .i64 a0_0, .int .i64 0]) ?_ 1 _ rfl; (with_reducible repeat (first | refine blk_drewN ?_ _ | refine blk_drew ?_ | refine blk_alloc ?_ _)); refine blk_put (cs := #[.int .i64 0, .int .i64 0]) ?_ 0 _ rfl; (with_reducible repeat (first | refine blk_drewN ?_ _ | refine blk_drew ?_ | refine blk_alloc ?_ _)); refine blk_far ?_ NB201_202.out _; (with_reducible repeat (first | refine blk_drewN ?_ _ | refine blk_drew ?_ | refine blk_alloc ?_ _)); refine blk_far ?_ NB201_202.out _; (with_reducible repeat (first | refine blk_drewN ?_ _ | refine blk_drew ?_ | refine blk_alloc ?_ _)); exact BK201.out) Try.underlying27 rfl (by kernel_rfl)) rfl ?_
 exact ⟨Zre, by repeat (first | (with_reducible first | exact HB.out | apply below_alloc | apply pw_below_drewN | apply below_drew1 | refine below_set ?_ GE200.out | refine below_set ?_ GE201.out | refine below_set ?_ GE202.out) | exact HB.out)⟩

/-! ### impl_in: function 23 -/
def impl_in.f (a0 : Int) (a1 : Int) (a2 : Int) : Option (Bool) := if a1 ≤ a0 then (some (decide (a0 ≤ a2))) else (some false)
set_option maxHeartbeats 8000000 in
set_option maxRecDepth 100000 in
theorem impl_in.calls (a0 : Int) (a1 : Int) (a2 : Int) (r : Bool) (w : World) (h : impl_in.f a0 a1 a2 = some r) :
    Calls Try.prog 23 #[.int .i64 a0, .int .i64 a1, .int .i64 a2] w fun e w' => e = .returned (.bool r) ∧ Drawn0 w w' := by
 have H : (if a1 ≤ a0 then (some (decide (a0 ≤ a2))) else (some false)) = some r := h
 clear h
 by_cases c4 : a1 ≤ a0
 ·
  rw [if_pos c4] at H
  have c4b0 : decide (a1 ≤ a0) = true := decide_eq_true c4
  clear c4
  obtain rfl := Option.some.inj H
  go_enter Try.func23, Try.ntmps23
  go_wp2
  go_ret
  exact ⟨Zse, by repeat (first | exact Drawn0.refl _ | apply Drawn0.step)⟩
 ·
  rw [if_neg c4] at H
  have c4b0 : decide (a1 ≤ a0) = false := decide_eq_false c4
  clear c4
  obtain rfl := Option.some.inj H
  go_enter Try.func23, Try.ntmps23
  go_wp2
  go_ret
  exact ⟨Zse, by repeat (first | exact Drawn0.refl _ | apply Drawn0.step)⟩

/-! ### impl_IsCell: function 13 -/
def impl_IsCell.f (a0_0 : Int) (a0_1 : Int) : Option (Bool) := (impl_in.f a0_0 0 12).bind fun t204 => (if t204 = true then ((impl_in.f a0_1 0 12).bind fun t205 => (some t205)) else (some false))
set_option maxHeartbeats 8000000 in
set_option maxRecDepth 100000 in
theorem impl_IsCell.calls (a0_0 : Int) (a0_1 : Int) (r : Bool) (w : World) (h : impl_IsCell.f a0_0 a0_1 = some r) :
    Calls Try.prog 13 #[.agg #[.int .i64 a0_0, .int .i64 a0_1]] w fun e w' => e = .returned (.bool r) ∧ Below w.heap.size w w' := by
 have hu27 := Try.underlying27
 have HB := Aeq (Below.refl w.heap.size w)
 have H : ((impl_in.f a0_0 0 12).bind fun t204 => (if t204 = true then ((impl_in.f a0_1 0 12).bind fun t205 => (some t205)) else (some false))) = some r := h
 clear h
 replace H := Option.bind_eq_some_iff.mp H
 obtain ⟨t204, A20, H⟩ := H
 replace H : (if t204 = true then ((impl_in.f a0_1 0 12).bind fun t205 => (some t205)) else (some false)) = some r := H
 have A2 := Aeq A20
 clear A20
 by_cases c3 : t204 = true
 ·
  subst c3
  have H1 : ((impl_in.f a0_1 0 12).bind fun t205 => (some t205)) = some r := by rw [if_pos rfl] at H; exact H
  clear H
  have H := H1
  clear H1
  replace H := Option.bind_eq_some_iff.mp H
  obtain ⟨t205, A40, H⟩ := H
  replace H : (some t205) = some r := H
  have A4 := Aeq A40
  clear A40
  obtain rfl := Option.some.inj H
  go_enter Try.func13, Try.ntmps13
  go_wp2_with (first | ((with_reducible refine gate_dst (N := 1) rfl ?_); refine box_event ?hg (N := 1) ?hd (cs := #[.int .i64 a0_0, .int .i64 a0_1]) (t := 27) ?hr ?_; (case hd => rfl); (case hg => rfl); (case hr => first | (go_simp; done) | (go_simp; rfl)); intro g203 hg w5 hbox hb; have n0_ := Aeq (below_step Ze14 hb); have n1_ := Aeq (hbox); have n2_ := Aeq ((Ze9 : w.heap.size ≤ g203)); have n3_ := Aeq ((Ze9 : w.heap.size ≤ g203)); clear HB; have HB := n0_; have BK203 := n1_; have GW203 := n2_; have GE203 := n3_; clear n0_ n1_ n2_ n3_; clear hb hbox hg; have hcz6_0 : w5.cell? ⟨g203, 0, none⟩ = some (.int .i64 a0_0) := (blk_cell BK203.out 0).trans rfl; have hcz6_1 : w5.cell? ⟨g203, 1, none⟩ = some (.int .i64 a0_1) := (blk_cell BK203.out 1).trans rfl; have hfz6_0 := blk_frozen BK203.out 0; have hfz6_1 := blk_frozen BK203.out 1) | ((with_reducible refine gate_callee (f := 23) rfl ?_); refine goesL_ (some 5) rfl rfl Try.func23 (by kernel_rfl) rfl #[.int .i64 a0_0, .int .i64 0, .int .i64 12] rfl Ze13 ?_; (with_reducible refine (impl_in.calls a0_0 0 12 true _ A2.out).mono ?_); rintro e w' ⟨rfl, ⟨nd, rfl⟩⟩; refine ⟨_, rfl, ?_⟩) | (go_at_call 23; (with_reducible refine (impl_in.calls a0_1 0 12 t205 _ A4.out).mono ?_); rintro e w' ⟨rfl, ⟨nd, rfl⟩⟩))
  go_ret
  exact ⟨Zre, by repeat (first | (with_reducible first | exact HB.out | apply below_alloc | apply pw_below_drewN | apply below_drew1 | refine below_set ?_ GE203.out) | exact HB.out)⟩
 ·
  replace c3 := Bool.eq_false_iff.mpr c3
  subst c3
  have H1 : (some false) = some r := by rw [if_neg (show ¬ (false = true) by decide)] at H; exact H
  clear H
  have H := H1
  clear H1
  obtain rfl := Option.some.inj H
  go_enter Try.func13, Try.ntmps13
  go_wp2_with (first | ((with_reducible refine gate_dst (N := 1) rfl ?_); refine box_event ?hg (N := 1) ?hd (cs := #[.int .i64 a0_0, .int .i64 a0_1]) (t := 27) ?hr ?_; (case hd => rfl); (case hg => rfl); (case hr => first | (go_simp; done) | (go_simp; rfl)); intro g203 hg w7 hbox hb; have n0_ := Aeq (below_step Ze14 hb); have n1_ := Aeq (hbox); have n2_ := Aeq ((Ze9 : w.heap.size ≤ g203)); have n3_ := Aeq ((Ze9 : w.heap.size ≤ g203)); clear HB; have HB := n0_; have BK203 := n1_; have GW203 := n2_; have GE203 := n3_; clear n0_ n1_ n2_ n3_; clear hb hbox hg; have hcz8_0 : w7.cell? ⟨g203, 0, none⟩ = some (.int .i64 a0_0) := (blk_cell BK203.out 0).trans rfl; have hcz8_1 : w7.cell? ⟨g203, 1, none⟩ = some (.int .i64 a0_1) := (blk_cell BK203.out 1).trans rfl; have hfz8_0 := blk_frozen BK203.out 0; have hfz8_1 := blk_frozen BK203.out 1) | ((with_reducible refine gate_callee (f := 23) rfl ?_); refine goesL_ (some 5) rfl rfl Try.func23 (by kernel_rfl) rfl #[.int .i64 a0_0, .int .i64 0, .int .i64 12] rfl Ze13 ?_; (with_reducible refine (impl_in.calls a0_0 0 12 false _ A2.out).mono ?_); rintro e w' ⟨rfl, ⟨nd, rfl⟩⟩; refine ⟨_, rfl, ?_⟩))
  go_ret
  exact ⟨Zre, by repeat (first | (with_reducible first | exact HB.out | apply below_alloc | apply pw_below_drewN | apply below_drew1 | refine below_set ?_ GE203.out) | exact HB.out)⟩

/-! ### impl_choose: function 31 -/
def impl_choose.l0 : Nat → Int → Int → Int → Int → Option (Int)
  | 0, _, _, _, _ => none
  | k + 1, x0, x5, x11, x12 => if x12 < x11 then (if (wrap64 (x12 + 1)) = 0 then (none) else (impl_choose.l0 k x0 (wrap64 (Int.tdiv (wrap64 (x5 * (wrap64 (x0 - x12)))) (wrap64 (x12 + 1)))) x11 (wrap64 (x12 + 1)))) else (some x5)
def impl_choose.f (k : Nat) (a0 : Int) (a1 : Int) : Option (Int) := (impl_in.f a1 0 a0).bind fun t206 => (if t206 = true then (impl_choose.l0 k a0 1 a1 0) else (some 0))
theorem impl_choose.mono_l : ∀ k, (∀ y0 y1 y2 y3, LeO (impl_choose.l0 k y0 y1 y2 y3) (impl_choose.l0 (k + 1) y0 y1 y2 y3))
  | 0 => fun _ _ _ _ r h => by simp [impl_choose.l0] at h
  | k + 1 => by
    have ih0 := impl_choose.mono_l k
    · intro y0 y1 y2 y3
      unfold impl_choose.l0
      repeat' first
      | (with_reducible exact ih0 _ _ _ _)
      | (with_reducible exact LeO.refl _)
      | (with_reducible exact LeO.none _)
      | (with_reducible refine LeO.ite ?_ ?_)
      | (with_reducible refine LeO.bind ?_ (fun _ => ?_))
      | exact ih0 _ _ _ _
      | exact LeO.none _
      | refine LeO.ite ?_ ?_
      | refine LeO.bind ?_ (fun _ => ?_)
theorem impl_choose.mono : ∀ a0 a1 k, LeO (impl_choose.f k a0 a1) (impl_choose.f (k + 1) a0 a1) := by
  intro a0 a1 k
  have ih0 := impl_choose.mono_l k
  unfold impl_choose.f
  repeat' first
      | (with_reducible exact ih0 _ _ _ _)
      | (with_reducible exact LeO.refl _)
      | (with_reducible exact LeO.none _)
      | (with_reducible refine LeO.ite ?_ ?_)
      | (with_reducible refine LeO.bind ?_ (fun _ => ?_))
      | exact ih0 _ _ _ _
      | exact LeO.none _
      | refine LeO.ite ?_ ?_
      | refine LeO.bind ?_ (fun _ => ?_)
set_option maxHeartbeats 8000000 in
set_option maxRecDepth 100000 in
theorem impl_choose.calls (k : Nat) (a0 : Int) (a1 : Int) (r : Int) (w : World) (h : impl_choose.f k a0 a1 = some r) :
    Calls Try.prog 31 #[.int .i64 a0, .int .i64 a1] w fun e w' => e = .returned (.int .i64 r) ∧ Drawn0 w w' := by
 have H : ((impl_in.f a1 0 a0).bind fun t206 => (if t206 = true then (impl_choose.l0 k a0 1 a1 0) else (some 0))) = some r := h
 clear h
 replace H := Option.bind_eq_some_iff.mp H
 obtain ⟨t206, A30, H⟩ := H
 replace H : (if t206 = true then (impl_choose.l0 k a0 1 a1 0) else (some 0)) = some r := H
 have A3 := Aeq A30
 clear A30
 by_cases c4 : t206 = true
 ·
  subst c4
  have H1 : (impl_choose.l0 k a0 1 a1 0) = some r := by rw [if_pos rfl] at H; exact H
  clear H
  have H := H1
  clear H1
  have H' := Aeq H
  clear H
  go_enter Try.func31, Try.ntmps31
  go_wp2_with (first | ((with_reducible refine gate_callee (f := 23) rfl ?_); refine goesL_ (some 9) rfl rfl Try.func23 (by kernel_rfl) rfl #[.int .i64 a1, .int .i64 0, .int .i64 a0] rfl Ze13 ?_; (with_reducible refine (impl_in.calls a1 0 a0 true _ A3.out).mono ?_); rintro e w' ⟨rfl, ⟨nd, rfl⟩⟩; refine ⟨_, rfl, ?_⟩))
  go_loopg [5, 12] k (fun kq v5 v12 w' => ∃ (x5_1 : Int) (x12_1 : Int), v5 = .int .i64 x5_1 ∧ v12 = .int .i64 x12_1 ∧ Aside0 (impl_choose.l0 kq a0 x5_1 a1 x12_1 = some r) ∧ Aside0 (kq ≤ k) ∧ Drawn0 w w')
  case atStart => exact ⟨(1), (0), (by first | rfl | (simp; done) | (simp [*]; done) | (simp only [i64_w]; done)), (by first | rfl | (simp; done) | (simp [*]; done) | (simp only [i64_w]; done)), H', ⟨Nat.le_refl _⟩, by repeat (first | exact Drawn0.refl _ | apply Drawn0.step)⟩
  case round =>
   clear H'
   try clear c2
   try clear p2
   try clear c3
   try clear c4
   obtain ⟨x5_1, x12_1, rfl, rfl, HA, HK1, ⟨m1, rfl⟩⟩ := hrel
   cases gk with
   | zero => exact absurd HA.out (by simp [impl_choose.l0])
   | succ k1 =>
    have H := HA.out
    clear HA
    simp only [impl_choose.l0] at H
    by_cases c5 : x12_1 < a1
    ·
     rw [if_pos c5] at H
     have c5b0 : decide (x12_1 < a1) = true := decide_eq_true c5
     clear c5
     by_cases c6 : (wrap64 (x12_1 + 1)) = 0
     ·
      rw [if_pos c6] at H
      exact absurd H (by simp)
     ·
      rw [if_neg c6] at H
      have c6b0 : ((wrap64 (x12_1 + 1)) == 0) = false := beq_eq_false_iff_ne.mpr c6
      have c6b1 : ((wrap64 (x12_1 + 1)) != 0) = true := bne_iff_ne.mpr c6
      have H' := Aeq H
      clear H
      go_wp2
      go_roundg k1
      case measure => have := HK1.out; omega
      case rel => exact ⟨(wrap64 (Int.tdiv (wrap64 (x5_1 * (wrap64 (a0 - x12_1)))) (wrap64 (x12_1 + 1)))), (wrap64 (x12_1 + 1)), (by first | rfl | (simp; done) | (simp [*]; done) | (simp only [i64_w]; done)), (by first | rfl | (simp; done) | (simp [*]; done) | (simp only [i64_w]; done)), H', ⟨by have := HK1.out; omega⟩, by repeat (first | exact Drawn0.refl _ | apply Drawn0.step)⟩
    ·
     rw [if_neg c5] at H
     have c5b0 : decide (x12_1 < a1) = false := decide_eq_false c5
     clear c5
     obtain rfl := Option.some.inj H
     go_wp2
     go_ret
     exact ⟨Zse, by repeat (first | exact Drawn0.refl _ | apply Drawn0.step)⟩
 ·
  replace c4 := Bool.eq_false_iff.mpr c4
  subst c4
  have H1 : (some 0) = some r := by rw [if_neg (show ¬ (false = true) by decide)] at H; exact H
  clear H
  have H := H1
  clear H1
  obtain rfl := Option.some.inj H
  go_enter Try.func31, Try.ntmps31
  go_wp2_with (first | ((with_reducible refine gate_callee (f := 23) rfl ?_); refine goesL_ (some 9) rfl rfl Try.func23 (by kernel_rfl) rfl #[.int .i64 a1, .int .i64 0, .int .i64 a0] rfl Ze13 ?_; (with_reducible refine (impl_in.calls a1 0 a0 false _ A3.out).mono ?_); rintro e w' ⟨rfl, ⟨nd, rfl⟩⟩; refine ⟨_, rfl, ?_⟩))
  go_ret
  exact ⟨Zse, by repeat (first | exact Drawn0.refl _ | apply Drawn0.step)⟩

/-! ### impl_ways: function 24 -/
def impl_ways.f (k : Nat) (a0_0 : Int) (a0_1 : Int) (a1_0 : Int) (a1_1 : Int) : Option (Int) := if a1_0 < a0_0 then (some 0) else (if a1_1 < a0_1 then (some 0) else ((impl_choose.f k (wrap64 ((wrap64 ((wrap64 (a1_0 - a0_0)) + a1_1)) - a0_1)) (wrap64 (a1_0 - a0_0))).bind fun t209 => (some t209)))
theorem impl_ways.mono : ∀ a0 a1 a2 a3 k, LeO (impl_ways.f k a0 a1 a2 a3) (impl_ways.f (k + 1) a0 a1 a2 a3) := by
  intro a0 a1 a2 a3 k
  unfold impl_ways.f
  repeat' first
      | (with_reducible exact impl_choose.mono _ _ _)
      | (with_reducible exact LeO.refl _)
      | (with_reducible exact LeO.none _)
      | (with_reducible refine LeO.ite ?_ ?_)
      | (with_reducible refine LeO.bind ?_ (fun _ => ?_))
      | exact impl_choose.mono _ _ _
      | exact LeO.none _
      | refine LeO.ite ?_ ?_
      | refine LeO.bind ?_ (fun _ => ?_)
set_option maxHeartbeats 8000000 in
set_option maxRecDepth 100000 in
theorem impl_ways.calls (k : Nat) (a0_0 : Int) (a0_1 : Int) (a1_0 : Int) (a1_1 : Int) (r : Int) (w : World) (h : impl_ways.f k a0_0 a0_1 a1_0 a1_1 = some r) :
    Calls Try.prog 24 #[.agg #[.int .i64 a0_0, .int .i64 a0_1], .agg #[.int .i64 a1_0, .int .i64 a1_1]] w fun e w' => e = .returned (.int .i64 r) ∧ Below w.heap.size w w' := by
 have hu27 := Try.underlying27
 have HB := Aeq (Below.refl w.heap.size w)
 have H : (if a1_0 < a0_0 then (some 0) else (if a1_1 < a0_1 then (some 0) else ((impl_choose.f k (wrap64 ((wrap64 ((wrap64 (a1_0 - a0_0)) + a1_1)) - a0_1)) (wrap64 (a1_0 - a0_0))).bind fun t209 => (some t209)))) = some r := h
 clear h
 by_cases c3 : a1_0 < a0_0
 ·
  rw [if_pos c3] at H
  have c3b0 : decide (a1_0 < a0_0) = true := decide_eq_true c3
  clear c3
  obtain rfl := Option.some.inj H
  go_enter Try.func24, Try.ntmps24
  go_wp2_with (first | ((with_reducible refine gate_dst (N := 2) rfl ?_); refine box_event ?hg (N := 2) ?hd (cs := #[.int .i64 a0_0, .int .i64 a0_1]) (t := 27) ?hr ?_; (case hd => rfl); (case hg => rfl); (case hr => first | (go_simp; done) | (go_simp; rfl)); intro g207 hg w4 hbox hb; have n0_ := Aeq (below_step Ze14 hb); have n1_ := Aeq (hbox); have n2_ := Aeq ((Ze10 : w.heap.size ≤ g207)); have n3_ := Aeq ((Ze10 : w.heap.size ≤ g207)); clear HB; have HB := n0_; have BK207 := n1_; have GW207 := n2_; have GE207 := n3_; clear n0_ n1_ n2_ n3_; clear hb hbox hg) | ((with_reducible refine gate_dst (N := 3) rfl ?_); refine box_event ?hg (N := 3) ?hd (cs := #[.int .i64 a1_0, .int .i64 a1_1]) (t := 27) ?hr ?_; (case hd => rfl); (case hg => rfl); (case hr => first | (go_simp; done) | (go_simp; rfl)); intro g208 hg w5 hbox hb; have n0_ := Aeq (blk_below (g := g207) (o := .cells #[.int .i64 a0_0, .int .i64 a0_1] 27 (0, 0)) (by (with_reducible repeat (first | refine blk_drewN ?_ _ | refine blk_drew ?_ | refine blk_alloc ?_ _)); exact BK207.out) hb); have n1_ := Aeq (below_step (by repeat (first | (with_reducible first | exact HB.out | apply below_alloc | apply pw_below_drewN | apply below_drew1 | refine below_set ?_ GE207.out) | exact HB.out)) hb); have n2_ := Aeq (hbox); have n3_ := Aeq ((Ze4 : w.heap.size ≤ g208)); have n4_ := Aeq ((Ze4 : w.heap.size ≤ g208)); have n5_ := Aeq ((Ze2 : g207 ≠ g208)); have n6_ := Aeq ((Ze3 : g208 ≠ g207)); clear BK207; clear HB; have BK207 := n0_; have HB := n1_; have BK208 := n2_; have GW208 := n3_; have GE208 := n4_; have NB207_208 := n5_; have NB208_207 := n6_; clear n0_ n1_ n2_ n3_ n4_ n5_ n6_; clear hb hbox hg; have hnb6 := NB208_207.out; have hnc6 := NB207_208.out; have hcz7_0 : w5.cell? ⟨g208, 0, none⟩ = some (.int .i64 a1_0) := (blk_cell BK208.out 0).trans rfl; have hcz7_1 : w5.cell? ⟨g208, 1, none⟩ = some (.int .i64 a1_1) := (blk_cell BK208.out 1).trans rfl; have hfz7_0 := blk_frozen BK208.out 0; have hfz7_1 := blk_frozen BK208.out 1; have hcz8_0 : w5.cell? ⟨g207, 0, none⟩ = some (.int .i64 a0_0) := (blk_cell BK207.out 0).trans rfl; have hcz8_1 : w5.cell? ⟨g207, 1, none⟩ = some (.int .i64 a0_1) := (blk_cell BK207.out 1).trans rfl; have hfz8_0 := blk_frozen BK207.out 0; have hfz8_1 := blk_frozen BK207.out 1))
  go_ret
  exact ⟨Zre, by repeat (first | (with_reducible first | exact HB.out | apply below_alloc | apply pw_below_drewN | apply below_drew1 | refine below_set ?_ GE207.out | refine below_set ?_ GE208.out) | exact HB.out)⟩
 ·
  rw [if_neg c3] at H
  have c3b0 : decide (a1_0 < a0_0) = false := decide_eq_false c3
  clear c3
  by_cases c9 : a1_1 < a0_1
  ·
   rw [if_pos c9] at H
   have c9b0 : decide (a1_1 < a0_1) = true := decide_eq_true c9
   clear c9
   obtain rfl := Option.some.inj H
   go_enter Try.func24, Try.ntmps24
   go_wp2_with (first | ((with_reducible refine gate_dst (N := 2) rfl ?_); refine box_event ?hg (N := 2) ?hd (cs := #[.int .i64 a0_0, .int .i64 a0_1]) (t := 27) ?hr ?_; (case hd => rfl); (case hg => rfl); (case hr => first | (go_simp; done) | (go_simp; rfl)); intro g207 hg w10 hbox hb; have n0_ := Aeq (below_step Ze14 hb); have n1_ := Aeq (hbox); have n2_ := Aeq ((Ze10 : w.heap.size ≤ g207)); have n3_ := Aeq ((Ze10 : w.heap.size ≤ g207)); clear HB; have HB := n0_; have BK207 := n1_; have GW207 := n2_; have GE207 := n3_; clear n0_ n1_ n2_ n3_; clear hb hbox hg) | ((with_reducible refine gate_dst (N := 3) rfl ?_); refine box_event ?hg (N := 3) ?hd (cs := #[.int .i64 a1_0, .int .i64 a1_1]) (t := 27) ?hr ?_; (case hd => rfl); (case hg => rfl); (case hr => first | (go_simp; done) | (go_simp; rfl)); intro g208 hg w11 hbox hb; have n0_ := Aeq (blk_below (g := g207) (o := .cells #[.int .i64 a0_0, .int .i64 a0_1] 27 (0, 0)) (by (with_reducible repeat (first | refine blk_drewN ?_ _ | refine blk_drew ?_ | refine blk_alloc ?_ _)); exact BK207.out) hb); have n1_ := Aeq (below_step (by repeat (first | (with_reducible first | exact HB.out | apply below_alloc | apply pw_below_drewN | apply below_drew1 | refine below_set ?_ GE207.out) | exact HB.out)) hb); have n2_ := Aeq (hbox); have n3_ := Aeq ((Ze4 : w.heap.size ≤ g208)); have n4_ := Aeq ((Ze4 : w.heap.size ≤ g208)); have n5_ := Aeq ((Ze2 : g207 ≠ g208)); have n6_ := Aeq ((Ze3 : g208 ≠ g207)); clear BK207; clear HB; have BK207 := n0_; have HB := n1_; have BK208 := n2_; have GW208 := n3_; have GE208 := n4_; have NB207_208 := n5_; have NB208_207 := n6_; clear n0_ n1_ n2_ n3_ n4_ n5_ n6_; clear hb hbox hg; have hnb12 := NB208_207.out; have hnc12 := NB207_208.out; have hcz13_0 : w11.cell? ⟨g208, 0, none⟩ = some (.int .i64 a1_0) := (blk_cell BK208.out 0).trans rfl; have hcz13_1 : w11.cell? ⟨g208, 1, none⟩ = some (.int .i64 a1_1) := (blk_cell BK208.out 1).trans rfl; have hfz13_0 := blk_frozen BK208.out 0; have hfz13_1 := blk_frozen BK208.out 1; have hcz14_0 : w11.cell? ⟨g207, 0, none⟩ = some (.int .i64 a0_0) := (blk_cell BK207.out 0).trans rfl; have hcz14_1 : w11.cell? ⟨g207, 1, none⟩ = some (.int .i64 a0_1) := (blk_cell BK207.out 1).trans rfl; have hfz14_0 := blk_frozen BK207.out 0; have hfz14_1 := blk_frozen BK207.out 1))
   go_ret
   exact ⟨Zre, by repeat (first | (with_reducible first | exact HB.out | apply below_alloc | apply pw_below_drewN | apply below_drew1 | refine below_set ?_ GE207.out | refine below_set ?_ GE208.out) | exact HB.out)⟩
  ·
   rw [if_neg c9] at H
   have c9b0 : decide (a1_1 < a0_1) = false := decide_eq_false c9
   clear c9
   replace H := Option.bind_eq_some_iff.mp H
   obtain ⟨t209, A150, H⟩ := H
   replace H : (some t209) = some r := H
   have A15 := Aeq A150
   clear A150
   obtain rfl := Option.some.inj H
   go_enter Try.func24, Try.ntmps24
   go_wp2_with (first | ((with_reducible refine gate_dst (N := 2) rfl ?_); refine box_event ?hg (N := 2) ?hd (cs := #[.int .i64 a0_0, .int .i64 a0_1]) (t := 27) ?hr ?_; (case hd => rfl); (case hg => rfl); (case hr => first | (go_simp; done) | (go_simp; rfl)); intro g207 hg w16 hbox hb; have n0_ := Aeq (below_step Ze14 hb); have n1_ := Aeq (hbox); have n2_ := Aeq ((Ze10 : w.heap.size ≤ g207)); have n3_ := Aeq ((Ze10 : w.heap.size ≤ g207)); clear HB; have HB := n0_; have BK207 := n1_; have GW207 := n2_; have GE207 := n3_; clear n0_ n1_ n2_ n3_; clear hb hbox hg) | ((with_reducible refine gate_dst (N := 3) rfl ?_); refine box_event ?hg (N := 3) ?hd (cs := #[.int .i64 a1_0, .int .i64 a1_1]) (t := 27) ?hr ?_; (case hd => rfl); (case hg => rfl); (case hr => first | (go_simp; done) | (go_simp; rfl)); intro g208 hg w17 hbox hb; have n0_ := Aeq (blk_below (g := g207) (o := .cells #[.int .i64 a0_0, .int .i64 a0_1] 27 (0, 0)) (by (with_reducible repeat (first | refine blk_drewN ?_ _ | refine blk_drew ?_ | refine blk_alloc ?_ _)); exact BK207.out) hb); have n1_ := Aeq (below_step (by repeat (first | (with_reducible first | exact HB.out | apply below_alloc | apply pw_below_drewN | apply below_drew1 | refine below_set ?_ GE207.out) | exact HB.out)) hb); have n2_ := Aeq (hbox); have n3_ := Aeq ((Ze4 : w.heap.size ≤ g208)); have n4_ := Aeq ((Ze4 : w.heap.size ≤ g208)); have n5_ := Aeq ((Ze2 : g207 ≠ g208)); have n6_ := Aeq ((Ze3 : g208 ≠ g207)); clear BK207; clear HB; have BK207 := n0_; have HB := n1_; have BK208 := n2_; have GW208 := n3_; have GE208 := n4_; have NB207_208 := n5_; have NB208_207 := n6_; clear n0_ n1_ n2_ n3_ n4_ n5_ n6_; clear hb hbox hg; have hnb18 := NB208_207.out; have hnc18 := NB207_208.out; have hcz19_0 : w17.cell? ⟨g208, 0, none⟩ = some (.int .i64 a1_0) := (blk_cell BK208.out 0).trans rfl; have hcz19_1 : w17.cell? ⟨g208, 1, none⟩ = some (.int .i64 a1_1) := (blk_cell BK208.out 1).trans rfl; have hfz19_0 := blk_frozen BK208.out 0; have hfz19_1 := blk_frozen BK208.out 1; have hcz20_0 : w17.cell? ⟨g207, 0, none⟩ = some (.int .i64 a0_0) := (blk_cell BK207.out 0).trans rfl; have hcz20_1 : w17.cell? ⟨g207, 1, none⟩ = some (.int .i64 a0_1) := (blk_cell BK207.out 1).trans rfl; have hfz20_0 := blk_frozen BK207.out 0; have hfz20_1 := blk_frozen BK207.out 1) | ((with_reducible refine gate_callee (f := 31) rfl ?_); refine goesL_ (some 33) rfl rfl Try.func31 (by kernel_rfl) rfl #[.int .i64 (wrap64 ((wrap64 ((wrap64 (a1_0 - a0_0)) + a1_1)) - a0_1)), .int .i64 (wrap64 (a1_0 - a0_0))] rfl Ze13 ?_; (with_reducible refine (impl_choose.calls k (wrap64 ((wrap64 ((wrap64 (a1_0 - a0_0)) + a1_1)) - a0_1)) (wrap64 (a1_0 - a0_0)) t209 _ A15.out).mono ?_); rintro e w' ⟨rfl, ⟨nd, rfl⟩⟩; refine ⟨_, rfl, ?_⟩))
   go_ret
   exact ⟨Zre, by repeat (first | (with_reducible first | exact HB.out | apply below_alloc | apply pw_below_drewN | apply below_drew1 | refine below_set ?_ GE207.out | refine below_set ?_ GE208.out) | exact HB.out)⟩

/-! ### impl_Cell_next: function 32 -/
def impl_Cell_next.f (a0_0 : Int) (a0_1 : Int) (a1 : Int) : Option (Int × Int) := if a1 = 69 then (some (wrap64 (a0_0 + 1), a0_1)) else (some (a0_0, wrap64 (a0_1 + 1)))
set_option maxHeartbeats 8000000 in
set_option maxRecDepth 100000 in
theorem impl_Cell_next.calls (a0_0 : Int) (a0_1 : Int) (a1 : Int) (r1 : Int) (r2 : Int) (w : World) (h : impl_Cell_next.f a0_0 a0_1 a1 = some (r1, r2)) :
    Calls Try.prog 32 #[.agg #[.int .i64 a0_0, .int .i64 a0_1], .int .u8 a1] w fun e w' => e = .returned (.agg #[.int .i64 r1, .int .i64 r2]) ∧ Below w.heap.size w w' := by
 have hu27 := Try.underlying27
 have HB := Aeq (Below.refl w.heap.size w)
 have H : (if a1 = 69 then (some (wrap64 (a0_0 + 1), a0_1)) else (some (a0_0, wrap64 (a0_1 + 1)))) = some (r1, r2) := h
 clear h
 by_cases c3 : a1 = 69
 ·
  rw [if_pos c3] at H
  have c3b0 : (a1 == 69) = true := beq_iff_eq.mpr c3
  have c3b1 : (a1 != 69) = false := bne_eq_false_iff_eq.mpr c3
  clear c3
  simp only [Option.some.injEq, Prod.mk.injEq] at H
  obtain ⟨rfl, rfl⟩ := H
  go_enter Try.func32, Try.ntmps32
  go_wp2_with (first | ((with_reducible refine gate_dst (N := 2) rfl ?_); refine box_event ?hg (N := 2) ?hd (cs := #[.int .i64 a0_0, .int .i64 a0_1]) (t := 27) ?hr ?_; (case hd => rfl); (case hg => rfl); (case hr => first | (go_simp; done) | (go_simp; rfl)); intro g210 hg w4 hbox hb; have n0_ := Aeq (below_step Ze14 hb); have n1_ := Aeq (hbox); have n2_ := Aeq ((Ze11 : w.heap.size ≤ g210)); have n3_ := Aeq ((Ze11 : w.heap.size ≤ g210)); clear HB; have HB := n0_; have BK210 := n1_; have GW210 := n2_; have GE210 := n3_; clear n0_ n1_ n2_ n3_; clear hb hbox hg) | ((with_reducible refine gate_dst (N := 4) rfl ?_); refine box_event ?hg (N := 4) ?hd (cs := #[.int .i64 0, .int .i64 0]) (t := 27) ?hr ?_; (case hd => rfl); (case hg => rfl); (case hr => first | (go_simp; done) | (go_simp; rfl)); intro g211 hg w5 hbox hb; have n0_ := Aeq (blk_below (g := g210) (o := .cells #[.int .i64 a0_0, .int .i64 a0_1] 27 (0, 0)) Ze16 hb); have n1_ := Aeq (below_step (by repeat (first | (with_reducible first | exact HB.out | apply below_alloc | apply pw_below_drewN | apply below_drew1 | refine below_set ?_ GE210.out) | exact HB.out)) hb); have n2_ := Aeq (hbox); have n3_ := Aeq ((Ze5 : w.heap.size ≤ g211)); have n4_ := Aeq ((Ze5 : w.heap.size ≤ g211)); have n5_ := Aeq ((by rw [hg]; exact Nat.ne_of_lt (blk_lt (g := g210) (o := .cells #[.int .i64 a0_0, .int .i64 a0_1] 27 (0, 0)) Ze16) : g210 ≠ g211)); have n6_ := Aeq ((by rw [hg]; exact Nat.ne_of_gt (blk_lt (g := g210) (o := .cells #[.int .i64 a0_0, .int .i64 a0_1] 27 (0, 0)) Ze16) : g211 ≠ g210)); clear BK210; clear HB; have BK210 := n0_; have HB := n1_; have BK211 := n2_; have GW211 := n3_; have GE211 := n4_; have NB210_211 := n5_; have NB211_210 := n6_; clear n0_ n1_ n2_ n3_ n4_ n5_ n6_; clear hb hbox hg; have hnb6 := NB210_211.out; have hnc6 := NB211_210.out; have hcz7_0 : w5.cell? ⟨g210, 0, none⟩ = some (.int .i64 a0_0) := (blk_cell BK210.out 0).trans rfl; have hcz7_1 : w5.cell? ⟨g210, 1, none⟩ = some (.int .i64 a0_1) := (blk_cell BK210.out 1).trans rfl; have hfz7_0 := blk_frozen BK210.out 0; have hfz7_1 := blk_frozen BK210.out 1; have hcz8_0 : w5.cell? ⟨g211, 0, none⟩ = some (.int .i64 0) := (blk_cell BK211.out 0).trans rfl; have hcz8_1 : w5.cell? ⟨g211, 1, none⟩ = some (.int .i64 0) := (blk_cell BK211.out 1).trans rfl; have hfz8_0 := blk_frozen BK211.out 0; have hfz8_1 := blk_frozen BK211.out 1))
  refine bodyPost_ret (results_cell_row rfl _ _ g211 27 #[.int .i64 (wrap64 (a0_0 + 1)), .int .i64 a0_1] (0, 0) _ rfl (by (with_reducible repeat (first | refine blk_drewN ?_ _ | refine blk_drew ?_ | refine blk_alloc ?_ _)); refine blk_put (cs := #[.int .i64 (wrap64 (a0_0 + 1)), .int .i64 0]) ?_ 1 _ rfl; (with_reducible repeat (first | refine blk_drewN ?_ _ | refine blk_drew ?_ | refine blk_alloc ?_ _)); refine blk_put (cs := #[.int .i64 0, .int .i64 0]) ?_ 0 _ rfl; (with_reducible repeat (first | refine blk_drewN ?_ _ | refine blk_drew ?_ | refine blk_alloc ?_ _)); exact BK211.out) Try.underlying27 rfl (by kernel_rfl)) rfl ?_
  exact ⟨Zre, by repeat (first | (with_reducible first | exact HB.out | apply below_alloc | apply pw_below_drewN | apply below_drew1 | refine below_set ?_ GE210.out | refine below_set ?_ GE211.out) | exact HB.out)⟩
 ·
  rw [if_neg c3] at H
  have c3b0 : (a1 == 69) = false := beq_eq_false_iff_ne.mpr c3
  have c3b1 : (a1 != 69) = true := bne_iff_ne.mpr c3
  simp only [Option.some.injEq, Prod.mk.injEq] at H
  obtain ⟨rfl, rfl⟩ := H
  go_enter Try.func32, Try.ntmps32
  go_wp2_with (first | ((with_reducible refine gate_dst (N := 2) rfl ?_); refine box_event ?hg (N := 2) ?hd (cs := #[.int .i64 a0_0, .int .i64 a0_1]) (t := 27) ?hr ?_; (case hd => rfl); (case hg => rfl); (case hr => first | (go_simp; done) | (go_simp; rfl)); intro g210 hg w9 hbox hb; have n0_ := Aeq (below_step Ze14 hb); have n1_ := Aeq (hbox); have n2_ := Aeq ((Ze11 : w.heap.size ≤ g210)); have n3_ := Aeq ((Ze11 : w.heap.size ≤ g210)); clear HB; have HB := n0_; have BK210 := n1_; have GW210 := n2_; have GE210 := n3_; clear n0_ n1_ n2_ n3_; clear hb hbox hg) | ((with_reducible refine gate_dst (N := 4) rfl ?_); refine box_event ?hg (N := 4) ?hd (cs := #[.int .i64 0, .int .i64 0]) (t := 27) ?hr ?_; (case hd => rfl); (case hg => rfl); (case hr => first | (go_simp; done) | (go_simp; rfl)); intro g211 hg w10 hbox hb; have n0_ := Aeq (blk_below (g := g210) (o := .cells #[.int .i64 a0_0, .int .i64 a0_1] 27 (0, 0)) Ze16 hb); have n1_ := Aeq (below_step (by repeat (first | (with_reducible first | exact HB.out | apply below_alloc | apply pw_below_drewN | apply below_drew1 | refine below_set ?_ GE210.out) | exact HB.out)) hb); have n2_ := Aeq (hbox); have n3_ := Aeq ((Ze5 : w.heap.size ≤ g211)); have n4_ := Aeq ((Ze5 : w.heap.size ≤ g211)); have n5_ := Aeq ((by rw [hg]; exact Nat.ne_of_lt (blk_lt (g := g210) (o := .cells #[.int .i64 a0_0, .int .i64 a0_1] 27 (0, 0)) Ze16) : g210 ≠ g211)); have n6_ := Aeq ((by rw [hg]; exact Nat.ne_of_gt (blk_lt (g := g210) (o := .cells #[.int .i64 a0_0, .int .i64 a0_1] 27 (0, 0)) Ze16) : g211 ≠ g210)); clear BK210; clear HB; have BK210 := n0_; have HB := n1_; have BK211 := n2_; have GW211 := n3_; have GE211 := n4_; have NB210_211 := n5_; have NB211_210 := n6_; clear n0_ n1_ n2_ n3_ n4_ n5_ n6_; clear hb hbox hg; have hnb11 := NB210_211.out; have hnc11 := NB211_210.out; have hcz12_0 : w10.cell? ⟨g210, 0, none⟩ = some (.int .i64 a0_0) := (blk_cell BK210.out 0).trans rfl; have hcz12_1 : w10.cell? ⟨g210, 1, none⟩ = some (.int .i64 a0_1) := (blk_cell BK210.out 1).trans rfl; have hfz12_0 := blk_frozen BK210.out 0; have hfz12_1 := blk_frozen BK210.out 1; have hcz13_0 : w10.cell? ⟨g211, 0, none⟩ = some (.int .i64 0) := (blk_cell BK211.out 0).trans rfl; have hcz13_1 : w10.cell? ⟨g211, 1, none⟩ = some (.int .i64 0) := (blk_cell BK211.out 1).trans rfl; have hfz13_0 := blk_frozen BK211.out 0; have hfz13_1 := blk_frozen BK211.out 1))
  refine bodyPost_ret (results_cell_row rfl _ _ g211 27 #[.int .i64 a0_0, .int .i64 (wrap64 (a0_1 + 1))] (0, 0) _ rfl (by (with_reducible repeat (first | refine blk_drewN ?_ _ | refine blk_drew ?_ | refine blk_alloc ?_ _)); refine blk_put (cs := #[.int .i64 a0_0, .int .i64 0]) ?_ 1 _ rfl; (with_reducible repeat (first | refine blk_drewN ?_ _ | refine blk_drew ?_ | refine blk_alloc ?_ _)); refine blk_put (cs := #[.int .i64 0, .int .i64 0]) ?_ 0 _ rfl; (with_reducible repeat (first | refine blk_drewN ?_ _ | refine blk_drew ?_ | refine blk_alloc ?_ _)); exact BK211.out) Try.underlying27 rfl (by kernel_rfl)) rfl ?_
  exact ⟨Zre, by repeat (first | (with_reducible first | exact HB.out | apply below_alloc | apply pw_below_drewN | apply below_drew1 | refine below_set ?_ GE210.out | refine below_set ?_ GE211.out) | exact HB.out)⟩

/-! ### impl_grow: function 25 -/
mutual
def impl_grow.j0 : Nat → List ByteArray → ByteArray → Int → Int → Int → Int → Option (List ByteArray)
  | 0, _, _, _, _, _, _ => none
  | k + 1, x0, x1, x213000, x213001, x214000, x214001 => if x213001 < x214001 then (if x1.size + 1 ≤ 9223372036854775807 then ((impl_Cell_next.f x213000 x213001 78).bind fun bt222 => ((impl_grow.f k x0 (x1 ++ (⟨#[78]⟩ : ByteArray)) bt222.1 bt222.2 x214000 x214001).bind fun t224 => (some t224))) else (none)) else (some x0)
def impl_grow.f : Nat → List ByteArray → ByteArray → Int → Int → Int → Int → Option (List ByteArray)
  | 0, _, _, _, _, _, _ => none
  | k + 1, l0, a1, a2_0, a2_1, a3_0, a3_1 => if (a2_0 == a3_0 && (a2_1 == a3_1)) = true then (if l0.length < 8796093022208 then (some (l0 ++ [a1])) else (none)) else (if a2_0 < a3_0 then (if a1.size + 1 ≤ 9223372036854775807 then ((impl_Cell_next.f a2_0 a2_1 69).bind fun bt217 => ((impl_grow.f k l0 (a1 ++ (⟨#[69]⟩ : ByteArray)) bt217.1 bt217.2 a3_0 a3_1).bind fun t219 => (impl_grow.j0 k t219 a1 a2_0 a2_1 a3_0 a3_1))) else (none)) else (impl_grow.j0 k l0 a1 a2_0 a2_1 a3_0 a3_1))
end
theorem impl_grow.mono_l : ∀ k, (∀ y0 y1 y2 y3 y4 y5, LeO (impl_grow.f k y0 y1 y2 y3 y4 y5) (impl_grow.f (k + 1) y0 y1 y2 y3 y4 y5)) ∧ (∀ y0 y1 y2 y3 y4 y5, LeO (impl_grow.j0 k y0 y1 y2 y3 y4 y5) (impl_grow.j0 (k + 1) y0 y1 y2 y3 y4 y5))
  | 0 => ⟨fun _ _ _ _ _ _ r h => by simp [impl_grow.f] at h, fun _ _ _ _ _ _ r h => by simp [impl_grow.j0] at h⟩
  | k + 1 => by
    obtain ⟨ih0, ih1⟩ := impl_grow.mono_l k
    refine ⟨?_, ?_⟩
    · intro y0 y1 y2 y3 y4 y5
      unfold impl_grow.f
      repeat' first
      | (with_reducible exact ih0 _ _ _ _ _ _)
      | (with_reducible exact ih1 _ _ _ _ _ _)
      | (with_reducible exact LeO.refl _)
      | (with_reducible exact LeO.none _)
      | (with_reducible refine LeO.ite ?_ ?_)
      | (with_reducible refine LeO.bind ?_ (fun _ => ?_))
      | exact ih0 _ _ _ _ _ _
      | exact ih1 _ _ _ _ _ _
      | exact LeO.none _
      | refine LeO.ite ?_ ?_
      | refine LeO.bind ?_ (fun _ => ?_)
    · intro y0 y1 y2 y3 y4 y5
      unfold impl_grow.j0
      repeat' first
      | (with_reducible exact ih0 _ _ _ _ _ _)
      | (with_reducible exact ih1 _ _ _ _ _ _)
      | (with_reducible exact LeO.refl _)
      | (with_reducible exact LeO.none _)
      | (with_reducible refine LeO.ite ?_ ?_)
      | (with_reducible refine LeO.bind ?_ (fun _ => ?_))
      | exact ih0 _ _ _ _ _ _
      | exact ih1 _ _ _ _ _ _
      | exact LeO.none _
      | refine LeO.ite ?_ ?_
      | refine LeO.bind ?_ (fun _ => ?_)
theorem impl_grow.mono : ∀ a0 a1 a2 a3 a4 a5 k, LeO (impl_grow.f k a0 a1 a2 a3 a4 a5) (impl_grow.f (k + 1) a0 a1 a2 a3 a4 a5) := by
  intro a0 a1 a2 a3 a4 a5 k
  obtain ⟨ih0, ih1⟩ := impl_grow.mono_l k
  exact ih0 a0 a1 a2 a3 a4 a5
def impl_grow.T4 : Bool × List (List Nat × List Nat) := (true, [([], []), ([], []), ([1], [1]), ([], []), ([3], [3]), ([], []), ([0, 2, 4, 5, 4], [0, 2, 4, 5]), ([6, 6, 0, 1, 2, 3, 4, 5, 6], [0, 6])])
def impl_grow.B4 : List Nat := [0, 0, 2, 0, 8, 0, 63, 127]
theorem impl_grow.tab4 : rtab .any (opsOf Try.f25 4) = impl_grow.T4 := by kernel_rfl
theorem impl_grow.bits4 : waitsOk impl_grow.T4.2 impl_grow.B4 = true := by kernel_rfl
def impl_grow.T6 : Bool × List (List Nat × List Nat) := (true, [([], []), ([], []), ([1], [1]), ([], []), ([3], [3]), ([], []), ([0, 2, 4, 5, 4], [0, 2, 4, 5]), ([6, 6, 0, 1, 2, 3, 4, 5, 6], [0, 6])])
def impl_grow.B6 : List Nat := [0, 0, 2, 0, 8, 0, 63, 127]
theorem impl_grow.tab6 : rtab .any (opsOf Try.f25 6) = impl_grow.T6 := by kernel_rfl
theorem impl_grow.bits6 : waitsOk impl_grow.T6.2 impl_grow.B6 = true := by kernel_rfl
set_option maxHeartbeats 8000000 in
set_option maxRecDepth 100000 in
theorem impl_grow.calls (k : Nat) : ∀ (P0_ : Nat → Prop) (u9000_ : Value) (l0 : List ByteArray) (a1 : ByteArray) (a2_0 : Int) (a2_1 : Int) (a3_0 : Int) (a3_1 : Int) (r : List ByteArray) (w0 w : World) (hB : Below w0.heap.size w0 w) (ho0 : Kd.R Kd.string 9 w w0.heap.size P0_ u9000_ l0) (h : impl_grow.f k l0 a1 a2_0 a2_1 a3_0 a3_1 = some r),
    Calls Try.prog 25 #[u9000_, .string a1, .agg #[.int .i64 a2_0, .int .i64 a2_1], .agg #[.int .i64 a3_0, .int .i64 a3_1]] w fun e w' => ∃ v0_ : Value, e = .returned (v0_) ∧ Kd.R Kd.string 9 w' w0.heap.size (fun k_ => (P0_ k_ ∨ w.heap.size ≤ k_)) v0_ r ∧ Below w0.heap.size w0 w' ∧ Kept w w' (fun k_ => P0_ k_) := by
 induction k using Nat.strongRecOn with
 | _ k ih =>
 intro P0_ u9000_ l0 a1 a2_0 a2_1 a3_0 a3_1 r w0 w hB ho0 h
 cases k with
 | zero => exact absurd h (by simp [impl_grow.f])
 | succ k =>
 simp only [impl_grow.f] at h
 have hu27 := Try.underlying27
 have HO0 := Aeq (show Kd.R Kd.string 9 w w0.heap.size (fun k_ => (P0_ k_ ∨ w.heap.size ≤ k_)) u9000_ l0 from Kd.R_mono ho0 (fun k_ hk => (.inl hk)))
 have HK := Aeq (Kept.refl w (fun k_ => P0_ k_))
 have HW0 := Aeq hB.size
 have HB := Aeq hB
 clear hB
 have H : (if (a2_0 == a3_0 && (a2_1 == a3_1)) = true then (if l0.length < 8796093022208 then (some (l0 ++ [a1])) else (none)) else (if a2_0 < a3_0 then (if a1.size + 1 ≤ 9223372036854775807 then ((impl_Cell_next.f a2_0 a2_1 69).bind fun bt217 => ((impl_grow.f k l0 (a1 ++ (⟨#[69]⟩ : ByteArray)) bt217.1 bt217.2 a3_0 a3_1).bind fun t219 => (impl_grow.j0 k t219 a1 a2_0 a2_1 a3_0 a3_1))) else (none)) else (impl_grow.j0 k l0 a1 a2_0 a2_1 a3_0 a3_1))) = some r := h
 clear h
 by_cases c5 : (a2_0 == a3_0 && (a2_1 == a3_1)) = true
 ·
  rw [if_pos c5] at H
  have c5b0 : (a2_0 == a3_0 && (a2_1 == a3_1)) = true := c5
  (try (have c5b1 : decide (a2_0 = a3_0 && (a2_1 == a3_1)) = true := by simpa using c5))
  (try (have c5b2 : (a2_0 == a3_0 && (a2_1 == a3_1)) = true := by simpa using c5))
  clear c5
  by_cases c6 : l0.length < 8796093022208
  ·
   rw [if_pos c6] at H
   have LMc6 := Aeq c6
   clear c6
   obtain ⟨y214, hy214⟩ : ∃ y_ : List ByteArray, y_ = (l0 ++ [a1]) := ⟨_, rfl⟩
   replace H : (some y214) = some r := by first | (rw [hy214]; with_reducible exact H) | (have H2_ := (Option.bind_some _ _).symm.trans H; rw [hy214]; with_reducible exact H2_) | (have H2_ := (Option.bind_some _ _).symm.trans H; with_reducible exact H2_) | with_reducible exact H | (rw [hy214]; exact H) | exact H
   have Ny214 := Aeq hy214
   clear hy214
   obtain rfl := Option.some.inj H
   go_enter Try.func25, Try.ntmps25
   go_wp2_with (first | ((with_reducible refine gate_dst (N := 6) rfl ?_); refine box_event ?hg (N := 6) ?hd (cs := #[.int .i64 a2_0, .int .i64 a2_1]) (t := 27) ?hr ?_; (case hd => rfl); (case hg => rfl); (case hr => first | (go_simp; done) | (go_simp; rfl)); intro g212 hg w7 hbox hb; have n0_ := Aeq (Kd.R_below Ze19 hb); have n1_ := Aeq (Kept.below (S := (fun k_ => P0_ k_)) (by repeat (first | (with_reducible first | exact HK.out | apply Kept.alloc | apply Kept.drewN | apply Kept.drew) | exact HK.out)) hb); have n2_ := Aeq (below_step Ze14 hb); have n3_ := Aeq (hbox); have n4_ := Aeq ((by rw [hg]; exact (by first | exact HK.out.1 | exact (show Kept w _ (fun k_ => P0_ k_) from by repeat (first | (with_reducible first | exact HK.out | apply Kept.alloc | apply Kept.drewN | apply Kept.drew) | exact HK.out)).1) : w.heap.size ≤ g212)); have n5_ := Aeq ((by rw [hg]; exact (below_size Ze14) : w0.heap.size ≤ g212)); clear HO0; clear HK; clear HB; have HO0 := n0_; have HK := n1_; have HB := n2_; have BK212 := n3_; have GW212 := n4_; have GE212 := n5_; clear n0_ n1_ n2_ n3_ n4_ n5_; clear hb hbox hg) | ((with_reducible refine gate_dst (N := 7) rfl ?_); refine box_event ?hg (N := 7) ?hd (cs := #[.int .i64 a3_0, .int .i64 a3_1]) (t := 27) ?hr ?_; (case hd => rfl); (case hg => rfl); (case hr => first | (go_simp; done) | (go_simp; rfl)); intro g213 hg w8 hbox hb; have n0_ := Aeq (Kd.R_below Ze19 hb); have n1_ := Aeq (blk_below (g := g212) (o := .cells #[.int .i64 a2_0, .int .i64 a2_1] 27 (0, 0)) Ze17 hb); have n2_ := Aeq (Kept.below (S := (fun k_ => P0_ k_)) (by repeat (first | (with_reducible first | exact HK.out | apply Kept.alloc | apply Kept.drewN | apply Kept.drew | refine Kept.setCell ?_ (.inr GW212.out) _) | exact HK.out)) hb); have n3_ := Aeq (below_step Ze12 hb); have n4_ := Aeq (hbox); have n5_ := Aeq ((by rw [hg]; exact (by first | exact HK.out.1 | exact (show Kept w _ (fun k_ => P0_ k_) from by repeat (first | (with_reducible first | exact HK.out | apply Kept.alloc | apply Kept.drewN | apply Kept.drew | refine Kept.setCell ?_ (.inr GW212.out) _) | exact HK.out)).1) : w.heap.size ≤ g213)); have n6_ := Aeq ((by rw [hg]; exact (below_size Ze12) : w0.heap.size ≤ g213)); have n7_ := Aeq ((by rw [hg]; exact Nat.ne_of_lt (blk_lt (g := g212) (o := .cells #[.int .i64 a2_0, .int .i64 a2_1] 27 (0, 0)) Ze17) : g212 ≠ g213)); have n8_ := Aeq ((by rw [hg]; exact Nat.ne_of_gt (blk_lt (g := g212) (o := .cells #[.int .i64 a2_0, .int .i64 a2_1] 27 (0, 0)) Ze17) : g213 ≠ g212)); clear HO0; clear BK212; clear HK; clear HB; have HO0 := n0_; have BK212 := n1_; have HK := n2_; have HB := n3_; have BK213 := n4_; have GW213 := n5_; have GE213 := n6_; have NB212_213 := n7_; have NB213_212 := n8_; clear n0_ n1_ n2_ n3_ n4_ n5_ n6_ n7_ n8_; clear hb hbox hg; have hnb9 := NB212_213.out; have hnc9 := NB213_212.out; have hcz10_0 : w8.cell? ⟨g212, 0, none⟩ = some (.int .i64 a2_0) := (blk_cell BK212.out 0).trans rfl; have hcz10_1 : w8.cell? ⟨g212, 1, none⟩ = some (.int .i64 a2_1) := (blk_cell BK212.out 1).trans rfl; have hfz10_0 := blk_frozen BK212.out 0; have hfz10_1 := blk_frozen BK212.out 1; have hcz11_0 : w8.cell? ⟨g213, 0, none⟩ = some (.int .i64 a3_0) := (blk_cell BK213.out 0).trans rfl; have hcz11_1 : w8.cell? ⟨g213, 1, none⟩ = some (.int .i64 a3_1) := (blk_cell BK213.out 1).trans rfl; have hfz11_0 := blk_frozen BK213.out 0; have hfz11_1 := blk_frozen BK213.out 1) | ((with_reducible refine gate_builtin (b := .append) (xs := #[.tmp 12, .tmp 14]) rfl ?_); at_builtin; refine Kd.R_append Kd.string (w0 := w0) w0.heap.size rfl (.tmp 12) (.tmp 14) 46 9 (.string ⟨#[]⟩) 16 rfl Try.underlying46 info9 rfl (by decide) (by omega) u9000_ l0 a1 [.string a1] (fun k_ => (P0_ k_ ∨ w.heap.size ≤ k_)) (fun _ => False) rfl rfl ?aP (fun _ hk => hk.elim) ?aF ?aO ?aB ?aS ?aL ?_; (case aP => exact rfl); (case aB => exact Ze8); (case aF => exact (fun k_ hk => (.inr (Nat.le_trans Ze1 hk)))); (case aO => exact Ze19); (case aS => exact (below_size Ze8)); (case aL => have := LMc6.out; omega); intro v215 w12 ho hb hg hat; rw [← Ny214.out] at ho; have n0_ := Aeq (blk_grown (g := g212) (o := .cells #[.int .i64 a2_0, .int .i64 a2_1] 27 (0, 0)) Ze17 hg (Kd.R_ne HO0.out BK212.out (by decide))); have n1_ := Aeq (blk_grown (g := g213) (o := .cells #[.int .i64 a3_0, .int .i64 a3_1] 27 (0, 0)) Ze18 hg (Kd.R_ne HO0.out BK213.out (by decide))); have n2_ := Aeq (hb); have n3_ := Aeq (Kept.of_grown (S := (fun k_ => P0_ k_)) hg Ze6 (fun k_ e_ => (HO0.out.1 k_ e_))); have n4_ := Aeq (ho); clear BK212; clear BK213; clear HB; clear HK; clear HO0; have BK212 := n0_; have BK213 := n1_; have HB := n2_; have HK := n3_; have HO216 := n4_; clear n0_ n1_ n2_ n3_ n4_; clear ho hb hg hat))
   go_ret
   exact ⟨_, Zre, by (with_reducible repeat (first | apply Kd.R_alloc | apply Kd.R_drewN | apply Kd.R_drew)); exact HO216.out, by repeat (first | (with_reducible first | exact HB.out | apply below_alloc | apply pw_below_drewN | apply below_drew1 | refine below_set ?_ GE212.out | refine below_set ?_ GE213.out) | exact HB.out), by repeat (first | (with_reducible first | exact HK.out | apply Kept.alloc | apply Kept.drewN | apply Kept.drew | refine Kept.setCell ?_ (.inr GW212.out) _ | refine Kept.setCell ?_ (.inr GW213.out) _) | exact HK.out)⟩
  ·
   rw [if_neg c6] at H
   exact absurd H (by simp)
 ·
  rw [if_neg c5] at H
  have c5b0 : (a2_0 == a3_0 && (a2_1 == a3_1)) = false := by simpa using c5
  (try (have c5b1 : decide (a2_0 = a3_0 && (a2_1 == a3_1)) = false := by simpa using c5))
  (try (have c5b2 : (a2_0 == a3_0 && (a2_1 == a3_1)) = false := by simpa using c5))
  (try (have c5b3 : ¬ (a2_0 = a3_0 && (a2_1 == a3_1)) := by simpa using c5))
  clear c5
  have HC13 := Aeq H
  clear H
  go_enter Try.func25, Try.ntmps25
  go_upto_if 20 with (first | ((with_reducible refine gate_dst (N := 6) rfl ?_); refine box_event ?hg (N := 6) ?hd (cs := #[.int .i64 a2_0, .int .i64 a2_1]) (t := 27) ?hr ?_; (case hd => rfl); (case hg => rfl); (case hr => first | (go_simp; done) | (go_simp; rfl)); intro g212 hg w14 hbox hb; have n0_ := Aeq (Kd.R_below Ze19 hb); have n1_ := Aeq (Kept.below (S := (fun k_ => P0_ k_)) (by repeat (first | (with_reducible first | exact HK.out | apply Kept.alloc | apply Kept.drewN | apply Kept.drew) | exact HK.out)) hb); have n2_ := Aeq (below_step Ze14 hb); have n3_ := Aeq (hbox); have n4_ := Aeq ((by rw [hg]; exact (by first | exact HK.out.1 | exact (show Kept w _ (fun k_ => P0_ k_) from by repeat (first | (with_reducible first | exact HK.out | apply Kept.alloc | apply Kept.drewN | apply Kept.drew) | exact HK.out)).1) : w.heap.size ≤ g212)); have n5_ := Aeq ((by rw [hg]; exact (below_size Ze14) : w0.heap.size ≤ g212)); clear HO0; clear HK; clear HB; have HO0 := n0_; have HK := n1_; have HB := n2_; have BK212 := n3_; have GW212 := n4_; have GE212 := n5_; clear n0_ n1_ n2_ n3_ n4_ n5_; clear hb hbox hg) | ((with_reducible refine gate_dst (N := 7) rfl ?_); refine box_event ?hg (N := 7) ?hd (cs := #[.int .i64 a3_0, .int .i64 a3_1]) (t := 27) ?hr ?_; (case hd => rfl); (case hg => rfl); (case hr => first | (go_simp; done) | (go_simp; rfl)); intro g213 hg w15 hbox hb; have n0_ := Aeq (Kd.R_below Ze19 hb); have n1_ := Aeq (blk_below (g := g212) (o := .cells #[.int .i64 a2_0, .int .i64 a2_1] 27 (0, 0)) Ze17 hb); have n2_ := Aeq (Kept.below (S := (fun k_ => P0_ k_)) (by repeat (first | (with_reducible first | exact HK.out | apply Kept.alloc | apply Kept.drewN | apply Kept.drew | refine Kept.setCell ?_ (.inr GW212.out) _) | exact HK.out)) hb); have n3_ := Aeq (below_step Ze12 hb); have n4_ := Aeq (hbox); have n5_ := Aeq ((by rw [hg]; exact (by first | exact HK.out.1 | exact (show Kept w _ (fun k_ => P0_ k_) from by repeat (first | (with_reducible first | exact HK.out | apply Kept.alloc | apply Kept.drewN | apply Kept.drew | refine Kept.setCell ?_ (.inr GW212.out) _) | exact HK.out)).1) : w.heap.size ≤ g213)); have n6_ := Aeq ((by rw [hg]; exact (below_size Ze12) : w0.heap.size ≤ g213)); have n7_ := Aeq ((by rw [hg]; exact Nat.ne_of_lt (blk_lt (g := g212) (o := .cells #[.int .i64 a2_0, .int .i64 a2_1] 27 (0, 0)) Ze17) : g212 ≠ g213)); have n8_ := Aeq ((by rw [hg]; exact Nat.ne_of_gt (blk_lt (g := g212) (o := .cells #[.int .i64 a2_0, .int .i64 a2_1] 27 (0, 0)) Ze17) : g213 ≠ g212)); clear HO0; clear BK212; clear HK; clear HB; have HO0 := n0_; have BK212 := n1_; have HK := n2_; have HB := n3_; have BK213 := n4_; have GW213 := n5_; have GE213 := n6_; have NB212_213 := n7_; have NB213_212 := n8_; clear n0_ n1_ n2_ n3_ n4_ n5_ n6_ n7_ n8_; clear hb hbox hg; have hnb16 := NB212_213.out; have hnc16 := NB213_212.out; have hcz17_0 : w15.cell? ⟨g212, 0, none⟩ = some (.int .i64 a2_0) := (blk_cell BK212.out 0).trans rfl; have hcz17_1 : w15.cell? ⟨g212, 1, none⟩ = some (.int .i64 a2_1) := (blk_cell BK212.out 1).trans rfl; have hfz17_0 := blk_frozen BK212.out 0; have hfz17_1 := blk_frozen BK212.out 1; have hcz18_0 : w15.cell? ⟨g213, 0, none⟩ = some (.int .i64 a3_0) := (blk_cell BK213.out 0).trans rfl; have hcz18_1 : w15.cell? ⟨g213, 1, none⟩ = some (.int .i64 a3_1) := (blk_cell BK213.out 1).trans rfl; have hfz18_0 := blk_frozen BK213.out 0; have hfz18_1 := blk_frozen BK213.out 1))
  (try simp only [Act.put, y1e, y2e, y3e])
  go_cut [0] (fun v0 wc => ∃ (kq : Nat) (x0_12 : List ByteArray), Aside0 (impl_grow.j0 kq x0_12 a1 a2_0 a2_1 a3_0 a3_1 = some r) ∧ Aside0 (kq ≤ k) ∧ Aside0 (Kd.R Kd.string 9 wc w0.heap.size (fun k_ => (P0_ k_ ∨ w.heap.size ≤ k_)) v0 x0_12) ∧ Aside0 (wc.heap[g212]? = some (.cells #[.int .i64 a2_0, .int .i64 a2_1] 27 (0, 0))) ∧ Aside0 (wc.heap[g213]? = some (.cells #[.int .i64 a3_0, .int .i64 a3_1] 27 (0, 0))) ∧ Aside0 (Kept w wc (fun k_ => P0_ k_)) ∧ Aside0 (Below w0.heap.size w0 wc))
  case first =>
   have H := HC13.out
   clear HC13
   by_cases c19 : a2_0 < a3_0
   ·
    rw [if_pos c19] at H
    have c19b0 : decide (a2_0 < a3_0) = true := decide_eq_true c19
    clear c19
    (first | rw [c19b0] | (simp only [i64_w, i32_w]; rw [c19b0]) | skip)
    by_cases c20 : a1.size + 1 ≤ 9223372036854775807
    ·
     rw [if_pos c20] at H
     have c20b0 := eq_true c20
     have c20b1 : decide (a1.size + 1 ≤ 9223372036854775807) = true := decide_eq_true c20
     try have c20b2 : (9223372036854775807 < a1.size + 1) = False := eq_false (Nat.not_lt.2 c20)
     replace H := Option.bind_eq_some_iff.mp H
     obtain ⟨⟨t217, t218⟩, A210, H⟩ := H
     replace H : ((impl_grow.f k l0 (a1 ++ (⟨#[69]⟩ : ByteArray)) t217 t218 a3_0 a3_1).bind fun t219 => (impl_grow.j0 k t219 a1 a2_0 a2_1 a3_0 a3_1)) = some r := H
     have A21 := Aeq A210
     clear A210
     replace H := Option.bind_eq_some_iff.mp H
     obtain ⟨t219, A220, H⟩ := H
     replace H : (impl_grow.j0 k t219 a1 a2_0 a2_1 a3_0 a3_1) = some r := H
     have A22 := Aeq A220
     clear A220
     have H' := Aeq H
     clear H
     try go_wp2
     have n0_ := Aeq (Kd.R_drew HO0.out)
     have n1_ := Aeq (blk_drew BK212.out)
     have n2_ := Aeq (blk_drew BK213.out)
     have n3_ := Aeq (Kept.drew HK.out)
     have n4_ := Aeq (below_drew1 HB.out)
     clear HO0 BK212 BK213 HK HB
     have HO0 := n0_
     have BK212 := n1_
     have BK213 := n2_
     have HK := n3_
     have HB := n4_
     clear n0_ n1_ n2_ n3_ n4_
     refine start_ (n := 8) (S := fun w' => w'.cell? ⟨g212, 0, none⟩ = some (.int .i64 a2_0) ∧ w'.cell? ⟨g212, 1, none⟩ = some (.int .i64 a2_1) ∧ w'.cell? ⟨g213, 0, none⟩ = some (.int .i64 a3_0) ∧ w'.cell? ⟨g213, 1, none⟩ = some (.int .i64 a3_1)) (ds := []) #[false, false, false, false, false, false, false, false] (by kernel_rfl) rfl rfl ⟨(blk_cell BK212.out 0).trans rfl, (blk_cell BK212.out 1).trans rfl, (blk_cell BK213.out 0).trans rfl, (blk_cell BK213.out 1).trans rfl⟩ (fun hHeld => ?_); refine with_tabW impl_grow.tab4 impl_grow.bits4 (fun HT_ HW_ => ?_)
     generalize w15.drew = w23 at HO0 BK212 BK213 HK HB hHeld ⊢
     refine pure_ (i := 0) (N := some 21) (v := ?_) (a' := ?_) #[true, false, false, false, false, false, false, false] rfl rfl (any_of HT_.out (by kernel_rfl)) (fun _ _ _ h => h) (Or.inl ⟨by rfl, ?_⟩) ?_ ?_
     rotate_left
     ·
      intro w'
      go_simp
      with_reducible rfl
     rotate_left
     ·
      simp only [Act.put, y1e, y2e, y3e, i64_w, i32_w]
      rfl
     refine pure_ (i := 1) (N := some 22) (v := ?_) (a' := ?_) #[true, true, false, false, false, false, false, false] rfl rfl (any_of HT_.out (by kernel_rfl)) (fun _ _ _ h => h) (Or.inl ⟨by rfl, ?_⟩) ?_ ?_
     rotate_left
     ·
      intro w'
      go_simp
      with_reducible rfl
     rotate_left
     ·
      simp only [Act.put, y1e, y2e, y3e, i64_w, i32_w]
      rfl
     refine pure_ (i := 2) (N := some 23) (v := ?_) (a' := ?_) #[true, true, true, false, false, false, false, false] rfl rfl (any_of HT_.out (by kernel_rfl)) (fun _ _ _ h => h) (Or.inl ⟨by rfl, ?_⟩) ?_ ?_
     rotate_left
     ·
      intro w'
      go_simp
      with_reducible rfl
     rotate_left
     ·
      simp only [Act.put, y1e, y2e, y3e, i64_w, i32_w]
      rfl
     refine take_ (i := 3) (N := some 24) (v := ?_) (a' := ?_) #[true, true, true, true, false, false, false, false] rfl rfl (take_ofW HT_.out HW_.out (by kernel_rfl)) (fun _ _ _ h => h) (Or.inl ⟨by rfl, ?_⟩) hHeld ?_ ?_
     rotate_left
     ·
      rintro w' ⟨s0, s1, s2, s3⟩
      go_simp
      with_reducible rfl
     rotate_left
     ·
      simp only [Act.put, y1e, y2e, y3e, i64_w, i32_w]
      rfl
     refine take_ (i := 5) (N := some 26) (v := ?_) (a' := ?_) #[true, true, true, true, false, true, false, false] rfl rfl (take_ofW HT_.out HW_.out (by kernel_rfl)) (fun _ _ _ h => h) (Or.inl ⟨by rfl, ?_⟩) hHeld ?_ ?_
     rotate_left
     ·
      rintro w' ⟨s0, s1, s2, s3⟩
      go_simp
      with_reducible rfl
     rotate_left
     ·
      simp only [Act.put, y1e, y2e, y3e, i64_w, i32_w]
      rfl
     refine one_ (i := 4) (N := some 25) #[true, true, true, true, true, true, false, false] rfl rfl (one_of HT_.out (by kernel_rfl)) (by decide) (fun K hK => ?_)
     refine goes_ Try.func32 (by kernel_rfl) rfl #[.agg #[.int .i64 a2_0, .int .i64 a2_1], .int .u8 69] (by rfl) rfl rfl Ze13 ?_
     with_reducible refine (impl_Cell_next.calls a2_0 a2_1 69 t217 t218 _ A21.out).mono ?_
     rintro e w24 ⟨rfl, hb⟩
     refine ⟨_, rfl, ?_⟩
     have n0_ := Aeq (Kd.R_below Ze19 hb)
     have n1_ := Aeq (blk_below (g := g212) (o := .cells #[.int .i64 a2_0, .int .i64 a2_1] 27 (0, 0)) Ze17 hb)
     have n2_ := Aeq (blk_below (g := g213) (o := .cells #[.int .i64 a3_0, .int .i64 a3_1] 27 (0, 0)) Ze18 hb)
     have n3_ := Aeq (Kept.below (S := (fun k_ => P0_ k_)) Ze6 hb)
     have n4_ := Aeq (below_step Ze8 hb)
     clear HO0 BK212 BK213 HK HB
     have HO0 := n0_
     have BK212 := n1_
     have BK213 := n2_
     have HK := n3_
     have HB := n4_
     clear n0_ n1_ n2_ n3_ n4_
     (try clear hb)
     obtain ⟨Ao25, co25, eo25⟩ := Kd.R_slice HO0.out
     (first | subst eo25 | (injection eo25 with f1_ f2_ f3_; have f4_ := f1_.symm; have f5_ := f3_.symm; clear f1_ f2_ f3_; subst f4_; subst f5_))
     refine hK.out _ _ ⟨(blk_cell BK212.out 0).trans rfl, (blk_cell BK212.out 1).trans rfl, (blk_cell BK213.out 0).trans rfl, (blk_cell BK213.out 1).trans rfl⟩ (fun hHeld => ?_)
     clear hK K
     refine norm_ (a' := ?_) ?_ ?_
     rotate_left
     ·
      show Act.put _ (some 25) _ = _
      simp only [Act.put, y1e, y2e, y3e, i64_w, i32_w]
      rfl
     refine one_ (i := 6) (N := some 27) #[true, true, true, true, true, true, true, false] rfl rfl (one_of HT_.out (by kernel_rfl)) (by decide) (fun K hK => ?_)
     refine goes_ Try.func25 (by kernel_rfl) rfl #[.slice Ao25 l0.length co25, .string (a1 ++ (⟨#[69]⟩ : ByteArray)), .agg #[.int .i64 t217, .int .i64 t218], .agg #[.int .i64 a3_0, .int .i64 a3_1]] (by rfl) rfl rfl Ze13 ?_
     with_reducible refine (ih k (by omega) (fun k_ => some k_ = (.slice Ao25 l0.length co25 : Value).ownBlock) (.slice Ao25 l0.length co25) l0 (a1 ++ (⟨#[69]⟩ : ByteArray)) t217 t218 a3_0 a3_1 t219 w0 _ ?side1 ?side2 A22.out).mono ?_
     (case side1 => repeat (first | (with_reducible first | exact HB.out | apply below_alloc | apply pw_below_drewN | apply below_drew1 | refine below_set ?_ GE212.out | refine below_set ?_ GE213.out) | exact HB.out))
     (case side2 => exact Kd.R_tight rfl HO0.out)
     rintro e w26 ⟨v220, rfl, ho0, hb, hkp⟩
     refine ⟨_, rfl, ?_⟩
     have n0_ := Aeq (blk_kept Ze17 hkp (fun hs_ => (fun e_ => (Kd.R_ne HO0.out BK212.out (by decide)) e_) hs_))
     have n1_ := Aeq (blk_kept Ze18 hkp (fun hs_ => (fun e_ => (Kd.R_ne HO0.out BK213.out (by decide)) e_) hs_))
     have n2_ := Aeq (Kd.R_mono (ok' := fun k_ => (P0_ k_ ∨ w.heap.size ≤ k_)) ho0 (fun k_ hk_ => Or.elim hk_ (fun hs_ => (HO0.out.1 k_ (hs_).symm)) (fun hn_ => (.inr (Nat.le_trans Ze1 hn_)))))
     have n3_ := Aeq (Kept.then_ (S := (fun k_ => P0_ k_)) Ze6 hkp (fun k_ hs_ => (fun e_ => (HO0.out.1 k_ e_.symm)) hs_))
     have n4_ := Aeq (hb)
     clear BK212 BK213 HK HB HO0
     have BK212 := n0_
     have BK213 := n1_
     have HO221 := n2_
     have HK := n3_
     have HB := n4_
     clear n0_ n1_ n2_ n3_ n4_
     (try clear hb)
     (try clear hkp)
     (try clear ho0)
     refine hK.out _ _ ⟨(blk_cell BK212.out 0).trans rfl, (blk_cell BK212.out 1).trans rfl, (blk_cell BK213.out 0).trans rfl, (blk_cell BK213.out 1).trans rfl⟩ (fun hHeld => ?_)
     clear hK K
     refine norm_ (a' := ?_) ?_ ?_
     rotate_left
     ·
      show Act.put _ (some 27) _ = _
      simp only [Act.put, y1e, y2e, y3e, i64_w, i32_w]
      rfl
     refine pure_ (i := 7) (N := some 0) (v := ?_) (a' := ?_) #[true, true, true, true, true, true, true, true] rfl rfl (any_of HT_.out (by kernel_rfl)) (fun _ _ _ h => h) (Or.inl ⟨by rfl, ?_⟩) ?_ ?_
     rotate_left
     ·
      intro w'
      go_simp
      with_reducible rfl
     rotate_left
     ·
      simp only [Act.put, y1e, y2e, y3e, i64_w, i32_w]
      rfl
     refine done_ (done_of HT_.out (by kernel_rfl)) ?_
     try go_wp2
     go_meet
     case rel => exact ⟨_, (t219), H', ⟨by first | omega | exact Nat.le_refl _⟩, ⟨by (with_reducible repeat (first | apply Kd.R_alloc | apply Kd.R_drewN | apply Kd.R_drew)); exact HO221.out⟩, ⟨by (with_reducible repeat (first | refine blk_drewN ?_ _ | refine blk_drew ?_ | refine blk_alloc ?_ _)); exact BK212.out⟩, ⟨by (with_reducible repeat (first | refine blk_drewN ?_ _ | refine blk_drew ?_ | refine blk_alloc ?_ _)); exact BK213.out⟩, ⟨by repeat (first | (with_reducible first | exact HK.out | apply Kept.alloc | apply Kept.drewN | apply Kept.drew | refine Kept.setCell ?_ (.inr GW212.out) _ | refine Kept.setCell ?_ (.inr GW213.out) _) | exact HK.out)⟩, ⟨by repeat (first | (with_reducible first | exact HB.out | apply below_alloc | apply pw_below_drewN | apply below_drew1 | refine below_set ?_ GE212.out | refine below_set ?_ GE213.out) | exact HB.out)⟩⟩
    ·
     rw [if_neg c20] at H
     exact absurd H (by simp)
   ·
    rw [if_neg c19] at H
    have c19b0 : decide (a2_0 < a3_0) = false := decide_eq_false c19
    clear c19
    (first | rw [c19b0] | (simp only [i64_w, i32_w]; rw [c19b0]) | skip)
    have H' := Aeq H
    clear H
    go_wp2
    go_meet
    case rel => exact ⟨_, (l0), H', ⟨by first | omega | exact Nat.le_refl _⟩, ⟨by (with_reducible repeat (first | apply Kd.R_alloc | apply Kd.R_drewN | apply Kd.R_drew)); exact HO0.out⟩, ⟨by (with_reducible repeat (first | refine blk_drewN ?_ _ | refine blk_drew ?_ | refine blk_alloc ?_ _)); exact BK212.out⟩, ⟨by (with_reducible repeat (first | refine blk_drewN ?_ _ | refine blk_drew ?_ | refine blk_alloc ?_ _)); exact BK213.out⟩, ⟨by repeat (first | (with_reducible first | exact HK.out | apply Kept.alloc | apply Kept.drewN | apply Kept.drew | refine Kept.setCell ?_ (.inr GW212.out) _ | refine Kept.setCell ?_ (.inr GW213.out) _) | exact HK.out)⟩, ⟨by repeat (first | (with_reducible first | exact HB.out | apply below_alloc | apply pw_below_drewN | apply below_drew1 | refine below_set ?_ GE212.out | refine below_set ?_ GE213.out) | exact HB.out)⟩⟩
  case rest =>
   clear HC13
   try clear c1
   try clear c2
   try clear p2
   try clear c3
   try clear c5
   try clear c5b0
   try clear c5b1
   try clear c5b2
   try clear c6
   try clear c9
   try clear c16
   try clear c19
   try clear c19b0
   try clear c20
   try clear c20b0
   try clear c20b1
   try clear c20b2
   try clear c25
   try clear hcz10_0
   try clear hcz10_1
   try clear hcz11_0
   try clear hcz11_1
   try clear hcz17_0
   try clear hcz17_1
   try clear hcz18_0
   try clear hcz18_1
   try clear hfz10_0
   try clear hfz10_1
   try clear hfz11_0
   try clear hfz11_1
   try clear hfz17_0
   try clear hfz17_1
   try clear hfz18_0
   try clear hfz18_1
   obtain ⟨kq, x0_12, HA, HJ12, HO_0, BK212, BK213, HK, HB⟩ := hcut
   cases kq with
   | zero => exact absurd HA.out (by simp [impl_grow.j0])
   | succ kj12 =>
    have H := HA.out
    clear HA
    simp only [impl_grow.j0] at H
    by_cases c27 : a2_1 < a3_1
    ·
     rw [if_pos c27] at H
     have c27b0 : decide (a2_1 < a3_1) = true := decide_eq_true c27
     clear c27
     by_cases c28 : a1.size + 1 ≤ 9223372036854775807
     ·
      rw [if_pos c28] at H
      have c28b0 := eq_true c28
      have c28b1 : decide (a1.size + 1 ≤ 9223372036854775807) = true := decide_eq_true c28
      try have c28b2 : (9223372036854775807 < a1.size + 1) = False := eq_false (Nat.not_lt.2 c28)
      replace H := Option.bind_eq_some_iff.mp H
      obtain ⟨⟨t222, t223⟩, A290, H⟩ := H
      replace H : ((impl_grow.f kj12 x0_12 (a1 ++ (⟨#[78]⟩ : ByteArray)) t222 t223 a3_0 a3_1).bind fun t224 => (some t224)) = some r := H
      have A29 := Aeq A290
      clear A290
      replace H := Option.bind_eq_some_iff.mp H
      obtain ⟨t224, A300, H⟩ := H
      replace H : (some t224) = some r := H
      have A30 := Aeq A300
      clear A300
      obtain rfl := Option.some.inj H
      have hnb31 := NB212_213.out
      have hnc31 := NB213_212.out
      have hcz32_0 : wc.cell? ⟨g212, 0, none⟩ = some (.int .i64 a2_0) := (blk_cell BK212.out 0).trans rfl
      have hcz32_1 : wc.cell? ⟨g212, 1, none⟩ = some (.int .i64 a2_1) := (blk_cell BK212.out 1).trans rfl
      have hfz32_0 := blk_frozen BK212.out 0
      have hfz32_1 := blk_frozen BK212.out 1
      have hcz33_0 : wc.cell? ⟨g213, 0, none⟩ = some (.int .i64 a3_0) := (blk_cell BK213.out 0).trans rfl
      have hcz33_1 : wc.cell? ⟨g213, 1, none⟩ = some (.int .i64 a3_1) := (blk_cell BK213.out 1).trans rfl
      have hfz33_0 := blk_frozen BK213.out 0
      have hfz33_1 := blk_frozen BK213.out 1
      try go_wp2
      have n0_ := Aeq (Kd.R_drew HO_0.out)
      have n1_ := Aeq (blk_drew BK212.out)
      have n2_ := Aeq (blk_drew BK213.out)
      have n3_ := Aeq (Kept.drew HK.out)
      have n4_ := Aeq (below_drew1 HB.out)
      clear HO_0 BK212 BK213 HK HB
      have HO_0 := n0_
      have BK212 := n1_
      have BK213 := n2_
      have HK := n3_
      have HB := n4_
      clear n0_ n1_ n2_ n3_ n4_
      refine start_ (n := 8) (S := fun w' => w'.cell? ⟨g212, 0, none⟩ = some (.int .i64 a2_0) ∧ w'.cell? ⟨g212, 1, none⟩ = some (.int .i64 a2_1) ∧ w'.cell? ⟨g213, 0, none⟩ = some (.int .i64 a3_0) ∧ w'.cell? ⟨g213, 1, none⟩ = some (.int .i64 a3_1)) (ds := []) #[false, false, false, false, false, false, false, false] (by kernel_rfl) rfl rfl ⟨(blk_cell BK212.out 0).trans rfl, (blk_cell BK212.out 1).trans rfl, (blk_cell BK213.out 0).trans rfl, (blk_cell BK213.out 1).trans rfl⟩ (fun hHeld => ?_); refine with_tabW impl_grow.tab6 impl_grow.bits6 (fun HT_ HW_ => ?_)
      generalize wc.drew = w34 at HO_0 BK212 BK213 HK HB hHeld ⊢
      refine pure_ (i := 0) (N := some 33) (v := ?_) (a' := ?_) #[true, false, false, false, false, false, false, false] rfl rfl (any_of HT_.out (by kernel_rfl)) (fun _ _ _ h => h) (Or.inl ⟨by rfl, ?_⟩) ?_ ?_
      rotate_left
      ·
       intro w'
       go_simp
       with_reducible rfl
      rotate_left
      ·
       simp only [Act.put, y1e, y2e, y3e, i64_w, i32_w]
       rfl
      refine pure_ (i := 1) (N := some 34) (v := ?_) (a' := ?_) #[true, true, false, false, false, false, false, false] rfl rfl (any_of HT_.out (by kernel_rfl)) (fun _ _ _ h => h) (Or.inl ⟨by rfl, ?_⟩) ?_ ?_
      rotate_left
      ·
       intro w'
       go_simp
       with_reducible rfl
      rotate_left
      ·
       simp only [Act.put, y1e, y2e, y3e, i64_w, i32_w]
       rfl
      refine pure_ (i := 2) (N := some 35) (v := ?_) (a' := ?_) #[true, true, true, false, false, false, false, false] rfl rfl (any_of HT_.out (by kernel_rfl)) (fun _ _ _ h => h) (Or.inl ⟨by rfl, ?_⟩) ?_ ?_
      rotate_left
      ·
       intro w'
       go_simp
       with_reducible rfl
      rotate_left
      ·
       simp only [Act.put, y1e, y2e, y3e, i64_w, i32_w]
       rfl
      refine take_ (i := 3) (N := some 36) (v := ?_) (a' := ?_) #[true, true, true, true, false, false, false, false] rfl rfl (take_ofW HT_.out HW_.out (by kernel_rfl)) (fun _ _ _ h => h) (Or.inl ⟨by rfl, ?_⟩) hHeld ?_ ?_
      rotate_left
      ·
       rintro w' ⟨s0, s1, s2, s3⟩
       go_simp
       with_reducible rfl
      rotate_left
      ·
       simp only [Act.put, y1e, y2e, y3e, i64_w, i32_w]
       rfl
      refine take_ (i := 5) (N := some 38) (v := ?_) (a' := ?_) #[true, true, true, true, false, true, false, false] rfl rfl (take_ofW HT_.out HW_.out (by kernel_rfl)) (fun _ _ _ h => h) (Or.inl ⟨by rfl, ?_⟩) hHeld ?_ ?_
      rotate_left
      ·
       rintro w' ⟨s0, s1, s2, s3⟩
       go_simp
       with_reducible rfl
      rotate_left
      ·
       simp only [Act.put, y1e, y2e, y3e, i64_w, i32_w]
       rfl
      refine one_ (i := 4) (N := some 37) #[true, true, true, true, true, true, false, false] rfl rfl (one_of HT_.out (by kernel_rfl)) (by decide) (fun K hK => ?_)
      refine goes_ Try.func32 (by kernel_rfl) rfl #[.agg #[.int .i64 a2_0, .int .i64 a2_1], .int .u8 78] (by rfl) rfl rfl Ze13 ?_
      with_reducible refine (impl_Cell_next.calls a2_0 a2_1 78 t222 t223 _ A29.out).mono ?_
      rintro e w35 ⟨rfl, hb⟩
      refine ⟨_, rfl, ?_⟩
      have n0_ := Aeq (Kd.R_below (by (with_reducible repeat (first | apply Kd.R_alloc | apply Kd.R_drewN | apply Kd.R_drew)); exact HO_0.out) hb)
      have n1_ := Aeq (blk_below (g := g212) (o := .cells #[.int .i64 a2_0, .int .i64 a2_1] 27 (0, 0)) Ze17 hb)
      have n2_ := Aeq (blk_below (g := g213) (o := .cells #[.int .i64 a3_0, .int .i64 a3_1] 27 (0, 0)) Ze18 hb)
      have n3_ := Aeq (Kept.below (S := (fun k_ => P0_ k_)) Ze6 hb)
      have n4_ := Aeq (below_step Ze8 hb)
      clear HO_0 BK212 BK213 HK HB
      have HO_0 := n0_
      have BK212 := n1_
      have BK213 := n2_
      have HK := n3_
      have HB := n4_
      clear n0_ n1_ n2_ n3_ n4_
      (try clear hb)
      obtain ⟨Ao36, co36, eo36⟩ := Kd.R_slice HO_0.out
      (first | subst eo36 | (injection eo36 with f1_ f2_ f3_; have f4_ := f1_.symm; have f5_ := f3_.symm; clear f1_ f2_ f3_; subst f4_; subst f5_))
      refine hK.out _ _ ⟨(blk_cell BK212.out 0).trans rfl, (blk_cell BK212.out 1).trans rfl, (blk_cell BK213.out 0).trans rfl, (blk_cell BK213.out 1).trans rfl⟩ (fun hHeld => ?_)
      clear hK K
      refine norm_ (a' := ?_) ?_ ?_
      rotate_left
      ·
       show Act.put _ (some 37) _ = _
       simp only [Act.put, y1e, y2e, y3e, i64_w, i32_w]
       rfl
      refine one_ (i := 6) (N := some 39) #[true, true, true, true, true, true, true, false] rfl rfl (one_of HT_.out (by kernel_rfl)) (by decide) (fun K hK => ?_)
      refine goes_ Try.func25 (by kernel_rfl) rfl #[.slice Ao36 x0_12.length co36, .string (a1 ++ (⟨#[78]⟩ : ByteArray)), .agg #[.int .i64 t222, .int .i64 t223], .agg #[.int .i64 a3_0, .int .i64 a3_1]] (by rfl) rfl rfl Ze13 ?_
      with_reducible refine (ih kj12 (by have := HJ12.out; omega) (fun k_ => some k_ = (.slice Ao36 x0_12.length co36 : Value).ownBlock) (.slice Ao36 x0_12.length co36) x0_12 (a1 ++ (⟨#[78]⟩ : ByteArray)) t222 t223 a3_0 a3_1 t224 w0 _ ?side1 ?side2 A30.out).mono ?_
      (case side1 => repeat (first | (with_reducible first | exact HB.out | apply below_alloc | apply pw_below_drewN | apply below_drew1 | refine below_set ?_ GE212.out | refine below_set ?_ GE213.out) | exact HB.out))
      (case side2 => exact Kd.R_tight rfl HO_0.out)
      rintro e w37 ⟨v225, rfl, ho0, hb, hkp⟩
      refine ⟨_, rfl, ?_⟩
      have n0_ := Aeq (blk_kept Ze17 hkp (fun hs_ => (fun e_ => (Kd.R_ne HO_0.out BK212.out (by decide)) e_) hs_))
      have n1_ := Aeq (blk_kept Ze18 hkp (fun hs_ => (fun e_ => (Kd.R_ne HO_0.out BK213.out (by decide)) e_) hs_))
      have n2_ := Aeq (Kd.R_mono (ok' := fun k_ => (P0_ k_ ∨ w.heap.size ≤ k_)) ho0 (fun k_ hk_ => Or.elim hk_ (fun hs_ => (HO_0.out.1 k_ (hs_).symm)) (fun hn_ => (.inr (Nat.le_trans Ze1 hn_)))))
      have n3_ := Aeq (Kept.then_ (S := (fun k_ => P0_ k_)) Ze6 hkp (fun k_ hs_ => (fun e_ => (HO_0.out.1 k_ e_.symm)) hs_))
      have n4_ := Aeq (hb)
      clear BK212 BK213 HK HB HO_0
      have BK212 := n0_
      have BK213 := n1_
      have HO226 := n2_
      have HK := n3_
      have HB := n4_
      clear n0_ n1_ n2_ n3_ n4_
      (try clear hb)
      (try clear hkp)
      (try clear ho0)
      refine hK.out _ _ ⟨(blk_cell BK212.out 0).trans rfl, (blk_cell BK212.out 1).trans rfl, (blk_cell BK213.out 0).trans rfl, (blk_cell BK213.out 1).trans rfl⟩ (fun hHeld => ?_)
      clear hK K
      refine norm_ (a' := ?_) ?_ ?_
      rotate_left
      ·
       show Act.put _ (some 39) _ = _
       simp only [Act.put, y1e, y2e, y3e, i64_w, i32_w]
       rfl
      refine pure_ (i := 7) (N := some 0) (v := ?_) (a' := ?_) #[true, true, true, true, true, true, true, true] rfl rfl (any_of HT_.out (by kernel_rfl)) (fun _ _ _ h => h) (Or.inl ⟨by rfl, ?_⟩) ?_ ?_
      rotate_left
      ·
       intro w'
       go_simp
       with_reducible rfl
      rotate_left
      ·
       simp only [Act.put, y1e, y2e, y3e, i64_w, i32_w]
       rfl
      refine done_ (done_of HT_.out (by kernel_rfl)) ?_
      try go_wp2
      go_ret
      exact ⟨_, Zre, by (with_reducible repeat (first | apply Kd.R_alloc | apply Kd.R_drewN | apply Kd.R_drew)); exact HO226.out, by repeat (first | (with_reducible first | exact HB.out | apply below_alloc | apply pw_below_drewN | apply below_drew1 | refine below_set ?_ GE212.out | refine below_set ?_ GE213.out) | exact HB.out), by repeat (first | (with_reducible first | exact HK.out | apply Kept.alloc | apply Kept.drewN | apply Kept.drew | refine Kept.setCell ?_ (.inr GW212.out) _ | refine Kept.setCell ?_ (.inr GW213.out) _) | exact HK.out)⟩
     ·
      rw [if_neg c28] at H
      exact absurd H (by simp)
    ·
     rw [if_neg c27] at H
     have c27b0 : decide (a2_1 < a3_1) = false := decide_eq_false c27
     clear c27
     obtain rfl := Option.some.inj H
     have hnb38 := NB212_213.out
     have hnc38 := NB213_212.out
     have hcz39_0 : wc.cell? ⟨g212, 0, none⟩ = some (.int .i64 a2_0) := (blk_cell BK212.out 0).trans rfl
     have hcz39_1 : wc.cell? ⟨g212, 1, none⟩ = some (.int .i64 a2_1) := (blk_cell BK212.out 1).trans rfl
     have hfz39_0 := blk_frozen BK212.out 0
     have hfz39_1 := blk_frozen BK212.out 1
     have hcz40_0 : wc.cell? ⟨g213, 0, none⟩ = some (.int .i64 a3_0) := (blk_cell BK213.out 0).trans rfl
     have hcz40_1 : wc.cell? ⟨g213, 1, none⟩ = some (.int .i64 a3_1) := (blk_cell BK213.out 1).trans rfl
     have hfz40_0 := blk_frozen BK213.out 0
     have hfz40_1 := blk_frozen BK213.out 1
     go_wp2
     go_ret
     exact ⟨_, Zre, by (with_reducible repeat (first | apply Kd.R_alloc | apply Kd.R_drewN | apply Kd.R_drew)); exact HO_0.out, by repeat (first | (with_reducible first | exact HB.out | apply below_alloc | apply pw_below_drewN | apply below_drew1 | refine below_set ?_ GE212.out | refine below_set ?_ GE213.out) | exact HB.out), by repeat (first | (with_reducible first | exact HK.out | apply Kept.alloc | apply Kept.drewN | apply Kept.drew | refine Kept.setCell ?_ (.inr GW212.out) _ | refine Kept.setCell ?_ (.inr GW213.out) _) | exact HK.out)⟩

end Go.Proofs.Ythlbbngmgioamaa.OFnExactAllPairsApart
