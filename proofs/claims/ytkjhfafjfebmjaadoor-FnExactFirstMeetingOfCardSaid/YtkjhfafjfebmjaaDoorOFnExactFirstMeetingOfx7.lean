/- The functions that 'FnExactFirstMeetingOf' runs, each as a function over numbers and lists, with the proof that the Go text comes to its answers. No condition. -/
import Derived.Test.YtkjhfafjfebmjaaDoorOFnExactFirstMeetingOfx0
import Derived.Test.YtkjhfafjfebmjaaDoorOFnExactFirstMeetingOfx2
import Derived.Test.YtkjhfafjfebmjaaDoorOFnExactFirstMeetingOfx3
import Derived.Test.YtkjhfafjfebmjaaDoorOFnExactFirstMeetingOfx6
namespace Go.Proofs.YtkjhfafjfebmjaaDoor.OFnExactFirstMeetingOf
open Go.Proofs.YtkjhfafjfebmjaaDoor.Stub
open Go.RowKit Go.Proofs.YtkjhfafjfebmjaaDoorW.PrintWords Go.Proofs.YtkjhfafjfebmjaaDoorW.PrintLast Go.Proofs.YtkjhfafjfebmjaaDoorW.PrintMore
attribute [local go_sem] max2_int min2_int max_two min_two max_three min_three max_four min_four   -- for this text's walks alone
set_option linter.unusedVariables false
set_option linter.unusedSimpArgs false

/-! ### laws_FnExactFirstMeetingOf: function 7 -/
theorem y1 {α : Type} (l : List α) (i : Nat) (a : α) : l.toArray.setIfInBounds i a = (l.set i a).toArray := List.setIfInBounds_toArray l i a
theorem y2 {α : Type} {x : α} {xs : List α} {b : α} : (x :: xs).set 0 b = b :: xs := List.set_cons_zero
theorem y3 {α : Type} {x : α} {xs : List α} {n : Nat} {b : α} : (x :: xs).set (n + 1) b = x :: xs.set n b := List.set_cons_succ
theorem A0 {p : Prop} (h : p) : Aside0 p := Aside0.mk h
theorem Z1 {p : Prop} (h : p := by (with_reducible repeat (first | refine blk_drewN ?_ _ | refine blk_drew ?_ | refine blk_alloc ?_ _)); refine blk_put (cs := #[.int .i64 t230, .int .i64 0]) ?_ 1 _ rfl; (with_reducible repeat (first | refine blk_drewN ?_ _ | refine blk_drew ?_ | refine blk_alloc ?_ _)); refine blk_put (cs := #[.int .i64 0, .int .i64 0]) ?_ 0 _ rfl; (with_reducible repeat (first | refine blk_drewN ?_ _ | refine blk_drew ?_ | refine blk_alloc ?_ _)); exact BK233.out) : p := h
theorem Z2 {p : Prop} (h : p := by (with_reducible repeat (first | refine blk_drewN ?_ _ | refine blk_drew ?_ | refine blk_alloc ?_ _)); refine blk_far ?_ NB210_233.out _; (with_reducible repeat (first | refine blk_drewN ?_ _ | refine blk_drew ?_ | refine blk_alloc ?_ _)); refine blk_far ?_ NB210_233.out _; (with_reducible repeat (first | refine blk_drewN ?_ _ | refine blk_drew ?_ | refine blk_alloc ?_ _)); exact BK210.out) : p := h
theorem Z3 {p : Prop} (h : p := by (with_reducible repeat (first | refine blk_drewN ?_ _ | refine blk_drew ?_ | refine blk_alloc ?_ _)); refine blk_far ?_ NB211_233.out _; (with_reducible repeat (first | refine blk_drewN ?_ _ | refine blk_drew ?_ | refine blk_alloc ?_ _)); refine blk_far ?_ NB211_233.out _; (with_reducible repeat (first | refine blk_drewN ?_ _ | refine blk_drew ?_ | refine blk_alloc ?_ _)); exact BK211.out) : p := h
theorem Z4 {p : Prop} (h : p := by (with_reducible repeat (first | refine blk_drewN ?_ _ | refine blk_drew ?_ | refine blk_alloc ?_ _)); refine blk_far ?_ NB223_233.out _; (with_reducible repeat (first | refine blk_drewN ?_ _ | refine blk_drew ?_ | refine blk_alloc ?_ _)); refine blk_far ?_ NB223_233.out _; (with_reducible repeat (first | refine blk_drewN ?_ _ | refine blk_drew ?_ | refine blk_alloc ?_ _)); exact BK223.out) : p := h
theorem Z5 {p : Prop} (h : p := by rw [hg]; exact (below_size (by repeat (first | (with_reducible first | exact HB.out | apply below_alloc | apply pw_below_drewN | apply below_drew1 | refine below_set ?_ GE210.out | refine below_set ?_ GE211.out | refine below_set ?_ GE223.out) | exact HB.out)))) : p := h
theorem Z6 {p : Prop} (h : p := by rw [hg]; exact Nat.ne_of_lt (blk_lt (g := g210) (o := .cells #[.int .i64 a0_0, .int .i64 a0_1, .string a0_2] 25 (0, 0)) (by (with_reducible repeat (first | refine blk_drewN ?_ _ | refine blk_drew ?_ | refine blk_alloc ?_ _)); exact BK210.out))) : p := h
theorem Z7 {p : Prop} (h : p := by rw [hg]; exact Nat.ne_of_gt (blk_lt (g := g210) (o := .cells #[.int .i64 a0_0, .int .i64 a0_1, .string a0_2] 25 (0, 0)) (by (with_reducible repeat (first | refine blk_drewN ?_ _ | refine blk_drew ?_ | refine blk_alloc ?_ _)); exact BK210.out))) : p := h
theorem Z8 {p : Prop} (h : p := by rw [hg]; exact Nat.ne_of_lt (blk_lt (g := g210) (o := .cells #[.int .i64 a0_0, .int .i64 a0_1, .string a0_2] 25 (0, 0)) (by (with_reducible repeat (first | refine blk_drewN ?_ _ | refine blk_drew ?_ | refine blk_alloc ?_ _)); exact BK210.out))) : p := h
theorem Z9 {p : Prop} (h : p := by rw [hg]; exact Nat.ne_of_gt (blk_lt (g := g210) (o := .cells #[.int .i64 a0_0, .int .i64 a0_1, .string a0_2] 25 (0, 0)) (by (with_reducible repeat (first | refine blk_drewN ?_ _ | refine blk_drew ?_ | refine blk_alloc ?_ _)); exact BK210.out))) : p := h
theorem Z10 {p : Prop} (h : p := by rw [hg]; exact Nat.ne_of_lt (blk_lt (g := g211) (o := .cells #[.int .i64 a1_0, .int .i64 a1_1, .string a1_2] 25 (0, 0)) (by (with_reducible repeat (first | refine blk_drewN ?_ _ | refine blk_drew ?_ | refine blk_alloc ?_ _)); exact BK211.out))) : p := h
theorem Z11 {p : Prop} (h : p := by rw [hg]; exact Nat.ne_of_gt (blk_lt (g := g211) (o := .cells #[.int .i64 a1_0, .int .i64 a1_1, .string a1_2] 25 (0, 0)) (by (with_reducible repeat (first | refine blk_drewN ?_ _ | refine blk_drew ?_ | refine blk_alloc ?_ _)); exact BK211.out))) : p := h
theorem Z12 {p : Prop} (h : p := by rw [hg]; exact Nat.ne_of_lt (blk_lt (g := g210) (o := .cells #[.int .i64 a0_0, .int .i64 a0_1, .string a0_2] 25 (0, 0)) (by (with_reducible repeat (first | refine blk_drewN ?_ _ | refine blk_drew ?_ | refine blk_alloc ?_ _)); exact BK210.out))) : p := h
theorem Z13 {p : Prop} (h : p := by rw [hg]; exact Nat.ne_of_gt (blk_lt (g := g210) (o := .cells #[.int .i64 a0_0, .int .i64 a0_1, .string a0_2] 25 (0, 0)) (by (with_reducible repeat (first | refine blk_drewN ?_ _ | refine blk_drew ?_ | refine blk_alloc ?_ _)); exact BK210.out))) : p := h
theorem Z14 {p : Prop} (h : p := by rw [hg]; exact Nat.ne_of_lt (blk_lt (g := g211) (o := .cells #[.int .i64 a1_0, .int .i64 a1_1, .string a1_2] 25 (0, 0)) (by (with_reducible repeat (first | refine blk_drewN ?_ _ | refine blk_drew ?_ | refine blk_alloc ?_ _)); exact BK211.out))) : p := h
theorem Z15 {p : Prop} (h : p := by rw [hg]; exact Nat.ne_of_gt (blk_lt (g := g211) (o := .cells #[.int .i64 a1_0, .int .i64 a1_1, .string a1_2] 25 (0, 0)) (by (with_reducible repeat (first | refine blk_drewN ?_ _ | refine blk_drew ?_ | refine blk_alloc ?_ _)); exact BK211.out))) : p := h
theorem Z16 {p : Prop} (h : p := by repeat (first | (with_reducible first | exact HB.out | apply below_alloc | apply pw_below_drewN | apply below_drew1 | refine below_set ?_ GE210.out | refine below_set ?_ GE211.out | refine below_set ?_ GE223.out | refine below_set ?_ GE233.out) | exact HB.out)) : p := h
theorem Z17 {p : Prop} (h : p := by rw [hg]; exact (below_size (by repeat (first | (with_reducible first | exact HB.out | apply below_alloc | apply pw_below_drewN | apply below_drew1 | refine below_set ?_ GE210.out | refine below_set ?_ GE211.out) | exact HB.out)))) : p := h
theorem Z18 {p : Prop} (h : p := by rw [hg]; exact Nat.ne_of_lt (blk_lt (g := g223) (o := .cells #[.int .i64 t220, .int .i64 t221] 28 (0, 0)) (by (with_reducible repeat (first | refine blk_drewN ?_ _ | refine blk_drew ?_ | refine blk_alloc ?_ _)); exact BK223.out))) : p := h
theorem Z19 {p : Prop} (h : p := by rw [hg]; exact Nat.ne_of_gt (blk_lt (g := g223) (o := .cells #[.int .i64 t220, .int .i64 t221] 28 (0, 0)) (by (with_reducible repeat (first | refine blk_drewN ?_ _ | refine blk_drew ?_ | refine blk_alloc ?_ _)); exact BK223.out))) : p := h
theorem Z20 {p : Prop} (h : p := by repeat (first | (with_reducible first | exact HB.out | apply below_alloc | apply pw_below_drewN | apply below_drew1 | refine below_set ?_ GE210.out | refine below_set ?_ GE211.out | refine below_set ?_ GE223.out) | exact HB.out)) : p := h
theorem Z21 {p : Prop} (h : p := by rw [hg]; exact (below_size (by repeat (first | (with_reducible first | exact HB.out | apply below_alloc | apply pw_below_drewN | apply below_drew1 | refine below_set ?_ GE210.out) | exact HB.out)))) : p := h
theorem Z22 {p : Prop} (h : p := by repeat (first | (with_reducible first | exact HB.out | apply below_alloc | apply pw_below_drewN | apply below_drew1 | refine below_set ?_ GE210.out | refine below_set ?_ GE211.out) | exact HB.out)) : p := h
theorem Z23 {p : Prop} (h : p := by rw [hg]; exact (below_size (by repeat (first | (with_reducible first | exact HB.out | apply below_alloc | apply pw_below_drewN | apply below_drew1) | exact HB.out)))) : p := h
theorem Z24 {p : Prop} (h : p := by repeat (first | (with_reducible first | exact HB.out | apply below_alloc | apply pw_below_drewN | apply below_drew1 | refine below_set ?_ GE210.out) | exact HB.out)) : p := h
theorem Z25 {p : Prop} (h : p := by (try simp only [List.map_toArray, List.map_cons, List.map_nil]); first | done | rfl | (simp only [List.length_drop, List.length_take]; rfl)) : p := h
theorem Z26 {p : Prop} (h : p := by repeat (first | (with_reducible first | exact HB.out | apply below_alloc | apply pw_below_drewN | apply below_drew1) | exact HB.out)) : p := h
theorem Z27 {p : Prop} (h : p := by (with_reducible repeat (first | refine blk_drewN ?_ _ | refine blk_drew ?_ | refine blk_alloc ?_ _)); exact BK210.out) : p := h
theorem Z28 {p : Prop} (h : p := by (with_reducible repeat (first | refine blk_drewN ?_ _ | refine blk_drew ?_ | refine blk_alloc ?_ _)); exact BK211.out) : p := h
theorem Z29 {p : Prop} (h : p := by (with_reducible repeat (first | refine blk_drewN ?_ _ | refine blk_drew ?_ | refine blk_alloc ?_ _)); exact BK223.out) : p := h
theorem Z30 {p : Prop} (h : p := by (with_reducible repeat (first | refine blk_drewN ?_ _ | refine blk_drew ?_ | refine blk_alloc ?_ _)); exact BK233.out) : p := h
theorem Z31 {p : Prop} (h : p := by simp only [putAll, Act.put, y1, y2, y3]) : p := h
theorem Z32 {p : Prop} (h : p := by kernel_rfl) : p := h
theorem Z33 {p : Prop} (h : p := by decide) : p := h
def laws_FnExactFirstMeetingOf.f (k : Nat) (a0_0 : Int) (a0_1 : Int) (a0_2 : ByteArray) (a1_0 : Int) (a1_1 : Int) (a1_2 : ByteArray) : Option (Bool) := (laws_szWay.f a0_0 a0_1 a0_2 1048576).bind fun t212 => (if t212 < 0 then (some true) else ((laws_szWay.f a1_0 a1_1 a1_2 t212).bind fun t213 => (if t213 < 0 then (some true) else ((laws_toWay.f a0_0 a0_1 a0_2).bind fun bt214 => ((laws_toWay.f a1_0 a1_1 a1_2).bind fun bt217 => ((spec_FirstMeetingOf.f k bt214.1 bt214.2.1 bt214.2.2 bt217.1 bt217.2.1 bt217.2.2).bind fun bt220 => ((laws_toWay.f a0_0 a0_1 a0_2).bind fun bt224 => ((laws_toWay.f a1_0 a1_1 a1_2).bind fun bt227 => ((impl_FirstMeetingOf.f k bt224.1 bt224.2.1 bt224.2.2 bt227.1 bt227.2.1 bt227.2.2).bind fun bt230 => ((laws_eqCell.f bt230.1 bt230.2.1 bt220.1 bt220.2.1).bind fun t234 => (if t234 = true then (if (bt230.2.2 != bt220.2.2) = true then (some false) else (some true)) else (some false))))))))))))
theorem laws_FnExactFirstMeetingOf.mono : ∀ a0 a1 a2 a3 a4 a5 k, LeO (laws_FnExactFirstMeetingOf.f k a0 a1 a2 a3 a4 a5) (laws_FnExactFirstMeetingOf.f (k + 1) a0 a1 a2 a3 a4 a5) := by
  intro a0 a1 a2 a3 a4 a5 k
  unfold laws_FnExactFirstMeetingOf.f
  repeat' first
      | (with_reducible exact impl_FirstMeetingOf.mono _ _ _ _ _ _ _)
      | (with_reducible exact spec_FirstMeetingOf.mono _ _ _ _ _ _ _)
      | (with_reducible exact LeO.refl _)
      | (with_reducible exact LeO.none _)
      | (with_reducible refine LeO.ite ?_ ?_)
      | (with_reducible refine LeO.bind ?_ (fun _ => ?_))
      | exact impl_FirstMeetingOf.mono _ _ _ _ _ _ _
      | exact spec_FirstMeetingOf.mono _ _ _ _ _ _ _
      | exact LeO.none _
      | refine LeO.ite ?_ ?_
      | refine LeO.bind ?_ (fun _ => ?_)
def laws_FnExactFirstMeetingOf.T8 : Bool × List (List Nat × List Nat) := (true, [([], []), ([0], [0]), ([], []), ([2, 1], [2]), ([1, 3, 3], [1, 3]), ([4], [4]), ([5], [5]), ([5], [5]), ([], []), ([8, 6, 4, 0, 1, 2, 3, 4, 5, 6, 8], [6, 8]), ([7, 9, 0, 1, 2, 3, 4, 5, 6, 7, 8, 9], [7])])
def laws_FnExactFirstMeetingOf.B8 : List Nat := [0, 1, 0, 7, 15, 31, 63, 63, 0, 383, 1023]
theorem laws_FnExactFirstMeetingOf.tab8 : rtab .any (opsOf Tryd.f7 8) = laws_FnExactFirstMeetingOf.T8 := by kernel_rfl
theorem laws_FnExactFirstMeetingOf.bits8 : waitsOk laws_FnExactFirstMeetingOf.T8.2 laws_FnExactFirstMeetingOf.B8 = true := by kernel_rfl
def laws_FnExactFirstMeetingOf.T9 : Bool × List (List Nat × List Nat) := (true, [([], []), ([0], [0]), ([], []), ([2, 1], [2]), ([1, 3, 3], [1, 3]), ([4], [4]), ([5], [5]), ([5], [5]), ([], []), ([8, 6, 4, 0, 1, 2, 3, 4, 5, 6, 8], [6, 8]), ([7, 9, 0, 1, 2, 3, 4, 5, 6, 7, 8, 9], [7])])
def laws_FnExactFirstMeetingOf.B9 : List Nat := [0, 1, 0, 7, 15, 31, 63, 63, 0, 383, 1023]
theorem laws_FnExactFirstMeetingOf.tab9 : rtab .any (opsOf Tryd.f7 9) = laws_FnExactFirstMeetingOf.T9 := by kernel_rfl
theorem laws_FnExactFirstMeetingOf.bits9 : waitsOk laws_FnExactFirstMeetingOf.T9.2 laws_FnExactFirstMeetingOf.B9 = true := by kernel_rfl
set_option maxHeartbeats 8000000 in
set_option maxRecDepth 100000 in
theorem laws_FnExactFirstMeetingOf.calls (k : Nat) (a0_0 : Int) (a0_1 : Int) (a0_2 : ByteArray) (a1_0 : Int) (a1_1 : Int) (a1_2 : ByteArray) (r : Bool) (w : World) (h : laws_FnExactFirstMeetingOf.f k a0_0 a0_1 a0_2 a1_0 a1_1 a1_2 = some r) :
    Calls Tryd.prog 7 #[.agg #[.int .i64 a0_0, .int .i64 a0_1, .string a0_2], .agg #[.int .i64 a1_0, .int .i64 a1_1, .string a1_2]] w fun e w' => e = .returned (.bool r) ∧ Below w.heap.size w w' := by
  have hu25 := Tryd.underlying25
  have hu28 := Tryd.underlying28
  have HB := A0 (Below.refl w.heap.size w)
  have H : ((laws_szWay.f a0_0 a0_1 a0_2 1048576).bind fun t212 => (if t212 < 0 then (some true) else ((laws_szWay.f a1_0 a1_1 a1_2 t212).bind fun t213 => (if t213 < 0 then (some true) else ((laws_toWay.f a0_0 a0_1 a0_2).bind fun bt214 => ((laws_toWay.f a1_0 a1_1 a1_2).bind fun bt217 => ((spec_FirstMeetingOf.f k bt214.1 bt214.2.1 bt214.2.2 bt217.1 bt217.2.1 bt217.2.2).bind fun bt220 => ((laws_toWay.f a0_0 a0_1 a0_2).bind fun bt224 => ((laws_toWay.f a1_0 a1_1 a1_2).bind fun bt227 => ((impl_FirstMeetingOf.f k bt224.1 bt224.2.1 bt224.2.2 bt227.1 bt227.2.1 bt227.2.2).bind fun bt230 => ((laws_eqCell.f bt230.1 bt230.2.1 bt220.1 bt220.2.1).bind fun t234 => (if t234 = true then (if (bt230.2.2 != bt220.2.2) = true then (some false) else (some true)) else (some false))))))))))))) = some r := h
  clear h
  replace H := Option.bind_eq_some_iff.mp H
  obtain ⟨t212, A30, H⟩ := H
  replace H : (if t212 < 0 then (some true) else ((laws_szWay.f a1_0 a1_1 a1_2 t212).bind fun t213 => (if t213 < 0 then (some true) else ((laws_toWay.f a0_0 a0_1 a0_2).bind fun bt214 => ((laws_toWay.f a1_0 a1_1 a1_2).bind fun bt217 => ((spec_FirstMeetingOf.f k bt214.1 bt214.2.1 bt214.2.2 bt217.1 bt217.2.1 bt217.2.2).bind fun bt220 => ((laws_toWay.f a0_0 a0_1 a0_2).bind fun bt224 => ((laws_toWay.f a1_0 a1_1 a1_2).bind fun bt227 => ((impl_FirstMeetingOf.f k bt224.1 bt224.2.1 bt224.2.2 bt227.1 bt227.2.1 bt227.2.2).bind fun bt230 => ((laws_eqCell.f bt230.1 bt230.2.1 bt220.1 bt220.2.1).bind fun t234 => (if t234 = true then (if (bt230.2.2 != bt220.2.2) = true then (some false) else (some true)) else (some false)))))))))))) = some r := H
  have A3 := A0 A30
  clear A30
  by_cases c4 : t212 < 0
  · rw [if_pos c4] at H
    have c4b0 : decide (t212 < 0) = true := decide_eq_true c4
    clear c4
    obtain rfl := Option.some.inj H
    go_enter Tryd.func7, Tryd.ntmps7
    go_wp2_with (first | ((with_reducible refine gate_dst (N := 2) rfl ?_); refine box_event ?hg (N := 2) ?hd (cs := #[.int .i64 a0_0, .int .i64 a0_1, .string a0_2]) (t := 25) ?hr ?_; (case hd => rfl); (case hg => rfl); (case hr => first | (go_simp; done) | (go_simp; rfl)); intro g210 hg w5 hbox hb; have n0_ := A0 (below_step Z26 hb); have n1_ := A0 (hbox); have n2_ := A0 ((Z23 : w.heap.size ≤ g210)); have n3_ := A0 ((Z23 : w.heap.size ≤ g210)); clear HB; have HB := n0_; have BK210 := n1_; have GW210 := n2_; have GE210 := n3_; clear n0_ n1_ n2_ n3_; clear hb hbox hg) | ((with_reducible refine gate_dst (N := 3) rfl ?_); refine box_event ?hg (N := 3) ?hd (cs := #[.int .i64 a1_0, .int .i64 a1_1, .string a1_2]) (t := 25) ?hr ?_; (case hd => rfl); (case hg => rfl); (case hr => first | (go_simp; done) | (go_simp; rfl)); intro g211 hg w6 hbox hb; have n0_ := A0 (blk_below (g := g210) (o := .cells #[.int .i64 a0_0, .int .i64 a0_1, .string a0_2] 25 (0, 0)) Z27 hb); have n1_ := A0 (below_step Z24 hb); have n2_ := A0 (hbox); have n3_ := A0 ((Z21 : w.heap.size ≤ g211)); have n4_ := A0 ((Z21 : w.heap.size ≤ g211)); have n5_ := A0 ((Z6 : g210 ≠ g211)); have n6_ := A0 ((Z7 : g211 ≠ g210)); clear BK210; clear HB; have BK210 := n0_; have HB := n1_; have BK211 := n2_; have GW211 := n3_; have GE211 := n4_; have NB210_211 := n5_; have NB211_210 := n6_; clear n0_ n1_ n2_ n3_ n4_ n5_ n6_; clear hb hbox hg; have hnb7 := NB210_211.out; have hnc7 := NB211_210.out; have hcz8_0 : w6.cell? ⟨g210, 0, none⟩ = some (.int .i64 a0_0) := (blk_cell BK210.out 0).trans rfl; have hcz8_1 : w6.cell? ⟨g210, 1, none⟩ = some (.int .i64 a0_1) := (blk_cell BK210.out 1).trans rfl; have hcz8_2 : w6.cell? ⟨g210, 2, none⟩ = some (.string a0_2) := (blk_cell BK210.out 2).trans rfl; have hfz8_0 := blk_frozen BK210.out 0; have hfz8_1 := blk_frozen BK210.out 1; have hfz8_2 := blk_frozen BK210.out 2) | ((with_reducible refine gate_callee (f := 9) rfl ?_); refine goesL_ (some 12) rfl rfl Tryd.func9 Z32 rfl #[.agg #[.int .i64 a0_0, .int .i64 a0_1, .string a0_2], .int .i64 1048576] rfl Z25 ?_; (with_reducible refine (laws_szWay.calls a0_0 a0_1 a0_2 1048576 t212 _ A3.out).mono ?_); rintro e w9 ⟨rfl, hb⟩; refine ⟨_, rfl, ?_⟩; have n0_ := A0 (blk_below (g := g210) (o := .cells #[.int .i64 a0_0, .int .i64 a0_1, .string a0_2] 25 (0, 0)) Z27 hb); have n1_ := A0 (blk_below (g := g211) (o := .cells #[.int .i64 a1_0, .int .i64 a1_1, .string a1_2] 25 (0, 0)) Z28 hb); have n2_ := A0 (below_step Z22 hb); clear BK210; clear BK211; clear HB; have BK210 := n0_; have BK211 := n1_; have HB := n2_; clear n0_ n1_ n2_; (try clear hb); (try clear hb2); (try clear hk); (try clear hi)))
    go_ret
    exact ⟨by first | rfl | (simp [errW_none, errW_some] <;> rfl) | (simp [*, errW_none, errW_some] <;> rfl), by repeat (first | (with_reducible first | exact HB.out | apply below_alloc | apply pw_below_drewN | apply below_drew1 | refine below_set ?_ GE210.out | refine below_set ?_ GE211.out) | exact HB.out)⟩
  · rw [if_neg c4] at H
    have c4b0 : decide (t212 < 0) = false := decide_eq_false c4
    clear c4
    replace H := Option.bind_eq_some_iff.mp H
    obtain ⟨t213, A100, H⟩ := H
    replace H : (if t213 < 0 then (some true) else ((laws_toWay.f a0_0 a0_1 a0_2).bind fun bt214 => ((laws_toWay.f a1_0 a1_1 a1_2).bind fun bt217 => ((spec_FirstMeetingOf.f k bt214.1 bt214.2.1 bt214.2.2 bt217.1 bt217.2.1 bt217.2.2).bind fun bt220 => ((laws_toWay.f a0_0 a0_1 a0_2).bind fun bt224 => ((laws_toWay.f a1_0 a1_1 a1_2).bind fun bt227 => ((impl_FirstMeetingOf.f k bt224.1 bt224.2.1 bt224.2.2 bt227.1 bt227.2.1 bt227.2.2).bind fun bt230 => ((laws_eqCell.f bt230.1 bt230.2.1 bt220.1 bt220.2.1).bind fun t234 => (if t234 = true then (if (bt230.2.2 != bt220.2.2) = true then (some false) else (some true)) else (some false)))))))))) = some r := H
    have A10 := A0 A100
    clear A100
    by_cases c11 : t213 < 0
    · rw [if_pos c11] at H
      have c11b0 : decide (t213 < 0) = true := decide_eq_true c11
      clear c11
      obtain rfl := Option.some.inj H
      go_enter Tryd.func7, Tryd.ntmps7
      go_wp2_with (first | ((with_reducible refine gate_dst (N := 2) rfl ?_); refine box_event ?hg (N := 2) ?hd (cs := #[.int .i64 a0_0, .int .i64 a0_1, .string a0_2]) (t := 25) ?hr ?_; (case hd => rfl); (case hg => rfl); (case hr => first | (go_simp; done) | (go_simp; rfl)); intro g210 hg w12 hbox hb; have n0_ := A0 (below_step Z26 hb); have n1_ := A0 (hbox); have n2_ := A0 ((Z23 : w.heap.size ≤ g210)); have n3_ := A0 ((Z23 : w.heap.size ≤ g210)); clear HB; have HB := n0_; have BK210 := n1_; have GW210 := n2_; have GE210 := n3_; clear n0_ n1_ n2_ n3_; clear hb hbox hg) | ((with_reducible refine gate_dst (N := 3) rfl ?_); refine box_event ?hg (N := 3) ?hd (cs := #[.int .i64 a1_0, .int .i64 a1_1, .string a1_2]) (t := 25) ?hr ?_; (case hd => rfl); (case hg => rfl); (case hr => first | (go_simp; done) | (go_simp; rfl)); intro g211 hg w13 hbox hb; have n0_ := A0 (blk_below (g := g210) (o := .cells #[.int .i64 a0_0, .int .i64 a0_1, .string a0_2] 25 (0, 0)) Z27 hb); have n1_ := A0 (below_step Z24 hb); have n2_ := A0 (hbox); have n3_ := A0 ((Z21 : w.heap.size ≤ g211)); have n4_ := A0 ((Z21 : w.heap.size ≤ g211)); have n5_ := A0 ((Z6 : g210 ≠ g211)); have n6_ := A0 ((Z7 : g211 ≠ g210)); clear BK210; clear HB; have BK210 := n0_; have HB := n1_; have BK211 := n2_; have GW211 := n3_; have GE211 := n4_; have NB210_211 := n5_; have NB211_210 := n6_; clear n0_ n1_ n2_ n3_ n4_ n5_ n6_; clear hb hbox hg; have hnb14 := NB210_211.out; have hnc14 := NB211_210.out; have hcz15_0 : w13.cell? ⟨g210, 0, none⟩ = some (.int .i64 a0_0) := (blk_cell BK210.out 0).trans rfl; have hcz15_1 : w13.cell? ⟨g210, 1, none⟩ = some (.int .i64 a0_1) := (blk_cell BK210.out 1).trans rfl; have hcz15_2 : w13.cell? ⟨g210, 2, none⟩ = some (.string a0_2) := (blk_cell BK210.out 2).trans rfl; have hfz15_0 := blk_frozen BK210.out 0; have hfz15_1 := blk_frozen BK210.out 1; have hfz15_2 := blk_frozen BK210.out 2) | ((with_reducible refine gate_callee (f := 9) rfl ?_); refine goesL_ (some 12) rfl rfl Tryd.func9 Z32 rfl #[.agg #[.int .i64 a0_0, .int .i64 a0_1, .string a0_2], .int .i64 1048576] rfl Z25 ?_; (with_reducible refine (laws_szWay.calls a0_0 a0_1 a0_2 1048576 t212 _ A3.out).mono ?_); rintro e w16 ⟨rfl, hb⟩; refine ⟨_, rfl, ?_⟩; have n0_ := A0 (blk_below (g := g210) (o := .cells #[.int .i64 a0_0, .int .i64 a0_1, .string a0_2] 25 (0, 0)) Z27 hb); have n1_ := A0 (blk_below (g := g211) (o := .cells #[.int .i64 a1_0, .int .i64 a1_1, .string a1_2] 25 (0, 0)) Z28 hb); have n2_ := A0 (below_step Z22 hb); clear BK210; clear BK211; clear HB; have BK210 := n0_; have BK211 := n1_; have HB := n2_; clear n0_ n1_ n2_; (try clear hb); (try clear hb2); (try clear hk); (try clear hi); have hcz17_0 : w16.cell? ⟨g211, 0, none⟩ = some (.int .i64 a1_0) := (blk_cell BK211.out 0).trans rfl; have hcz17_1 : w16.cell? ⟨g211, 1, none⟩ = some (.int .i64 a1_1) := (blk_cell BK211.out 1).trans rfl; have hcz17_2 : w16.cell? ⟨g211, 2, none⟩ = some (.string a1_2) := (blk_cell BK211.out 2).trans rfl; have hfz17_0 := blk_frozen BK211.out 0; have hfz17_1 := blk_frozen BK211.out 1; have hfz17_2 := blk_frozen BK211.out 2) | ((with_reducible refine gate_callee (f := 9) rfl ?_); refine goesL_ (some 17) rfl rfl Tryd.func9 Z32 rfl #[.agg #[.int .i64 a1_0, .int .i64 a1_1, .string a1_2], .int .i64 t212] rfl Z25 ?_; (with_reducible refine (laws_szWay.calls a1_0 a1_1 a1_2 t212 t213 _ A10.out).mono ?_); rintro e w18 ⟨rfl, hb⟩; refine ⟨_, rfl, ?_⟩; have n0_ := A0 (blk_below (g := g210) (o := .cells #[.int .i64 a0_0, .int .i64 a0_1, .string a0_2] 25 (0, 0)) Z27 hb); have n1_ := A0 (blk_below (g := g211) (o := .cells #[.int .i64 a1_0, .int .i64 a1_1, .string a1_2] 25 (0, 0)) Z28 hb); have n2_ := A0 (below_step Z22 hb); clear BK210; clear BK211; clear HB; have BK210 := n0_; have BK211 := n1_; have HB := n2_; clear n0_ n1_ n2_; (try clear hb); (try clear hb2); (try clear hk); (try clear hi)))
      go_ret
      exact ⟨by first | rfl | (simp [errW_none, errW_some] <;> rfl) | (simp [*, errW_none, errW_some] <;> rfl), by repeat (first | (with_reducible first | exact HB.out | apply below_alloc | apply pw_below_drewN | apply below_drew1 | refine below_set ?_ GE210.out | refine below_set ?_ GE211.out) | exact HB.out)⟩
    · rw [if_neg c11] at H
      have c11b0 : decide (t213 < 0) = false := decide_eq_false c11
      clear c11
      replace H := Option.bind_eq_some_iff.mp H
      obtain ⟨⟨t214, t215, t216⟩, A190, H⟩ := H
      replace H : ((laws_toWay.f a1_0 a1_1 a1_2).bind fun bt217 => ((spec_FirstMeetingOf.f k t214 t215 t216 bt217.1 bt217.2.1 bt217.2.2).bind fun bt220 => ((laws_toWay.f a0_0 a0_1 a0_2).bind fun bt224 => ((laws_toWay.f a1_0 a1_1 a1_2).bind fun bt227 => ((impl_FirstMeetingOf.f k bt224.1 bt224.2.1 bt224.2.2 bt227.1 bt227.2.1 bt227.2.2).bind fun bt230 => ((laws_eqCell.f bt230.1 bt230.2.1 bt220.1 bt220.2.1).bind fun t234 => (if t234 = true then (if (bt230.2.2 != bt220.2.2) = true then (some false) else (some true)) else (some false)))))))) = some r := H
      have A19 := A0 A190
      clear A190
      replace H := Option.bind_eq_some_iff.mp H
      obtain ⟨⟨t217, t218, t219⟩, A200, H⟩ := H
      replace H : ((spec_FirstMeetingOf.f k t214 t215 t216 t217 t218 t219).bind fun bt220 => ((laws_toWay.f a0_0 a0_1 a0_2).bind fun bt224 => ((laws_toWay.f a1_0 a1_1 a1_2).bind fun bt227 => ((impl_FirstMeetingOf.f k bt224.1 bt224.2.1 bt224.2.2 bt227.1 bt227.2.1 bt227.2.2).bind fun bt230 => ((laws_eqCell.f bt230.1 bt230.2.1 bt220.1 bt220.2.1).bind fun t234 => (if t234 = true then (if (bt230.2.2 != bt220.2.2) = true then (some false) else (some true)) else (some false))))))) = some r := H
      have A20 := A0 A200
      clear A200
      replace H := Option.bind_eq_some_iff.mp H
      obtain ⟨⟨t220, t221, t222⟩, A210, H⟩ := H
      replace H : ((laws_toWay.f a0_0 a0_1 a0_2).bind fun bt224 => ((laws_toWay.f a1_0 a1_1 a1_2).bind fun bt227 => ((impl_FirstMeetingOf.f k bt224.1 bt224.2.1 bt224.2.2 bt227.1 bt227.2.1 bt227.2.2).bind fun bt230 => ((laws_eqCell.f bt230.1 bt230.2.1 t220 t221).bind fun t234 => (if t234 = true then (if (bt230.2.2 != t222) = true then (some false) else (some true)) else (some false)))))) = some r := H
      have A21 := A0 A210
      clear A210
      replace H := Option.bind_eq_some_iff.mp H
      obtain ⟨⟨t224, t225, t226⟩, A220, H⟩ := H
      replace H : ((laws_toWay.f a1_0 a1_1 a1_2).bind fun bt227 => ((impl_FirstMeetingOf.f k t224 t225 t226 bt227.1 bt227.2.1 bt227.2.2).bind fun bt230 => ((laws_eqCell.f bt230.1 bt230.2.1 t220 t221).bind fun t234 => (if t234 = true then (if (bt230.2.2 != t222) = true then (some false) else (some true)) else (some false))))) = some r := H
      have A22 := A0 A220
      clear A220
      replace H := Option.bind_eq_some_iff.mp H
      obtain ⟨⟨t227, t228, t229⟩, A230, H⟩ := H
      replace H : ((impl_FirstMeetingOf.f k t224 t225 t226 t227 t228 t229).bind fun bt230 => ((laws_eqCell.f bt230.1 bt230.2.1 t220 t221).bind fun t234 => (if t234 = true then (if (bt230.2.2 != t222) = true then (some false) else (some true)) else (some false)))) = some r := H
      have A23 := A0 A230
      clear A230
      replace H := Option.bind_eq_some_iff.mp H
      obtain ⟨⟨t230, t231, t232⟩, A240, H⟩ := H
      replace H : ((laws_eqCell.f t230 t231 t220 t221).bind fun t234 => (if t234 = true then (if (t232 != t222) = true then (some false) else (some true)) else (some false))) = some r := H
      have A24 := A0 A240
      clear A240
      replace H := Option.bind_eq_some_iff.mp H
      obtain ⟨t234, A250, H⟩ := H
      replace H : (if t234 = true then (if (t232 != t222) = true then (some false) else (some true)) else (some false)) = some r := H
      have A25 := A0 A250
      clear A250
      by_cases c26 : t234 = true
      · subst c26
        have H1 : (if (t232 != t222) = true then (some false) else (some true)) = some r := by rw [if_pos rfl] at H; exact H
        clear H
        have H := H1
        clear H1
        by_cases c27 : (t232 != t222) = true
        · rw [if_pos c27] at H
          have c27b0 : (t232 != t222) = true := c27
          (try (have c27b1 : decide (t232 = t222) = false := by simpa using c27))
          (try (have c27b2 : (t232 == t222) = false := by simpa using c27))
          (try (have c27b3 : ¬ (t232 = t222) := by simpa using c27))
          clear c27
          obtain rfl := Option.some.inj H
          go_enter Tryd.func7, Tryd.ntmps7
          try go_wp2_with (first | ((with_reducible refine gate_dst (N := 2) rfl ?_); refine box_event ?hg (N := 2) ?hd (cs := #[.int .i64 a0_0, .int .i64 a0_1, .string a0_2]) (t := 25) ?hr ?_; (case hd => rfl); (case hg => rfl); (case hr => first | (go_simp; done) | (go_simp; rfl)); intro g210 hg w28 hbox hb; have n0_ := A0 (below_step Z26 hb); have n1_ := A0 (hbox); have n2_ := A0 ((Z23 : w.heap.size ≤ g210)); have n3_ := A0 ((Z23 : w.heap.size ≤ g210)); clear HB; have HB := n0_; have BK210 := n1_; have GW210 := n2_; have GE210 := n3_; clear n0_ n1_ n2_ n3_; clear hb hbox hg) | ((with_reducible refine gate_dst (N := 3) rfl ?_); refine box_event ?hg (N := 3) ?hd (cs := #[.int .i64 a1_0, .int .i64 a1_1, .string a1_2]) (t := 25) ?hr ?_; (case hd => rfl); (case hg => rfl); (case hr => first | (go_simp; done) | (go_simp; rfl)); intro g211 hg w29 hbox hb; have n0_ := A0 (blk_below (g := g210) (o := .cells #[.int .i64 a0_0, .int .i64 a0_1, .string a0_2] 25 (0, 0)) Z27 hb); have n1_ := A0 (below_step Z24 hb); have n2_ := A0 (hbox); have n3_ := A0 ((Z21 : w.heap.size ≤ g211)); have n4_ := A0 ((Z21 : w.heap.size ≤ g211)); have n5_ := A0 ((Z6 : g210 ≠ g211)); have n6_ := A0 ((Z7 : g211 ≠ g210)); clear BK210; clear HB; have BK210 := n0_; have HB := n1_; have BK211 := n2_; have GW211 := n3_; have GE211 := n4_; have NB210_211 := n5_; have NB211_210 := n6_; clear n0_ n1_ n2_ n3_ n4_ n5_ n6_; clear hb hbox hg; have hnb30 := NB210_211.out; have hnc30 := NB211_210.out; have hcz31_0 : w29.cell? ⟨g210, 0, none⟩ = some (.int .i64 a0_0) := (blk_cell BK210.out 0).trans rfl; have hcz31_1 : w29.cell? ⟨g210, 1, none⟩ = some (.int .i64 a0_1) := (blk_cell BK210.out 1).trans rfl; have hcz31_2 : w29.cell? ⟨g210, 2, none⟩ = some (.string a0_2) := (blk_cell BK210.out 2).trans rfl; have hfz31_0 := blk_frozen BK210.out 0; have hfz31_1 := blk_frozen BK210.out 1; have hfz31_2 := blk_frozen BK210.out 2) | ((with_reducible refine gate_callee (f := 9) rfl ?_); refine goesL_ (some 12) rfl rfl Tryd.func9 Z32 rfl #[.agg #[.int .i64 a0_0, .int .i64 a0_1, .string a0_2], .int .i64 1048576] rfl Z25 ?_; (with_reducible refine (laws_szWay.calls a0_0 a0_1 a0_2 1048576 t212 _ A3.out).mono ?_); rintro e w32 ⟨rfl, hb⟩; refine ⟨_, rfl, ?_⟩; have n0_ := A0 (blk_below (g := g210) (o := .cells #[.int .i64 a0_0, .int .i64 a0_1, .string a0_2] 25 (0, 0)) Z27 hb); have n1_ := A0 (blk_below (g := g211) (o := .cells #[.int .i64 a1_0, .int .i64 a1_1, .string a1_2] 25 (0, 0)) Z28 hb); have n2_ := A0 (below_step Z22 hb); clear BK210; clear BK211; clear HB; have BK210 := n0_; have BK211 := n1_; have HB := n2_; clear n0_ n1_ n2_; (try clear hb); (try clear hb2); (try clear hk); (try clear hi); have hcz33_0 : w32.cell? ⟨g211, 0, none⟩ = some (.int .i64 a1_0) := (blk_cell BK211.out 0).trans rfl; have hcz33_1 : w32.cell? ⟨g211, 1, none⟩ = some (.int .i64 a1_1) := (blk_cell BK211.out 1).trans rfl; have hcz33_2 : w32.cell? ⟨g211, 2, none⟩ = some (.string a1_2) := (blk_cell BK211.out 2).trans rfl; have hfz33_0 := blk_frozen BK211.out 0; have hfz33_1 := blk_frozen BK211.out 1; have hfz33_2 := blk_frozen BK211.out 2) | ((with_reducible refine gate_callee (f := 9) rfl ?_); refine goesL_ (some 17) rfl rfl Tryd.func9 Z32 rfl #[.agg #[.int .i64 a1_0, .int .i64 a1_1, .string a1_2], .int .i64 t212] rfl Z25 ?_; (with_reducible refine (laws_szWay.calls a1_0 a1_1 a1_2 t212 t213 _ A10.out).mono ?_); rintro e w34 ⟨rfl, hb⟩; refine ⟨_, rfl, ?_⟩; have n0_ := A0 (blk_below (g := g210) (o := .cells #[.int .i64 a0_0, .int .i64 a0_1, .string a0_2] 25 (0, 0)) Z27 hb); have n1_ := A0 (blk_below (g := g211) (o := .cells #[.int .i64 a1_0, .int .i64 a1_1, .string a1_2] 25 (0, 0)) Z28 hb); have n2_ := A0 (below_step Z22 hb); clear BK210; clear BK211; clear HB; have BK210 := n0_; have BK211 := n1_; have HB := n2_; clear n0_ n1_ n2_; (try clear hb); (try clear hb2); (try clear hk); (try clear hi)))
          have n0_ := A0 (blk_drew BK210.out)
          have n1_ := A0 (blk_drew BK211.out)
          have n2_ := A0 (below_drew1 HB.out)
          clear BK210
          clear BK211
          clear HB
          have BK210 := n0_
          have BK211 := n1_
          have HB := n2_
          clear n0_ n1_ n2_
          refine start_ (n := 11) (S := fun w' => w'.cell? ⟨g210, 0, none⟩ = some (.int .i64 a0_0) ∧ w'.cell? ⟨g210, 1, none⟩ = some (.int .i64 a0_1) ∧ w'.cell? ⟨g210, 2, none⟩ = some (.string a0_2) ∧ w'.cell? ⟨g211, 0, none⟩ = some (.int .i64 a1_0) ∧ w'.cell? ⟨g211, 1, none⟩ = some (.int .i64 a1_1) ∧ w'.cell? ⟨g211, 2, none⟩ = some (.string a1_2)) (ds := []) #[false, false, false, false, false, false, false, false, false, false, false] Z32 rfl rfl ⟨(blk_cell BK210.out 0).trans rfl, (blk_cell BK210.out 1).trans rfl, (blk_cell BK210.out 2).trans rfl, (blk_cell BK211.out 0).trans rfl, (blk_cell BK211.out 1).trans rfl, (blk_cell BK211.out 2).trans rfl⟩ (fun hHeld => ?_); refine with_tabW laws_FnExactFirstMeetingOf.tab8 laws_FnExactFirstMeetingOf.bits8 (fun HT_ HW_ => ?_)
          generalize w34.drew = w35 at BK210 BK211 HB hHeld ⊢
          refine take_ (i := 0) (N := some 21) (v := ?_) (a' := ?_) #[true, false, false, false, false, false, false, false, false, false, false] rfl rfl (take_ofW HT_.out HW_.out Z32) (fun _ _ _ h => h) (Or.inl ⟨by rfl, ?_⟩) hHeld ?_ ?_
          rotate_left
          · rintro w' ⟨s0, s1, s2, s3, s4, s5⟩
            go_simp
            with_reducible rfl
          rotate_left
          · simp only [Act.put, y1, y2, y3, i64_w, i32_w]
            rfl
          refine take_ (i := 2) (N := some 23) (v := ?_) (a' := ?_) #[true, false, true, false, false, false, false, false, false, false, false] rfl rfl (take_ofW HT_.out HW_.out Z32) (fun _ _ _ h => h) (Or.inl ⟨by rfl, ?_⟩) hHeld ?_ ?_
          rotate_left
          · rintro w' ⟨s0, s1, s2, s3, s4, s5⟩
            go_simp
            with_reducible rfl
          rotate_left
          · simp only [Act.put, y1, y2, y3, i64_w, i32_w]
            rfl
          refine join_ (σ := Nat) 2 #[true, true, true, true, true, true, true, true, true, false, false] (fun s_ => [(22, .agg #[.int .i64 t214, .int .i64 t215, .string t216]), (24, .agg #[.int .i64 t217, .int .i64 t218, .string t219]), (25, .tuple #[.agg #[.int .i64 t220, .int .i64 t221], .bool t222]), (6, .pointer (some ⟨s_, 0, none⟩)), (20, .tuple #[.agg #[.int .i64 t220, .int .i64 t221], .bool t222]), (26, .agg #[.int .i64 t220, .int .i64 t221]), (27, .bool t222)]) (fun s_ w' => (w'.cell? ⟨g210, 0, none⟩ = some (.int .i64 a0_0) ∧ w'.cell? ⟨g210, 1, none⟩ = some (.int .i64 a0_1) ∧ w'.cell? ⟨g210, 2, none⟩ = some (.string a0_2) ∧ w'.cell? ⟨g211, 0, none⟩ = some (.int .i64 a1_0) ∧ w'.cell? ⟨g211, 1, none⟩ = some (.int .i64 a1_1) ∧ w'.cell? ⟨g211, 2, none⟩ = some (.string a1_2)) ∧ (w'.heap[g210]? = some (.cells #[.int .i64 a0_0, .int .i64 a0_1, .string a0_2] 25 (0, 0))) ∧ (w'.heap[g211]? = some (.cells #[.int .i64 a1_0, .int .i64 a1_1, .string a1_2] 25 (0, 0))) ∧ (w'.heap[s_]? = some (.cells #[.int .i64 0, .int .i64 0] 28 (0, 0))) ∧ (w.heap.size ≤ s_) ∧ (w.heap.size ≤ s_) ∧ (g210 ≠ s_) ∧ (s_ ≠ g210) ∧ (g211 ≠ s_) ∧ (s_ ≠ g211) ∧ (Below w.heap.size w w')) ?_ ?_
          rotate_left
          · intro hCont
            refine two_ (i := 1) (j := 8) (Ni := some 22) (Nj := some 6) #[true, true, true, false, false, false, false, false, false, false, false] #[true, false, true, false, false, false, false, false, true, false, false] rfl rfl rfl rfl (two_of HT_.out Z32) Z33 Z33 (fun K hK => ?_) (fun K hK => ?_)
            · skip
              refine goes_ Tryd.func11 Z32 rfl #[.agg #[.int .i64 a0_0, .int .i64 a0_1, .string a0_2]] (by rfl) rfl rfl Z25 ?_
              with_reducible refine (laws_toWay.calls a0_0 a0_1 a0_2 t214 t215 t216 _ A19.out).mono ?_
              rintro e w36 ⟨rfl, hb⟩
              refine ⟨_, rfl, ?_⟩
              have n0_ := A0 (blk_below (g := g210) (o := .cells #[.int .i64 a0_0, .int .i64 a0_1, .string a0_2] 25 (0, 0)) Z27 hb)
              have n1_ := A0 (blk_below (g := g211) (o := .cells #[.int .i64 a1_0, .int .i64 a1_1, .string a1_2] 25 (0, 0)) Z28 hb)
              have n2_ := A0 (below_step Z22 hb)
              clear BK210
              clear BK211
              clear HB
              have BK210 := n0_
              have BK211 := n1_
              have HB := n2_
              clear n0_ n1_ n2_
              (try clear hb)
              (try clear hb2)
              (try clear hk)
              (try clear hi)
              refine hK.out _ _ ⟨(blk_cell BK210.out 0).trans rfl, (blk_cell BK210.out 1).trans rfl, (blk_cell BK210.out 2).trans rfl, (blk_cell BK211.out 0).trans rfl, (blk_cell BK211.out 1).trans rfl, (blk_cell BK211.out 2).trans rfl⟩ (fun hHeld => ?_)
              clear hK K
              refine norm_ (a' := ?_) ?_ ?_
              rotate_left
              · show Act.put _ (some 22) _ = _
                simp only [Act.put, y1, y2, y3, i64_w, i32_w]
                rfl
              refine two_ (i := 3) (j := 8) (Ni := some 24) (Nj := some 6) #[true, true, true, true, false, false, false, false, false, false, false] #[true, true, true, false, false, false, false, false, true, false, false] rfl rfl rfl rfl (two_of HT_.out Z32) Z33 Z33 (fun K hK => ?_) (fun K hK => ?_)
              · skip
                refine goes_ Tryd.func11 Z32 rfl #[.agg #[.int .i64 a1_0, .int .i64 a1_1, .string a1_2]] (by rfl) rfl rfl Z25 ?_
                with_reducible refine (laws_toWay.calls a1_0 a1_1 a1_2 t217 t218 t219 _ A20.out).mono ?_
                rintro e w37 ⟨rfl, hb⟩
                refine ⟨_, rfl, ?_⟩
                have n0_ := A0 (blk_below (g := g210) (o := .cells #[.int .i64 a0_0, .int .i64 a0_1, .string a0_2] 25 (0, 0)) Z27 hb)
                have n1_ := A0 (blk_below (g := g211) (o := .cells #[.int .i64 a1_0, .int .i64 a1_1, .string a1_2] 25 (0, 0)) Z28 hb)
                have n2_ := A0 (below_step Z22 hb)
                clear BK210
                clear BK211
                clear HB
                have BK210 := n0_
                have BK211 := n1_
                have HB := n2_
                clear n0_ n1_ n2_
                (try clear hb)
                (try clear hb2)
                (try clear hk)
                (try clear hi)
                refine hK.out _ _ ⟨(blk_cell BK210.out 0).trans rfl, (blk_cell BK210.out 1).trans rfl, (blk_cell BK210.out 2).trans rfl, (blk_cell BK211.out 0).trans rfl, (blk_cell BK211.out 1).trans rfl, (blk_cell BK211.out 2).trans rfl⟩ (fun hHeld => ?_)
                clear hK K
                refine norm_ (a' := ?_) ?_ ?_
                rotate_left
                · show Act.put _ (some 24) _ = _
                  simp only [Act.put, y1, y2, y3, i64_w, i32_w]
                  rfl
                refine two_ (i := 4) (j := 8) (Ni := some 25) (Nj := some 6) #[true, true, true, true, true, false, false, false, false, false, false] #[true, true, true, true, false, false, false, false, true, false, false] rfl rfl rfl rfl (two_of HT_.out Z32) Z33 Z33 (fun K hK => ?_) (fun K hK => ?_)
                · skip
                  refine goes_ Tryd.func23 Z32 rfl #[.agg #[.int .i64 t214, .int .i64 t215, .string t216], .agg #[.int .i64 t217, .int .i64 t218, .string t219]] (by rfl) rfl rfl Z25 ?_
                  with_reducible refine (spec_FirstMeetingOf.calls k t214 t215 t216 t217 t218 t219 t220 t221 t222 _ A21.out).mono ?_
                  rintro e w38 ⟨rfl, hb⟩
                  refine ⟨_, rfl, ?_⟩
                  have n0_ := A0 (blk_below (g := g210) (o := .cells #[.int .i64 a0_0, .int .i64 a0_1, .string a0_2] 25 (0, 0)) Z27 hb)
                  have n1_ := A0 (blk_below (g := g211) (o := .cells #[.int .i64 a1_0, .int .i64 a1_1, .string a1_2] 25 (0, 0)) Z28 hb)
                  have n2_ := A0 (below_step Z22 hb)
                  clear BK210
                  clear BK211
                  clear HB
                  have BK210 := n0_
                  have BK211 := n1_
                  have HB := n2_
                  clear n0_ n1_ n2_
                  (try clear hb)
                  (try clear hb2)
                  (try clear hk)
                  (try clear hi)
                  refine hK.out _ _ ⟨(blk_cell BK210.out 0).trans rfl, (blk_cell BK210.out 1).trans rfl, (blk_cell BK210.out 2).trans rfl, (blk_cell BK211.out 0).trans rfl, (blk_cell BK211.out 1).trans rfl, (blk_cell BK211.out 2).trans rfl⟩ (fun hHeld => ?_)
                  clear hK K
                  refine norm_ (a' := ?_) ?_ ?_
                  rotate_left
                  · show Act.put _ (some 25) _ = _
                    simp only [Act.put, y1, y2, y3, i64_w, i32_w]
                    rfl
                  refine pure_ (i := 5) (N := some 20) (v := ?_) (a' := ?_) #[true, true, true, true, true, true, false, false, false, false, false] rfl rfl (any_of HT_.out Z32) (fun _ _ _ h => h) (Or.inl ⟨by rfl, ?_⟩) ?_ ?_
                  rotate_left
                  · intro w'
                    go_simp
                    with_reducible rfl
                  rotate_left
                  · simp only [Act.put, y1, y2, y3, i64_w, i32_w]
                    rfl
                  refine pure_ (i := 6) (N := some 26) (v := ?_) (a' := ?_) #[true, true, true, true, true, true, true, false, false, false, false] rfl rfl (any_of HT_.out Z32) (fun _ _ _ h => h) (Or.inl ⟨by rfl, ?_⟩) ?_ ?_
                  rotate_left
                  · intro w'
                    go_simp
                    with_reducible rfl
                  rotate_left
                  · simp only [Act.put, y1, y2, y3, i64_w, i32_w]
                    rfl
                  refine pure_ (i := 7) (N := some 27) (v := ?_) (a' := ?_) #[true, true, true, true, true, true, true, true, false, false, false] rfl rfl (any_of HT_.out Z32) (fun _ _ _ h => h) (Or.inl ⟨by rfl, ?_⟩) ?_ ?_
                  rotate_left
                  · intro w'
                    go_simp
                    with_reducible rfl
                  rotate_left
                  · simp only [Act.put, y1, y2, y3, i64_w, i32_w]
                    rfl
                  refine one_ (i := 8) (N := some 6) #[true, true, true, true, true, true, true, true, true, false, false] rfl rfl (one_of HT_.out Z32) Z33 (fun K hK => ?_)
                  refine box_step ?hg (N := 6) ?hd (cs := #[.int .i64 0, .int .i64 0]) (t := 28) ?hr ?_; (case hd => rfl); (case hg => rfl); (case hr => first | (go_simp; done) | (go_simp; rfl))
                  intro g223 hg w39 hbox hb
                  have n0_ := A0 (blk_below (g := g210) (o := .cells #[.int .i64 a0_0, .int .i64 a0_1, .string a0_2] 25 (0, 0)) Z27 hb)
                  have n1_ := A0 (blk_below (g := g211) (o := .cells #[.int .i64 a1_0, .int .i64 a1_1, .string a1_2] 25 (0, 0)) Z28 hb)
                  have n2_ := A0 (below_step Z22 hb)
                  have n3_ := A0 (hbox)
                  have n4_ := A0 ((Z17 : w.heap.size ≤ g223))
                  have n5_ := A0 ((Z17 : w.heap.size ≤ g223))
                  have n6_ := A0 ((Z8 : g210 ≠ g223))
                  have n7_ := A0 ((Z9 : g223 ≠ g210))
                  have n8_ := A0 ((Z10 : g211 ≠ g223))
                  have n9_ := A0 ((Z11 : g223 ≠ g211))
                  clear BK210
                  clear BK211
                  clear HB
                  have BK210 := n0_
                  have BK211 := n1_
                  have HB := n2_
                  have BK223 := n3_
                  have GW223 := n4_
                  have GE223 := n5_
                  have NB210_223 := n6_
                  have NB223_210 := n7_
                  have NB211_223 := n8_
                  have NB223_211 := n9_
                  clear n0_ n1_ n2_ n3_ n4_ n5_ n6_ n7_ n8_ n9_
                  clear hb hbox hg
                  refine hK.out _ _ ⟨(blk_cell BK210.out 0).trans rfl, (blk_cell BK210.out 1).trans rfl, (blk_cell BK210.out 2).trans rfl, (blk_cell BK211.out 0).trans rfl, (blk_cell BK211.out 1).trans rfl, (blk_cell BK211.out 2).trans rfl⟩ (fun hHeld => ?_)
                  clear hK K
                  refine norm_ (a' := ?_) ?_ ?_
                  rotate_left
                  · show Act.put _ (some 6) _ = _
                    simp only [Act.put, y1, y2, y3, i64_w, i32_w]
                    rfl
                  exact norm_ Z31 (hCont (g223) _ ⟨hHeld, Z27, Z28, Z29, GW223.out, GE223.out, NB210_223.out, NB223_210.out, NB211_223.out, NB223_211.out, Z20⟩)
                · skip
                  refine box_step ?hg (N := 6) ?hd (cs := #[.int .i64 0, .int .i64 0]) (t := 28) ?hr ?_; (case hd => rfl); (case hg => rfl); (case hr => first | (go_simp; done) | (go_simp; rfl))
                  intro g223 hg w38 hbox hb
                  have n0_ := A0 (blk_below (g := g210) (o := .cells #[.int .i64 a0_0, .int .i64 a0_1, .string a0_2] 25 (0, 0)) Z27 hb)
                  have n1_ := A0 (blk_below (g := g211) (o := .cells #[.int .i64 a1_0, .int .i64 a1_1, .string a1_2] 25 (0, 0)) Z28 hb)
                  have n2_ := A0 (below_step Z22 hb)
                  have n3_ := A0 (hbox)
                  have n4_ := A0 ((Z17 : w.heap.size ≤ g223))
                  have n5_ := A0 ((Z17 : w.heap.size ≤ g223))
                  have n6_ := A0 ((Z8 : g210 ≠ g223))
                  have n7_ := A0 ((Z9 : g223 ≠ g210))
                  have n8_ := A0 ((Z10 : g211 ≠ g223))
                  have n9_ := A0 ((Z11 : g223 ≠ g211))
                  clear BK210
                  clear BK211
                  clear HB
                  have BK210 := n0_
                  have BK211 := n1_
                  have HB := n2_
                  have BK223 := n3_
                  have GW223 := n4_
                  have GE223 := n5_
                  have NB210_223 := n6_
                  have NB223_210 := n7_
                  have NB211_223 := n8_
                  have NB223_211 := n9_
                  clear n0_ n1_ n2_ n3_ n4_ n5_ n6_ n7_ n8_ n9_
                  clear hb hbox hg
                  refine hK.out _ _ ⟨(blk_cell BK210.out 0).trans rfl, (blk_cell BK210.out 1).trans rfl, (blk_cell BK210.out 2).trans rfl, (blk_cell BK211.out 0).trans rfl, (blk_cell BK211.out 1).trans rfl, (blk_cell BK211.out 2).trans rfl⟩ (fun hHeld => ?_)
                  clear hK K
                  refine norm_ (a' := ?_) ?_ ?_
                  rotate_left
                  · show Act.put _ (some 6) _ = _
                    simp only [Act.put, y1, y2, y3, i64_w, i32_w]
                    rfl
                  refine one_ (i := 4) (N := some 25) #[true, true, true, true, true, false, false, false, true, false, false] rfl rfl (one_of HT_.out Z32) Z33 (fun K hK => ?_)
                  refine goes_ Tryd.func23 Z32 rfl #[.agg #[.int .i64 t214, .int .i64 t215, .string t216], .agg #[.int .i64 t217, .int .i64 t218, .string t219]] (by rfl) rfl rfl Z25 ?_
                  with_reducible refine (spec_FirstMeetingOf.calls k t214 t215 t216 t217 t218 t219 t220 t221 t222 _ A21.out).mono ?_
                  rintro e w39 ⟨rfl, hb⟩
                  refine ⟨_, rfl, ?_⟩
                  have n0_ := A0 (blk_below (g := g210) (o := .cells #[.int .i64 a0_0, .int .i64 a0_1, .string a0_2] 25 (0, 0)) Z27 hb)
                  have n1_ := A0 (blk_below (g := g211) (o := .cells #[.int .i64 a1_0, .int .i64 a1_1, .string a1_2] 25 (0, 0)) Z28 hb)
                  have n2_ := A0 (blk_below (g := g223) (o := .cells #[.int .i64 0, .int .i64 0] 28 (0, 0)) Z29 hb)
                  have n3_ := A0 (below_step Z20 hb)
                  clear BK210
                  clear BK211
                  clear BK223
                  clear HB
                  have BK210 := n0_
                  have BK211 := n1_
                  have BK223 := n2_
                  have HB := n3_
                  clear n0_ n1_ n2_ n3_
                  (try clear hb)
                  (try clear hb2)
                  (try clear hk)
                  (try clear hi)
                  refine hK.out _ _ ⟨(blk_cell BK210.out 0).trans rfl, (blk_cell BK210.out 1).trans rfl, (blk_cell BK210.out 2).trans rfl, (blk_cell BK211.out 0).trans rfl, (blk_cell BK211.out 1).trans rfl, (blk_cell BK211.out 2).trans rfl⟩ (fun hHeld => ?_)
                  clear hK K
                  refine norm_ (a' := ?_) ?_ ?_
                  rotate_left
                  · show Act.put _ (some 25) _ = _
                    simp only [Act.put, y1, y2, y3, i64_w, i32_w]
                    rfl
                  refine pure_ (i := 5) (N := some 20) (v := ?_) (a' := ?_) #[true, true, true, true, true, true, false, false, true, false, false] rfl rfl (any_of HT_.out Z32) (fun _ _ _ h => h) (Or.inl ⟨by rfl, ?_⟩) ?_ ?_
                  rotate_left
                  · intro w'
                    go_simp
                    with_reducible rfl
                  rotate_left
                  · simp only [Act.put, y1, y2, y3, i64_w, i32_w]
                    rfl
                  refine pure_ (i := 6) (N := some 26) (v := ?_) (a' := ?_) #[true, true, true, true, true, true, true, false, true, false, false] rfl rfl (any_of HT_.out Z32) (fun _ _ _ h => h) (Or.inl ⟨by rfl, ?_⟩) ?_ ?_
                  rotate_left
                  · intro w'
                    go_simp
                    with_reducible rfl
                  rotate_left
                  · simp only [Act.put, y1, y2, y3, i64_w, i32_w]
                    rfl
                  refine pure_ (i := 7) (N := some 27) (v := ?_) (a' := ?_) #[true, true, true, true, true, true, true, true, true, false, false] rfl rfl (any_of HT_.out Z32) (fun _ _ _ h => h) (Or.inl ⟨by rfl, ?_⟩) ?_ ?_
                  rotate_left
                  · intro w'
                    go_simp
                    with_reducible rfl
                  rotate_left
                  · simp only [Act.put, y1, y2, y3, i64_w, i32_w]
                    rfl
                  exact norm_ Z31 (hCont (g223) _ ⟨hHeld, Z27, Z28, Z29, GW223.out, GE223.out, NB210_223.out, NB223_210.out, NB211_223.out, NB223_211.out, Z20⟩)
              · skip
                refine box_step ?hg (N := 6) ?hd (cs := #[.int .i64 0, .int .i64 0]) (t := 28) ?hr ?_; (case hd => rfl); (case hg => rfl); (case hr => first | (go_simp; done) | (go_simp; rfl))
                intro g223 hg w37 hbox hb
                have n0_ := A0 (blk_below (g := g210) (o := .cells #[.int .i64 a0_0, .int .i64 a0_1, .string a0_2] 25 (0, 0)) Z27 hb)
                have n1_ := A0 (blk_below (g := g211) (o := .cells #[.int .i64 a1_0, .int .i64 a1_1, .string a1_2] 25 (0, 0)) Z28 hb)
                have n2_ := A0 (below_step Z22 hb)
                have n3_ := A0 (hbox)
                have n4_ := A0 ((Z17 : w.heap.size ≤ g223))
                have n5_ := A0 ((Z17 : w.heap.size ≤ g223))
                have n6_ := A0 ((Z8 : g210 ≠ g223))
                have n7_ := A0 ((Z9 : g223 ≠ g210))
                have n8_ := A0 ((Z10 : g211 ≠ g223))
                have n9_ := A0 ((Z11 : g223 ≠ g211))
                clear BK210
                clear BK211
                clear HB
                have BK210 := n0_
                have BK211 := n1_
                have HB := n2_
                have BK223 := n3_
                have GW223 := n4_
                have GE223 := n5_
                have NB210_223 := n6_
                have NB223_210 := n7_
                have NB211_223 := n8_
                have NB223_211 := n9_
                clear n0_ n1_ n2_ n3_ n4_ n5_ n6_ n7_ n8_ n9_
                clear hb hbox hg
                refine hK.out _ _ ⟨(blk_cell BK210.out 0).trans rfl, (blk_cell BK210.out 1).trans rfl, (blk_cell BK210.out 2).trans rfl, (blk_cell BK211.out 0).trans rfl, (blk_cell BK211.out 1).trans rfl, (blk_cell BK211.out 2).trans rfl⟩ (fun hHeld => ?_)
                clear hK K
                refine norm_ (a' := ?_) ?_ ?_
                rotate_left
                · show Act.put _ (some 6) _ = _
                  simp only [Act.put, y1, y2, y3, i64_w, i32_w]
                  rfl
                refine one_ (i := 3) (N := some 24) #[true, true, true, true, false, false, false, false, true, false, false] rfl rfl (one_of HT_.out Z32) Z33 (fun K hK => ?_)
                refine goes_ Tryd.func11 Z32 rfl #[.agg #[.int .i64 a1_0, .int .i64 a1_1, .string a1_2]] (by rfl) rfl rfl Z25 ?_
                with_reducible refine (laws_toWay.calls a1_0 a1_1 a1_2 t217 t218 t219 _ A20.out).mono ?_
                rintro e w38 ⟨rfl, hb⟩
                refine ⟨_, rfl, ?_⟩
                have n0_ := A0 (blk_below (g := g210) (o := .cells #[.int .i64 a0_0, .int .i64 a0_1, .string a0_2] 25 (0, 0)) Z27 hb)
                have n1_ := A0 (blk_below (g := g211) (o := .cells #[.int .i64 a1_0, .int .i64 a1_1, .string a1_2] 25 (0, 0)) Z28 hb)
                have n2_ := A0 (blk_below (g := g223) (o := .cells #[.int .i64 0, .int .i64 0] 28 (0, 0)) Z29 hb)
                have n3_ := A0 (below_step Z20 hb)
                clear BK210
                clear BK211
                clear BK223
                clear HB
                have BK210 := n0_
                have BK211 := n1_
                have BK223 := n2_
                have HB := n3_
                clear n0_ n1_ n2_ n3_
                (try clear hb)
                (try clear hb2)
                (try clear hk)
                (try clear hi)
                refine hK.out _ _ ⟨(blk_cell BK210.out 0).trans rfl, (blk_cell BK210.out 1).trans rfl, (blk_cell BK210.out 2).trans rfl, (blk_cell BK211.out 0).trans rfl, (blk_cell BK211.out 1).trans rfl, (blk_cell BK211.out 2).trans rfl⟩ (fun hHeld => ?_)
                clear hK K
                refine norm_ (a' := ?_) ?_ ?_
                rotate_left
                · show Act.put _ (some 24) _ = _
                  simp only [Act.put, y1, y2, y3, i64_w, i32_w]
                  rfl
                refine one_ (i := 4) (N := some 25) #[true, true, true, true, true, false, false, false, true, false, false] rfl rfl (one_of HT_.out Z32) Z33 (fun K hK => ?_)
                refine goes_ Tryd.func23 Z32 rfl #[.agg #[.int .i64 t214, .int .i64 t215, .string t216], .agg #[.int .i64 t217, .int .i64 t218, .string t219]] (by rfl) rfl rfl Z25 ?_
                with_reducible refine (spec_FirstMeetingOf.calls k t214 t215 t216 t217 t218 t219 t220 t221 t222 _ A21.out).mono ?_
                rintro e w39 ⟨rfl, hb⟩
                refine ⟨_, rfl, ?_⟩
                have n0_ := A0 (blk_below (g := g210) (o := .cells #[.int .i64 a0_0, .int .i64 a0_1, .string a0_2] 25 (0, 0)) Z27 hb)
                have n1_ := A0 (blk_below (g := g211) (o := .cells #[.int .i64 a1_0, .int .i64 a1_1, .string a1_2] 25 (0, 0)) Z28 hb)
                have n2_ := A0 (blk_below (g := g223) (o := .cells #[.int .i64 0, .int .i64 0] 28 (0, 0)) Z29 hb)
                have n3_ := A0 (below_step Z20 hb)
                clear BK210
                clear BK211
                clear BK223
                clear HB
                have BK210 := n0_
                have BK211 := n1_
                have BK223 := n2_
                have HB := n3_
                clear n0_ n1_ n2_ n3_
                (try clear hb)
                (try clear hb2)
                (try clear hk)
                (try clear hi)
                refine hK.out _ _ ⟨(blk_cell BK210.out 0).trans rfl, (blk_cell BK210.out 1).trans rfl, (blk_cell BK210.out 2).trans rfl, (blk_cell BK211.out 0).trans rfl, (blk_cell BK211.out 1).trans rfl, (blk_cell BK211.out 2).trans rfl⟩ (fun hHeld => ?_)
                clear hK K
                refine norm_ (a' := ?_) ?_ ?_
                rotate_left
                · show Act.put _ (some 25) _ = _
                  simp only [Act.put, y1, y2, y3, i64_w, i32_w]
                  rfl
                refine pure_ (i := 5) (N := some 20) (v := ?_) (a' := ?_) #[true, true, true, true, true, true, false, false, true, false, false] rfl rfl (any_of HT_.out Z32) (fun _ _ _ h => h) (Or.inl ⟨by rfl, ?_⟩) ?_ ?_
                rotate_left
                · intro w'
                  go_simp
                  with_reducible rfl
                rotate_left
                · simp only [Act.put, y1, y2, y3, i64_w, i32_w]
                  rfl
                refine pure_ (i := 6) (N := some 26) (v := ?_) (a' := ?_) #[true, true, true, true, true, true, true, false, true, false, false] rfl rfl (any_of HT_.out Z32) (fun _ _ _ h => h) (Or.inl ⟨by rfl, ?_⟩) ?_ ?_
                rotate_left
                · intro w'
                  go_simp
                  with_reducible rfl
                rotate_left
                · simp only [Act.put, y1, y2, y3, i64_w, i32_w]
                  rfl
                refine pure_ (i := 7) (N := some 27) (v := ?_) (a' := ?_) #[true, true, true, true, true, true, true, true, true, false, false] rfl rfl (any_of HT_.out Z32) (fun _ _ _ h => h) (Or.inl ⟨by rfl, ?_⟩) ?_ ?_
                rotate_left
                · intro w'
                  go_simp
                  with_reducible rfl
                rotate_left
                · simp only [Act.put, y1, y2, y3, i64_w, i32_w]
                  rfl
                exact norm_ Z31 (hCont (g223) _ ⟨hHeld, Z27, Z28, Z29, GW223.out, GE223.out, NB210_223.out, NB223_210.out, NB211_223.out, NB223_211.out, Z20⟩)
            · skip
              refine box_step ?hg (N := 6) ?hd (cs := #[.int .i64 0, .int .i64 0]) (t := 28) ?hr ?_; (case hd => rfl); (case hg => rfl); (case hr => first | (go_simp; done) | (go_simp; rfl))
              intro g223 hg w36 hbox hb
              have n0_ := A0 (blk_below (g := g210) (o := .cells #[.int .i64 a0_0, .int .i64 a0_1, .string a0_2] 25 (0, 0)) Z27 hb)
              have n1_ := A0 (blk_below (g := g211) (o := .cells #[.int .i64 a1_0, .int .i64 a1_1, .string a1_2] 25 (0, 0)) Z28 hb)
              have n2_ := A0 (below_step Z22 hb)
              have n3_ := A0 (hbox)
              have n4_ := A0 ((Z17 : w.heap.size ≤ g223))
              have n5_ := A0 ((Z17 : w.heap.size ≤ g223))
              have n6_ := A0 ((Z8 : g210 ≠ g223))
              have n7_ := A0 ((Z9 : g223 ≠ g210))
              have n8_ := A0 ((Z10 : g211 ≠ g223))
              have n9_ := A0 ((Z11 : g223 ≠ g211))
              clear BK210
              clear BK211
              clear HB
              have BK210 := n0_
              have BK211 := n1_
              have HB := n2_
              have BK223 := n3_
              have GW223 := n4_
              have GE223 := n5_
              have NB210_223 := n6_
              have NB223_210 := n7_
              have NB211_223 := n8_
              have NB223_211 := n9_
              clear n0_ n1_ n2_ n3_ n4_ n5_ n6_ n7_ n8_ n9_
              clear hb hbox hg
              refine hK.out _ _ ⟨(blk_cell BK210.out 0).trans rfl, (blk_cell BK210.out 1).trans rfl, (blk_cell BK210.out 2).trans rfl, (blk_cell BK211.out 0).trans rfl, (blk_cell BK211.out 1).trans rfl, (blk_cell BK211.out 2).trans rfl⟩ (fun hHeld => ?_)
              clear hK K
              refine norm_ (a' := ?_) ?_ ?_
              rotate_left
              · show Act.put _ (some 6) _ = _
                simp only [Act.put, y1, y2, y3, i64_w, i32_w]
                rfl
              refine one_ (i := 1) (N := some 22) #[true, true, true, false, false, false, false, false, true, false, false] rfl rfl (one_of HT_.out Z32) Z33 (fun K hK => ?_)
              refine goes_ Tryd.func11 Z32 rfl #[.agg #[.int .i64 a0_0, .int .i64 a0_1, .string a0_2]] (by rfl) rfl rfl Z25 ?_
              with_reducible refine (laws_toWay.calls a0_0 a0_1 a0_2 t214 t215 t216 _ A19.out).mono ?_
              rintro e w37 ⟨rfl, hb⟩
              refine ⟨_, rfl, ?_⟩
              have n0_ := A0 (blk_below (g := g210) (o := .cells #[.int .i64 a0_0, .int .i64 a0_1, .string a0_2] 25 (0, 0)) Z27 hb)
              have n1_ := A0 (blk_below (g := g211) (o := .cells #[.int .i64 a1_0, .int .i64 a1_1, .string a1_2] 25 (0, 0)) Z28 hb)
              have n2_ := A0 (blk_below (g := g223) (o := .cells #[.int .i64 0, .int .i64 0] 28 (0, 0)) Z29 hb)
              have n3_ := A0 (below_step Z20 hb)
              clear BK210
              clear BK211
              clear BK223
              clear HB
              have BK210 := n0_
              have BK211 := n1_
              have BK223 := n2_
              have HB := n3_
              clear n0_ n1_ n2_ n3_
              (try clear hb)
              (try clear hb2)
              (try clear hk)
              (try clear hi)
              refine hK.out _ _ ⟨(blk_cell BK210.out 0).trans rfl, (blk_cell BK210.out 1).trans rfl, (blk_cell BK210.out 2).trans rfl, (blk_cell BK211.out 0).trans rfl, (blk_cell BK211.out 1).trans rfl, (blk_cell BK211.out 2).trans rfl⟩ (fun hHeld => ?_)
              clear hK K
              refine norm_ (a' := ?_) ?_ ?_
              rotate_left
              · show Act.put _ (some 22) _ = _
                simp only [Act.put, y1, y2, y3, i64_w, i32_w]
                rfl
              refine one_ (i := 3) (N := some 24) #[true, true, true, true, false, false, false, false, true, false, false] rfl rfl (one_of HT_.out Z32) Z33 (fun K hK => ?_)
              refine goes_ Tryd.func11 Z32 rfl #[.agg #[.int .i64 a1_0, .int .i64 a1_1, .string a1_2]] (by rfl) rfl rfl Z25 ?_
              with_reducible refine (laws_toWay.calls a1_0 a1_1 a1_2 t217 t218 t219 _ A20.out).mono ?_
              rintro e w38 ⟨rfl, hb⟩
              refine ⟨_, rfl, ?_⟩
              have n0_ := A0 (blk_below (g := g210) (o := .cells #[.int .i64 a0_0, .int .i64 a0_1, .string a0_2] 25 (0, 0)) Z27 hb)
              have n1_ := A0 (blk_below (g := g211) (o := .cells #[.int .i64 a1_0, .int .i64 a1_1, .string a1_2] 25 (0, 0)) Z28 hb)
              have n2_ := A0 (blk_below (g := g223) (o := .cells #[.int .i64 0, .int .i64 0] 28 (0, 0)) Z29 hb)
              have n3_ := A0 (below_step Z20 hb)
              clear BK210
              clear BK211
              clear BK223
              clear HB
              have BK210 := n0_
              have BK211 := n1_
              have BK223 := n2_
              have HB := n3_
              clear n0_ n1_ n2_ n3_
              (try clear hb)
              (try clear hb2)
              (try clear hk)
              (try clear hi)
              refine hK.out _ _ ⟨(blk_cell BK210.out 0).trans rfl, (blk_cell BK210.out 1).trans rfl, (blk_cell BK210.out 2).trans rfl, (blk_cell BK211.out 0).trans rfl, (blk_cell BK211.out 1).trans rfl, (blk_cell BK211.out 2).trans rfl⟩ (fun hHeld => ?_)
              clear hK K
              refine norm_ (a' := ?_) ?_ ?_
              rotate_left
              · show Act.put _ (some 24) _ = _
                simp only [Act.put, y1, y2, y3, i64_w, i32_w]
                rfl
              refine one_ (i := 4) (N := some 25) #[true, true, true, true, true, false, false, false, true, false, false] rfl rfl (one_of HT_.out Z32) Z33 (fun K hK => ?_)
              refine goes_ Tryd.func23 Z32 rfl #[.agg #[.int .i64 t214, .int .i64 t215, .string t216], .agg #[.int .i64 t217, .int .i64 t218, .string t219]] (by rfl) rfl rfl Z25 ?_
              with_reducible refine (spec_FirstMeetingOf.calls k t214 t215 t216 t217 t218 t219 t220 t221 t222 _ A21.out).mono ?_
              rintro e w39 ⟨rfl, hb⟩
              refine ⟨_, rfl, ?_⟩
              have n0_ := A0 (blk_below (g := g210) (o := .cells #[.int .i64 a0_0, .int .i64 a0_1, .string a0_2] 25 (0, 0)) Z27 hb)
              have n1_ := A0 (blk_below (g := g211) (o := .cells #[.int .i64 a1_0, .int .i64 a1_1, .string a1_2] 25 (0, 0)) Z28 hb)
              have n2_ := A0 (blk_below (g := g223) (o := .cells #[.int .i64 0, .int .i64 0] 28 (0, 0)) Z29 hb)
              have n3_ := A0 (below_step Z20 hb)
              clear BK210
              clear BK211
              clear BK223
              clear HB
              have BK210 := n0_
              have BK211 := n1_
              have BK223 := n2_
              have HB := n3_
              clear n0_ n1_ n2_ n3_
              (try clear hb)
              (try clear hb2)
              (try clear hk)
              (try clear hi)
              refine hK.out _ _ ⟨(blk_cell BK210.out 0).trans rfl, (blk_cell BK210.out 1).trans rfl, (blk_cell BK210.out 2).trans rfl, (blk_cell BK211.out 0).trans rfl, (blk_cell BK211.out 1).trans rfl, (blk_cell BK211.out 2).trans rfl⟩ (fun hHeld => ?_)
              clear hK K
              refine norm_ (a' := ?_) ?_ ?_
              rotate_left
              · show Act.put _ (some 25) _ = _
                simp only [Act.put, y1, y2, y3, i64_w, i32_w]
                rfl
              refine pure_ (i := 5) (N := some 20) (v := ?_) (a' := ?_) #[true, true, true, true, true, true, false, false, true, false, false] rfl rfl (any_of HT_.out Z32) (fun _ _ _ h => h) (Or.inl ⟨by rfl, ?_⟩) ?_ ?_
              rotate_left
              · intro w'
                go_simp
                with_reducible rfl
              rotate_left
              · simp only [Act.put, y1, y2, y3, i64_w, i32_w]
                rfl
              refine pure_ (i := 6) (N := some 26) (v := ?_) (a' := ?_) #[true, true, true, true, true, true, true, false, true, false, false] rfl rfl (any_of HT_.out Z32) (fun _ _ _ h => h) (Or.inl ⟨by rfl, ?_⟩) ?_ ?_
              rotate_left
              · intro w'
                go_simp
                with_reducible rfl
              rotate_left
              · simp only [Act.put, y1, y2, y3, i64_w, i32_w]
                rfl
              refine pure_ (i := 7) (N := some 27) (v := ?_) (a' := ?_) #[true, true, true, true, true, true, true, true, true, false, false] rfl rfl (any_of HT_.out Z32) (fun _ _ _ h => h) (Or.inl ⟨by rfl, ?_⟩) ?_ ?_
              rotate_left
              · intro w'
                go_simp
                with_reducible rfl
              rotate_left
              · simp only [Act.put, y1, y2, y3, i64_w, i32_w]
                rfl
              exact norm_ Z31 (hCont (g223) _ ⟨hHeld, Z27, Z28, Z29, GW223.out, GE223.out, NB210_223.out, NB223_210.out, NB211_223.out, NB223_211.out, Z20⟩)
          rintro g223 w40 ⟨hS_, h0_, h1_, h2_, h3_, h4_, h5_, h6_, h7_, h8_, h9_⟩
          have n0_ : Aside0 (w40.heap[g210]? = some (.cells #[.int .i64 a0_0, .int .i64 a0_1, .string a0_2] 25 (0, 0))) := ⟨h0_⟩
          have n1_ : Aside0 (w40.heap[g211]? = some (.cells #[.int .i64 a1_0, .int .i64 a1_1, .string a1_2] 25 (0, 0))) := ⟨h1_⟩
          have n2_ : Aside0 (w40.heap[g223]? = some (.cells #[.int .i64 0, .int .i64 0] 28 (0, 0))) := ⟨h2_⟩
          have n3_ : Aside0 (w.heap.size ≤ g223) := ⟨h3_⟩
          have n4_ : Aside0 (w.heap.size ≤ g223) := ⟨h4_⟩
          have n5_ : Aside0 (g210 ≠ g223) := ⟨h5_⟩
          have n6_ : Aside0 (g223 ≠ g210) := ⟨h6_⟩
          have n7_ : Aside0 (g211 ≠ g223) := ⟨h7_⟩
          have n8_ : Aside0 (g223 ≠ g211) := ⟨h8_⟩
          have n9_ : Aside0 (Below w.heap.size w w40) := ⟨h9_⟩
          clear BK210
          clear BK211
          clear HB
          clear h0_ h1_ h2_ h3_ h4_ h5_ h6_ h7_ h8_ h9_
          have BK210 := n0_
          have BK211 := n1_
          have BK223 := n2_
          have GW223 := n3_
          have GE223 := n4_
          have NB210_223 := n5_
          have NB223_210 := n6_
          have NB211_223 := n7_
          have NB223_211 := n8_
          have HB := n9_
          clear n0_ n1_ n2_ n3_ n4_ n5_ n6_ n7_ n8_ n9_
          have hHeld : w40.cell? ⟨g210, 0, none⟩ = some (.int .i64 a0_0) ∧ w40.cell? ⟨g210, 1, none⟩ = some (.int .i64 a0_1) ∧ w40.cell? ⟨g210, 2, none⟩ = some (.string a0_2) ∧ w40.cell? ⟨g211, 0, none⟩ = some (.int .i64 a1_0) ∧ w40.cell? ⟨g211, 1, none⟩ = some (.int .i64 a1_1) ∧ w40.cell? ⟨g211, 2, none⟩ = some (.string a1_2) := hS_
          refine norm_ (a' := ?_) ?_ ?_
          rotate_left
          · simp only [putAll, Act.put, y1, y2, y3]
            rfl
          refine one_ (i := 9) (N := none) #[true, true, true, true, true, true, true, true, true, true, false] rfl rfl (one_of HT_.out Z32) Z33 (fun K hK => ?_)
          have hs41 : w40.cell? ⟨g223, 0, none⟩ = some (.int .i64 0) := (blk_cell BK223.out 0).trans rfl
          have hfs41 := blk_frozen BK223.out 0
          have hns41_0 := NB210_223.out
          have hns41_1 := NB211_223.out
          have hms41_0 := NB223_210.out
          have hms41_1 := NB223_211.out
          have hs42 : w40.cell? ⟨g223, 1, none⟩ = some (.int .i64 0) := (blk_cell BK223.out 1).trans rfl
          have hfs42 := blk_frozen BK223.out 1
          have hns42_0 := NB210_223.out
          have hns42_1 := NB211_223.out
          have hms42_0 := NB223_210.out
          have hms42_1 := NB223_211.out
          refine skip_ (w1 := ?_) (by rfl) rfl ?_ ?_
          rotate_left
          · go_simp
            rfl
          refine hK.out _ _ ⟨((cell_far (p := ⟨g223, _, none⟩) NB210_223.out _).trans (((cell_far (p := ⟨g223, _, none⟩) NB210_223.out _).trans (hHeld.1)))), ((cell_far (p := ⟨g223, _, none⟩) NB210_223.out _).trans (((cell_far (p := ⟨g223, _, none⟩) NB210_223.out _).trans (hHeld.2.1)))), ((cell_far (p := ⟨g223, _, none⟩) NB210_223.out _).trans (((cell_far (p := ⟨g223, _, none⟩) NB210_223.out _).trans (hHeld.2.2.1)))), ((cell_far (p := ⟨g223, _, none⟩) NB211_223.out _).trans (((cell_far (p := ⟨g223, _, none⟩) NB211_223.out _).trans (hHeld.2.2.2.1)))), ((cell_far (p := ⟨g223, _, none⟩) NB211_223.out _).trans (((cell_far (p := ⟨g223, _, none⟩) NB211_223.out _).trans (hHeld.2.2.2.2.1)))), ((cell_far (p := ⟨g223, _, none⟩) NB211_223.out _).trans (((cell_far (p := ⟨g223, _, none⟩) NB211_223.out _).trans (hHeld.2.2.2.2.2))))⟩ (fun hHeld => ?_)
          clear hK K
          refine pure_ (i := 10) (N := some 7) (v := ?_) (a' := ?_) #[true, true, true, true, true, true, true, true, true, true, true] rfl rfl (any_of HT_.out Z32) (fun _ _ _ h => h) (Or.inl ⟨by rfl, ?_⟩) ?_ ?_
          rotate_left
          · intro w'
            go_simp
            with_reducible rfl
          rotate_left
          · simp only [Act.put, y1, y2, y3, i64_w, i32_w]
            rfl
          refine done_ (done_of HT_.out Z32) ?_
          try go_wp2
          have n0_ : Aside0 (((w40.setCell ⟨g223, 0, none⟩ (.int .i64 t220)).setCell ⟨g223, 1, none⟩ (.int .i64 t221)).heap[g210]? = some (.cells #[.int .i64 a0_0, .int .i64 a0_1, .string a0_2] 25 (0, 0))) := ⟨by (with_reducible repeat (first | refine blk_drewN ?_ _ | refine blk_drew ?_ | refine blk_alloc ?_ _)); refine blk_far ?_ NB210_223.out _; (with_reducible repeat (first | refine blk_drewN ?_ _ | refine blk_drew ?_ | refine blk_alloc ?_ _)); refine blk_far ?_ NB210_223.out _; (with_reducible repeat (first | refine blk_drewN ?_ _ | refine blk_drew ?_ | refine blk_alloc ?_ _)); exact BK210.out⟩
          have n1_ : Aside0 (((w40.setCell ⟨g223, 0, none⟩ (.int .i64 t220)).setCell ⟨g223, 1, none⟩ (.int .i64 t221)).heap[g211]? = some (.cells #[.int .i64 a1_0, .int .i64 a1_1, .string a1_2] 25 (0, 0))) := ⟨by (with_reducible repeat (first | refine blk_drewN ?_ _ | refine blk_drew ?_ | refine blk_alloc ?_ _)); refine blk_far ?_ NB211_223.out _; (with_reducible repeat (first | refine blk_drewN ?_ _ | refine blk_drew ?_ | refine blk_alloc ?_ _)); refine blk_far ?_ NB211_223.out _; (with_reducible repeat (first | refine blk_drewN ?_ _ | refine blk_drew ?_ | refine blk_alloc ?_ _)); exact BK211.out⟩
          have n2_ : Aside0 (((w40.setCell ⟨g223, 0, none⟩ (.int .i64 t220)).setCell ⟨g223, 1, none⟩ (.int .i64 t221)).heap[g223]? = some (.cells #[.int .i64 t220, .int .i64 t221] 28 (0, 0))) := ⟨by (with_reducible repeat (first | refine blk_drewN ?_ _ | refine blk_drew ?_ | refine blk_alloc ?_ _)); refine blk_put (cs := #[.int .i64 t220, .int .i64 0]) ?_ 1 _ rfl; (with_reducible repeat (first | refine blk_drewN ?_ _ | refine blk_drew ?_ | refine blk_alloc ?_ _)); refine blk_put (cs := #[.int .i64 0, .int .i64 0]) ?_ 0 _ rfl; (with_reducible repeat (first | refine blk_drewN ?_ _ | refine blk_drew ?_ | refine blk_alloc ?_ _)); exact BK223.out⟩
          have n3_ : Aside0 (Below w.heap.size w ((w40.setCell ⟨g223, 0, none⟩ (.int .i64 t220)).setCell ⟨g223, 1, none⟩ (.int .i64 t221))) := ⟨by repeat (first | (with_reducible first | exact HB.out | apply below_alloc | apply pw_below_drewN | apply below_drew1 | refine below_set ?_ GE210.out | refine below_set ?_ GE211.out | refine below_set ?_ GE223.out) | exact HB.out)⟩
          (try clear BK210)
          (try clear BK211)
          (try clear BK223)
          (try clear HB)
          generalize ((w40.setCell ⟨g223, 0, none⟩ (.int .i64 t220)).setCell ⟨g223, 1, none⟩ (.int .i64 t221)) = w43 at n0_ n1_ n2_ n3_ ⊢
          have BK210 := n0_
          have BK211 := n1_
          have BK223 := n2_
          have HB := n3_
          clear n0_ n1_ n2_ n3_
          have n0_ := A0 (blk_drew BK210.out)
          have n1_ := A0 (blk_drew BK211.out)
          have n2_ := A0 (blk_drew BK223.out)
          have n3_ := A0 (below_drew1 HB.out)
          clear BK210
          clear BK211
          clear BK223
          clear HB
          have BK210 := n0_
          have BK211 := n1_
          have BK223 := n2_
          have HB := n3_
          clear n0_ n1_ n2_ n3_
          refine start_ (n := 11) (S := fun w' => w'.cell? ⟨g210, 0, none⟩ = some (.int .i64 a0_0) ∧ w'.cell? ⟨g210, 1, none⟩ = some (.int .i64 a0_1) ∧ w'.cell? ⟨g210, 2, none⟩ = some (.string a0_2) ∧ w'.cell? ⟨g211, 0, none⟩ = some (.int .i64 a1_0) ∧ w'.cell? ⟨g211, 1, none⟩ = some (.int .i64 a1_1) ∧ w'.cell? ⟨g211, 2, none⟩ = some (.string a1_2)) (ds := []) #[false, false, false, false, false, false, false, false, false, false, false] Z32 rfl rfl ⟨(blk_cell BK210.out 0).trans rfl, (blk_cell BK210.out 1).trans rfl, (blk_cell BK210.out 2).trans rfl, (blk_cell BK211.out 0).trans rfl, (blk_cell BK211.out 1).trans rfl, (blk_cell BK211.out 2).trans rfl⟩ (fun hHeld => ?_); refine with_tabW laws_FnExactFirstMeetingOf.tab9 laws_FnExactFirstMeetingOf.bits9 (fun HT_ HW_ => ?_)
          generalize w43.drew = w44 at BK210 BK211 BK223 HB hHeld ⊢
          refine take_ (i := 0) (N := some 29) (v := ?_) (a' := ?_) #[true, false, false, false, false, false, false, false, false, false, false] rfl rfl (take_ofW HT_.out HW_.out Z32) (fun _ _ _ h => h) (Or.inl ⟨by rfl, ?_⟩) hHeld ?_ ?_
          rotate_left
          · rintro w' ⟨s0, s1, s2, s3, s4, s5⟩
            go_simp
            with_reducible rfl
          rotate_left
          · simp only [Act.put, y1, y2, y3, i64_w, i32_w]
            rfl
          refine take_ (i := 2) (N := some 31) (v := ?_) (a' := ?_) #[true, false, true, false, false, false, false, false, false, false, false] rfl rfl (take_ofW HT_.out HW_.out Z32) (fun _ _ _ h => h) (Or.inl ⟨by rfl, ?_⟩) hHeld ?_ ?_
          rotate_left
          · rintro w' ⟨s0, s1, s2, s3, s4, s5⟩
            go_simp
            with_reducible rfl
          rotate_left
          · simp only [Act.put, y1, y2, y3, i64_w, i32_w]
            rfl
          refine join_ (σ := Nat) 2 #[true, true, true, true, true, true, true, true, true, false, false] (fun s_ => [(30, .agg #[.int .i64 t224, .int .i64 t225, .string t226]), (32, .agg #[.int .i64 t227, .int .i64 t228, .string t229]), (33, .tuple #[.agg #[.int .i64 t230, .int .i64 t231], .bool t232]), (8, .pointer (some ⟨s_, 0, none⟩)), (28, .tuple #[.agg #[.int .i64 t230, .int .i64 t231], .bool t232]), (34, .agg #[.int .i64 t230, .int .i64 t231]), (35, .bool t232)]) (fun s_ w' => (w'.cell? ⟨g210, 0, none⟩ = some (.int .i64 a0_0) ∧ w'.cell? ⟨g210, 1, none⟩ = some (.int .i64 a0_1) ∧ w'.cell? ⟨g210, 2, none⟩ = some (.string a0_2) ∧ w'.cell? ⟨g211, 0, none⟩ = some (.int .i64 a1_0) ∧ w'.cell? ⟨g211, 1, none⟩ = some (.int .i64 a1_1) ∧ w'.cell? ⟨g211, 2, none⟩ = some (.string a1_2)) ∧ (w'.heap[g210]? = some (.cells #[.int .i64 a0_0, .int .i64 a0_1, .string a0_2] 25 (0, 0))) ∧ (w'.heap[g211]? = some (.cells #[.int .i64 a1_0, .int .i64 a1_1, .string a1_2] 25 (0, 0))) ∧ (w'.heap[g223]? = some (.cells #[.int .i64 t220, .int .i64 t221] 28 (0, 0))) ∧ (w'.heap[s_]? = some (.cells #[.int .i64 0, .int .i64 0] 28 (0, 0))) ∧ (w.heap.size ≤ s_) ∧ (w.heap.size ≤ s_) ∧ (g210 ≠ s_) ∧ (s_ ≠ g210) ∧ (g211 ≠ s_) ∧ (s_ ≠ g211) ∧ (g223 ≠ s_) ∧ (s_ ≠ g223) ∧ (Below w.heap.size w w')) ?_ ?_
          rotate_left
          · intro hCont
            refine two_ (i := 1) (j := 8) (Ni := some 30) (Nj := some 8) #[true, true, true, false, false, false, false, false, false, false, false] #[true, false, true, false, false, false, false, false, true, false, false] rfl rfl rfl rfl (two_of HT_.out Z32) Z33 Z33 (fun K hK => ?_) (fun K hK => ?_)
            · skip
              refine goes_ Tryd.func11 Z32 rfl #[.agg #[.int .i64 a0_0, .int .i64 a0_1, .string a0_2]] (by rfl) rfl rfl Z25 ?_
              with_reducible refine (laws_toWay.calls a0_0 a0_1 a0_2 t224 t225 t226 _ A22.out).mono ?_
              rintro e w45 ⟨rfl, hb⟩
              refine ⟨_, rfl, ?_⟩
              have n0_ := A0 (blk_below (g := g210) (o := .cells #[.int .i64 a0_0, .int .i64 a0_1, .string a0_2] 25 (0, 0)) Z27 hb)
              have n1_ := A0 (blk_below (g := g211) (o := .cells #[.int .i64 a1_0, .int .i64 a1_1, .string a1_2] 25 (0, 0)) Z28 hb)
              have n2_ := A0 (blk_below (g := g223) (o := .cells #[.int .i64 t220, .int .i64 t221] 28 (0, 0)) Z29 hb)
              have n3_ := A0 (below_step Z20 hb)
              clear BK210
              clear BK211
              clear BK223
              clear HB
              have BK210 := n0_
              have BK211 := n1_
              have BK223 := n2_
              have HB := n3_
              clear n0_ n1_ n2_ n3_
              (try clear hb)
              (try clear hb2)
              (try clear hk)
              (try clear hi)
              refine hK.out _ _ ⟨(blk_cell BK210.out 0).trans rfl, (blk_cell BK210.out 1).trans rfl, (blk_cell BK210.out 2).trans rfl, (blk_cell BK211.out 0).trans rfl, (blk_cell BK211.out 1).trans rfl, (blk_cell BK211.out 2).trans rfl⟩ (fun hHeld => ?_)
              clear hK K
              refine norm_ (a' := ?_) ?_ ?_
              rotate_left
              · show Act.put _ (some 30) _ = _
                simp only [Act.put, y1, y2, y3, i64_w, i32_w]
                rfl
              refine two_ (i := 3) (j := 8) (Ni := some 32) (Nj := some 8) #[true, true, true, true, false, false, false, false, false, false, false] #[true, true, true, false, false, false, false, false, true, false, false] rfl rfl rfl rfl (two_of HT_.out Z32) Z33 Z33 (fun K hK => ?_) (fun K hK => ?_)
              · skip
                refine goes_ Tryd.func11 Z32 rfl #[.agg #[.int .i64 a1_0, .int .i64 a1_1, .string a1_2]] (by rfl) rfl rfl Z25 ?_
                with_reducible refine (laws_toWay.calls a1_0 a1_1 a1_2 t227 t228 t229 _ A23.out).mono ?_
                rintro e w46 ⟨rfl, hb⟩
                refine ⟨_, rfl, ?_⟩
                have n0_ := A0 (blk_below (g := g210) (o := .cells #[.int .i64 a0_0, .int .i64 a0_1, .string a0_2] 25 (0, 0)) Z27 hb)
                have n1_ := A0 (blk_below (g := g211) (o := .cells #[.int .i64 a1_0, .int .i64 a1_1, .string a1_2] 25 (0, 0)) Z28 hb)
                have n2_ := A0 (blk_below (g := g223) (o := .cells #[.int .i64 t220, .int .i64 t221] 28 (0, 0)) Z29 hb)
                have n3_ := A0 (below_step Z20 hb)
                clear BK210
                clear BK211
                clear BK223
                clear HB
                have BK210 := n0_
                have BK211 := n1_
                have BK223 := n2_
                have HB := n3_
                clear n0_ n1_ n2_ n3_
                (try clear hb)
                (try clear hb2)
                (try clear hk)
                (try clear hi)
                refine hK.out _ _ ⟨(blk_cell BK210.out 0).trans rfl, (blk_cell BK210.out 1).trans rfl, (blk_cell BK210.out 2).trans rfl, (blk_cell BK211.out 0).trans rfl, (blk_cell BK211.out 1).trans rfl, (blk_cell BK211.out 2).trans rfl⟩ (fun hHeld => ?_)
                clear hK K
                refine norm_ (a' := ?_) ?_ ?_
                rotate_left
                · show Act.put _ (some 32) _ = _
                  simp only [Act.put, y1, y2, y3, i64_w, i32_w]
                  rfl
                refine two_ (i := 4) (j := 8) (Ni := some 33) (Nj := some 8) #[true, true, true, true, true, false, false, false, false, false, false] #[true, true, true, true, false, false, false, false, true, false, false] rfl rfl rfl rfl (two_of HT_.out Z32) Z33 Z33 (fun K hK => ?_) (fun K hK => ?_)
                · skip
                  refine goes_ Tryd.func24 Z32 rfl #[.agg #[.int .i64 t224, .int .i64 t225, .string t226], .agg #[.int .i64 t227, .int .i64 t228, .string t229]] (by rfl) rfl rfl Z25 ?_
                  with_reducible refine (impl_FirstMeetingOf.calls k t224 t225 t226 t227 t228 t229 t230 t231 t232 _ A24.out).mono ?_
                  rintro e w47 ⟨rfl, hb⟩
                  refine ⟨_, rfl, ?_⟩
                  have n0_ := A0 (blk_below (g := g210) (o := .cells #[.int .i64 a0_0, .int .i64 a0_1, .string a0_2] 25 (0, 0)) Z27 hb)
                  have n1_ := A0 (blk_below (g := g211) (o := .cells #[.int .i64 a1_0, .int .i64 a1_1, .string a1_2] 25 (0, 0)) Z28 hb)
                  have n2_ := A0 (blk_below (g := g223) (o := .cells #[.int .i64 t220, .int .i64 t221] 28 (0, 0)) Z29 hb)
                  have n3_ := A0 (below_step Z20 hb)
                  clear BK210
                  clear BK211
                  clear BK223
                  clear HB
                  have BK210 := n0_
                  have BK211 := n1_
                  have BK223 := n2_
                  have HB := n3_
                  clear n0_ n1_ n2_ n3_
                  (try clear hb)
                  (try clear hb2)
                  (try clear hk)
                  (try clear hi)
                  refine hK.out _ _ ⟨(blk_cell BK210.out 0).trans rfl, (blk_cell BK210.out 1).trans rfl, (blk_cell BK210.out 2).trans rfl, (blk_cell BK211.out 0).trans rfl, (blk_cell BK211.out 1).trans rfl, (blk_cell BK211.out 2).trans rfl⟩ (fun hHeld => ?_)
                  clear hK K
                  refine norm_ (a' := ?_) ?_ ?_
                  rotate_left
                  · show Act.put _ (some 33) _ = _
                    simp only [Act.put, y1, y2, y3, i64_w, i32_w]
                    rfl
                  refine pure_ (i := 5) (N := some 28) (v := ?_) (a' := ?_) #[true, true, true, true, true, true, false, false, false, false, false] rfl rfl (any_of HT_.out Z32) (fun _ _ _ h => h) (Or.inl ⟨by rfl, ?_⟩) ?_ ?_
                  rotate_left
                  · intro w'
                    go_simp
                    with_reducible rfl
                  rotate_left
                  · simp only [Act.put, y1, y2, y3, i64_w, i32_w]
                    rfl
                  refine pure_ (i := 6) (N := some 34) (v := ?_) (a' := ?_) #[true, true, true, true, true, true, true, false, false, false, false] rfl rfl (any_of HT_.out Z32) (fun _ _ _ h => h) (Or.inl ⟨by rfl, ?_⟩) ?_ ?_
                  rotate_left
                  · intro w'
                    go_simp
                    with_reducible rfl
                  rotate_left
                  · simp only [Act.put, y1, y2, y3, i64_w, i32_w]
                    rfl
                  refine pure_ (i := 7) (N := some 35) (v := ?_) (a' := ?_) #[true, true, true, true, true, true, true, true, false, false, false] rfl rfl (any_of HT_.out Z32) (fun _ _ _ h => h) (Or.inl ⟨by rfl, ?_⟩) ?_ ?_
                  rotate_left
                  · intro w'
                    go_simp
                    with_reducible rfl
                  rotate_left
                  · simp only [Act.put, y1, y2, y3, i64_w, i32_w]
                    rfl
                  refine one_ (i := 8) (N := some 8) #[true, true, true, true, true, true, true, true, true, false, false] rfl rfl (one_of HT_.out Z32) Z33 (fun K hK => ?_)
                  refine box_step ?hg (N := 8) ?hd (cs := #[.int .i64 0, .int .i64 0]) (t := 28) ?hr ?_; (case hd => rfl); (case hg => rfl); (case hr => first | (go_simp; done) | (go_simp; rfl))
                  intro g233 hg w48 hbox hb
                  have n0_ := A0 (blk_below (g := g210) (o := .cells #[.int .i64 a0_0, .int .i64 a0_1, .string a0_2] 25 (0, 0)) Z27 hb)
                  have n1_ := A0 (blk_below (g := g211) (o := .cells #[.int .i64 a1_0, .int .i64 a1_1, .string a1_2] 25 (0, 0)) Z28 hb)
                  have n2_ := A0 (blk_below (g := g223) (o := .cells #[.int .i64 t220, .int .i64 t221] 28 (0, 0)) Z29 hb)
                  have n3_ := A0 (below_step Z20 hb)
                  have n4_ := A0 (hbox)
                  have n5_ := A0 ((Z5 : w.heap.size ≤ g233))
                  have n6_ := A0 ((Z5 : w.heap.size ≤ g233))
                  have n7_ := A0 ((Z12 : g210 ≠ g233))
                  have n8_ := A0 ((Z13 : g233 ≠ g210))
                  have n9_ := A0 ((Z14 : g211 ≠ g233))
                  have n10_ := A0 ((Z15 : g233 ≠ g211))
                  have n11_ := A0 ((Z18 : g223 ≠ g233))
                  have n12_ := A0 ((Z19 : g233 ≠ g223))
                  clear BK210
                  clear BK211
                  clear BK223
                  clear HB
                  have BK210 := n0_
                  have BK211 := n1_
                  have BK223 := n2_
                  have HB := n3_
                  have BK233 := n4_
                  have GW233 := n5_
                  have GE233 := n6_
                  have NB210_233 := n7_
                  have NB233_210 := n8_
                  have NB211_233 := n9_
                  have NB233_211 := n10_
                  have NB223_233 := n11_
                  have NB233_223 := n12_
                  clear n0_ n1_ n2_ n3_ n4_ n5_ n6_ n7_ n8_ n9_ n10_ n11_ n12_
                  clear hb hbox hg
                  refine hK.out _ _ ⟨(blk_cell BK210.out 0).trans rfl, (blk_cell BK210.out 1).trans rfl, (blk_cell BK210.out 2).trans rfl, (blk_cell BK211.out 0).trans rfl, (blk_cell BK211.out 1).trans rfl, (blk_cell BK211.out 2).trans rfl⟩ (fun hHeld => ?_)
                  clear hK K
                  refine norm_ (a' := ?_) ?_ ?_
                  rotate_left
                  · show Act.put _ (some 8) _ = _
                    simp only [Act.put, y1, y2, y3, i64_w, i32_w]
                    rfl
                  exact norm_ Z31 (hCont (g233) _ ⟨hHeld, Z27, Z28, Z29, Z30, GW233.out, GE233.out, NB210_233.out, NB233_210.out, NB211_233.out, NB233_211.out, NB223_233.out, NB233_223.out, Z16⟩)
                · skip
                  refine box_step ?hg (N := 8) ?hd (cs := #[.int .i64 0, .int .i64 0]) (t := 28) ?hr ?_; (case hd => rfl); (case hg => rfl); (case hr => first | (go_simp; done) | (go_simp; rfl))
                  intro g233 hg w47 hbox hb
                  have n0_ := A0 (blk_below (g := g210) (o := .cells #[.int .i64 a0_0, .int .i64 a0_1, .string a0_2] 25 (0, 0)) Z27 hb)
                  have n1_ := A0 (blk_below (g := g211) (o := .cells #[.int .i64 a1_0, .int .i64 a1_1, .string a1_2] 25 (0, 0)) Z28 hb)
                  have n2_ := A0 (blk_below (g := g223) (o := .cells #[.int .i64 t220, .int .i64 t221] 28 (0, 0)) Z29 hb)
                  have n3_ := A0 (below_step Z20 hb)
                  have n4_ := A0 (hbox)
                  have n5_ := A0 ((Z5 : w.heap.size ≤ g233))
                  have n6_ := A0 ((Z5 : w.heap.size ≤ g233))
                  have n7_ := A0 ((Z12 : g210 ≠ g233))
                  have n8_ := A0 ((Z13 : g233 ≠ g210))
                  have n9_ := A0 ((Z14 : g211 ≠ g233))
                  have n10_ := A0 ((Z15 : g233 ≠ g211))
                  have n11_ := A0 ((Z18 : g223 ≠ g233))
                  have n12_ := A0 ((Z19 : g233 ≠ g223))
                  clear BK210
                  clear BK211
                  clear BK223
                  clear HB
                  have BK210 := n0_
                  have BK211 := n1_
                  have BK223 := n2_
                  have HB := n3_
                  have BK233 := n4_
                  have GW233 := n5_
                  have GE233 := n6_
                  have NB210_233 := n7_
                  have NB233_210 := n8_
                  have NB211_233 := n9_
                  have NB233_211 := n10_
                  have NB223_233 := n11_
                  have NB233_223 := n12_
                  clear n0_ n1_ n2_ n3_ n4_ n5_ n6_ n7_ n8_ n9_ n10_ n11_ n12_
                  clear hb hbox hg
                  refine hK.out _ _ ⟨(blk_cell BK210.out 0).trans rfl, (blk_cell BK210.out 1).trans rfl, (blk_cell BK210.out 2).trans rfl, (blk_cell BK211.out 0).trans rfl, (blk_cell BK211.out 1).trans rfl, (blk_cell BK211.out 2).trans rfl⟩ (fun hHeld => ?_)
                  clear hK K
                  refine norm_ (a' := ?_) ?_ ?_
                  rotate_left
                  · show Act.put _ (some 8) _ = _
                    simp only [Act.put, y1, y2, y3, i64_w, i32_w]
                    rfl
                  refine one_ (i := 4) (N := some 33) #[true, true, true, true, true, false, false, false, true, false, false] rfl rfl (one_of HT_.out Z32) Z33 (fun K hK => ?_)
                  refine goes_ Tryd.func24 Z32 rfl #[.agg #[.int .i64 t224, .int .i64 t225, .string t226], .agg #[.int .i64 t227, .int .i64 t228, .string t229]] (by rfl) rfl rfl Z25 ?_
                  with_reducible refine (impl_FirstMeetingOf.calls k t224 t225 t226 t227 t228 t229 t230 t231 t232 _ A24.out).mono ?_
                  rintro e w48 ⟨rfl, hb⟩
                  refine ⟨_, rfl, ?_⟩
                  have n0_ := A0 (blk_below (g := g210) (o := .cells #[.int .i64 a0_0, .int .i64 a0_1, .string a0_2] 25 (0, 0)) Z27 hb)
                  have n1_ := A0 (blk_below (g := g211) (o := .cells #[.int .i64 a1_0, .int .i64 a1_1, .string a1_2] 25 (0, 0)) Z28 hb)
                  have n2_ := A0 (blk_below (g := g223) (o := .cells #[.int .i64 t220, .int .i64 t221] 28 (0, 0)) Z29 hb)
                  have n3_ := A0 (blk_below (g := g233) (o := .cells #[.int .i64 0, .int .i64 0] 28 (0, 0)) Z30 hb)
                  have n4_ := A0 (below_step Z16 hb)
                  clear BK210
                  clear BK211
                  clear BK223
                  clear BK233
                  clear HB
                  have BK210 := n0_
                  have BK211 := n1_
                  have BK223 := n2_
                  have BK233 := n3_
                  have HB := n4_
                  clear n0_ n1_ n2_ n3_ n4_
                  (try clear hb)
                  (try clear hb2)
                  (try clear hk)
                  (try clear hi)
                  refine hK.out _ _ ⟨(blk_cell BK210.out 0).trans rfl, (blk_cell BK210.out 1).trans rfl, (blk_cell BK210.out 2).trans rfl, (blk_cell BK211.out 0).trans rfl, (blk_cell BK211.out 1).trans rfl, (blk_cell BK211.out 2).trans rfl⟩ (fun hHeld => ?_)
                  clear hK K
                  refine norm_ (a' := ?_) ?_ ?_
                  rotate_left
                  · show Act.put _ (some 33) _ = _
                    simp only [Act.put, y1, y2, y3, i64_w, i32_w]
                    rfl
                  refine pure_ (i := 5) (N := some 28) (v := ?_) (a' := ?_) #[true, true, true, true, true, true, false, false, true, false, false] rfl rfl (any_of HT_.out Z32) (fun _ _ _ h => h) (Or.inl ⟨by rfl, ?_⟩) ?_ ?_
                  rotate_left
                  · intro w'
                    go_simp
                    with_reducible rfl
                  rotate_left
                  · simp only [Act.put, y1, y2, y3, i64_w, i32_w]
                    rfl
                  refine pure_ (i := 6) (N := some 34) (v := ?_) (a' := ?_) #[true, true, true, true, true, true, true, false, true, false, false] rfl rfl (any_of HT_.out Z32) (fun _ _ _ h => h) (Or.inl ⟨by rfl, ?_⟩) ?_ ?_
                  rotate_left
                  · intro w'
                    go_simp
                    with_reducible rfl
                  rotate_left
                  · simp only [Act.put, y1, y2, y3, i64_w, i32_w]
                    rfl
                  refine pure_ (i := 7) (N := some 35) (v := ?_) (a' := ?_) #[true, true, true, true, true, true, true, true, true, false, false] rfl rfl (any_of HT_.out Z32) (fun _ _ _ h => h) (Or.inl ⟨by rfl, ?_⟩) ?_ ?_
                  rotate_left
                  · intro w'
                    go_simp
                    with_reducible rfl
                  rotate_left
                  · simp only [Act.put, y1, y2, y3, i64_w, i32_w]
                    rfl
                  exact norm_ Z31 (hCont (g233) _ ⟨hHeld, Z27, Z28, Z29, Z30, GW233.out, GE233.out, NB210_233.out, NB233_210.out, NB211_233.out, NB233_211.out, NB223_233.out, NB233_223.out, Z16⟩)
              · skip
                refine box_step ?hg (N := 8) ?hd (cs := #[.int .i64 0, .int .i64 0]) (t := 28) ?hr ?_; (case hd => rfl); (case hg => rfl); (case hr => first | (go_simp; done) | (go_simp; rfl))
                intro g233 hg w46 hbox hb
                have n0_ := A0 (blk_below (g := g210) (o := .cells #[.int .i64 a0_0, .int .i64 a0_1, .string a0_2] 25 (0, 0)) Z27 hb)
                have n1_ := A0 (blk_below (g := g211) (o := .cells #[.int .i64 a1_0, .int .i64 a1_1, .string a1_2] 25 (0, 0)) Z28 hb)
                have n2_ := A0 (blk_below (g := g223) (o := .cells #[.int .i64 t220, .int .i64 t221] 28 (0, 0)) Z29 hb)
                have n3_ := A0 (below_step Z20 hb)
                have n4_ := A0 (hbox)
                have n5_ := A0 ((Z5 : w.heap.size ≤ g233))
                have n6_ := A0 ((Z5 : w.heap.size ≤ g233))
                have n7_ := A0 ((Z12 : g210 ≠ g233))
                have n8_ := A0 ((Z13 : g233 ≠ g210))
                have n9_ := A0 ((Z14 : g211 ≠ g233))
                have n10_ := A0 ((Z15 : g233 ≠ g211))
                have n11_ := A0 ((Z18 : g223 ≠ g233))
                have n12_ := A0 ((Z19 : g233 ≠ g223))
                clear BK210
                clear BK211
                clear BK223
                clear HB
                have BK210 := n0_
                have BK211 := n1_
                have BK223 := n2_
                have HB := n3_
                have BK233 := n4_
                have GW233 := n5_
                have GE233 := n6_
                have NB210_233 := n7_
                have NB233_210 := n8_
                have NB211_233 := n9_
                have NB233_211 := n10_
                have NB223_233 := n11_
                have NB233_223 := n12_
                clear n0_ n1_ n2_ n3_ n4_ n5_ n6_ n7_ n8_ n9_ n10_ n11_ n12_
                clear hb hbox hg
                refine hK.out _ _ ⟨(blk_cell BK210.out 0).trans rfl, (blk_cell BK210.out 1).trans rfl, (blk_cell BK210.out 2).trans rfl, (blk_cell BK211.out 0).trans rfl, (blk_cell BK211.out 1).trans rfl, (blk_cell BK211.out 2).trans rfl⟩ (fun hHeld => ?_)
                clear hK K
                refine norm_ (a' := ?_) ?_ ?_
                rotate_left
                · show Act.put _ (some 8) _ = _
                  simp only [Act.put, y1, y2, y3, i64_w, i32_w]
                  rfl
                refine one_ (i := 3) (N := some 32) #[true, true, true, true, false, false, false, false, true, false, false] rfl rfl (one_of HT_.out Z32) Z33 (fun K hK => ?_)
                refine goes_ Tryd.func11 Z32 rfl #[.agg #[.int .i64 a1_0, .int .i64 a1_1, .string a1_2]] (by rfl) rfl rfl Z25 ?_
                with_reducible refine (laws_toWay.calls a1_0 a1_1 a1_2 t227 t228 t229 _ A23.out).mono ?_
                rintro e w47 ⟨rfl, hb⟩
                refine ⟨_, rfl, ?_⟩
                have n0_ := A0 (blk_below (g := g210) (o := .cells #[.int .i64 a0_0, .int .i64 a0_1, .string a0_2] 25 (0, 0)) Z27 hb)
                have n1_ := A0 (blk_below (g := g211) (o := .cells #[.int .i64 a1_0, .int .i64 a1_1, .string a1_2] 25 (0, 0)) Z28 hb)
                have n2_ := A0 (blk_below (g := g223) (o := .cells #[.int .i64 t220, .int .i64 t221] 28 (0, 0)) Z29 hb)
                have n3_ := A0 (blk_below (g := g233) (o := .cells #[.int .i64 0, .int .i64 0] 28 (0, 0)) Z30 hb)
                have n4_ := A0 (below_step Z16 hb)
                clear BK210
                clear BK211
                clear BK223
                clear BK233
                clear HB
                have BK210 := n0_
                have BK211 := n1_
                have BK223 := n2_
                have BK233 := n3_
                have HB := n4_
                clear n0_ n1_ n2_ n3_ n4_
                (try clear hb)
                (try clear hb2)
                (try clear hk)
                (try clear hi)
                refine hK.out _ _ ⟨(blk_cell BK210.out 0).trans rfl, (blk_cell BK210.out 1).trans rfl, (blk_cell BK210.out 2).trans rfl, (blk_cell BK211.out 0).trans rfl, (blk_cell BK211.out 1).trans rfl, (blk_cell BK211.out 2).trans rfl⟩ (fun hHeld => ?_)
                clear hK K
                refine norm_ (a' := ?_) ?_ ?_
                rotate_left
                · show Act.put _ (some 32) _ = _
                  simp only [Act.put, y1, y2, y3, i64_w, i32_w]
                  rfl
                refine one_ (i := 4) (N := some 33) #[true, true, true, true, true, false, false, false, true, false, false] rfl rfl (one_of HT_.out Z32) Z33 (fun K hK => ?_)
                refine goes_ Tryd.func24 Z32 rfl #[.agg #[.int .i64 t224, .int .i64 t225, .string t226], .agg #[.int .i64 t227, .int .i64 t228, .string t229]] (by rfl) rfl rfl Z25 ?_
                with_reducible refine (impl_FirstMeetingOf.calls k t224 t225 t226 t227 t228 t229 t230 t231 t232 _ A24.out).mono ?_
                rintro e w48 ⟨rfl, hb⟩
                refine ⟨_, rfl, ?_⟩
                have n0_ := A0 (blk_below (g := g210) (o := .cells #[.int .i64 a0_0, .int .i64 a0_1, .string a0_2] 25 (0, 0)) Z27 hb)
                have n1_ := A0 (blk_below (g := g211) (o := .cells #[.int .i64 a1_0, .int .i64 a1_1, .string a1_2] 25 (0, 0)) Z28 hb)
                have n2_ := A0 (blk_below (g := g223) (o := .cells #[.int .i64 t220, .int .i64 t221] 28 (0, 0)) Z29 hb)
                have n3_ := A0 (blk_below (g := g233) (o := .cells #[.int .i64 0, .int .i64 0] 28 (0, 0)) Z30 hb)
                have n4_ := A0 (below_step Z16 hb)
                clear BK210
                clear BK211
                clear BK223
                clear BK233
                clear HB
                have BK210 := n0_
                have BK211 := n1_
                have BK223 := n2_
                have BK233 := n3_
                have HB := n4_
                clear n0_ n1_ n2_ n3_ n4_
                (try clear hb)
                (try clear hb2)
                (try clear hk)
                (try clear hi)
                refine hK.out _ _ ⟨(blk_cell BK210.out 0).trans rfl, (blk_cell BK210.out 1).trans rfl, (blk_cell BK210.out 2).trans rfl, (blk_cell BK211.out 0).trans rfl, (blk_cell BK211.out 1).trans rfl, (blk_cell BK211.out 2).trans rfl⟩ (fun hHeld => ?_)
                clear hK K
                refine norm_ (a' := ?_) ?_ ?_
                rotate_left
                · show Act.put _ (some 33) _ = _
                  simp only [Act.put, y1, y2, y3, i64_w, i32_w]
                  rfl
                refine pure_ (i := 5) (N := some 28) (v := ?_) (a' := ?_) #[true, true, true, true, true, true, false, false, true, false, false] rfl rfl (any_of HT_.out Z32) (fun _ _ _ h => h) (Or.inl ⟨by rfl, ?_⟩) ?_ ?_
                rotate_left
                · intro w'
                  go_simp
                  with_reducible rfl
                rotate_left
                · simp only [Act.put, y1, y2, y3, i64_w, i32_w]
                  rfl
                refine pure_ (i := 6) (N := some 34) (v := ?_) (a' := ?_) #[true, true, true, true, true, true, true, false, true, false, false] rfl rfl (any_of HT_.out Z32) (fun _ _ _ h => h) (Or.inl ⟨by rfl, ?_⟩) ?_ ?_
                rotate_left
                · intro w'
                  go_simp
                  with_reducible rfl
                rotate_left
                · simp only [Act.put, y1, y2, y3, i64_w, i32_w]
                  rfl
                refine pure_ (i := 7) (N := some 35) (v := ?_) (a' := ?_) #[true, true, true, true, true, true, true, true, true, false, false] rfl rfl (any_of HT_.out Z32) (fun _ _ _ h => h) (Or.inl ⟨by rfl, ?_⟩) ?_ ?_
                rotate_left
                · intro w'
                  go_simp
                  with_reducible rfl
                rotate_left
                · simp only [Act.put, y1, y2, y3, i64_w, i32_w]
                  rfl
                exact norm_ Z31 (hCont (g233) _ ⟨hHeld, Z27, Z28, Z29, Z30, GW233.out, GE233.out, NB210_233.out, NB233_210.out, NB211_233.out, NB233_211.out, NB223_233.out, NB233_223.out, Z16⟩)
            · skip
              refine box_step ?hg (N := 8) ?hd (cs := #[.int .i64 0, .int .i64 0]) (t := 28) ?hr ?_; (case hd => rfl); (case hg => rfl); (case hr => first | (go_simp; done) | (go_simp; rfl))
              intro g233 hg w45 hbox hb
              have n0_ := A0 (blk_below (g := g210) (o := .cells #[.int .i64 a0_0, .int .i64 a0_1, .string a0_2] 25 (0, 0)) Z27 hb)
              have n1_ := A0 (blk_below (g := g211) (o := .cells #[.int .i64 a1_0, .int .i64 a1_1, .string a1_2] 25 (0, 0)) Z28 hb)
              have n2_ := A0 (blk_below (g := g223) (o := .cells #[.int .i64 t220, .int .i64 t221] 28 (0, 0)) Z29 hb)
              have n3_ := A0 (below_step Z20 hb)
              have n4_ := A0 (hbox)
              have n5_ := A0 ((Z5 : w.heap.size ≤ g233))
              have n6_ := A0 ((Z5 : w.heap.size ≤ g233))
              have n7_ := A0 ((Z12 : g210 ≠ g233))
              have n8_ := A0 ((Z13 : g233 ≠ g210))
              have n9_ := A0 ((Z14 : g211 ≠ g233))
              have n10_ := A0 ((Z15 : g233 ≠ g211))
              have n11_ := A0 ((Z18 : g223 ≠ g233))
              have n12_ := A0 ((Z19 : g233 ≠ g223))
              clear BK210
              clear BK211
              clear BK223
              clear HB
              have BK210 := n0_
              have BK211 := n1_
              have BK223 := n2_
              have HB := n3_
              have BK233 := n4_
              have GW233 := n5_
              have GE233 := n6_
              have NB210_233 := n7_
              have NB233_210 := n8_
              have NB211_233 := n9_
              have NB233_211 := n10_
              have NB223_233 := n11_
              have NB233_223 := n12_
              clear n0_ n1_ n2_ n3_ n4_ n5_ n6_ n7_ n8_ n9_ n10_ n11_ n12_
              clear hb hbox hg
              refine hK.out _ _ ⟨(blk_cell BK210.out 0).trans rfl, (blk_cell BK210.out 1).trans rfl, (blk_cell BK210.out 2).trans rfl, (blk_cell BK211.out 0).trans rfl, (blk_cell BK211.out 1).trans rfl, (blk_cell BK211.out 2).trans rfl⟩ (fun hHeld => ?_)
              clear hK K
              refine norm_ (a' := ?_) ?_ ?_
              rotate_left
              · show Act.put _ (some 8) _ = _
                simp only [Act.put, y1, y2, y3, i64_w, i32_w]
                rfl
              refine one_ (i := 1) (N := some 30) #[true, true, true, false, false, false, false, false, true, false, false] rfl rfl (one_of HT_.out Z32) Z33 (fun K hK => ?_)
              refine goes_ Tryd.func11 Z32 rfl #[.agg #[.int .i64 a0_0, .int .i64 a0_1, .string a0_2]] (by rfl) rfl rfl Z25 ?_
              with_reducible refine (laws_toWay.calls a0_0 a0_1 a0_2 t224 t225 t226 _ A22.out).mono ?_
              rintro e w46 ⟨rfl, hb⟩
              refine ⟨_, rfl, ?_⟩
              have n0_ := A0 (blk_below (g := g210) (o := .cells #[.int .i64 a0_0, .int .i64 a0_1, .string a0_2] 25 (0, 0)) Z27 hb)
              have n1_ := A0 (blk_below (g := g211) (o := .cells #[.int .i64 a1_0, .int .i64 a1_1, .string a1_2] 25 (0, 0)) Z28 hb)
              have n2_ := A0 (blk_below (g := g223) (o := .cells #[.int .i64 t220, .int .i64 t221] 28 (0, 0)) Z29 hb)
              have n3_ := A0 (blk_below (g := g233) (o := .cells #[.int .i64 0, .int .i64 0] 28 (0, 0)) Z30 hb)
              have n4_ := A0 (below_step Z16 hb)
              clear BK210
              clear BK211
              clear BK223
              clear BK233
              clear HB
              have BK210 := n0_
              have BK211 := n1_
              have BK223 := n2_
              have BK233 := n3_
              have HB := n4_
              clear n0_ n1_ n2_ n3_ n4_
              (try clear hb)
              (try clear hb2)
              (try clear hk)
              (try clear hi)
              refine hK.out _ _ ⟨(blk_cell BK210.out 0).trans rfl, (blk_cell BK210.out 1).trans rfl, (blk_cell BK210.out 2).trans rfl, (blk_cell BK211.out 0).trans rfl, (blk_cell BK211.out 1).trans rfl, (blk_cell BK211.out 2).trans rfl⟩ (fun hHeld => ?_)
              clear hK K
              refine norm_ (a' := ?_) ?_ ?_
              rotate_left
              · show Act.put _ (some 30) _ = _
                simp only [Act.put, y1, y2, y3, i64_w, i32_w]
                rfl
              refine one_ (i := 3) (N := some 32) #[true, true, true, true, false, false, false, false, true, false, false] rfl rfl (one_of HT_.out Z32) Z33 (fun K hK => ?_)
              refine goes_ Tryd.func11 Z32 rfl #[.agg #[.int .i64 a1_0, .int .i64 a1_1, .string a1_2]] (by rfl) rfl rfl Z25 ?_
              with_reducible refine (laws_toWay.calls a1_0 a1_1 a1_2 t227 t228 t229 _ A23.out).mono ?_
              rintro e w47 ⟨rfl, hb⟩
              refine ⟨_, rfl, ?_⟩
              have n0_ := A0 (blk_below (g := g210) (o := .cells #[.int .i64 a0_0, .int .i64 a0_1, .string a0_2] 25 (0, 0)) Z27 hb)
              have n1_ := A0 (blk_below (g := g211) (o := .cells #[.int .i64 a1_0, .int .i64 a1_1, .string a1_2] 25 (0, 0)) Z28 hb)
              have n2_ := A0 (blk_below (g := g223) (o := .cells #[.int .i64 t220, .int .i64 t221] 28 (0, 0)) Z29 hb)
              have n3_ := A0 (blk_below (g := g233) (o := .cells #[.int .i64 0, .int .i64 0] 28 (0, 0)) Z30 hb)
              have n4_ := A0 (below_step Z16 hb)
              clear BK210
              clear BK211
              clear BK223
              clear BK233
              clear HB
              have BK210 := n0_
              have BK211 := n1_
              have BK223 := n2_
              have BK233 := n3_
              have HB := n4_
              clear n0_ n1_ n2_ n3_ n4_
              (try clear hb)
              (try clear hb2)
              (try clear hk)
              (try clear hi)
              refine hK.out _ _ ⟨(blk_cell BK210.out 0).trans rfl, (blk_cell BK210.out 1).trans rfl, (blk_cell BK210.out 2).trans rfl, (blk_cell BK211.out 0).trans rfl, (blk_cell BK211.out 1).trans rfl, (blk_cell BK211.out 2).trans rfl⟩ (fun hHeld => ?_)
              clear hK K
              refine norm_ (a' := ?_) ?_ ?_
              rotate_left
              · show Act.put _ (some 32) _ = _
                simp only [Act.put, y1, y2, y3, i64_w, i32_w]
                rfl
              refine one_ (i := 4) (N := some 33) #[true, true, true, true, true, false, false, false, true, false, false] rfl rfl (one_of HT_.out Z32) Z33 (fun K hK => ?_)
              refine goes_ Tryd.func24 Z32 rfl #[.agg #[.int .i64 t224, .int .i64 t225, .string t226], .agg #[.int .i64 t227, .int .i64 t228, .string t229]] (by rfl) rfl rfl Z25 ?_
              with_reducible refine (impl_FirstMeetingOf.calls k t224 t225 t226 t227 t228 t229 t230 t231 t232 _ A24.out).mono ?_
              rintro e w48 ⟨rfl, hb⟩
              refine ⟨_, rfl, ?_⟩
              have n0_ := A0 (blk_below (g := g210) (o := .cells #[.int .i64 a0_0, .int .i64 a0_1, .string a0_2] 25 (0, 0)) Z27 hb)
              have n1_ := A0 (blk_below (g := g211) (o := .cells #[.int .i64 a1_0, .int .i64 a1_1, .string a1_2] 25 (0, 0)) Z28 hb)
              have n2_ := A0 (blk_below (g := g223) (o := .cells #[.int .i64 t220, .int .i64 t221] 28 (0, 0)) Z29 hb)
              have n3_ := A0 (blk_below (g := g233) (o := .cells #[.int .i64 0, .int .i64 0] 28 (0, 0)) Z30 hb)
              have n4_ := A0 (below_step Z16 hb)
              clear BK210
              clear BK211
              clear BK223
              clear BK233
              clear HB
              have BK210 := n0_
              have BK211 := n1_
              have BK223 := n2_
              have BK233 := n3_
              have HB := n4_
              clear n0_ n1_ n2_ n3_ n4_
              (try clear hb)
              (try clear hb2)
              (try clear hk)
              (try clear hi)
              refine hK.out _ _ ⟨(blk_cell BK210.out 0).trans rfl, (blk_cell BK210.out 1).trans rfl, (blk_cell BK210.out 2).trans rfl, (blk_cell BK211.out 0).trans rfl, (blk_cell BK211.out 1).trans rfl, (blk_cell BK211.out 2).trans rfl⟩ (fun hHeld => ?_)
              clear hK K
              refine norm_ (a' := ?_) ?_ ?_
              rotate_left
              · show Act.put _ (some 33) _ = _
                simp only [Act.put, y1, y2, y3, i64_w, i32_w]
                rfl
              refine pure_ (i := 5) (N := some 28) (v := ?_) (a' := ?_) #[true, true, true, true, true, true, false, false, true, false, false] rfl rfl (any_of HT_.out Z32) (fun _ _ _ h => h) (Or.inl ⟨by rfl, ?_⟩) ?_ ?_
              rotate_left
              · intro w'
                go_simp
                with_reducible rfl
              rotate_left
              · simp only [Act.put, y1, y2, y3, i64_w, i32_w]
                rfl
              refine pure_ (i := 6) (N := some 34) (v := ?_) (a' := ?_) #[true, true, true, true, true, true, true, false, true, false, false] rfl rfl (any_of HT_.out Z32) (fun _ _ _ h => h) (Or.inl ⟨by rfl, ?_⟩) ?_ ?_
              rotate_left
              · intro w'
                go_simp
                with_reducible rfl
              rotate_left
              · simp only [Act.put, y1, y2, y3, i64_w, i32_w]
                rfl
              refine pure_ (i := 7) (N := some 35) (v := ?_) (a' := ?_) #[true, true, true, true, true, true, true, true, true, false, false] rfl rfl (any_of HT_.out Z32) (fun _ _ _ h => h) (Or.inl ⟨by rfl, ?_⟩) ?_ ?_
              rotate_left
              · intro w'
                go_simp
                with_reducible rfl
              rotate_left
              · simp only [Act.put, y1, y2, y3, i64_w, i32_w]
                rfl
              exact norm_ Z31 (hCont (g233) _ ⟨hHeld, Z27, Z28, Z29, Z30, GW233.out, GE233.out, NB210_233.out, NB233_210.out, NB211_233.out, NB233_211.out, NB223_233.out, NB233_223.out, Z16⟩)
          rintro g233 w49 ⟨hS_, h0_, h1_, h2_, h3_, h4_, h5_, h6_, h7_, h8_, h9_, h10_, h11_, h12_⟩
          have n0_ : Aside0 (w49.heap[g210]? = some (.cells #[.int .i64 a0_0, .int .i64 a0_1, .string a0_2] 25 (0, 0))) := ⟨h0_⟩
          have n1_ : Aside0 (w49.heap[g211]? = some (.cells #[.int .i64 a1_0, .int .i64 a1_1, .string a1_2] 25 (0, 0))) := ⟨h1_⟩
          have n2_ : Aside0 (w49.heap[g223]? = some (.cells #[.int .i64 t220, .int .i64 t221] 28 (0, 0))) := ⟨h2_⟩
          have n3_ : Aside0 (w49.heap[g233]? = some (.cells #[.int .i64 0, .int .i64 0] 28 (0, 0))) := ⟨h3_⟩
          have n4_ : Aside0 (w.heap.size ≤ g233) := ⟨h4_⟩
          have n5_ : Aside0 (w.heap.size ≤ g233) := ⟨h5_⟩
          have n6_ : Aside0 (g210 ≠ g233) := ⟨h6_⟩
          have n7_ : Aside0 (g233 ≠ g210) := ⟨h7_⟩
          have n8_ : Aside0 (g211 ≠ g233) := ⟨h8_⟩
          have n9_ : Aside0 (g233 ≠ g211) := ⟨h9_⟩
          have n10_ : Aside0 (g223 ≠ g233) := ⟨h10_⟩
          have n11_ : Aside0 (g233 ≠ g223) := ⟨h11_⟩
          have n12_ : Aside0 (Below w.heap.size w w49) := ⟨h12_⟩
          clear BK210
          clear BK211
          clear BK223
          clear HB
          clear h0_ h1_ h2_ h3_ h4_ h5_ h6_ h7_ h8_ h9_ h10_ h11_ h12_
          have BK210 := n0_
          have BK211 := n1_
          have BK223 := n2_
          have BK233 := n3_
          have GW233 := n4_
          have GE233 := n5_
          have NB210_233 := n6_
          have NB233_210 := n7_
          have NB211_233 := n8_
          have NB233_211 := n9_
          have NB223_233 := n10_
          have NB233_223 := n11_
          have HB := n12_
          clear n0_ n1_ n2_ n3_ n4_ n5_ n6_ n7_ n8_ n9_ n10_ n11_ n12_
          have hHeld : w49.cell? ⟨g210, 0, none⟩ = some (.int .i64 a0_0) ∧ w49.cell? ⟨g210, 1, none⟩ = some (.int .i64 a0_1) ∧ w49.cell? ⟨g210, 2, none⟩ = some (.string a0_2) ∧ w49.cell? ⟨g211, 0, none⟩ = some (.int .i64 a1_0) ∧ w49.cell? ⟨g211, 1, none⟩ = some (.int .i64 a1_1) ∧ w49.cell? ⟨g211, 2, none⟩ = some (.string a1_2) := hS_
          refine norm_ (a' := ?_) ?_ ?_
          rotate_left
          · simp only [putAll, Act.put, y1, y2, y3]
            rfl
          refine one_ (i := 9) (N := none) #[true, true, true, true, true, true, true, true, true, true, false] rfl rfl (one_of HT_.out Z32) Z33 (fun K hK => ?_)
          have hs50 : w49.cell? ⟨g233, 0, none⟩ = some (.int .i64 0) := (blk_cell BK233.out 0).trans rfl
          have hfs50 := blk_frozen BK233.out 0
          have hns50_0 := NB210_233.out
          have hns50_1 := NB211_233.out
          have hns50_2 := NB223_233.out
          have hms50_0 := NB233_210.out
          have hms50_1 := NB233_211.out
          have hms50_2 := NB233_223.out
          have hs51 : w49.cell? ⟨g233, 1, none⟩ = some (.int .i64 0) := (blk_cell BK233.out 1).trans rfl
          have hfs51 := blk_frozen BK233.out 1
          have hns51_0 := NB210_233.out
          have hns51_1 := NB211_233.out
          have hns51_2 := NB223_233.out
          have hms51_0 := NB233_210.out
          have hms51_1 := NB233_211.out
          have hms51_2 := NB233_223.out
          refine skip_ (w1 := ?_) (by rfl) rfl ?_ ?_
          rotate_left
          · go_simp
            rfl
          refine hK.out _ _ ⟨((cell_far (p := ⟨g233, _, none⟩) NB210_233.out _).trans (((cell_far (p := ⟨g233, _, none⟩) NB210_233.out _).trans (hHeld.1)))), ((cell_far (p := ⟨g233, _, none⟩) NB210_233.out _).trans (((cell_far (p := ⟨g233, _, none⟩) NB210_233.out _).trans (hHeld.2.1)))), ((cell_far (p := ⟨g233, _, none⟩) NB210_233.out _).trans (((cell_far (p := ⟨g233, _, none⟩) NB210_233.out _).trans (hHeld.2.2.1)))), ((cell_far (p := ⟨g233, _, none⟩) NB211_233.out _).trans (((cell_far (p := ⟨g233, _, none⟩) NB211_233.out _).trans (hHeld.2.2.2.1)))), ((cell_far (p := ⟨g233, _, none⟩) NB211_233.out _).trans (((cell_far (p := ⟨g233, _, none⟩) NB211_233.out _).trans (hHeld.2.2.2.2.1)))), ((cell_far (p := ⟨g233, _, none⟩) NB211_233.out _).trans (((cell_far (p := ⟨g233, _, none⟩) NB211_233.out _).trans (hHeld.2.2.2.2.2))))⟩ (fun hHeld => ?_)
          clear hK K
          refine pure_ (i := 10) (N := some 9) (v := ?_) (a' := ?_) #[true, true, true, true, true, true, true, true, true, true, true] rfl rfl (any_of HT_.out Z32) (fun _ _ _ h => h) (Or.inl ⟨by rfl, ?_⟩) ?_ ?_
          rotate_left
          · intro w'
            go_simp
            with_reducible rfl
          rotate_left
          · simp only [Act.put, y1, y2, y3, i64_w, i32_w]
            rfl
          refine done_ (done_of HT_.out Z32) ?_
          have hnb52 := NB233_210.out
          have hnc52 := NB210_233.out
          have hnb53 := NB233_211.out
          have hnc53 := NB211_233.out
          have hnb54 := NB233_223.out
          have hnc54 := NB223_233.out
          have hcz55_0 : w49.cell? ⟨g233, 0, none⟩ = some (.int .i64 0) := (blk_cell BK233.out 0).trans rfl
          have hcz55_1 : w49.cell? ⟨g233, 1, none⟩ = some (.int .i64 0) := (blk_cell BK233.out 1).trans rfl
          have hfz55_0 := blk_frozen BK233.out 0
          have hfz55_1 := blk_frozen BK233.out 1
          have hnb56 := NB223_210.out
          have hnc56 := NB210_223.out
          have hnb57 := NB223_211.out
          have hnc57 := NB211_223.out
          have hcz58_0 : w49.cell? ⟨g223, 0, none⟩ = some (.int .i64 t220) := (blk_cell BK223.out 0).trans rfl
          have hcz58_1 : w49.cell? ⟨g223, 1, none⟩ = some (.int .i64 t221) := (blk_cell BK223.out 1).trans rfl
          have hfz58_0 := blk_frozen BK223.out 0
          have hfz58_1 := blk_frozen BK223.out 1
          try go_wp2_with (first | ((with_reducible refine gate_callee (f := 15) rfl ?_); refine goesL_ (some 38) rfl rfl Tryd.func15 Z32 rfl #[.agg #[.int .i64 t230, .int .i64 t231], .agg #[.int .i64 t220, .int .i64 t221]] rfl Z25 ?_; (with_reducible refine (laws_eqCell.calls t230 t231 t220 t221 true _ A25.out).mono ?_); rintro e w59 ⟨rfl, hb⟩; refine ⟨_, rfl, ?_⟩; have n0_ := A0 (blk_below (g := g210) (o := .cells #[.int .i64 a0_0, .int .i64 a0_1, .string a0_2] 25 (0, 0)) Z2 hb); have n1_ := A0 (blk_below (g := g211) (o := .cells #[.int .i64 a1_0, .int .i64 a1_1, .string a1_2] 25 (0, 0)) Z3 hb); have n2_ := A0 (blk_below (g := g223) (o := .cells #[.int .i64 t220, .int .i64 t221] 28 (0, 0)) Z4 hb); have n3_ := A0 (blk_below (g := g233) (o := .cells #[.int .i64 t230, .int .i64 t231] 28 (0, 0)) Z1 hb); have n4_ := A0 (below_step Z16 hb); clear BK210; clear BK211; clear BK223; clear BK233; clear HB; have BK210 := n0_; have BK211 := n1_; have BK223 := n2_; have BK233 := n3_; have HB := n4_; clear n0_ n1_ n2_ n3_ n4_; (try clear hb); (try clear hb2); (try clear hk); (try clear hi)))
          go_ret
          exact ⟨by first | rfl | (simp [errW_none, errW_some] <;> rfl) | (simp [*, errW_none, errW_some] <;> rfl), by repeat (first | (with_reducible first | exact HB.out | apply below_alloc | apply pw_below_drewN | apply below_drew1 | refine below_set ?_ GE210.out | refine below_set ?_ GE211.out | refine below_set ?_ GE223.out | refine below_set ?_ GE233.out) | exact HB.out)⟩
        · rw [if_neg c27] at H
          have c27b0 : (t232 != t222) = false := by simpa using c27
          (try (have c27b1 : decide (t232 = t222) = true := by simpa using c27))
          (try (have c27b2 : (t232 == t222) = true := by simpa using c27))
          clear c27
          obtain rfl := Option.some.inj H
          go_enter Tryd.func7, Tryd.ntmps7
          try go_wp2_with (first | ((with_reducible refine gate_dst (N := 2) rfl ?_); refine box_event ?hg (N := 2) ?hd (cs := #[.int .i64 a0_0, .int .i64 a0_1, .string a0_2]) (t := 25) ?hr ?_; (case hd => rfl); (case hg => rfl); (case hr => first | (go_simp; done) | (go_simp; rfl)); intro g210 hg w60 hbox hb; have n0_ := A0 (below_step Z26 hb); have n1_ := A0 (hbox); have n2_ := A0 ((Z23 : w.heap.size ≤ g210)); have n3_ := A0 ((Z23 : w.heap.size ≤ g210)); clear HB; have HB := n0_; have BK210 := n1_; have GW210 := n2_; have GE210 := n3_; clear n0_ n1_ n2_ n3_; clear hb hbox hg) | ((with_reducible refine gate_dst (N := 3) rfl ?_); refine box_event ?hg (N := 3) ?hd (cs := #[.int .i64 a1_0, .int .i64 a1_1, .string a1_2]) (t := 25) ?hr ?_; (case hd => rfl); (case hg => rfl); (case hr => first | (go_simp; done) | (go_simp; rfl)); intro g211 hg w61 hbox hb; have n0_ := A0 (blk_below (g := g210) (o := .cells #[.int .i64 a0_0, .int .i64 a0_1, .string a0_2] 25 (0, 0)) Z27 hb); have n1_ := A0 (below_step Z24 hb); have n2_ := A0 (hbox); have n3_ := A0 ((Z21 : w.heap.size ≤ g211)); have n4_ := A0 ((Z21 : w.heap.size ≤ g211)); have n5_ := A0 ((Z6 : g210 ≠ g211)); have n6_ := A0 ((Z7 : g211 ≠ g210)); clear BK210; clear HB; have BK210 := n0_; have HB := n1_; have BK211 := n2_; have GW211 := n3_; have GE211 := n4_; have NB210_211 := n5_; have NB211_210 := n6_; clear n0_ n1_ n2_ n3_ n4_ n5_ n6_; clear hb hbox hg; have hnb62 := NB210_211.out; have hnc62 := NB211_210.out; have hcz63_0 : w61.cell? ⟨g210, 0, none⟩ = some (.int .i64 a0_0) := (blk_cell BK210.out 0).trans rfl; have hcz63_1 : w61.cell? ⟨g210, 1, none⟩ = some (.int .i64 a0_1) := (blk_cell BK210.out 1).trans rfl; have hcz63_2 : w61.cell? ⟨g210, 2, none⟩ = some (.string a0_2) := (blk_cell BK210.out 2).trans rfl; have hfz63_0 := blk_frozen BK210.out 0; have hfz63_1 := blk_frozen BK210.out 1; have hfz63_2 := blk_frozen BK210.out 2) | ((with_reducible refine gate_callee (f := 9) rfl ?_); refine goesL_ (some 12) rfl rfl Tryd.func9 Z32 rfl #[.agg #[.int .i64 a0_0, .int .i64 a0_1, .string a0_2], .int .i64 1048576] rfl Z25 ?_; (with_reducible refine (laws_szWay.calls a0_0 a0_1 a0_2 1048576 t212 _ A3.out).mono ?_); rintro e w64 ⟨rfl, hb⟩; refine ⟨_, rfl, ?_⟩; have n0_ := A0 (blk_below (g := g210) (o := .cells #[.int .i64 a0_0, .int .i64 a0_1, .string a0_2] 25 (0, 0)) Z27 hb); have n1_ := A0 (blk_below (g := g211) (o := .cells #[.int .i64 a1_0, .int .i64 a1_1, .string a1_2] 25 (0, 0)) Z28 hb); have n2_ := A0 (below_step Z22 hb); clear BK210; clear BK211; clear HB; have BK210 := n0_; have BK211 := n1_; have HB := n2_; clear n0_ n1_ n2_; (try clear hb); (try clear hb2); (try clear hk); (try clear hi); have hcz65_0 : w64.cell? ⟨g211, 0, none⟩ = some (.int .i64 a1_0) := (blk_cell BK211.out 0).trans rfl; have hcz65_1 : w64.cell? ⟨g211, 1, none⟩ = some (.int .i64 a1_1) := (blk_cell BK211.out 1).trans rfl; have hcz65_2 : w64.cell? ⟨g211, 2, none⟩ = some (.string a1_2) := (blk_cell BK211.out 2).trans rfl; have hfz65_0 := blk_frozen BK211.out 0; have hfz65_1 := blk_frozen BK211.out 1; have hfz65_2 := blk_frozen BK211.out 2) | ((with_reducible refine gate_callee (f := 9) rfl ?_); refine goesL_ (some 17) rfl rfl Tryd.func9 Z32 rfl #[.agg #[.int .i64 a1_0, .int .i64 a1_1, .string a1_2], .int .i64 t212] rfl Z25 ?_; (with_reducible refine (laws_szWay.calls a1_0 a1_1 a1_2 t212 t213 _ A10.out).mono ?_); rintro e w66 ⟨rfl, hb⟩; refine ⟨_, rfl, ?_⟩; have n0_ := A0 (blk_below (g := g210) (o := .cells #[.int .i64 a0_0, .int .i64 a0_1, .string a0_2] 25 (0, 0)) Z27 hb); have n1_ := A0 (blk_below (g := g211) (o := .cells #[.int .i64 a1_0, .int .i64 a1_1, .string a1_2] 25 (0, 0)) Z28 hb); have n2_ := A0 (below_step Z22 hb); clear BK210; clear BK211; clear HB; have BK210 := n0_; have BK211 := n1_; have HB := n2_; clear n0_ n1_ n2_; (try clear hb); (try clear hb2); (try clear hk); (try clear hi)))
          have n0_ := A0 (blk_drew BK210.out)
          have n1_ := A0 (blk_drew BK211.out)
          have n2_ := A0 (below_drew1 HB.out)
          clear BK210
          clear BK211
          clear HB
          have BK210 := n0_
          have BK211 := n1_
          have HB := n2_
          clear n0_ n1_ n2_
          refine start_ (n := 11) (S := fun w' => w'.cell? ⟨g210, 0, none⟩ = some (.int .i64 a0_0) ∧ w'.cell? ⟨g210, 1, none⟩ = some (.int .i64 a0_1) ∧ w'.cell? ⟨g210, 2, none⟩ = some (.string a0_2) ∧ w'.cell? ⟨g211, 0, none⟩ = some (.int .i64 a1_0) ∧ w'.cell? ⟨g211, 1, none⟩ = some (.int .i64 a1_1) ∧ w'.cell? ⟨g211, 2, none⟩ = some (.string a1_2)) (ds := []) #[false, false, false, false, false, false, false, false, false, false, false] Z32 rfl rfl ⟨(blk_cell BK210.out 0).trans rfl, (blk_cell BK210.out 1).trans rfl, (blk_cell BK210.out 2).trans rfl, (blk_cell BK211.out 0).trans rfl, (blk_cell BK211.out 1).trans rfl, (blk_cell BK211.out 2).trans rfl⟩ (fun hHeld => ?_); refine with_tabW laws_FnExactFirstMeetingOf.tab8 laws_FnExactFirstMeetingOf.bits8 (fun HT_ HW_ => ?_)
          generalize w66.drew = w67 at BK210 BK211 HB hHeld ⊢
          refine take_ (i := 0) (N := some 21) (v := ?_) (a' := ?_) #[true, false, false, false, false, false, false, false, false, false, false] rfl rfl (take_ofW HT_.out HW_.out Z32) (fun _ _ _ h => h) (Or.inl ⟨by rfl, ?_⟩) hHeld ?_ ?_
          rotate_left
          · rintro w' ⟨s0, s1, s2, s3, s4, s5⟩
            go_simp
            with_reducible rfl
          rotate_left
          · simp only [Act.put, y1, y2, y3, i64_w, i32_w]
            rfl
          refine take_ (i := 2) (N := some 23) (v := ?_) (a' := ?_) #[true, false, true, false, false, false, false, false, false, false, false] rfl rfl (take_ofW HT_.out HW_.out Z32) (fun _ _ _ h => h) (Or.inl ⟨by rfl, ?_⟩) hHeld ?_ ?_
          rotate_left
          · rintro w' ⟨s0, s1, s2, s3, s4, s5⟩
            go_simp
            with_reducible rfl
          rotate_left
          · simp only [Act.put, y1, y2, y3, i64_w, i32_w]
            rfl
          refine join_ (σ := Nat) 2 #[true, true, true, true, true, true, true, true, true, false, false] (fun s_ => [(22, .agg #[.int .i64 t214, .int .i64 t215, .string t216]), (24, .agg #[.int .i64 t217, .int .i64 t218, .string t219]), (25, .tuple #[.agg #[.int .i64 t220, .int .i64 t221], .bool t222]), (6, .pointer (some ⟨s_, 0, none⟩)), (20, .tuple #[.agg #[.int .i64 t220, .int .i64 t221], .bool t222]), (26, .agg #[.int .i64 t220, .int .i64 t221]), (27, .bool t222)]) (fun s_ w' => (w'.cell? ⟨g210, 0, none⟩ = some (.int .i64 a0_0) ∧ w'.cell? ⟨g210, 1, none⟩ = some (.int .i64 a0_1) ∧ w'.cell? ⟨g210, 2, none⟩ = some (.string a0_2) ∧ w'.cell? ⟨g211, 0, none⟩ = some (.int .i64 a1_0) ∧ w'.cell? ⟨g211, 1, none⟩ = some (.int .i64 a1_1) ∧ w'.cell? ⟨g211, 2, none⟩ = some (.string a1_2)) ∧ (w'.heap[g210]? = some (.cells #[.int .i64 a0_0, .int .i64 a0_1, .string a0_2] 25 (0, 0))) ∧ (w'.heap[g211]? = some (.cells #[.int .i64 a1_0, .int .i64 a1_1, .string a1_2] 25 (0, 0))) ∧ (w'.heap[s_]? = some (.cells #[.int .i64 0, .int .i64 0] 28 (0, 0))) ∧ (w.heap.size ≤ s_) ∧ (w.heap.size ≤ s_) ∧ (g210 ≠ s_) ∧ (s_ ≠ g210) ∧ (g211 ≠ s_) ∧ (s_ ≠ g211) ∧ (Below w.heap.size w w')) ?_ ?_
          rotate_left
          · intro hCont
            refine two_ (i := 1) (j := 8) (Ni := some 22) (Nj := some 6) #[true, true, true, false, false, false, false, false, false, false, false] #[true, false, true, false, false, false, false, false, true, false, false] rfl rfl rfl rfl (two_of HT_.out Z32) Z33 Z33 (fun K hK => ?_) (fun K hK => ?_)
            · skip
              refine goes_ Tryd.func11 Z32 rfl #[.agg #[.int .i64 a0_0, .int .i64 a0_1, .string a0_2]] (by rfl) rfl rfl Z25 ?_
              with_reducible refine (laws_toWay.calls a0_0 a0_1 a0_2 t214 t215 t216 _ A19.out).mono ?_
              rintro e w68 ⟨rfl, hb⟩
              refine ⟨_, rfl, ?_⟩
              have n0_ := A0 (blk_below (g := g210) (o := .cells #[.int .i64 a0_0, .int .i64 a0_1, .string a0_2] 25 (0, 0)) Z27 hb)
              have n1_ := A0 (blk_below (g := g211) (o := .cells #[.int .i64 a1_0, .int .i64 a1_1, .string a1_2] 25 (0, 0)) Z28 hb)
              have n2_ := A0 (below_step Z22 hb)
              clear BK210
              clear BK211
              clear HB
              have BK210 := n0_
              have BK211 := n1_
              have HB := n2_
              clear n0_ n1_ n2_
              (try clear hb)
              (try clear hb2)
              (try clear hk)
              (try clear hi)
              refine hK.out _ _ ⟨(blk_cell BK210.out 0).trans rfl, (blk_cell BK210.out 1).trans rfl, (blk_cell BK210.out 2).trans rfl, (blk_cell BK211.out 0).trans rfl, (blk_cell BK211.out 1).trans rfl, (blk_cell BK211.out 2).trans rfl⟩ (fun hHeld => ?_)
              clear hK K
              refine norm_ (a' := ?_) ?_ ?_
              rotate_left
              · show Act.put _ (some 22) _ = _
                simp only [Act.put, y1, y2, y3, i64_w, i32_w]
                rfl
              refine two_ (i := 3) (j := 8) (Ni := some 24) (Nj := some 6) #[true, true, true, true, false, false, false, false, false, false, false] #[true, true, true, false, false, false, false, false, true, false, false] rfl rfl rfl rfl (two_of HT_.out Z32) Z33 Z33 (fun K hK => ?_) (fun K hK => ?_)
              · skip
                refine goes_ Tryd.func11 Z32 rfl #[.agg #[.int .i64 a1_0, .int .i64 a1_1, .string a1_2]] (by rfl) rfl rfl Z25 ?_
                with_reducible refine (laws_toWay.calls a1_0 a1_1 a1_2 t217 t218 t219 _ A20.out).mono ?_
                rintro e w69 ⟨rfl, hb⟩
                refine ⟨_, rfl, ?_⟩
                have n0_ := A0 (blk_below (g := g210) (o := .cells #[.int .i64 a0_0, .int .i64 a0_1, .string a0_2] 25 (0, 0)) Z27 hb)
                have n1_ := A0 (blk_below (g := g211) (o := .cells #[.int .i64 a1_0, .int .i64 a1_1, .string a1_2] 25 (0, 0)) Z28 hb)
                have n2_ := A0 (below_step Z22 hb)
                clear BK210
                clear BK211
                clear HB
                have BK210 := n0_
                have BK211 := n1_
                have HB := n2_
                clear n0_ n1_ n2_
                (try clear hb)
                (try clear hb2)
                (try clear hk)
                (try clear hi)
                refine hK.out _ _ ⟨(blk_cell BK210.out 0).trans rfl, (blk_cell BK210.out 1).trans rfl, (blk_cell BK210.out 2).trans rfl, (blk_cell BK211.out 0).trans rfl, (blk_cell BK211.out 1).trans rfl, (blk_cell BK211.out 2).trans rfl⟩ (fun hHeld => ?_)
                clear hK K
                refine norm_ (a' := ?_) ?_ ?_
                rotate_left
                · show Act.put _ (some 24) _ = _
                  simp only [Act.put, y1, y2, y3, i64_w, i32_w]
                  rfl
                refine two_ (i := 4) (j := 8) (Ni := some 25) (Nj := some 6) #[true, true, true, true, true, false, false, false, false, false, false] #[true, true, true, true, false, false, false, false, true, false, false] rfl rfl rfl rfl (two_of HT_.out Z32) Z33 Z33 (fun K hK => ?_) (fun K hK => ?_)
                · skip
                  refine goes_ Tryd.func23 Z32 rfl #[.agg #[.int .i64 t214, .int .i64 t215, .string t216], .agg #[.int .i64 t217, .int .i64 t218, .string t219]] (by rfl) rfl rfl Z25 ?_
                  with_reducible refine (spec_FirstMeetingOf.calls k t214 t215 t216 t217 t218 t219 t220 t221 t222 _ A21.out).mono ?_
                  rintro e w70 ⟨rfl, hb⟩
                  refine ⟨_, rfl, ?_⟩
                  have n0_ := A0 (blk_below (g := g210) (o := .cells #[.int .i64 a0_0, .int .i64 a0_1, .string a0_2] 25 (0, 0)) Z27 hb)
                  have n1_ := A0 (blk_below (g := g211) (o := .cells #[.int .i64 a1_0, .int .i64 a1_1, .string a1_2] 25 (0, 0)) Z28 hb)
                  have n2_ := A0 (below_step Z22 hb)
                  clear BK210
                  clear BK211
                  clear HB
                  have BK210 := n0_
                  have BK211 := n1_
                  have HB := n2_
                  clear n0_ n1_ n2_
                  (try clear hb)
                  (try clear hb2)
                  (try clear hk)
                  (try clear hi)
                  refine hK.out _ _ ⟨(blk_cell BK210.out 0).trans rfl, (blk_cell BK210.out 1).trans rfl, (blk_cell BK210.out 2).trans rfl, (blk_cell BK211.out 0).trans rfl, (blk_cell BK211.out 1).trans rfl, (blk_cell BK211.out 2).trans rfl⟩ (fun hHeld => ?_)
                  clear hK K
                  refine norm_ (a' := ?_) ?_ ?_
                  rotate_left
                  · show Act.put _ (some 25) _ = _
                    simp only [Act.put, y1, y2, y3, i64_w, i32_w]
                    rfl
                  refine pure_ (i := 5) (N := some 20) (v := ?_) (a' := ?_) #[true, true, true, true, true, true, false, false, false, false, false] rfl rfl (any_of HT_.out Z32) (fun _ _ _ h => h) (Or.inl ⟨by rfl, ?_⟩) ?_ ?_
                  rotate_left
                  · intro w'
                    go_simp
                    with_reducible rfl
                  rotate_left
                  · simp only [Act.put, y1, y2, y3, i64_w, i32_w]
                    rfl
                  refine pure_ (i := 6) (N := some 26) (v := ?_) (a' := ?_) #[true, true, true, true, true, true, true, false, false, false, false] rfl rfl (any_of HT_.out Z32) (fun _ _ _ h => h) (Or.inl ⟨by rfl, ?_⟩) ?_ ?_
                  rotate_left
                  · intro w'
                    go_simp
                    with_reducible rfl
                  rotate_left
                  · simp only [Act.put, y1, y2, y3, i64_w, i32_w]
                    rfl
                  refine pure_ (i := 7) (N := some 27) (v := ?_) (a' := ?_) #[true, true, true, true, true, true, true, true, false, false, false] rfl rfl (any_of HT_.out Z32) (fun _ _ _ h => h) (Or.inl ⟨by rfl, ?_⟩) ?_ ?_
                  rotate_left
                  · intro w'
                    go_simp
                    with_reducible rfl
                  rotate_left
                  · simp only [Act.put, y1, y2, y3, i64_w, i32_w]
                    rfl
                  refine one_ (i := 8) (N := some 6) #[true, true, true, true, true, true, true, true, true, false, false] rfl rfl (one_of HT_.out Z32) Z33 (fun K hK => ?_)
                  refine box_step ?hg (N := 6) ?hd (cs := #[.int .i64 0, .int .i64 0]) (t := 28) ?hr ?_; (case hd => rfl); (case hg => rfl); (case hr => first | (go_simp; done) | (go_simp; rfl))
                  intro g223 hg w71 hbox hb
                  have n0_ := A0 (blk_below (g := g210) (o := .cells #[.int .i64 a0_0, .int .i64 a0_1, .string a0_2] 25 (0, 0)) Z27 hb)
                  have n1_ := A0 (blk_below (g := g211) (o := .cells #[.int .i64 a1_0, .int .i64 a1_1, .string a1_2] 25 (0, 0)) Z28 hb)
                  have n2_ := A0 (below_step Z22 hb)
                  have n3_ := A0 (hbox)
                  have n4_ := A0 ((Z17 : w.heap.size ≤ g223))
                  have n5_ := A0 ((Z17 : w.heap.size ≤ g223))
                  have n6_ := A0 ((Z8 : g210 ≠ g223))
                  have n7_ := A0 ((Z9 : g223 ≠ g210))
                  have n8_ := A0 ((Z10 : g211 ≠ g223))
                  have n9_ := A0 ((Z11 : g223 ≠ g211))
                  clear BK210
                  clear BK211
                  clear HB
                  have BK210 := n0_
                  have BK211 := n1_
                  have HB := n2_
                  have BK223 := n3_
                  have GW223 := n4_
                  have GE223 := n5_
                  have NB210_223 := n6_
                  have NB223_210 := n7_
                  have NB211_223 := n8_
                  have NB223_211 := n9_
                  clear n0_ n1_ n2_ n3_ n4_ n5_ n6_ n7_ n8_ n9_
                  clear hb hbox hg
                  refine hK.out _ _ ⟨(blk_cell BK210.out 0).trans rfl, (blk_cell BK210.out 1).trans rfl, (blk_cell BK210.out 2).trans rfl, (blk_cell BK211.out 0).trans rfl, (blk_cell BK211.out 1).trans rfl, (blk_cell BK211.out 2).trans rfl⟩ (fun hHeld => ?_)
                  clear hK K
                  refine norm_ (a' := ?_) ?_ ?_
                  rotate_left
                  · show Act.put _ (some 6) _ = _
                    simp only [Act.put, y1, y2, y3, i64_w, i32_w]
                    rfl
                  exact norm_ Z31 (hCont (g223) _ ⟨hHeld, Z27, Z28, Z29, GW223.out, GE223.out, NB210_223.out, NB223_210.out, NB211_223.out, NB223_211.out, Z20⟩)
                · skip
                  refine box_step ?hg (N := 6) ?hd (cs := #[.int .i64 0, .int .i64 0]) (t := 28) ?hr ?_; (case hd => rfl); (case hg => rfl); (case hr => first | (go_simp; done) | (go_simp; rfl))
                  intro g223 hg w70 hbox hb
                  have n0_ := A0 (blk_below (g := g210) (o := .cells #[.int .i64 a0_0, .int .i64 a0_1, .string a0_2] 25 (0, 0)) Z27 hb)
                  have n1_ := A0 (blk_below (g := g211) (o := .cells #[.int .i64 a1_0, .int .i64 a1_1, .string a1_2] 25 (0, 0)) Z28 hb)
                  have n2_ := A0 (below_step Z22 hb)
                  have n3_ := A0 (hbox)
                  have n4_ := A0 ((Z17 : w.heap.size ≤ g223))
                  have n5_ := A0 ((Z17 : w.heap.size ≤ g223))
                  have n6_ := A0 ((Z8 : g210 ≠ g223))
                  have n7_ := A0 ((Z9 : g223 ≠ g210))
                  have n8_ := A0 ((Z10 : g211 ≠ g223))
                  have n9_ := A0 ((Z11 : g223 ≠ g211))
                  clear BK210
                  clear BK211
                  clear HB
                  have BK210 := n0_
                  have BK211 := n1_
                  have HB := n2_
                  have BK223 := n3_
                  have GW223 := n4_
                  have GE223 := n5_
                  have NB210_223 := n6_
                  have NB223_210 := n7_
                  have NB211_223 := n8_
                  have NB223_211 := n9_
                  clear n0_ n1_ n2_ n3_ n4_ n5_ n6_ n7_ n8_ n9_
                  clear hb hbox hg
                  refine hK.out _ _ ⟨(blk_cell BK210.out 0).trans rfl, (blk_cell BK210.out 1).trans rfl, (blk_cell BK210.out 2).trans rfl, (blk_cell BK211.out 0).trans rfl, (blk_cell BK211.out 1).trans rfl, (blk_cell BK211.out 2).trans rfl⟩ (fun hHeld => ?_)
                  clear hK K
                  refine norm_ (a' := ?_) ?_ ?_
                  rotate_left
                  · show Act.put _ (some 6) _ = _
                    simp only [Act.put, y1, y2, y3, i64_w, i32_w]
                    rfl
                  refine one_ (i := 4) (N := some 25) #[true, true, true, true, true, false, false, false, true, false, false] rfl rfl (one_of HT_.out Z32) Z33 (fun K hK => ?_)
                  refine goes_ Tryd.func23 Z32 rfl #[.agg #[.int .i64 t214, .int .i64 t215, .string t216], .agg #[.int .i64 t217, .int .i64 t218, .string t219]] (by rfl) rfl rfl Z25 ?_
                  with_reducible refine (spec_FirstMeetingOf.calls k t214 t215 t216 t217 t218 t219 t220 t221 t222 _ A21.out).mono ?_
                  rintro e w71 ⟨rfl, hb⟩
                  refine ⟨_, rfl, ?_⟩
                  have n0_ := A0 (blk_below (g := g210) (o := .cells #[.int .i64 a0_0, .int .i64 a0_1, .string a0_2] 25 (0, 0)) Z27 hb)
                  have n1_ := A0 (blk_below (g := g211) (o := .cells #[.int .i64 a1_0, .int .i64 a1_1, .string a1_2] 25 (0, 0)) Z28 hb)
                  have n2_ := A0 (blk_below (g := g223) (o := .cells #[.int .i64 0, .int .i64 0] 28 (0, 0)) Z29 hb)
                  have n3_ := A0 (below_step Z20 hb)
                  clear BK210
                  clear BK211
                  clear BK223
                  clear HB
                  have BK210 := n0_
                  have BK211 := n1_
                  have BK223 := n2_
                  have HB := n3_
                  clear n0_ n1_ n2_ n3_
                  (try clear hb)
                  (try clear hb2)
                  (try clear hk)
                  (try clear hi)
                  refine hK.out _ _ ⟨(blk_cell BK210.out 0).trans rfl, (blk_cell BK210.out 1).trans rfl, (blk_cell BK210.out 2).trans rfl, (blk_cell BK211.out 0).trans rfl, (blk_cell BK211.out 1).trans rfl, (blk_cell BK211.out 2).trans rfl⟩ (fun hHeld => ?_)
                  clear hK K
                  refine norm_ (a' := ?_) ?_ ?_
                  rotate_left
                  · show Act.put _ (some 25) _ = _
                    simp only [Act.put, y1, y2, y3, i64_w, i32_w]
                    rfl
                  refine pure_ (i := 5) (N := some 20) (v := ?_) (a' := ?_) #[true, true, true, true, true, true, false, false, true, false, false] rfl rfl (any_of HT_.out Z32) (fun _ _ _ h => h) (Or.inl ⟨by rfl, ?_⟩) ?_ ?_
                  rotate_left
                  · intro w'
                    go_simp
                    with_reducible rfl
                  rotate_left
                  · simp only [Act.put, y1, y2, y3, i64_w, i32_w]
                    rfl
                  refine pure_ (i := 6) (N := some 26) (v := ?_) (a' := ?_) #[true, true, true, true, true, true, true, false, true, false, false] rfl rfl (any_of HT_.out Z32) (fun _ _ _ h => h) (Or.inl ⟨by rfl, ?_⟩) ?_ ?_
                  rotate_left
                  · intro w'
                    go_simp
                    with_reducible rfl
                  rotate_left
                  · simp only [Act.put, y1, y2, y3, i64_w, i32_w]
                    rfl
                  refine pure_ (i := 7) (N := some 27) (v := ?_) (a' := ?_) #[true, true, true, true, true, true, true, true, true, false, false] rfl rfl (any_of HT_.out Z32) (fun _ _ _ h => h) (Or.inl ⟨by rfl, ?_⟩) ?_ ?_
                  rotate_left
                  · intro w'
                    go_simp
                    with_reducible rfl
                  rotate_left
                  · simp only [Act.put, y1, y2, y3, i64_w, i32_w]
                    rfl
                  exact norm_ Z31 (hCont (g223) _ ⟨hHeld, Z27, Z28, Z29, GW223.out, GE223.out, NB210_223.out, NB223_210.out, NB211_223.out, NB223_211.out, Z20⟩)
              · skip
                refine box_step ?hg (N := 6) ?hd (cs := #[.int .i64 0, .int .i64 0]) (t := 28) ?hr ?_; (case hd => rfl); (case hg => rfl); (case hr => first | (go_simp; done) | (go_simp; rfl))
                intro g223 hg w69 hbox hb
                have n0_ := A0 (blk_below (g := g210) (o := .cells #[.int .i64 a0_0, .int .i64 a0_1, .string a0_2] 25 (0, 0)) Z27 hb)
                have n1_ := A0 (blk_below (g := g211) (o := .cells #[.int .i64 a1_0, .int .i64 a1_1, .string a1_2] 25 (0, 0)) Z28 hb)
                have n2_ := A0 (below_step Z22 hb)
                have n3_ := A0 (hbox)
                have n4_ := A0 ((Z17 : w.heap.size ≤ g223))
                have n5_ := A0 ((Z17 : w.heap.size ≤ g223))
                have n6_ := A0 ((Z8 : g210 ≠ g223))
                have n7_ := A0 ((Z9 : g223 ≠ g210))
                have n8_ := A0 ((Z10 : g211 ≠ g223))
                have n9_ := A0 ((Z11 : g223 ≠ g211))
                clear BK210
                clear BK211
                clear HB
                have BK210 := n0_
                have BK211 := n1_
                have HB := n2_
                have BK223 := n3_
                have GW223 := n4_
                have GE223 := n5_
                have NB210_223 := n6_
                have NB223_210 := n7_
                have NB211_223 := n8_
                have NB223_211 := n9_
                clear n0_ n1_ n2_ n3_ n4_ n5_ n6_ n7_ n8_ n9_
                clear hb hbox hg
                refine hK.out _ _ ⟨(blk_cell BK210.out 0).trans rfl, (blk_cell BK210.out 1).trans rfl, (blk_cell BK210.out 2).trans rfl, (blk_cell BK211.out 0).trans rfl, (blk_cell BK211.out 1).trans rfl, (blk_cell BK211.out 2).trans rfl⟩ (fun hHeld => ?_)
                clear hK K
                refine norm_ (a' := ?_) ?_ ?_
                rotate_left
                · show Act.put _ (some 6) _ = _
                  simp only [Act.put, y1, y2, y3, i64_w, i32_w]
                  rfl
                refine one_ (i := 3) (N := some 24) #[true, true, true, true, false, false, false, false, true, false, false] rfl rfl (one_of HT_.out Z32) Z33 (fun K hK => ?_)
                refine goes_ Tryd.func11 Z32 rfl #[.agg #[.int .i64 a1_0, .int .i64 a1_1, .string a1_2]] (by rfl) rfl rfl Z25 ?_
                with_reducible refine (laws_toWay.calls a1_0 a1_1 a1_2 t217 t218 t219 _ A20.out).mono ?_
                rintro e w70 ⟨rfl, hb⟩
                refine ⟨_, rfl, ?_⟩
                have n0_ := A0 (blk_below (g := g210) (o := .cells #[.int .i64 a0_0, .int .i64 a0_1, .string a0_2] 25 (0, 0)) Z27 hb)
                have n1_ := A0 (blk_below (g := g211) (o := .cells #[.int .i64 a1_0, .int .i64 a1_1, .string a1_2] 25 (0, 0)) Z28 hb)
                have n2_ := A0 (blk_below (g := g223) (o := .cells #[.int .i64 0, .int .i64 0] 28 (0, 0)) Z29 hb)
                have n3_ := A0 (below_step Z20 hb)
                clear BK210
                clear BK211
                clear BK223
                clear HB
                have BK210 := n0_
                have BK211 := n1_
                have BK223 := n2_
                have HB := n3_
                clear n0_ n1_ n2_ n3_
                (try clear hb)
                (try clear hb2)
                (try clear hk)
                (try clear hi)
                refine hK.out _ _ ⟨(blk_cell BK210.out 0).trans rfl, (blk_cell BK210.out 1).trans rfl, (blk_cell BK210.out 2).trans rfl, (blk_cell BK211.out 0).trans rfl, (blk_cell BK211.out 1).trans rfl, (blk_cell BK211.out 2).trans rfl⟩ (fun hHeld => ?_)
                clear hK K
                refine norm_ (a' := ?_) ?_ ?_
                rotate_left
                · show Act.put _ (some 24) _ = _
                  simp only [Act.put, y1, y2, y3, i64_w, i32_w]
                  rfl
                refine one_ (i := 4) (N := some 25) #[true, true, true, true, true, false, false, false, true, false, false] rfl rfl (one_of HT_.out Z32) Z33 (fun K hK => ?_)
                refine goes_ Tryd.func23 Z32 rfl #[.agg #[.int .i64 t214, .int .i64 t215, .string t216], .agg #[.int .i64 t217, .int .i64 t218, .string t219]] (by rfl) rfl rfl Z25 ?_
                with_reducible refine (spec_FirstMeetingOf.calls k t214 t215 t216 t217 t218 t219 t220 t221 t222 _ A21.out).mono ?_
                rintro e w71 ⟨rfl, hb⟩
                refine ⟨_, rfl, ?_⟩
                have n0_ := A0 (blk_below (g := g210) (o := .cells #[.int .i64 a0_0, .int .i64 a0_1, .string a0_2] 25 (0, 0)) Z27 hb)
                have n1_ := A0 (blk_below (g := g211) (o := .cells #[.int .i64 a1_0, .int .i64 a1_1, .string a1_2] 25 (0, 0)) Z28 hb)
                have n2_ := A0 (blk_below (g := g223) (o := .cells #[.int .i64 0, .int .i64 0] 28 (0, 0)) Z29 hb)
                have n3_ := A0 (below_step Z20 hb)
                clear BK210
                clear BK211
                clear BK223
                clear HB
                have BK210 := n0_
                have BK211 := n1_
                have BK223 := n2_
                have HB := n3_
                clear n0_ n1_ n2_ n3_
                (try clear hb)
                (try clear hb2)
                (try clear hk)
                (try clear hi)
                refine hK.out _ _ ⟨(blk_cell BK210.out 0).trans rfl, (blk_cell BK210.out 1).trans rfl, (blk_cell BK210.out 2).trans rfl, (blk_cell BK211.out 0).trans rfl, (blk_cell BK211.out 1).trans rfl, (blk_cell BK211.out 2).trans rfl⟩ (fun hHeld => ?_)
                clear hK K
                refine norm_ (a' := ?_) ?_ ?_
                rotate_left
                · show Act.put _ (some 25) _ = _
                  simp only [Act.put, y1, y2, y3, i64_w, i32_w]
                  rfl
                refine pure_ (i := 5) (N := some 20) (v := ?_) (a' := ?_) #[true, true, true, true, true, true, false, false, true, false, false] rfl rfl (any_of HT_.out Z32) (fun _ _ _ h => h) (Or.inl ⟨by rfl, ?_⟩) ?_ ?_
                rotate_left
                · intro w'
                  go_simp
                  with_reducible rfl
                rotate_left
                · simp only [Act.put, y1, y2, y3, i64_w, i32_w]
                  rfl
                refine pure_ (i := 6) (N := some 26) (v := ?_) (a' := ?_) #[true, true, true, true, true, true, true, false, true, false, false] rfl rfl (any_of HT_.out Z32) (fun _ _ _ h => h) (Or.inl ⟨by rfl, ?_⟩) ?_ ?_
                rotate_left
                · intro w'
                  go_simp
                  with_reducible rfl
                rotate_left
                · simp only [Act.put, y1, y2, y3, i64_w, i32_w]
                  rfl
                refine pure_ (i := 7) (N := some 27) (v := ?_) (a' := ?_) #[true, true, true, true, true, true, true, true, true, false, false] rfl rfl (any_of HT_.out Z32) (fun _ _ _ h => h) (Or.inl ⟨by rfl, ?_⟩) ?_ ?_
                rotate_left
                · intro w'
                  go_simp
                  with_reducible rfl
                rotate_left
                · simp only [Act.put, y1, y2, y3, i64_w, i32_w]
                  rfl
                exact norm_ Z31 (hCont (g223) _ ⟨hHeld, Z27, Z28, Z29, GW223.out, GE223.out, NB210_223.out, NB223_210.out, NB211_223.out, NB223_211.out, Z20⟩)
            · skip
              refine box_step ?hg (N := 6) ?hd (cs := #[.int .i64 0, .int .i64 0]) (t := 28) ?hr ?_; (case hd => rfl); (case hg => rfl); (case hr => first | (go_simp; done) | (go_simp; rfl))
              intro g223 hg w68 hbox hb
              have n0_ := A0 (blk_below (g := g210) (o := .cells #[.int .i64 a0_0, .int .i64 a0_1, .string a0_2] 25 (0, 0)) Z27 hb)
              have n1_ := A0 (blk_below (g := g211) (o := .cells #[.int .i64 a1_0, .int .i64 a1_1, .string a1_2] 25 (0, 0)) Z28 hb)
              have n2_ := A0 (below_step Z22 hb)
              have n3_ := A0 (hbox)
              have n4_ := A0 ((Z17 : w.heap.size ≤ g223))
              have n5_ := A0 ((Z17 : w.heap.size ≤ g223))
              have n6_ := A0 ((Z8 : g210 ≠ g223))
              have n7_ := A0 ((Z9 : g223 ≠ g210))
              have n8_ := A0 ((Z10 : g211 ≠ g223))
              have n9_ := A0 ((Z11 : g223 ≠ g211))
              clear BK210
              clear BK211
              clear HB
              have BK210 := n0_
              have BK211 := n1_
              have HB := n2_
              have BK223 := n3_
              have GW223 := n4_
              have GE223 := n5_
              have NB210_223 := n6_
              have NB223_210 := n7_
              have NB211_223 := n8_
              have NB223_211 := n9_
              clear n0_ n1_ n2_ n3_ n4_ n5_ n6_ n7_ n8_ n9_
              clear hb hbox hg
              refine hK.out _ _ ⟨(blk_cell BK210.out 0).trans rfl, (blk_cell BK210.out 1).trans rfl, (blk_cell BK210.out 2).trans rfl, (blk_cell BK211.out 0).trans rfl, (blk_cell BK211.out 1).trans rfl, (blk_cell BK211.out 2).trans rfl⟩ (fun hHeld => ?_)
              clear hK K
              refine norm_ (a' := ?_) ?_ ?_
              rotate_left
              · show Act.put _ (some 6) _ = _
                simp only [Act.put, y1, y2, y3, i64_w, i32_w]
                rfl
              refine one_ (i := 1) (N := some 22) #[true, true, true, false, false, false, false, false, true, false, false] rfl rfl (one_of HT_.out Z32) Z33 (fun K hK => ?_)
              refine goes_ Tryd.func11 Z32 rfl #[.agg #[.int .i64 a0_0, .int .i64 a0_1, .string a0_2]] (by rfl) rfl rfl Z25 ?_
              with_reducible refine (laws_toWay.calls a0_0 a0_1 a0_2 t214 t215 t216 _ A19.out).mono ?_
              rintro e w69 ⟨rfl, hb⟩
              refine ⟨_, rfl, ?_⟩
              have n0_ := A0 (blk_below (g := g210) (o := .cells #[.int .i64 a0_0, .int .i64 a0_1, .string a0_2] 25 (0, 0)) Z27 hb)
              have n1_ := A0 (blk_below (g := g211) (o := .cells #[.int .i64 a1_0, .int .i64 a1_1, .string a1_2] 25 (0, 0)) Z28 hb)
              have n2_ := A0 (blk_below (g := g223) (o := .cells #[.int .i64 0, .int .i64 0] 28 (0, 0)) Z29 hb)
              have n3_ := A0 (below_step Z20 hb)
              clear BK210
              clear BK211
              clear BK223
              clear HB
              have BK210 := n0_
              have BK211 := n1_
              have BK223 := n2_
              have HB := n3_
              clear n0_ n1_ n2_ n3_
              (try clear hb)
              (try clear hb2)
              (try clear hk)
              (try clear hi)
              refine hK.out _ _ ⟨(blk_cell BK210.out 0).trans rfl, (blk_cell BK210.out 1).trans rfl, (blk_cell BK210.out 2).trans rfl, (blk_cell BK211.out 0).trans rfl, (blk_cell BK211.out 1).trans rfl, (blk_cell BK211.out 2).trans rfl⟩ (fun hHeld => ?_)
              clear hK K
              refine norm_ (a' := ?_) ?_ ?_
              rotate_left
              · show Act.put _ (some 22) _ = _
                simp only [Act.put, y1, y2, y3, i64_w, i32_w]
                rfl
              refine one_ (i := 3) (N := some 24) #[true, true, true, true, false, false, false, false, true, false, false] rfl rfl (one_of HT_.out Z32) Z33 (fun K hK => ?_)
              refine goes_ Tryd.func11 Z32 rfl #[.agg #[.int .i64 a1_0, .int .i64 a1_1, .string a1_2]] (by rfl) rfl rfl Z25 ?_
              with_reducible refine (laws_toWay.calls a1_0 a1_1 a1_2 t217 t218 t219 _ A20.out).mono ?_
              rintro e w70 ⟨rfl, hb⟩
              refine ⟨_, rfl, ?_⟩
              have n0_ := A0 (blk_below (g := g210) (o := .cells #[.int .i64 a0_0, .int .i64 a0_1, .string a0_2] 25 (0, 0)) Z27 hb)
              have n1_ := A0 (blk_below (g := g211) (o := .cells #[.int .i64 a1_0, .int .i64 a1_1, .string a1_2] 25 (0, 0)) Z28 hb)
              have n2_ := A0 (blk_below (g := g223) (o := .cells #[.int .i64 0, .int .i64 0] 28 (0, 0)) Z29 hb)
              have n3_ := A0 (below_step Z20 hb)
              clear BK210
              clear BK211
              clear BK223
              clear HB
              have BK210 := n0_
              have BK211 := n1_
              have BK223 := n2_
              have HB := n3_
              clear n0_ n1_ n2_ n3_
              (try clear hb)
              (try clear hb2)
              (try clear hk)
              (try clear hi)
              refine hK.out _ _ ⟨(blk_cell BK210.out 0).trans rfl, (blk_cell BK210.out 1).trans rfl, (blk_cell BK210.out 2).trans rfl, (blk_cell BK211.out 0).trans rfl, (blk_cell BK211.out 1).trans rfl, (blk_cell BK211.out 2).trans rfl⟩ (fun hHeld => ?_)
              clear hK K
              refine norm_ (a' := ?_) ?_ ?_
              rotate_left
              · show Act.put _ (some 24) _ = _
                simp only [Act.put, y1, y2, y3, i64_w, i32_w]
                rfl
              refine one_ (i := 4) (N := some 25) #[true, true, true, true, true, false, false, false, true, false, false] rfl rfl (one_of HT_.out Z32) Z33 (fun K hK => ?_)
              refine goes_ Tryd.func23 Z32 rfl #[.agg #[.int .i64 t214, .int .i64 t215, .string t216], .agg #[.int .i64 t217, .int .i64 t218, .string t219]] (by rfl) rfl rfl Z25 ?_
              with_reducible refine (spec_FirstMeetingOf.calls k t214 t215 t216 t217 t218 t219 t220 t221 t222 _ A21.out).mono ?_
              rintro e w71 ⟨rfl, hb⟩
              refine ⟨_, rfl, ?_⟩
              have n0_ := A0 (blk_below (g := g210) (o := .cells #[.int .i64 a0_0, .int .i64 a0_1, .string a0_2] 25 (0, 0)) Z27 hb)
              have n1_ := A0 (blk_below (g := g211) (o := .cells #[.int .i64 a1_0, .int .i64 a1_1, .string a1_2] 25 (0, 0)) Z28 hb)
              have n2_ := A0 (blk_below (g := g223) (o := .cells #[.int .i64 0, .int .i64 0] 28 (0, 0)) Z29 hb)
              have n3_ := A0 (below_step Z20 hb)
              clear BK210
              clear BK211
              clear BK223
              clear HB
              have BK210 := n0_
              have BK211 := n1_
              have BK223 := n2_
              have HB := n3_
              clear n0_ n1_ n2_ n3_
              (try clear hb)
              (try clear hb2)
              (try clear hk)
              (try clear hi)
              refine hK.out _ _ ⟨(blk_cell BK210.out 0).trans rfl, (blk_cell BK210.out 1).trans rfl, (blk_cell BK210.out 2).trans rfl, (blk_cell BK211.out 0).trans rfl, (blk_cell BK211.out 1).trans rfl, (blk_cell BK211.out 2).trans rfl⟩ (fun hHeld => ?_)
              clear hK K
              refine norm_ (a' := ?_) ?_ ?_
              rotate_left
              · show Act.put _ (some 25) _ = _
                simp only [Act.put, y1, y2, y3, i64_w, i32_w]
                rfl
              refine pure_ (i := 5) (N := some 20) (v := ?_) (a' := ?_) #[true, true, true, true, true, true, false, false, true, false, false] rfl rfl (any_of HT_.out Z32) (fun _ _ _ h => h) (Or.inl ⟨by rfl, ?_⟩) ?_ ?_
              rotate_left
              · intro w'
                go_simp
                with_reducible rfl
              rotate_left
              · simp only [Act.put, y1, y2, y3, i64_w, i32_w]
                rfl
              refine pure_ (i := 6) (N := some 26) (v := ?_) (a' := ?_) #[true, true, true, true, true, true, true, false, true, false, false] rfl rfl (any_of HT_.out Z32) (fun _ _ _ h => h) (Or.inl ⟨by rfl, ?_⟩) ?_ ?_
              rotate_left
              · intro w'
                go_simp
                with_reducible rfl
              rotate_left
              · simp only [Act.put, y1, y2, y3, i64_w, i32_w]
                rfl
              refine pure_ (i := 7) (N := some 27) (v := ?_) (a' := ?_) #[true, true, true, true, true, true, true, true, true, false, false] rfl rfl (any_of HT_.out Z32) (fun _ _ _ h => h) (Or.inl ⟨by rfl, ?_⟩) ?_ ?_
              rotate_left
              · intro w'
                go_simp
                with_reducible rfl
              rotate_left
              · simp only [Act.put, y1, y2, y3, i64_w, i32_w]
                rfl
              exact norm_ Z31 (hCont (g223) _ ⟨hHeld, Z27, Z28, Z29, GW223.out, GE223.out, NB210_223.out, NB223_210.out, NB211_223.out, NB223_211.out, Z20⟩)
          rintro g223 w72 ⟨hS_, h0_, h1_, h2_, h3_, h4_, h5_, h6_, h7_, h8_, h9_⟩
          have n0_ : Aside0 (w72.heap[g210]? = some (.cells #[.int .i64 a0_0, .int .i64 a0_1, .string a0_2] 25 (0, 0))) := ⟨h0_⟩
          have n1_ : Aside0 (w72.heap[g211]? = some (.cells #[.int .i64 a1_0, .int .i64 a1_1, .string a1_2] 25 (0, 0))) := ⟨h1_⟩
          have n2_ : Aside0 (w72.heap[g223]? = some (.cells #[.int .i64 0, .int .i64 0] 28 (0, 0))) := ⟨h2_⟩
          have n3_ : Aside0 (w.heap.size ≤ g223) := ⟨h3_⟩
          have n4_ : Aside0 (w.heap.size ≤ g223) := ⟨h4_⟩
          have n5_ : Aside0 (g210 ≠ g223) := ⟨h5_⟩
          have n6_ : Aside0 (g223 ≠ g210) := ⟨h6_⟩
          have n7_ : Aside0 (g211 ≠ g223) := ⟨h7_⟩
          have n8_ : Aside0 (g223 ≠ g211) := ⟨h8_⟩
          have n9_ : Aside0 (Below w.heap.size w w72) := ⟨h9_⟩
          clear BK210
          clear BK211
          clear HB
          clear h0_ h1_ h2_ h3_ h4_ h5_ h6_ h7_ h8_ h9_
          have BK210 := n0_
          have BK211 := n1_
          have BK223 := n2_
          have GW223 := n3_
          have GE223 := n4_
          have NB210_223 := n5_
          have NB223_210 := n6_
          have NB211_223 := n7_
          have NB223_211 := n8_
          have HB := n9_
          clear n0_ n1_ n2_ n3_ n4_ n5_ n6_ n7_ n8_ n9_
          have hHeld : w72.cell? ⟨g210, 0, none⟩ = some (.int .i64 a0_0) ∧ w72.cell? ⟨g210, 1, none⟩ = some (.int .i64 a0_1) ∧ w72.cell? ⟨g210, 2, none⟩ = some (.string a0_2) ∧ w72.cell? ⟨g211, 0, none⟩ = some (.int .i64 a1_0) ∧ w72.cell? ⟨g211, 1, none⟩ = some (.int .i64 a1_1) ∧ w72.cell? ⟨g211, 2, none⟩ = some (.string a1_2) := hS_
          refine norm_ (a' := ?_) ?_ ?_
          rotate_left
          · simp only [putAll, Act.put, y1, y2, y3]
            rfl
          refine one_ (i := 9) (N := none) #[true, true, true, true, true, true, true, true, true, true, false] rfl rfl (one_of HT_.out Z32) Z33 (fun K hK => ?_)
          have hs73 : w72.cell? ⟨g223, 0, none⟩ = some (.int .i64 0) := (blk_cell BK223.out 0).trans rfl
          have hfs73 := blk_frozen BK223.out 0
          have hns73_0 := NB210_223.out
          have hns73_1 := NB211_223.out
          have hms73_0 := NB223_210.out
          have hms73_1 := NB223_211.out
          have hs74 : w72.cell? ⟨g223, 1, none⟩ = some (.int .i64 0) := (blk_cell BK223.out 1).trans rfl
          have hfs74 := blk_frozen BK223.out 1
          have hns74_0 := NB210_223.out
          have hns74_1 := NB211_223.out
          have hms74_0 := NB223_210.out
          have hms74_1 := NB223_211.out
          refine skip_ (w1 := ?_) (by rfl) rfl ?_ ?_
          rotate_left
          · go_simp
            rfl
          refine hK.out _ _ ⟨((cell_far (p := ⟨g223, _, none⟩) NB210_223.out _).trans (((cell_far (p := ⟨g223, _, none⟩) NB210_223.out _).trans (hHeld.1)))), ((cell_far (p := ⟨g223, _, none⟩) NB210_223.out _).trans (((cell_far (p := ⟨g223, _, none⟩) NB210_223.out _).trans (hHeld.2.1)))), ((cell_far (p := ⟨g223, _, none⟩) NB210_223.out _).trans (((cell_far (p := ⟨g223, _, none⟩) NB210_223.out _).trans (hHeld.2.2.1)))), ((cell_far (p := ⟨g223, _, none⟩) NB211_223.out _).trans (((cell_far (p := ⟨g223, _, none⟩) NB211_223.out _).trans (hHeld.2.2.2.1)))), ((cell_far (p := ⟨g223, _, none⟩) NB211_223.out _).trans (((cell_far (p := ⟨g223, _, none⟩) NB211_223.out _).trans (hHeld.2.2.2.2.1)))), ((cell_far (p := ⟨g223, _, none⟩) NB211_223.out _).trans (((cell_far (p := ⟨g223, _, none⟩) NB211_223.out _).trans (hHeld.2.2.2.2.2))))⟩ (fun hHeld => ?_)
          clear hK K
          refine pure_ (i := 10) (N := some 7) (v := ?_) (a' := ?_) #[true, true, true, true, true, true, true, true, true, true, true] rfl rfl (any_of HT_.out Z32) (fun _ _ _ h => h) (Or.inl ⟨by rfl, ?_⟩) ?_ ?_
          rotate_left
          · intro w'
            go_simp
            with_reducible rfl
          rotate_left
          · simp only [Act.put, y1, y2, y3, i64_w, i32_w]
            rfl
          refine done_ (done_of HT_.out Z32) ?_
          try go_wp2
          have n0_ : Aside0 (((w72.setCell ⟨g223, 0, none⟩ (.int .i64 t220)).setCell ⟨g223, 1, none⟩ (.int .i64 t221)).heap[g210]? = some (.cells #[.int .i64 a0_0, .int .i64 a0_1, .string a0_2] 25 (0, 0))) := ⟨by (with_reducible repeat (first | refine blk_drewN ?_ _ | refine blk_drew ?_ | refine blk_alloc ?_ _)); refine blk_far ?_ NB210_223.out _; (with_reducible repeat (first | refine blk_drewN ?_ _ | refine blk_drew ?_ | refine blk_alloc ?_ _)); refine blk_far ?_ NB210_223.out _; (with_reducible repeat (first | refine blk_drewN ?_ _ | refine blk_drew ?_ | refine blk_alloc ?_ _)); exact BK210.out⟩
          have n1_ : Aside0 (((w72.setCell ⟨g223, 0, none⟩ (.int .i64 t220)).setCell ⟨g223, 1, none⟩ (.int .i64 t221)).heap[g211]? = some (.cells #[.int .i64 a1_0, .int .i64 a1_1, .string a1_2] 25 (0, 0))) := ⟨by (with_reducible repeat (first | refine blk_drewN ?_ _ | refine blk_drew ?_ | refine blk_alloc ?_ _)); refine blk_far ?_ NB211_223.out _; (with_reducible repeat (first | refine blk_drewN ?_ _ | refine blk_drew ?_ | refine blk_alloc ?_ _)); refine blk_far ?_ NB211_223.out _; (with_reducible repeat (first | refine blk_drewN ?_ _ | refine blk_drew ?_ | refine blk_alloc ?_ _)); exact BK211.out⟩
          have n2_ : Aside0 (((w72.setCell ⟨g223, 0, none⟩ (.int .i64 t220)).setCell ⟨g223, 1, none⟩ (.int .i64 t221)).heap[g223]? = some (.cells #[.int .i64 t220, .int .i64 t221] 28 (0, 0))) := ⟨by (with_reducible repeat (first | refine blk_drewN ?_ _ | refine blk_drew ?_ | refine blk_alloc ?_ _)); refine blk_put (cs := #[.int .i64 t220, .int .i64 0]) ?_ 1 _ rfl; (with_reducible repeat (first | refine blk_drewN ?_ _ | refine blk_drew ?_ | refine blk_alloc ?_ _)); refine blk_put (cs := #[.int .i64 0, .int .i64 0]) ?_ 0 _ rfl; (with_reducible repeat (first | refine blk_drewN ?_ _ | refine blk_drew ?_ | refine blk_alloc ?_ _)); exact BK223.out⟩
          have n3_ : Aside0 (Below w.heap.size w ((w72.setCell ⟨g223, 0, none⟩ (.int .i64 t220)).setCell ⟨g223, 1, none⟩ (.int .i64 t221))) := ⟨by repeat (first | (with_reducible first | exact HB.out | apply below_alloc | apply pw_below_drewN | apply below_drew1 | refine below_set ?_ GE210.out | refine below_set ?_ GE211.out | refine below_set ?_ GE223.out) | exact HB.out)⟩
          (try clear BK210)
          (try clear BK211)
          (try clear BK223)
          (try clear HB)
          generalize ((w72.setCell ⟨g223, 0, none⟩ (.int .i64 t220)).setCell ⟨g223, 1, none⟩ (.int .i64 t221)) = w75 at n0_ n1_ n2_ n3_ ⊢
          have BK210 := n0_
          have BK211 := n1_
          have BK223 := n2_
          have HB := n3_
          clear n0_ n1_ n2_ n3_
          have n0_ := A0 (blk_drew BK210.out)
          have n1_ := A0 (blk_drew BK211.out)
          have n2_ := A0 (blk_drew BK223.out)
          have n3_ := A0 (below_drew1 HB.out)
          clear BK210
          clear BK211
          clear BK223
          clear HB
          have BK210 := n0_
          have BK211 := n1_
          have BK223 := n2_
          have HB := n3_
          clear n0_ n1_ n2_ n3_
          refine start_ (n := 11) (S := fun w' => w'.cell? ⟨g210, 0, none⟩ = some (.int .i64 a0_0) ∧ w'.cell? ⟨g210, 1, none⟩ = some (.int .i64 a0_1) ∧ w'.cell? ⟨g210, 2, none⟩ = some (.string a0_2) ∧ w'.cell? ⟨g211, 0, none⟩ = some (.int .i64 a1_0) ∧ w'.cell? ⟨g211, 1, none⟩ = some (.int .i64 a1_1) ∧ w'.cell? ⟨g211, 2, none⟩ = some (.string a1_2)) (ds := []) #[false, false, false, false, false, false, false, false, false, false, false] Z32 rfl rfl ⟨(blk_cell BK210.out 0).trans rfl, (blk_cell BK210.out 1).trans rfl, (blk_cell BK210.out 2).trans rfl, (blk_cell BK211.out 0).trans rfl, (blk_cell BK211.out 1).trans rfl, (blk_cell BK211.out 2).trans rfl⟩ (fun hHeld => ?_); refine with_tabW laws_FnExactFirstMeetingOf.tab9 laws_FnExactFirstMeetingOf.bits9 (fun HT_ HW_ => ?_)
          generalize w75.drew = w76 at BK210 BK211 BK223 HB hHeld ⊢
          refine take_ (i := 0) (N := some 29) (v := ?_) (a' := ?_) #[true, false, false, false, false, false, false, false, false, false, false] rfl rfl (take_ofW HT_.out HW_.out Z32) (fun _ _ _ h => h) (Or.inl ⟨by rfl, ?_⟩) hHeld ?_ ?_
          rotate_left
          · rintro w' ⟨s0, s1, s2, s3, s4, s5⟩
            go_simp
            with_reducible rfl
          rotate_left
          · simp only [Act.put, y1, y2, y3, i64_w, i32_w]
            rfl
          refine take_ (i := 2) (N := some 31) (v := ?_) (a' := ?_) #[true, false, true, false, false, false, false, false, false, false, false] rfl rfl (take_ofW HT_.out HW_.out Z32) (fun _ _ _ h => h) (Or.inl ⟨by rfl, ?_⟩) hHeld ?_ ?_
          rotate_left
          · rintro w' ⟨s0, s1, s2, s3, s4, s5⟩
            go_simp
            with_reducible rfl
          rotate_left
          · simp only [Act.put, y1, y2, y3, i64_w, i32_w]
            rfl
          refine join_ (σ := Nat) 2 #[true, true, true, true, true, true, true, true, true, false, false] (fun s_ => [(30, .agg #[.int .i64 t224, .int .i64 t225, .string t226]), (32, .agg #[.int .i64 t227, .int .i64 t228, .string t229]), (33, .tuple #[.agg #[.int .i64 t230, .int .i64 t231], .bool t232]), (8, .pointer (some ⟨s_, 0, none⟩)), (28, .tuple #[.agg #[.int .i64 t230, .int .i64 t231], .bool t232]), (34, .agg #[.int .i64 t230, .int .i64 t231]), (35, .bool t232)]) (fun s_ w' => (w'.cell? ⟨g210, 0, none⟩ = some (.int .i64 a0_0) ∧ w'.cell? ⟨g210, 1, none⟩ = some (.int .i64 a0_1) ∧ w'.cell? ⟨g210, 2, none⟩ = some (.string a0_2) ∧ w'.cell? ⟨g211, 0, none⟩ = some (.int .i64 a1_0) ∧ w'.cell? ⟨g211, 1, none⟩ = some (.int .i64 a1_1) ∧ w'.cell? ⟨g211, 2, none⟩ = some (.string a1_2)) ∧ (w'.heap[g210]? = some (.cells #[.int .i64 a0_0, .int .i64 a0_1, .string a0_2] 25 (0, 0))) ∧ (w'.heap[g211]? = some (.cells #[.int .i64 a1_0, .int .i64 a1_1, .string a1_2] 25 (0, 0))) ∧ (w'.heap[g223]? = some (.cells #[.int .i64 t220, .int .i64 t221] 28 (0, 0))) ∧ (w'.heap[s_]? = some (.cells #[.int .i64 0, .int .i64 0] 28 (0, 0))) ∧ (w.heap.size ≤ s_) ∧ (w.heap.size ≤ s_) ∧ (g210 ≠ s_) ∧ (s_ ≠ g210) ∧ (g211 ≠ s_) ∧ (s_ ≠ g211) ∧ (g223 ≠ s_) ∧ (s_ ≠ g223) ∧ (Below w.heap.size w w')) ?_ ?_
          rotate_left
          · intro hCont
            refine two_ (i := 1) (j := 8) (Ni := some 30) (Nj := some 8) #[true, true, true, false, false, false, false, false, false, false, false] #[true, false, true, false, false, false, false, false, true, false, false] rfl rfl rfl rfl (two_of HT_.out Z32) Z33 Z33 (fun K hK => ?_) (fun K hK => ?_)
            · skip
              refine goes_ Tryd.func11 Z32 rfl #[.agg #[.int .i64 a0_0, .int .i64 a0_1, .string a0_2]] (by rfl) rfl rfl Z25 ?_
              with_reducible refine (laws_toWay.calls a0_0 a0_1 a0_2 t224 t225 t226 _ A22.out).mono ?_
              rintro e w77 ⟨rfl, hb⟩
              refine ⟨_, rfl, ?_⟩
              have n0_ := A0 (blk_below (g := g210) (o := .cells #[.int .i64 a0_0, .int .i64 a0_1, .string a0_2] 25 (0, 0)) Z27 hb)
              have n1_ := A0 (blk_below (g := g211) (o := .cells #[.int .i64 a1_0, .int .i64 a1_1, .string a1_2] 25 (0, 0)) Z28 hb)
              have n2_ := A0 (blk_below (g := g223) (o := .cells #[.int .i64 t220, .int .i64 t221] 28 (0, 0)) Z29 hb)
              have n3_ := A0 (below_step Z20 hb)
              clear BK210
              clear BK211
              clear BK223
              clear HB
              have BK210 := n0_
              have BK211 := n1_
              have BK223 := n2_
              have HB := n3_
              clear n0_ n1_ n2_ n3_
              (try clear hb)
              (try clear hb2)
              (try clear hk)
              (try clear hi)
              refine hK.out _ _ ⟨(blk_cell BK210.out 0).trans rfl, (blk_cell BK210.out 1).trans rfl, (blk_cell BK210.out 2).trans rfl, (blk_cell BK211.out 0).trans rfl, (blk_cell BK211.out 1).trans rfl, (blk_cell BK211.out 2).trans rfl⟩ (fun hHeld => ?_)
              clear hK K
              refine norm_ (a' := ?_) ?_ ?_
              rotate_left
              · show Act.put _ (some 30) _ = _
                simp only [Act.put, y1, y2, y3, i64_w, i32_w]
                rfl
              refine two_ (i := 3) (j := 8) (Ni := some 32) (Nj := some 8) #[true, true, true, true, false, false, false, false, false, false, false] #[true, true, true, false, false, false, false, false, true, false, false] rfl rfl rfl rfl (two_of HT_.out Z32) Z33 Z33 (fun K hK => ?_) (fun K hK => ?_)
              · skip
                refine goes_ Tryd.func11 Z32 rfl #[.agg #[.int .i64 a1_0, .int .i64 a1_1, .string a1_2]] (by rfl) rfl rfl Z25 ?_
                with_reducible refine (laws_toWay.calls a1_0 a1_1 a1_2 t227 t228 t229 _ A23.out).mono ?_
                rintro e w78 ⟨rfl, hb⟩
                refine ⟨_, rfl, ?_⟩
                have n0_ := A0 (blk_below (g := g210) (o := .cells #[.int .i64 a0_0, .int .i64 a0_1, .string a0_2] 25 (0, 0)) Z27 hb)
                have n1_ := A0 (blk_below (g := g211) (o := .cells #[.int .i64 a1_0, .int .i64 a1_1, .string a1_2] 25 (0, 0)) Z28 hb)
                have n2_ := A0 (blk_below (g := g223) (o := .cells #[.int .i64 t220, .int .i64 t221] 28 (0, 0)) Z29 hb)
                have n3_ := A0 (below_step Z20 hb)
                clear BK210
                clear BK211
                clear BK223
                clear HB
                have BK210 := n0_
                have BK211 := n1_
                have BK223 := n2_
                have HB := n3_
                clear n0_ n1_ n2_ n3_
                (try clear hb)
                (try clear hb2)
                (try clear hk)
                (try clear hi)
                refine hK.out _ _ ⟨(blk_cell BK210.out 0).trans rfl, (blk_cell BK210.out 1).trans rfl, (blk_cell BK210.out 2).trans rfl, (blk_cell BK211.out 0).trans rfl, (blk_cell BK211.out 1).trans rfl, (blk_cell BK211.out 2).trans rfl⟩ (fun hHeld => ?_)
                clear hK K
                refine norm_ (a' := ?_) ?_ ?_
                rotate_left
                · show Act.put _ (some 32) _ = _
                  simp only [Act.put, y1, y2, y3, i64_w, i32_w]
                  rfl
                refine two_ (i := 4) (j := 8) (Ni := some 33) (Nj := some 8) #[true, true, true, true, true, false, false, false, false, false, false] #[true, true, true, true, false, false, false, false, true, false, false] rfl rfl rfl rfl (two_of HT_.out Z32) Z33 Z33 (fun K hK => ?_) (fun K hK => ?_)
                · skip
                  refine goes_ Tryd.func24 Z32 rfl #[.agg #[.int .i64 t224, .int .i64 t225, .string t226], .agg #[.int .i64 t227, .int .i64 t228, .string t229]] (by rfl) rfl rfl Z25 ?_
                  with_reducible refine (impl_FirstMeetingOf.calls k t224 t225 t226 t227 t228 t229 t230 t231 t232 _ A24.out).mono ?_
                  rintro e w79 ⟨rfl, hb⟩
                  refine ⟨_, rfl, ?_⟩
                  have n0_ := A0 (blk_below (g := g210) (o := .cells #[.int .i64 a0_0, .int .i64 a0_1, .string a0_2] 25 (0, 0)) Z27 hb)
                  have n1_ := A0 (blk_below (g := g211) (o := .cells #[.int .i64 a1_0, .int .i64 a1_1, .string a1_2] 25 (0, 0)) Z28 hb)
                  have n2_ := A0 (blk_below (g := g223) (o := .cells #[.int .i64 t220, .int .i64 t221] 28 (0, 0)) Z29 hb)
                  have n3_ := A0 (below_step Z20 hb)
                  clear BK210
                  clear BK211
                  clear BK223
                  clear HB
                  have BK210 := n0_
                  have BK211 := n1_
                  have BK223 := n2_
                  have HB := n3_
                  clear n0_ n1_ n2_ n3_
                  (try clear hb)
                  (try clear hb2)
                  (try clear hk)
                  (try clear hi)
                  refine hK.out _ _ ⟨(blk_cell BK210.out 0).trans rfl, (blk_cell BK210.out 1).trans rfl, (blk_cell BK210.out 2).trans rfl, (blk_cell BK211.out 0).trans rfl, (blk_cell BK211.out 1).trans rfl, (blk_cell BK211.out 2).trans rfl⟩ (fun hHeld => ?_)
                  clear hK K
                  refine norm_ (a' := ?_) ?_ ?_
                  rotate_left
                  · show Act.put _ (some 33) _ = _
                    simp only [Act.put, y1, y2, y3, i64_w, i32_w]
                    rfl
                  refine pure_ (i := 5) (N := some 28) (v := ?_) (a' := ?_) #[true, true, true, true, true, true, false, false, false, false, false] rfl rfl (any_of HT_.out Z32) (fun _ _ _ h => h) (Or.inl ⟨by rfl, ?_⟩) ?_ ?_
                  rotate_left
                  · intro w'
                    go_simp
                    with_reducible rfl
                  rotate_left
                  · simp only [Act.put, y1, y2, y3, i64_w, i32_w]
                    rfl
                  refine pure_ (i := 6) (N := some 34) (v := ?_) (a' := ?_) #[true, true, true, true, true, true, true, false, false, false, false] rfl rfl (any_of HT_.out Z32) (fun _ _ _ h => h) (Or.inl ⟨by rfl, ?_⟩) ?_ ?_
                  rotate_left
                  · intro w'
                    go_simp
                    with_reducible rfl
                  rotate_left
                  · simp only [Act.put, y1, y2, y3, i64_w, i32_w]
                    rfl
                  refine pure_ (i := 7) (N := some 35) (v := ?_) (a' := ?_) #[true, true, true, true, true, true, true, true, false, false, false] rfl rfl (any_of HT_.out Z32) (fun _ _ _ h => h) (Or.inl ⟨by rfl, ?_⟩) ?_ ?_
                  rotate_left
                  · intro w'
                    go_simp
                    with_reducible rfl
                  rotate_left
                  · simp only [Act.put, y1, y2, y3, i64_w, i32_w]
                    rfl
                  refine one_ (i := 8) (N := some 8) #[true, true, true, true, true, true, true, true, true, false, false] rfl rfl (one_of HT_.out Z32) Z33 (fun K hK => ?_)
                  refine box_step ?hg (N := 8) ?hd (cs := #[.int .i64 0, .int .i64 0]) (t := 28) ?hr ?_; (case hd => rfl); (case hg => rfl); (case hr => first | (go_simp; done) | (go_simp; rfl))
                  intro g233 hg w80 hbox hb
                  have n0_ := A0 (blk_below (g := g210) (o := .cells #[.int .i64 a0_0, .int .i64 a0_1, .string a0_2] 25 (0, 0)) Z27 hb)
                  have n1_ := A0 (blk_below (g := g211) (o := .cells #[.int .i64 a1_0, .int .i64 a1_1, .string a1_2] 25 (0, 0)) Z28 hb)
                  have n2_ := A0 (blk_below (g := g223) (o := .cells #[.int .i64 t220, .int .i64 t221] 28 (0, 0)) Z29 hb)
                  have n3_ := A0 (below_step Z20 hb)
                  have n4_ := A0 (hbox)
                  have n5_ := A0 ((Z5 : w.heap.size ≤ g233))
                  have n6_ := A0 ((Z5 : w.heap.size ≤ g233))
                  have n7_ := A0 ((Z12 : g210 ≠ g233))
                  have n8_ := A0 ((Z13 : g233 ≠ g210))
                  have n9_ := A0 ((Z14 : g211 ≠ g233))
                  have n10_ := A0 ((Z15 : g233 ≠ g211))
                  have n11_ := A0 ((Z18 : g223 ≠ g233))
                  have n12_ := A0 ((Z19 : g233 ≠ g223))
                  clear BK210
                  clear BK211
                  clear BK223
                  clear HB
                  have BK210 := n0_
                  have BK211 := n1_
                  have BK223 := n2_
                  have HB := n3_
                  have BK233 := n4_
                  have GW233 := n5_
                  have GE233 := n6_
                  have NB210_233 := n7_
                  have NB233_210 := n8_
                  have NB211_233 := n9_
                  have NB233_211 := n10_
                  have NB223_233 := n11_
                  have NB233_223 := n12_
                  clear n0_ n1_ n2_ n3_ n4_ n5_ n6_ n7_ n8_ n9_ n10_ n11_ n12_
                  clear hb hbox hg
                  refine hK.out _ _ ⟨(blk_cell BK210.out 0).trans rfl, (blk_cell BK210.out 1).trans rfl, (blk_cell BK210.out 2).trans rfl, (blk_cell BK211.out 0).trans rfl, (blk_cell BK211.out 1).trans rfl, (blk_cell BK211.out 2).trans rfl⟩ (fun hHeld => ?_)
                  clear hK K
                  refine norm_ (a' := ?_) ?_ ?_
                  rotate_left
                  · show Act.put _ (some 8) _ = _
                    simp only [Act.put, y1, y2, y3, i64_w, i32_w]
                    rfl
                  exact norm_ Z31 (hCont (g233) _ ⟨hHeld, Z27, Z28, Z29, Z30, GW233.out, GE233.out, NB210_233.out, NB233_210.out, NB211_233.out, NB233_211.out, NB223_233.out, NB233_223.out, Z16⟩)
                · skip
                  refine box_step ?hg (N := 8) ?hd (cs := #[.int .i64 0, .int .i64 0]) (t := 28) ?hr ?_; (case hd => rfl); (case hg => rfl); (case hr => first | (go_simp; done) | (go_simp; rfl))
                  intro g233 hg w79 hbox hb
                  have n0_ := A0 (blk_below (g := g210) (o := .cells #[.int .i64 a0_0, .int .i64 a0_1, .string a0_2] 25 (0, 0)) Z27 hb)
                  have n1_ := A0 (blk_below (g := g211) (o := .cells #[.int .i64 a1_0, .int .i64 a1_1, .string a1_2] 25 (0, 0)) Z28 hb)
                  have n2_ := A0 (blk_below (g := g223) (o := .cells #[.int .i64 t220, .int .i64 t221] 28 (0, 0)) Z29 hb)
                  have n3_ := A0 (below_step Z20 hb)
                  have n4_ := A0 (hbox)
                  have n5_ := A0 ((Z5 : w.heap.size ≤ g233))
                  have n6_ := A0 ((Z5 : w.heap.size ≤ g233))
                  have n7_ := A0 ((Z12 : g210 ≠ g233))
                  have n8_ := A0 ((Z13 : g233 ≠ g210))
                  have n9_ := A0 ((Z14 : g211 ≠ g233))
                  have n10_ := A0 ((Z15 : g233 ≠ g211))
                  have n11_ := A0 ((Z18 : g223 ≠ g233))
                  have n12_ := A0 ((Z19 : g233 ≠ g223))
                  clear BK210
                  clear BK211
                  clear BK223
                  clear HB
                  have BK210 := n0_
                  have BK211 := n1_
                  have BK223 := n2_
                  have HB := n3_
                  have BK233 := n4_
                  have GW233 := n5_
                  have GE233 := n6_
                  have NB210_233 := n7_
                  have NB233_210 := n8_
                  have NB211_233 := n9_
                  have NB233_211 := n10_
                  have NB223_233 := n11_
                  have NB233_223 := n12_
                  clear n0_ n1_ n2_ n3_ n4_ n5_ n6_ n7_ n8_ n9_ n10_ n11_ n12_
                  clear hb hbox hg
                  refine hK.out _ _ ⟨(blk_cell BK210.out 0).trans rfl, (blk_cell BK210.out 1).trans rfl, (blk_cell BK210.out 2).trans rfl, (blk_cell BK211.out 0).trans rfl, (blk_cell BK211.out 1).trans rfl, (blk_cell BK211.out 2).trans rfl⟩ (fun hHeld => ?_)
                  clear hK K
                  refine norm_ (a' := ?_) ?_ ?_
                  rotate_left
                  · show Act.put _ (some 8) _ = _
                    simp only [Act.put, y1, y2, y3, i64_w, i32_w]
                    rfl
                  refine one_ (i := 4) (N := some 33) #[true, true, true, true, true, false, false, false, true, false, false] rfl rfl (one_of HT_.out Z32) Z33 (fun K hK => ?_)
                  refine goes_ Tryd.func24 Z32 rfl #[.agg #[.int .i64 t224, .int .i64 t225, .string t226], .agg #[.int .i64 t227, .int .i64 t228, .string t229]] (by rfl) rfl rfl Z25 ?_
                  with_reducible refine (impl_FirstMeetingOf.calls k t224 t225 t226 t227 t228 t229 t230 t231 t232 _ A24.out).mono ?_
                  rintro e w80 ⟨rfl, hb⟩
                  refine ⟨_, rfl, ?_⟩
                  have n0_ := A0 (blk_below (g := g210) (o := .cells #[.int .i64 a0_0, .int .i64 a0_1, .string a0_2] 25 (0, 0)) Z27 hb)
                  have n1_ := A0 (blk_below (g := g211) (o := .cells #[.int .i64 a1_0, .int .i64 a1_1, .string a1_2] 25 (0, 0)) Z28 hb)
                  have n2_ := A0 (blk_below (g := g223) (o := .cells #[.int .i64 t220, .int .i64 t221] 28 (0, 0)) Z29 hb)
                  have n3_ := A0 (blk_below (g := g233) (o := .cells #[.int .i64 0, .int .i64 0] 28 (0, 0)) Z30 hb)
                  have n4_ := A0 (below_step Z16 hb)
                  clear BK210
                  clear BK211
                  clear BK223
                  clear BK233
                  clear HB
                  have BK210 := n0_
                  have BK211 := n1_
                  have BK223 := n2_
                  have BK233 := n3_
                  have HB := n4_
                  clear n0_ n1_ n2_ n3_ n4_
                  (try clear hb)
                  (try clear hb2)
                  (try clear hk)
                  (try clear hi)
                  refine hK.out _ _ ⟨(blk_cell BK210.out 0).trans rfl, (blk_cell BK210.out 1).trans rfl, (blk_cell BK210.out 2).trans rfl, (blk_cell BK211.out 0).trans rfl, (blk_cell BK211.out 1).trans rfl, (blk_cell BK211.out 2).trans rfl⟩ (fun hHeld => ?_)
                  clear hK K
                  refine norm_ (a' := ?_) ?_ ?_
                  rotate_left
                  · show Act.put _ (some 33) _ = _
                    simp only [Act.put, y1, y2, y3, i64_w, i32_w]
                    rfl
                  refine pure_ (i := 5) (N := some 28) (v := ?_) (a' := ?_) #[true, true, true, true, true, true, false, false, true, false, false] rfl rfl (any_of HT_.out Z32) (fun _ _ _ h => h) (Or.inl ⟨by rfl, ?_⟩) ?_ ?_
                  rotate_left
                  · intro w'
                    go_simp
                    with_reducible rfl
                  rotate_left
                  · simp only [Act.put, y1, y2, y3, i64_w, i32_w]
                    rfl
                  refine pure_ (i := 6) (N := some 34) (v := ?_) (a' := ?_) #[true, true, true, true, true, true, true, false, true, false, false] rfl rfl (any_of HT_.out Z32) (fun _ _ _ h => h) (Or.inl ⟨by rfl, ?_⟩) ?_ ?_
                  rotate_left
                  · intro w'
                    go_simp
                    with_reducible rfl
                  rotate_left
                  · simp only [Act.put, y1, y2, y3, i64_w, i32_w]
                    rfl
                  refine pure_ (i := 7) (N := some 35) (v := ?_) (a' := ?_) #[true, true, true, true, true, true, true, true, true, false, false] rfl rfl (any_of HT_.out Z32) (fun _ _ _ h => h) (Or.inl ⟨by rfl, ?_⟩) ?_ ?_
                  rotate_left
                  · intro w'
                    go_simp
                    with_reducible rfl
                  rotate_left
                  · simp only [Act.put, y1, y2, y3, i64_w, i32_w]
                    rfl
                  exact norm_ Z31 (hCont (g233) _ ⟨hHeld, Z27, Z28, Z29, Z30, GW233.out, GE233.out, NB210_233.out, NB233_210.out, NB211_233.out, NB233_211.out, NB223_233.out, NB233_223.out, Z16⟩)
              · skip
                refine box_step ?hg (N := 8) ?hd (cs := #[.int .i64 0, .int .i64 0]) (t := 28) ?hr ?_; (case hd => rfl); (case hg => rfl); (case hr => first | (go_simp; done) | (go_simp; rfl))
                intro g233 hg w78 hbox hb
                have n0_ := A0 (blk_below (g := g210) (o := .cells #[.int .i64 a0_0, .int .i64 a0_1, .string a0_2] 25 (0, 0)) Z27 hb)
                have n1_ := A0 (blk_below (g := g211) (o := .cells #[.int .i64 a1_0, .int .i64 a1_1, .string a1_2] 25 (0, 0)) Z28 hb)
                have n2_ := A0 (blk_below (g := g223) (o := .cells #[.int .i64 t220, .int .i64 t221] 28 (0, 0)) Z29 hb)
                have n3_ := A0 (below_step Z20 hb)
                have n4_ := A0 (hbox)
                have n5_ := A0 ((Z5 : w.heap.size ≤ g233))
                have n6_ := A0 ((Z5 : w.heap.size ≤ g233))
                have n7_ := A0 ((Z12 : g210 ≠ g233))
                have n8_ := A0 ((Z13 : g233 ≠ g210))
                have n9_ := A0 ((Z14 : g211 ≠ g233))
                have n10_ := A0 ((Z15 : g233 ≠ g211))
                have n11_ := A0 ((Z18 : g223 ≠ g233))
                have n12_ := A0 ((Z19 : g233 ≠ g223))
                clear BK210
                clear BK211
                clear BK223
                clear HB
                have BK210 := n0_
                have BK211 := n1_
                have BK223 := n2_
                have HB := n3_
                have BK233 := n4_
                have GW233 := n5_
                have GE233 := n6_
                have NB210_233 := n7_
                have NB233_210 := n8_
                have NB211_233 := n9_
                have NB233_211 := n10_
                have NB223_233 := n11_
                have NB233_223 := n12_
                clear n0_ n1_ n2_ n3_ n4_ n5_ n6_ n7_ n8_ n9_ n10_ n11_ n12_
                clear hb hbox hg
                refine hK.out _ _ ⟨(blk_cell BK210.out 0).trans rfl, (blk_cell BK210.out 1).trans rfl, (blk_cell BK210.out 2).trans rfl, (blk_cell BK211.out 0).trans rfl, (blk_cell BK211.out 1).trans rfl, (blk_cell BK211.out 2).trans rfl⟩ (fun hHeld => ?_)
                clear hK K
                refine norm_ (a' := ?_) ?_ ?_
                rotate_left
                · show Act.put _ (some 8) _ = _
                  simp only [Act.put, y1, y2, y3, i64_w, i32_w]
                  rfl
                refine one_ (i := 3) (N := some 32) #[true, true, true, true, false, false, false, false, true, false, false] rfl rfl (one_of HT_.out Z32) Z33 (fun K hK => ?_)
                refine goes_ Tryd.func11 Z32 rfl #[.agg #[.int .i64 a1_0, .int .i64 a1_1, .string a1_2]] (by rfl) rfl rfl Z25 ?_
                with_reducible refine (laws_toWay.calls a1_0 a1_1 a1_2 t227 t228 t229 _ A23.out).mono ?_
                rintro e w79 ⟨rfl, hb⟩
                refine ⟨_, rfl, ?_⟩
                have n0_ := A0 (blk_below (g := g210) (o := .cells #[.int .i64 a0_0, .int .i64 a0_1, .string a0_2] 25 (0, 0)) Z27 hb)
                have n1_ := A0 (blk_below (g := g211) (o := .cells #[.int .i64 a1_0, .int .i64 a1_1, .string a1_2] 25 (0, 0)) Z28 hb)
                have n2_ := A0 (blk_below (g := g223) (o := .cells #[.int .i64 t220, .int .i64 t221] 28 (0, 0)) Z29 hb)
                have n3_ := A0 (blk_below (g := g233) (o := .cells #[.int .i64 0, .int .i64 0] 28 (0, 0)) Z30 hb)
                have n4_ := A0 (below_step Z16 hb)
                clear BK210
                clear BK211
                clear BK223
                clear BK233
                clear HB
                have BK210 := n0_
                have BK211 := n1_
                have BK223 := n2_
                have BK233 := n3_
                have HB := n4_
                clear n0_ n1_ n2_ n3_ n4_
                (try clear hb)
                (try clear hb2)
                (try clear hk)
                (try clear hi)
                refine hK.out _ _ ⟨(blk_cell BK210.out 0).trans rfl, (blk_cell BK210.out 1).trans rfl, (blk_cell BK210.out 2).trans rfl, (blk_cell BK211.out 0).trans rfl, (blk_cell BK211.out 1).trans rfl, (blk_cell BK211.out 2).trans rfl⟩ (fun hHeld => ?_)
                clear hK K
                refine norm_ (a' := ?_) ?_ ?_
                rotate_left
                · show Act.put _ (some 32) _ = _
                  simp only [Act.put, y1, y2, y3, i64_w, i32_w]
                  rfl
                refine one_ (i := 4) (N := some 33) #[true, true, true, true, true, false, false, false, true, false, false] rfl rfl (one_of HT_.out Z32) Z33 (fun K hK => ?_)
                refine goes_ Tryd.func24 Z32 rfl #[.agg #[.int .i64 t224, .int .i64 t225, .string t226], .agg #[.int .i64 t227, .int .i64 t228, .string t229]] (by rfl) rfl rfl Z25 ?_
                with_reducible refine (impl_FirstMeetingOf.calls k t224 t225 t226 t227 t228 t229 t230 t231 t232 _ A24.out).mono ?_
                rintro e w80 ⟨rfl, hb⟩
                refine ⟨_, rfl, ?_⟩
                have n0_ := A0 (blk_below (g := g210) (o := .cells #[.int .i64 a0_0, .int .i64 a0_1, .string a0_2] 25 (0, 0)) Z27 hb)
                have n1_ := A0 (blk_below (g := g211) (o := .cells #[.int .i64 a1_0, .int .i64 a1_1, .string a1_2] 25 (0, 0)) Z28 hb)
                have n2_ := A0 (blk_below (g := g223) (o := .cells #[.int .i64 t220, .int .i64 t221] 28 (0, 0)) Z29 hb)
                have n3_ := A0 (blk_below (g := g233) (o := .cells #[.int .i64 0, .int .i64 0] 28 (0, 0)) Z30 hb)
                have n4_ := A0 (below_step Z16 hb)
                clear BK210
                clear BK211
                clear BK223
                clear BK233
                clear HB
                have BK210 := n0_
                have BK211 := n1_
                have BK223 := n2_
                have BK233 := n3_
                have HB := n4_
                clear n0_ n1_ n2_ n3_ n4_
                (try clear hb)
                (try clear hb2)
                (try clear hk)
                (try clear hi)
                refine hK.out _ _ ⟨(blk_cell BK210.out 0).trans rfl, (blk_cell BK210.out 1).trans rfl, (blk_cell BK210.out 2).trans rfl, (blk_cell BK211.out 0).trans rfl, (blk_cell BK211.out 1).trans rfl, (blk_cell BK211.out 2).trans rfl⟩ (fun hHeld => ?_)
                clear hK K
                refine norm_ (a' := ?_) ?_ ?_
                rotate_left
                · show Act.put _ (some 33) _ = _
                  simp only [Act.put, y1, y2, y3, i64_w, i32_w]
                  rfl
                refine pure_ (i := 5) (N := some 28) (v := ?_) (a' := ?_) #[true, true, true, true, true, true, false, false, true, false, false] rfl rfl (any_of HT_.out Z32) (fun _ _ _ h => h) (Or.inl ⟨by rfl, ?_⟩) ?_ ?_
                rotate_left
                · intro w'
                  go_simp
                  with_reducible rfl
                rotate_left
                · simp only [Act.put, y1, y2, y3, i64_w, i32_w]
                  rfl
                refine pure_ (i := 6) (N := some 34) (v := ?_) (a' := ?_) #[true, true, true, true, true, true, true, false, true, false, false] rfl rfl (any_of HT_.out Z32) (fun _ _ _ h => h) (Or.inl ⟨by rfl, ?_⟩) ?_ ?_
                rotate_left
                · intro w'
                  go_simp
                  with_reducible rfl
                rotate_left
                · simp only [Act.put, y1, y2, y3, i64_w, i32_w]
                  rfl
                refine pure_ (i := 7) (N := some 35) (v := ?_) (a' := ?_) #[true, true, true, true, true, true, true, true, true, false, false] rfl rfl (any_of HT_.out Z32) (fun _ _ _ h => h) (Or.inl ⟨by rfl, ?_⟩) ?_ ?_
                rotate_left
                · intro w'
                  go_simp
                  with_reducible rfl
                rotate_left
                · simp only [Act.put, y1, y2, y3, i64_w, i32_w]
                  rfl
                exact norm_ Z31 (hCont (g233) _ ⟨hHeld, Z27, Z28, Z29, Z30, GW233.out, GE233.out, NB210_233.out, NB233_210.out, NB211_233.out, NB233_211.out, NB223_233.out, NB233_223.out, Z16⟩)
            · skip
              refine box_step ?hg (N := 8) ?hd (cs := #[.int .i64 0, .int .i64 0]) (t := 28) ?hr ?_; (case hd => rfl); (case hg => rfl); (case hr => first | (go_simp; done) | (go_simp; rfl))
              intro g233 hg w77 hbox hb
              have n0_ := A0 (blk_below (g := g210) (o := .cells #[.int .i64 a0_0, .int .i64 a0_1, .string a0_2] 25 (0, 0)) Z27 hb)
              have n1_ := A0 (blk_below (g := g211) (o := .cells #[.int .i64 a1_0, .int .i64 a1_1, .string a1_2] 25 (0, 0)) Z28 hb)
              have n2_ := A0 (blk_below (g := g223) (o := .cells #[.int .i64 t220, .int .i64 t221] 28 (0, 0)) Z29 hb)
              have n3_ := A0 (below_step Z20 hb)
              have n4_ := A0 (hbox)
              have n5_ := A0 ((Z5 : w.heap.size ≤ g233))
              have n6_ := A0 ((Z5 : w.heap.size ≤ g233))
              have n7_ := A0 ((Z12 : g210 ≠ g233))
              have n8_ := A0 ((Z13 : g233 ≠ g210))
              have n9_ := A0 ((Z14 : g211 ≠ g233))
              have n10_ := A0 ((Z15 : g233 ≠ g211))
              have n11_ := A0 ((Z18 : g223 ≠ g233))
              have n12_ := A0 ((Z19 : g233 ≠ g223))
              clear BK210
              clear BK211
              clear BK223
              clear HB
              have BK210 := n0_
              have BK211 := n1_
              have BK223 := n2_
              have HB := n3_
              have BK233 := n4_
              have GW233 := n5_
              have GE233 := n6_
              have NB210_233 := n7_
              have NB233_210 := n8_
              have NB211_233 := n9_
              have NB233_211 := n10_
              have NB223_233 := n11_
              have NB233_223 := n12_
              clear n0_ n1_ n2_ n3_ n4_ n5_ n6_ n7_ n8_ n9_ n10_ n11_ n12_
              clear hb hbox hg
              refine hK.out _ _ ⟨(blk_cell BK210.out 0).trans rfl, (blk_cell BK210.out 1).trans rfl, (blk_cell BK210.out 2).trans rfl, (blk_cell BK211.out 0).trans rfl, (blk_cell BK211.out 1).trans rfl, (blk_cell BK211.out 2).trans rfl⟩ (fun hHeld => ?_)
              clear hK K
              refine norm_ (a' := ?_) ?_ ?_
              rotate_left
              · show Act.put _ (some 8) _ = _
                simp only [Act.put, y1, y2, y3, i64_w, i32_w]
                rfl
              refine one_ (i := 1) (N := some 30) #[true, true, true, false, false, false, false, false, true, false, false] rfl rfl (one_of HT_.out Z32) Z33 (fun K hK => ?_)
              refine goes_ Tryd.func11 Z32 rfl #[.agg #[.int .i64 a0_0, .int .i64 a0_1, .string a0_2]] (by rfl) rfl rfl Z25 ?_
              with_reducible refine (laws_toWay.calls a0_0 a0_1 a0_2 t224 t225 t226 _ A22.out).mono ?_
              rintro e w78 ⟨rfl, hb⟩
              refine ⟨_, rfl, ?_⟩
              have n0_ := A0 (blk_below (g := g210) (o := .cells #[.int .i64 a0_0, .int .i64 a0_1, .string a0_2] 25 (0, 0)) Z27 hb)
              have n1_ := A0 (blk_below (g := g211) (o := .cells #[.int .i64 a1_0, .int .i64 a1_1, .string a1_2] 25 (0, 0)) Z28 hb)
              have n2_ := A0 (blk_below (g := g223) (o := .cells #[.int .i64 t220, .int .i64 t221] 28 (0, 0)) Z29 hb)
              have n3_ := A0 (blk_below (g := g233) (o := .cells #[.int .i64 0, .int .i64 0] 28 (0, 0)) Z30 hb)
              have n4_ := A0 (below_step Z16 hb)
              clear BK210
              clear BK211
              clear BK223
              clear BK233
              clear HB
              have BK210 := n0_
              have BK211 := n1_
              have BK223 := n2_
              have BK233 := n3_
              have HB := n4_
              clear n0_ n1_ n2_ n3_ n4_
              (try clear hb)
              (try clear hb2)
              (try clear hk)
              (try clear hi)
              refine hK.out _ _ ⟨(blk_cell BK210.out 0).trans rfl, (blk_cell BK210.out 1).trans rfl, (blk_cell BK210.out 2).trans rfl, (blk_cell BK211.out 0).trans rfl, (blk_cell BK211.out 1).trans rfl, (blk_cell BK211.out 2).trans rfl⟩ (fun hHeld => ?_)
              clear hK K
              refine norm_ (a' := ?_) ?_ ?_
              rotate_left
              · show Act.put _ (some 30) _ = _
                simp only [Act.put, y1, y2, y3, i64_w, i32_w]
                rfl
              refine one_ (i := 3) (N := some 32) #[true, true, true, true, false, false, false, false, true, false, false] rfl rfl (one_of HT_.out Z32) Z33 (fun K hK => ?_)
              refine goes_ Tryd.func11 Z32 rfl #[.agg #[.int .i64 a1_0, .int .i64 a1_1, .string a1_2]] (by rfl) rfl rfl Z25 ?_
              with_reducible refine (laws_toWay.calls a1_0 a1_1 a1_2 t227 t228 t229 _ A23.out).mono ?_
              rintro e w79 ⟨rfl, hb⟩
              refine ⟨_, rfl, ?_⟩
              have n0_ := A0 (blk_below (g := g210) (o := .cells #[.int .i64 a0_0, .int .i64 a0_1, .string a0_2] 25 (0, 0)) Z27 hb)
              have n1_ := A0 (blk_below (g := g211) (o := .cells #[.int .i64 a1_0, .int .i64 a1_1, .string a1_2] 25 (0, 0)) Z28 hb)
              have n2_ := A0 (blk_below (g := g223) (o := .cells #[.int .i64 t220, .int .i64 t221] 28 (0, 0)) Z29 hb)
              have n3_ := A0 (blk_below (g := g233) (o := .cells #[.int .i64 0, .int .i64 0] 28 (0, 0)) Z30 hb)
              have n4_ := A0 (below_step Z16 hb)
              clear BK210
              clear BK211
              clear BK223
              clear BK233
              clear HB
              have BK210 := n0_
              have BK211 := n1_
              have BK223 := n2_
              have BK233 := n3_
              have HB := n4_
              clear n0_ n1_ n2_ n3_ n4_
              (try clear hb)
              (try clear hb2)
              (try clear hk)
              (try clear hi)
              refine hK.out _ _ ⟨(blk_cell BK210.out 0).trans rfl, (blk_cell BK210.out 1).trans rfl, (blk_cell BK210.out 2).trans rfl, (blk_cell BK211.out 0).trans rfl, (blk_cell BK211.out 1).trans rfl, (blk_cell BK211.out 2).trans rfl⟩ (fun hHeld => ?_)
              clear hK K
              refine norm_ (a' := ?_) ?_ ?_
              rotate_left
              · show Act.put _ (some 32) _ = _
                simp only [Act.put, y1, y2, y3, i64_w, i32_w]
                rfl
              refine one_ (i := 4) (N := some 33) #[true, true, true, true, true, false, false, false, true, false, false] rfl rfl (one_of HT_.out Z32) Z33 (fun K hK => ?_)
              refine goes_ Tryd.func24 Z32 rfl #[.agg #[.int .i64 t224, .int .i64 t225, .string t226], .agg #[.int .i64 t227, .int .i64 t228, .string t229]] (by rfl) rfl rfl Z25 ?_
              with_reducible refine (impl_FirstMeetingOf.calls k t224 t225 t226 t227 t228 t229 t230 t231 t232 _ A24.out).mono ?_
              rintro e w80 ⟨rfl, hb⟩
              refine ⟨_, rfl, ?_⟩
              have n0_ := A0 (blk_below (g := g210) (o := .cells #[.int .i64 a0_0, .int .i64 a0_1, .string a0_2] 25 (0, 0)) Z27 hb)
              have n1_ := A0 (blk_below (g := g211) (o := .cells #[.int .i64 a1_0, .int .i64 a1_1, .string a1_2] 25 (0, 0)) Z28 hb)
              have n2_ := A0 (blk_below (g := g223) (o := .cells #[.int .i64 t220, .int .i64 t221] 28 (0, 0)) Z29 hb)
              have n3_ := A0 (blk_below (g := g233) (o := .cells #[.int .i64 0, .int .i64 0] 28 (0, 0)) Z30 hb)
              have n4_ := A0 (below_step Z16 hb)
              clear BK210
              clear BK211
              clear BK223
              clear BK233
              clear HB
              have BK210 := n0_
              have BK211 := n1_
              have BK223 := n2_
              have BK233 := n3_
              have HB := n4_
              clear n0_ n1_ n2_ n3_ n4_
              (try clear hb)
              (try clear hb2)
              (try clear hk)
              (try clear hi)
              refine hK.out _ _ ⟨(blk_cell BK210.out 0).trans rfl, (blk_cell BK210.out 1).trans rfl, (blk_cell BK210.out 2).trans rfl, (blk_cell BK211.out 0).trans rfl, (blk_cell BK211.out 1).trans rfl, (blk_cell BK211.out 2).trans rfl⟩ (fun hHeld => ?_)
              clear hK K
              refine norm_ (a' := ?_) ?_ ?_
              rotate_left
              · show Act.put _ (some 33) _ = _
                simp only [Act.put, y1, y2, y3, i64_w, i32_w]
                rfl
              refine pure_ (i := 5) (N := some 28) (v := ?_) (a' := ?_) #[true, true, true, true, true, true, false, false, true, false, false] rfl rfl (any_of HT_.out Z32) (fun _ _ _ h => h) (Or.inl ⟨by rfl, ?_⟩) ?_ ?_
              rotate_left
              · intro w'
                go_simp
                with_reducible rfl
              rotate_left
              · simp only [Act.put, y1, y2, y3, i64_w, i32_w]
                rfl
              refine pure_ (i := 6) (N := some 34) (v := ?_) (a' := ?_) #[true, true, true, true, true, true, true, false, true, false, false] rfl rfl (any_of HT_.out Z32) (fun _ _ _ h => h) (Or.inl ⟨by rfl, ?_⟩) ?_ ?_
              rotate_left
              · intro w'
                go_simp
                with_reducible rfl
              rotate_left
              · simp only [Act.put, y1, y2, y3, i64_w, i32_w]
                rfl
              refine pure_ (i := 7) (N := some 35) (v := ?_) (a' := ?_) #[true, true, true, true, true, true, true, true, true, false, false] rfl rfl (any_of HT_.out Z32) (fun _ _ _ h => h) (Or.inl ⟨by rfl, ?_⟩) ?_ ?_
              rotate_left
              · intro w'
                go_simp
                with_reducible rfl
              rotate_left
              · simp only [Act.put, y1, y2, y3, i64_w, i32_w]
                rfl
              exact norm_ Z31 (hCont (g233) _ ⟨hHeld, Z27, Z28, Z29, Z30, GW233.out, GE233.out, NB210_233.out, NB233_210.out, NB211_233.out, NB233_211.out, NB223_233.out, NB233_223.out, Z16⟩)
          rintro g233 w81 ⟨hS_, h0_, h1_, h2_, h3_, h4_, h5_, h6_, h7_, h8_, h9_, h10_, h11_, h12_⟩
          have n0_ : Aside0 (w81.heap[g210]? = some (.cells #[.int .i64 a0_0, .int .i64 a0_1, .string a0_2] 25 (0, 0))) := ⟨h0_⟩
          have n1_ : Aside0 (w81.heap[g211]? = some (.cells #[.int .i64 a1_0, .int .i64 a1_1, .string a1_2] 25 (0, 0))) := ⟨h1_⟩
          have n2_ : Aside0 (w81.heap[g223]? = some (.cells #[.int .i64 t220, .int .i64 t221] 28 (0, 0))) := ⟨h2_⟩
          have n3_ : Aside0 (w81.heap[g233]? = some (.cells #[.int .i64 0, .int .i64 0] 28 (0, 0))) := ⟨h3_⟩
          have n4_ : Aside0 (w.heap.size ≤ g233) := ⟨h4_⟩
          have n5_ : Aside0 (w.heap.size ≤ g233) := ⟨h5_⟩
          have n6_ : Aside0 (g210 ≠ g233) := ⟨h6_⟩
          have n7_ : Aside0 (g233 ≠ g210) := ⟨h7_⟩
          have n8_ : Aside0 (g211 ≠ g233) := ⟨h8_⟩
          have n9_ : Aside0 (g233 ≠ g211) := ⟨h9_⟩
          have n10_ : Aside0 (g223 ≠ g233) := ⟨h10_⟩
          have n11_ : Aside0 (g233 ≠ g223) := ⟨h11_⟩
          have n12_ : Aside0 (Below w.heap.size w w81) := ⟨h12_⟩
          clear BK210
          clear BK211
          clear BK223
          clear HB
          clear h0_ h1_ h2_ h3_ h4_ h5_ h6_ h7_ h8_ h9_ h10_ h11_ h12_
          have BK210 := n0_
          have BK211 := n1_
          have BK223 := n2_
          have BK233 := n3_
          have GW233 := n4_
          have GE233 := n5_
          have NB210_233 := n6_
          have NB233_210 := n7_
          have NB211_233 := n8_
          have NB233_211 := n9_
          have NB223_233 := n10_
          have NB233_223 := n11_
          have HB := n12_
          clear n0_ n1_ n2_ n3_ n4_ n5_ n6_ n7_ n8_ n9_ n10_ n11_ n12_
          have hHeld : w81.cell? ⟨g210, 0, none⟩ = some (.int .i64 a0_0) ∧ w81.cell? ⟨g210, 1, none⟩ = some (.int .i64 a0_1) ∧ w81.cell? ⟨g210, 2, none⟩ = some (.string a0_2) ∧ w81.cell? ⟨g211, 0, none⟩ = some (.int .i64 a1_0) ∧ w81.cell? ⟨g211, 1, none⟩ = some (.int .i64 a1_1) ∧ w81.cell? ⟨g211, 2, none⟩ = some (.string a1_2) := hS_
          refine norm_ (a' := ?_) ?_ ?_
          rotate_left
          · simp only [putAll, Act.put, y1, y2, y3]
            rfl
          refine one_ (i := 9) (N := none) #[true, true, true, true, true, true, true, true, true, true, false] rfl rfl (one_of HT_.out Z32) Z33 (fun K hK => ?_)
          have hs82 : w81.cell? ⟨g233, 0, none⟩ = some (.int .i64 0) := (blk_cell BK233.out 0).trans rfl
          have hfs82 := blk_frozen BK233.out 0
          have hns82_0 := NB210_233.out
          have hns82_1 := NB211_233.out
          have hns82_2 := NB223_233.out
          have hms82_0 := NB233_210.out
          have hms82_1 := NB233_211.out
          have hms82_2 := NB233_223.out
          have hs83 : w81.cell? ⟨g233, 1, none⟩ = some (.int .i64 0) := (blk_cell BK233.out 1).trans rfl
          have hfs83 := blk_frozen BK233.out 1
          have hns83_0 := NB210_233.out
          have hns83_1 := NB211_233.out
          have hns83_2 := NB223_233.out
          have hms83_0 := NB233_210.out
          have hms83_1 := NB233_211.out
          have hms83_2 := NB233_223.out
          refine skip_ (w1 := ?_) (by rfl) rfl ?_ ?_
          rotate_left
          · go_simp
            rfl
          refine hK.out _ _ ⟨((cell_far (p := ⟨g233, _, none⟩) NB210_233.out _).trans (((cell_far (p := ⟨g233, _, none⟩) NB210_233.out _).trans (hHeld.1)))), ((cell_far (p := ⟨g233, _, none⟩) NB210_233.out _).trans (((cell_far (p := ⟨g233, _, none⟩) NB210_233.out _).trans (hHeld.2.1)))), ((cell_far (p := ⟨g233, _, none⟩) NB210_233.out _).trans (((cell_far (p := ⟨g233, _, none⟩) NB210_233.out _).trans (hHeld.2.2.1)))), ((cell_far (p := ⟨g233, _, none⟩) NB211_233.out _).trans (((cell_far (p := ⟨g233, _, none⟩) NB211_233.out _).trans (hHeld.2.2.2.1)))), ((cell_far (p := ⟨g233, _, none⟩) NB211_233.out _).trans (((cell_far (p := ⟨g233, _, none⟩) NB211_233.out _).trans (hHeld.2.2.2.2.1)))), ((cell_far (p := ⟨g233, _, none⟩) NB211_233.out _).trans (((cell_far (p := ⟨g233, _, none⟩) NB211_233.out _).trans (hHeld.2.2.2.2.2))))⟩ (fun hHeld => ?_)
          clear hK K
          refine pure_ (i := 10) (N := some 9) (v := ?_) (a' := ?_) #[true, true, true, true, true, true, true, true, true, true, true] rfl rfl (any_of HT_.out Z32) (fun _ _ _ h => h) (Or.inl ⟨by rfl, ?_⟩) ?_ ?_
          rotate_left
          · intro w'
            go_simp
            with_reducible rfl
          rotate_left
          · simp only [Act.put, y1, y2, y3, i64_w, i32_w]
            rfl
          refine done_ (done_of HT_.out Z32) ?_
          have hnb84 := NB233_210.out
          have hnc84 := NB210_233.out
          have hnb85 := NB233_211.out
          have hnc85 := NB211_233.out
          have hnb86 := NB233_223.out
          have hnc86 := NB223_233.out
          have hcz87_0 : w81.cell? ⟨g233, 0, none⟩ = some (.int .i64 0) := (blk_cell BK233.out 0).trans rfl
          have hcz87_1 : w81.cell? ⟨g233, 1, none⟩ = some (.int .i64 0) := (blk_cell BK233.out 1).trans rfl
          have hfz87_0 := blk_frozen BK233.out 0
          have hfz87_1 := blk_frozen BK233.out 1
          have hnb88 := NB223_210.out
          have hnc88 := NB210_223.out
          have hnb89 := NB223_211.out
          have hnc89 := NB211_223.out
          have hcz90_0 : w81.cell? ⟨g223, 0, none⟩ = some (.int .i64 t220) := (blk_cell BK223.out 0).trans rfl
          have hcz90_1 : w81.cell? ⟨g223, 1, none⟩ = some (.int .i64 t221) := (blk_cell BK223.out 1).trans rfl
          have hfz90_0 := blk_frozen BK223.out 0
          have hfz90_1 := blk_frozen BK223.out 1
          try go_wp2_with (first | ((with_reducible refine gate_callee (f := 15) rfl ?_); refine goesL_ (some 38) rfl rfl Tryd.func15 Z32 rfl #[.agg #[.int .i64 t230, .int .i64 t231], .agg #[.int .i64 t220, .int .i64 t221]] rfl Z25 ?_; (with_reducible refine (laws_eqCell.calls t230 t231 t220 t221 true _ A25.out).mono ?_); rintro e w91 ⟨rfl, hb⟩; refine ⟨_, rfl, ?_⟩; have n0_ := A0 (blk_below (g := g210) (o := .cells #[.int .i64 a0_0, .int .i64 a0_1, .string a0_2] 25 (0, 0)) Z2 hb); have n1_ := A0 (blk_below (g := g211) (o := .cells #[.int .i64 a1_0, .int .i64 a1_1, .string a1_2] 25 (0, 0)) Z3 hb); have n2_ := A0 (blk_below (g := g223) (o := .cells #[.int .i64 t220, .int .i64 t221] 28 (0, 0)) Z4 hb); have n3_ := A0 (blk_below (g := g233) (o := .cells #[.int .i64 t230, .int .i64 t231] 28 (0, 0)) Z1 hb); have n4_ := A0 (below_step Z16 hb); clear BK210; clear BK211; clear BK223; clear BK233; clear HB; have BK210 := n0_; have BK211 := n1_; have BK223 := n2_; have BK233 := n3_; have HB := n4_; clear n0_ n1_ n2_ n3_ n4_; (try clear hb); (try clear hb2); (try clear hk); (try clear hi)))
          go_ret
          exact ⟨by first | rfl | (simp [errW_none, errW_some] <;> rfl) | (simp [*, errW_none, errW_some] <;> rfl), by repeat (first | (with_reducible first | exact HB.out | apply below_alloc | apply pw_below_drewN | apply below_drew1 | refine below_set ?_ GE210.out | refine below_set ?_ GE211.out | refine below_set ?_ GE223.out | refine below_set ?_ GE233.out) | exact HB.out)⟩
      · replace c26 := Bool.eq_false_iff.mpr c26
        subst c26
        have H1 : (some false) = some r := by rw [if_neg (show ¬ (false = true) by decide)] at H; exact H
        clear H
        have H := H1
        clear H1
        obtain rfl := Option.some.inj H
        go_enter Tryd.func7, Tryd.ntmps7
        try go_wp2_with (first | ((with_reducible refine gate_dst (N := 2) rfl ?_); refine box_event ?hg (N := 2) ?hd (cs := #[.int .i64 a0_0, .int .i64 a0_1, .string a0_2]) (t := 25) ?hr ?_; (case hd => rfl); (case hg => rfl); (case hr => first | (go_simp; done) | (go_simp; rfl)); intro g210 hg w92 hbox hb; have n0_ := A0 (below_step Z26 hb); have n1_ := A0 (hbox); have n2_ := A0 ((Z23 : w.heap.size ≤ g210)); have n3_ := A0 ((Z23 : w.heap.size ≤ g210)); clear HB; have HB := n0_; have BK210 := n1_; have GW210 := n2_; have GE210 := n3_; clear n0_ n1_ n2_ n3_; clear hb hbox hg) | ((with_reducible refine gate_dst (N := 3) rfl ?_); refine box_event ?hg (N := 3) ?hd (cs := #[.int .i64 a1_0, .int .i64 a1_1, .string a1_2]) (t := 25) ?hr ?_; (case hd => rfl); (case hg => rfl); (case hr => first | (go_simp; done) | (go_simp; rfl)); intro g211 hg w93 hbox hb; have n0_ := A0 (blk_below (g := g210) (o := .cells #[.int .i64 a0_0, .int .i64 a0_1, .string a0_2] 25 (0, 0)) Z27 hb); have n1_ := A0 (below_step Z24 hb); have n2_ := A0 (hbox); have n3_ := A0 ((Z21 : w.heap.size ≤ g211)); have n4_ := A0 ((Z21 : w.heap.size ≤ g211)); have n5_ := A0 ((Z6 : g210 ≠ g211)); have n6_ := A0 ((Z7 : g211 ≠ g210)); clear BK210; clear HB; have BK210 := n0_; have HB := n1_; have BK211 := n2_; have GW211 := n3_; have GE211 := n4_; have NB210_211 := n5_; have NB211_210 := n6_; clear n0_ n1_ n2_ n3_ n4_ n5_ n6_; clear hb hbox hg; have hnb94 := NB210_211.out; have hnc94 := NB211_210.out; have hcz95_0 : w93.cell? ⟨g210, 0, none⟩ = some (.int .i64 a0_0) := (blk_cell BK210.out 0).trans rfl; have hcz95_1 : w93.cell? ⟨g210, 1, none⟩ = some (.int .i64 a0_1) := (blk_cell BK210.out 1).trans rfl; have hcz95_2 : w93.cell? ⟨g210, 2, none⟩ = some (.string a0_2) := (blk_cell BK210.out 2).trans rfl; have hfz95_0 := blk_frozen BK210.out 0; have hfz95_1 := blk_frozen BK210.out 1; have hfz95_2 := blk_frozen BK210.out 2) | ((with_reducible refine gate_callee (f := 9) rfl ?_); refine goesL_ (some 12) rfl rfl Tryd.func9 Z32 rfl #[.agg #[.int .i64 a0_0, .int .i64 a0_1, .string a0_2], .int .i64 1048576] rfl Z25 ?_; (with_reducible refine (laws_szWay.calls a0_0 a0_1 a0_2 1048576 t212 _ A3.out).mono ?_); rintro e w96 ⟨rfl, hb⟩; refine ⟨_, rfl, ?_⟩; have n0_ := A0 (blk_below (g := g210) (o := .cells #[.int .i64 a0_0, .int .i64 a0_1, .string a0_2] 25 (0, 0)) Z27 hb); have n1_ := A0 (blk_below (g := g211) (o := .cells #[.int .i64 a1_0, .int .i64 a1_1, .string a1_2] 25 (0, 0)) Z28 hb); have n2_ := A0 (below_step Z22 hb); clear BK210; clear BK211; clear HB; have BK210 := n0_; have BK211 := n1_; have HB := n2_; clear n0_ n1_ n2_; (try clear hb); (try clear hb2); (try clear hk); (try clear hi); have hcz97_0 : w96.cell? ⟨g211, 0, none⟩ = some (.int .i64 a1_0) := (blk_cell BK211.out 0).trans rfl; have hcz97_1 : w96.cell? ⟨g211, 1, none⟩ = some (.int .i64 a1_1) := (blk_cell BK211.out 1).trans rfl; have hcz97_2 : w96.cell? ⟨g211, 2, none⟩ = some (.string a1_2) := (blk_cell BK211.out 2).trans rfl; have hfz97_0 := blk_frozen BK211.out 0; have hfz97_1 := blk_frozen BK211.out 1; have hfz97_2 := blk_frozen BK211.out 2) | ((with_reducible refine gate_callee (f := 9) rfl ?_); refine goesL_ (some 17) rfl rfl Tryd.func9 Z32 rfl #[.agg #[.int .i64 a1_0, .int .i64 a1_1, .string a1_2], .int .i64 t212] rfl Z25 ?_; (with_reducible refine (laws_szWay.calls a1_0 a1_1 a1_2 t212 t213 _ A10.out).mono ?_); rintro e w98 ⟨rfl, hb⟩; refine ⟨_, rfl, ?_⟩; have n0_ := A0 (blk_below (g := g210) (o := .cells #[.int .i64 a0_0, .int .i64 a0_1, .string a0_2] 25 (0, 0)) Z27 hb); have n1_ := A0 (blk_below (g := g211) (o := .cells #[.int .i64 a1_0, .int .i64 a1_1, .string a1_2] 25 (0, 0)) Z28 hb); have n2_ := A0 (below_step Z22 hb); clear BK210; clear BK211; clear HB; have BK210 := n0_; have BK211 := n1_; have HB := n2_; clear n0_ n1_ n2_; (try clear hb); (try clear hb2); (try clear hk); (try clear hi)))
        have n0_ := A0 (blk_drew BK210.out)
        have n1_ := A0 (blk_drew BK211.out)
        have n2_ := A0 (below_drew1 HB.out)
        clear BK210
        clear BK211
        clear HB
        have BK210 := n0_
        have BK211 := n1_
        have HB := n2_
        clear n0_ n1_ n2_
        refine start_ (n := 11) (S := fun w' => w'.cell? ⟨g210, 0, none⟩ = some (.int .i64 a0_0) ∧ w'.cell? ⟨g210, 1, none⟩ = some (.int .i64 a0_1) ∧ w'.cell? ⟨g210, 2, none⟩ = some (.string a0_2) ∧ w'.cell? ⟨g211, 0, none⟩ = some (.int .i64 a1_0) ∧ w'.cell? ⟨g211, 1, none⟩ = some (.int .i64 a1_1) ∧ w'.cell? ⟨g211, 2, none⟩ = some (.string a1_2)) (ds := []) #[false, false, false, false, false, false, false, false, false, false, false] Z32 rfl rfl ⟨(blk_cell BK210.out 0).trans rfl, (blk_cell BK210.out 1).trans rfl, (blk_cell BK210.out 2).trans rfl, (blk_cell BK211.out 0).trans rfl, (blk_cell BK211.out 1).trans rfl, (blk_cell BK211.out 2).trans rfl⟩ (fun hHeld => ?_); refine with_tabW laws_FnExactFirstMeetingOf.tab8 laws_FnExactFirstMeetingOf.bits8 (fun HT_ HW_ => ?_)
        generalize w98.drew = w99 at BK210 BK211 HB hHeld ⊢
        refine take_ (i := 0) (N := some 21) (v := ?_) (a' := ?_) #[true, false, false, false, false, false, false, false, false, false, false] rfl rfl (take_ofW HT_.out HW_.out Z32) (fun _ _ _ h => h) (Or.inl ⟨by rfl, ?_⟩) hHeld ?_ ?_
        rotate_left
        · rintro w' ⟨s0, s1, s2, s3, s4, s5⟩
          go_simp
          with_reducible rfl
        rotate_left
        · simp only [Act.put, y1, y2, y3, i64_w, i32_w]
          rfl
        refine take_ (i := 2) (N := some 23) (v := ?_) (a' := ?_) #[true, false, true, false, false, false, false, false, false, false, false] rfl rfl (take_ofW HT_.out HW_.out Z32) (fun _ _ _ h => h) (Or.inl ⟨by rfl, ?_⟩) hHeld ?_ ?_
        rotate_left
        · rintro w' ⟨s0, s1, s2, s3, s4, s5⟩
          go_simp
          with_reducible rfl
        rotate_left
        · simp only [Act.put, y1, y2, y3, i64_w, i32_w]
          rfl
        refine join_ (σ := Nat) 2 #[true, true, true, true, true, true, true, true, true, false, false] (fun s_ => [(22, .agg #[.int .i64 t214, .int .i64 t215, .string t216]), (24, .agg #[.int .i64 t217, .int .i64 t218, .string t219]), (25, .tuple #[.agg #[.int .i64 t220, .int .i64 t221], .bool t222]), (6, .pointer (some ⟨s_, 0, none⟩)), (20, .tuple #[.agg #[.int .i64 t220, .int .i64 t221], .bool t222]), (26, .agg #[.int .i64 t220, .int .i64 t221]), (27, .bool t222)]) (fun s_ w' => (w'.cell? ⟨g210, 0, none⟩ = some (.int .i64 a0_0) ∧ w'.cell? ⟨g210, 1, none⟩ = some (.int .i64 a0_1) ∧ w'.cell? ⟨g210, 2, none⟩ = some (.string a0_2) ∧ w'.cell? ⟨g211, 0, none⟩ = some (.int .i64 a1_0) ∧ w'.cell? ⟨g211, 1, none⟩ = some (.int .i64 a1_1) ∧ w'.cell? ⟨g211, 2, none⟩ = some (.string a1_2)) ∧ (w'.heap[g210]? = some (.cells #[.int .i64 a0_0, .int .i64 a0_1, .string a0_2] 25 (0, 0))) ∧ (w'.heap[g211]? = some (.cells #[.int .i64 a1_0, .int .i64 a1_1, .string a1_2] 25 (0, 0))) ∧ (w'.heap[s_]? = some (.cells #[.int .i64 0, .int .i64 0] 28 (0, 0))) ∧ (w.heap.size ≤ s_) ∧ (w.heap.size ≤ s_) ∧ (g210 ≠ s_) ∧ (s_ ≠ g210) ∧ (g211 ≠ s_) ∧ (s_ ≠ g211) ∧ (Below w.heap.size w w')) ?_ ?_
        rotate_left
        · intro hCont
          refine two_ (i := 1) (j := 8) (Ni := some 22) (Nj := some 6) #[true, true, true, false, false, false, false, false, false, false, false] #[true, false, true, false, false, false, false, false, true, false, false] rfl rfl rfl rfl (two_of HT_.out Z32) Z33 Z33 (fun K hK => ?_) (fun K hK => ?_)
          · skip
            refine goes_ Tryd.func11 Z32 rfl #[.agg #[.int .i64 a0_0, .int .i64 a0_1, .string a0_2]] (by rfl) rfl rfl Z25 ?_
            with_reducible refine (laws_toWay.calls a0_0 a0_1 a0_2 t214 t215 t216 _ A19.out).mono ?_
            rintro e w100 ⟨rfl, hb⟩
            refine ⟨_, rfl, ?_⟩
            have n0_ := A0 (blk_below (g := g210) (o := .cells #[.int .i64 a0_0, .int .i64 a0_1, .string a0_2] 25 (0, 0)) Z27 hb)
            have n1_ := A0 (blk_below (g := g211) (o := .cells #[.int .i64 a1_0, .int .i64 a1_1, .string a1_2] 25 (0, 0)) Z28 hb)
            have n2_ := A0 (below_step Z22 hb)
            clear BK210
            clear BK211
            clear HB
            have BK210 := n0_
            have BK211 := n1_
            have HB := n2_
            clear n0_ n1_ n2_
            (try clear hb)
            (try clear hb2)
            (try clear hk)
            (try clear hi)
            refine hK.out _ _ ⟨(blk_cell BK210.out 0).trans rfl, (blk_cell BK210.out 1).trans rfl, (blk_cell BK210.out 2).trans rfl, (blk_cell BK211.out 0).trans rfl, (blk_cell BK211.out 1).trans rfl, (blk_cell BK211.out 2).trans rfl⟩ (fun hHeld => ?_)
            clear hK K
            refine norm_ (a' := ?_) ?_ ?_
            rotate_left
            · show Act.put _ (some 22) _ = _
              simp only [Act.put, y1, y2, y3, i64_w, i32_w]
              rfl
            refine two_ (i := 3) (j := 8) (Ni := some 24) (Nj := some 6) #[true, true, true, true, false, false, false, false, false, false, false] #[true, true, true, false, false, false, false, false, true, false, false] rfl rfl rfl rfl (two_of HT_.out Z32) Z33 Z33 (fun K hK => ?_) (fun K hK => ?_)
            · skip
              refine goes_ Tryd.func11 Z32 rfl #[.agg #[.int .i64 a1_0, .int .i64 a1_1, .string a1_2]] (by rfl) rfl rfl Z25 ?_
              with_reducible refine (laws_toWay.calls a1_0 a1_1 a1_2 t217 t218 t219 _ A20.out).mono ?_
              rintro e w101 ⟨rfl, hb⟩
              refine ⟨_, rfl, ?_⟩
              have n0_ := A0 (blk_below (g := g210) (o := .cells #[.int .i64 a0_0, .int .i64 a0_1, .string a0_2] 25 (0, 0)) Z27 hb)
              have n1_ := A0 (blk_below (g := g211) (o := .cells #[.int .i64 a1_0, .int .i64 a1_1, .string a1_2] 25 (0, 0)) Z28 hb)
              have n2_ := A0 (below_step Z22 hb)
              clear BK210
              clear BK211
              clear HB
              have BK210 := n0_
              have BK211 := n1_
              have HB := n2_
              clear n0_ n1_ n2_
              (try clear hb)
              (try clear hb2)
              (try clear hk)
              (try clear hi)
              refine hK.out _ _ ⟨(blk_cell BK210.out 0).trans rfl, (blk_cell BK210.out 1).trans rfl, (blk_cell BK210.out 2).trans rfl, (blk_cell BK211.out 0).trans rfl, (blk_cell BK211.out 1).trans rfl, (blk_cell BK211.out 2).trans rfl⟩ (fun hHeld => ?_)
              clear hK K
              refine norm_ (a' := ?_) ?_ ?_
              rotate_left
              · show Act.put _ (some 24) _ = _
                simp only [Act.put, y1, y2, y3, i64_w, i32_w]
                rfl
              refine two_ (i := 4) (j := 8) (Ni := some 25) (Nj := some 6) #[true, true, true, true, true, false, false, false, false, false, false] #[true, true, true, true, false, false, false, false, true, false, false] rfl rfl rfl rfl (two_of HT_.out Z32) Z33 Z33 (fun K hK => ?_) (fun K hK => ?_)
              · skip
                refine goes_ Tryd.func23 Z32 rfl #[.agg #[.int .i64 t214, .int .i64 t215, .string t216], .agg #[.int .i64 t217, .int .i64 t218, .string t219]] (by rfl) rfl rfl Z25 ?_
                with_reducible refine (spec_FirstMeetingOf.calls k t214 t215 t216 t217 t218 t219 t220 t221 t222 _ A21.out).mono ?_
                rintro e w102 ⟨rfl, hb⟩
                refine ⟨_, rfl, ?_⟩
                have n0_ := A0 (blk_below (g := g210) (o := .cells #[.int .i64 a0_0, .int .i64 a0_1, .string a0_2] 25 (0, 0)) Z27 hb)
                have n1_ := A0 (blk_below (g := g211) (o := .cells #[.int .i64 a1_0, .int .i64 a1_1, .string a1_2] 25 (0, 0)) Z28 hb)
                have n2_ := A0 (below_step Z22 hb)
                clear BK210
                clear BK211
                clear HB
                have BK210 := n0_
                have BK211 := n1_
                have HB := n2_
                clear n0_ n1_ n2_
                (try clear hb)
                (try clear hb2)
                (try clear hk)
                (try clear hi)
                refine hK.out _ _ ⟨(blk_cell BK210.out 0).trans rfl, (blk_cell BK210.out 1).trans rfl, (blk_cell BK210.out 2).trans rfl, (blk_cell BK211.out 0).trans rfl, (blk_cell BK211.out 1).trans rfl, (blk_cell BK211.out 2).trans rfl⟩ (fun hHeld => ?_)
                clear hK K
                refine norm_ (a' := ?_) ?_ ?_
                rotate_left
                · show Act.put _ (some 25) _ = _
                  simp only [Act.put, y1, y2, y3, i64_w, i32_w]
                  rfl
                refine pure_ (i := 5) (N := some 20) (v := ?_) (a' := ?_) #[true, true, true, true, true, true, false, false, false, false, false] rfl rfl (any_of HT_.out Z32) (fun _ _ _ h => h) (Or.inl ⟨by rfl, ?_⟩) ?_ ?_
                rotate_left
                · intro w'
                  go_simp
                  with_reducible rfl
                rotate_left
                · simp only [Act.put, y1, y2, y3, i64_w, i32_w]
                  rfl
                refine pure_ (i := 6) (N := some 26) (v := ?_) (a' := ?_) #[true, true, true, true, true, true, true, false, false, false, false] rfl rfl (any_of HT_.out Z32) (fun _ _ _ h => h) (Or.inl ⟨by rfl, ?_⟩) ?_ ?_
                rotate_left
                · intro w'
                  go_simp
                  with_reducible rfl
                rotate_left
                · simp only [Act.put, y1, y2, y3, i64_w, i32_w]
                  rfl
                refine pure_ (i := 7) (N := some 27) (v := ?_) (a' := ?_) #[true, true, true, true, true, true, true, true, false, false, false] rfl rfl (any_of HT_.out Z32) (fun _ _ _ h => h) (Or.inl ⟨by rfl, ?_⟩) ?_ ?_
                rotate_left
                · intro w'
                  go_simp
                  with_reducible rfl
                rotate_left
                · simp only [Act.put, y1, y2, y3, i64_w, i32_w]
                  rfl
                refine one_ (i := 8) (N := some 6) #[true, true, true, true, true, true, true, true, true, false, false] rfl rfl (one_of HT_.out Z32) Z33 (fun K hK => ?_)
                refine box_step ?hg (N := 6) ?hd (cs := #[.int .i64 0, .int .i64 0]) (t := 28) ?hr ?_; (case hd => rfl); (case hg => rfl); (case hr => first | (go_simp; done) | (go_simp; rfl))
                intro g223 hg w103 hbox hb
                have n0_ := A0 (blk_below (g := g210) (o := .cells #[.int .i64 a0_0, .int .i64 a0_1, .string a0_2] 25 (0, 0)) Z27 hb)
                have n1_ := A0 (blk_below (g := g211) (o := .cells #[.int .i64 a1_0, .int .i64 a1_1, .string a1_2] 25 (0, 0)) Z28 hb)
                have n2_ := A0 (below_step Z22 hb)
                have n3_ := A0 (hbox)
                have n4_ := A0 ((Z17 : w.heap.size ≤ g223))
                have n5_ := A0 ((Z17 : w.heap.size ≤ g223))
                have n6_ := A0 ((Z8 : g210 ≠ g223))
                have n7_ := A0 ((Z9 : g223 ≠ g210))
                have n8_ := A0 ((Z10 : g211 ≠ g223))
                have n9_ := A0 ((Z11 : g223 ≠ g211))
                clear BK210
                clear BK211
                clear HB
                have BK210 := n0_
                have BK211 := n1_
                have HB := n2_
                have BK223 := n3_
                have GW223 := n4_
                have GE223 := n5_
                have NB210_223 := n6_
                have NB223_210 := n7_
                have NB211_223 := n8_
                have NB223_211 := n9_
                clear n0_ n1_ n2_ n3_ n4_ n5_ n6_ n7_ n8_ n9_
                clear hb hbox hg
                refine hK.out _ _ ⟨(blk_cell BK210.out 0).trans rfl, (blk_cell BK210.out 1).trans rfl, (blk_cell BK210.out 2).trans rfl, (blk_cell BK211.out 0).trans rfl, (blk_cell BK211.out 1).trans rfl, (blk_cell BK211.out 2).trans rfl⟩ (fun hHeld => ?_)
                clear hK K
                refine norm_ (a' := ?_) ?_ ?_
                rotate_left
                · show Act.put _ (some 6) _ = _
                  simp only [Act.put, y1, y2, y3, i64_w, i32_w]
                  rfl
                exact norm_ Z31 (hCont (g223) _ ⟨hHeld, Z27, Z28, Z29, GW223.out, GE223.out, NB210_223.out, NB223_210.out, NB211_223.out, NB223_211.out, Z20⟩)
              · skip
                refine box_step ?hg (N := 6) ?hd (cs := #[.int .i64 0, .int .i64 0]) (t := 28) ?hr ?_; (case hd => rfl); (case hg => rfl); (case hr => first | (go_simp; done) | (go_simp; rfl))
                intro g223 hg w102 hbox hb
                have n0_ := A0 (blk_below (g := g210) (o := .cells #[.int .i64 a0_0, .int .i64 a0_1, .string a0_2] 25 (0, 0)) Z27 hb)
                have n1_ := A0 (blk_below (g := g211) (o := .cells #[.int .i64 a1_0, .int .i64 a1_1, .string a1_2] 25 (0, 0)) Z28 hb)
                have n2_ := A0 (below_step Z22 hb)
                have n3_ := A0 (hbox)
                have n4_ := A0 ((Z17 : w.heap.size ≤ g223))
                have n5_ := A0 ((Z17 : w.heap.size ≤ g223))
                have n6_ := A0 ((Z8 : g210 ≠ g223))
                have n7_ := A0 ((Z9 : g223 ≠ g210))
                have n8_ := A0 ((Z10 : g211 ≠ g223))
                have n9_ := A0 ((Z11 : g223 ≠ g211))
                clear BK210
                clear BK211
                clear HB
                have BK210 := n0_
                have BK211 := n1_
                have HB := n2_
                have BK223 := n3_
                have GW223 := n4_
                have GE223 := n5_
                have NB210_223 := n6_
                have NB223_210 := n7_
                have NB211_223 := n8_
                have NB223_211 := n9_
                clear n0_ n1_ n2_ n3_ n4_ n5_ n6_ n7_ n8_ n9_
                clear hb hbox hg
                refine hK.out _ _ ⟨(blk_cell BK210.out 0).trans rfl, (blk_cell BK210.out 1).trans rfl, (blk_cell BK210.out 2).trans rfl, (blk_cell BK211.out 0).trans rfl, (blk_cell BK211.out 1).trans rfl, (blk_cell BK211.out 2).trans rfl⟩ (fun hHeld => ?_)
                clear hK K
                refine norm_ (a' := ?_) ?_ ?_
                rotate_left
                · show Act.put _ (some 6) _ = _
                  simp only [Act.put, y1, y2, y3, i64_w, i32_w]
                  rfl
                refine one_ (i := 4) (N := some 25) #[true, true, true, true, true, false, false, false, true, false, false] rfl rfl (one_of HT_.out Z32) Z33 (fun K hK => ?_)
                refine goes_ Tryd.func23 Z32 rfl #[.agg #[.int .i64 t214, .int .i64 t215, .string t216], .agg #[.int .i64 t217, .int .i64 t218, .string t219]] (by rfl) rfl rfl Z25 ?_
                with_reducible refine (spec_FirstMeetingOf.calls k t214 t215 t216 t217 t218 t219 t220 t221 t222 _ A21.out).mono ?_
                rintro e w103 ⟨rfl, hb⟩
                refine ⟨_, rfl, ?_⟩
                have n0_ := A0 (blk_below (g := g210) (o := .cells #[.int .i64 a0_0, .int .i64 a0_1, .string a0_2] 25 (0, 0)) Z27 hb)
                have n1_ := A0 (blk_below (g := g211) (o := .cells #[.int .i64 a1_0, .int .i64 a1_1, .string a1_2] 25 (0, 0)) Z28 hb)
                have n2_ := A0 (blk_below (g := g223) (o := .cells #[.int .i64 0, .int .i64 0] 28 (0, 0)) Z29 hb)
                have n3_ := A0 (below_step Z20 hb)
                clear BK210
                clear BK211
                clear BK223
                clear HB
                have BK210 := n0_
                have BK211 := n1_
                have BK223 := n2_
                have HB := n3_
                clear n0_ n1_ n2_ n3_
                (try clear hb)
                (try clear hb2)
                (try clear hk)
                (try clear hi)
                refine hK.out _ _ ⟨(blk_cell BK210.out 0).trans rfl, (blk_cell BK210.out 1).trans rfl, (blk_cell BK210.out 2).trans rfl, (blk_cell BK211.out 0).trans rfl, (blk_cell BK211.out 1).trans rfl, (blk_cell BK211.out 2).trans rfl⟩ (fun hHeld => ?_)
                clear hK K
                refine norm_ (a' := ?_) ?_ ?_
                rotate_left
                · show Act.put _ (some 25) _ = _
                  simp only [Act.put, y1, y2, y3, i64_w, i32_w]
                  rfl
                refine pure_ (i := 5) (N := some 20) (v := ?_) (a' := ?_) #[true, true, true, true, true, true, false, false, true, false, false] rfl rfl (any_of HT_.out Z32) (fun _ _ _ h => h) (Or.inl ⟨by rfl, ?_⟩) ?_ ?_
                rotate_left
                · intro w'
                  go_simp
                  with_reducible rfl
                rotate_left
                · simp only [Act.put, y1, y2, y3, i64_w, i32_w]
                  rfl
                refine pure_ (i := 6) (N := some 26) (v := ?_) (a' := ?_) #[true, true, true, true, true, true, true, false, true, false, false] rfl rfl (any_of HT_.out Z32) (fun _ _ _ h => h) (Or.inl ⟨by rfl, ?_⟩) ?_ ?_
                rotate_left
                · intro w'
                  go_simp
                  with_reducible rfl
                rotate_left
                · simp only [Act.put, y1, y2, y3, i64_w, i32_w]
                  rfl
                refine pure_ (i := 7) (N := some 27) (v := ?_) (a' := ?_) #[true, true, true, true, true, true, true, true, true, false, false] rfl rfl (any_of HT_.out Z32) (fun _ _ _ h => h) (Or.inl ⟨by rfl, ?_⟩) ?_ ?_
                rotate_left
                · intro w'
                  go_simp
                  with_reducible rfl
                rotate_left
                · simp only [Act.put, y1, y2, y3, i64_w, i32_w]
                  rfl
                exact norm_ Z31 (hCont (g223) _ ⟨hHeld, Z27, Z28, Z29, GW223.out, GE223.out, NB210_223.out, NB223_210.out, NB211_223.out, NB223_211.out, Z20⟩)
            · skip
              refine box_step ?hg (N := 6) ?hd (cs := #[.int .i64 0, .int .i64 0]) (t := 28) ?hr ?_; (case hd => rfl); (case hg => rfl); (case hr => first | (go_simp; done) | (go_simp; rfl))
              intro g223 hg w101 hbox hb
              have n0_ := A0 (blk_below (g := g210) (o := .cells #[.int .i64 a0_0, .int .i64 a0_1, .string a0_2] 25 (0, 0)) Z27 hb)
              have n1_ := A0 (blk_below (g := g211) (o := .cells #[.int .i64 a1_0, .int .i64 a1_1, .string a1_2] 25 (0, 0)) Z28 hb)
              have n2_ := A0 (below_step Z22 hb)
              have n3_ := A0 (hbox)
              have n4_ := A0 ((Z17 : w.heap.size ≤ g223))
              have n5_ := A0 ((Z17 : w.heap.size ≤ g223))
              have n6_ := A0 ((Z8 : g210 ≠ g223))
              have n7_ := A0 ((Z9 : g223 ≠ g210))
              have n8_ := A0 ((Z10 : g211 ≠ g223))
              have n9_ := A0 ((Z11 : g223 ≠ g211))
              clear BK210
              clear BK211
              clear HB
              have BK210 := n0_
              have BK211 := n1_
              have HB := n2_
              have BK223 := n3_
              have GW223 := n4_
              have GE223 := n5_
              have NB210_223 := n6_
              have NB223_210 := n7_
              have NB211_223 := n8_
              have NB223_211 := n9_
              clear n0_ n1_ n2_ n3_ n4_ n5_ n6_ n7_ n8_ n9_
              clear hb hbox hg
              refine hK.out _ _ ⟨(blk_cell BK210.out 0).trans rfl, (blk_cell BK210.out 1).trans rfl, (blk_cell BK210.out 2).trans rfl, (blk_cell BK211.out 0).trans rfl, (blk_cell BK211.out 1).trans rfl, (blk_cell BK211.out 2).trans rfl⟩ (fun hHeld => ?_)
              clear hK K
              refine norm_ (a' := ?_) ?_ ?_
              rotate_left
              · show Act.put _ (some 6) _ = _
                simp only [Act.put, y1, y2, y3, i64_w, i32_w]
                rfl
              refine one_ (i := 3) (N := some 24) #[true, true, true, true, false, false, false, false, true, false, false] rfl rfl (one_of HT_.out Z32) Z33 (fun K hK => ?_)
              refine goes_ Tryd.func11 Z32 rfl #[.agg #[.int .i64 a1_0, .int .i64 a1_1, .string a1_2]] (by rfl) rfl rfl Z25 ?_
              with_reducible refine (laws_toWay.calls a1_0 a1_1 a1_2 t217 t218 t219 _ A20.out).mono ?_
              rintro e w102 ⟨rfl, hb⟩
              refine ⟨_, rfl, ?_⟩
              have n0_ := A0 (blk_below (g := g210) (o := .cells #[.int .i64 a0_0, .int .i64 a0_1, .string a0_2] 25 (0, 0)) Z27 hb)
              have n1_ := A0 (blk_below (g := g211) (o := .cells #[.int .i64 a1_0, .int .i64 a1_1, .string a1_2] 25 (0, 0)) Z28 hb)
              have n2_ := A0 (blk_below (g := g223) (o := .cells #[.int .i64 0, .int .i64 0] 28 (0, 0)) Z29 hb)
              have n3_ := A0 (below_step Z20 hb)
              clear BK210
              clear BK211
              clear BK223
              clear HB
              have BK210 := n0_
              have BK211 := n1_
              have BK223 := n2_
              have HB := n3_
              clear n0_ n1_ n2_ n3_
              (try clear hb)
              (try clear hb2)
              (try clear hk)
              (try clear hi)
              refine hK.out _ _ ⟨(blk_cell BK210.out 0).trans rfl, (blk_cell BK210.out 1).trans rfl, (blk_cell BK210.out 2).trans rfl, (blk_cell BK211.out 0).trans rfl, (blk_cell BK211.out 1).trans rfl, (blk_cell BK211.out 2).trans rfl⟩ (fun hHeld => ?_)
              clear hK K
              refine norm_ (a' := ?_) ?_ ?_
              rotate_left
              · show Act.put _ (some 24) _ = _
                simp only [Act.put, y1, y2, y3, i64_w, i32_w]
                rfl
              refine one_ (i := 4) (N := some 25) #[true, true, true, true, true, false, false, false, true, false, false] rfl rfl (one_of HT_.out Z32) Z33 (fun K hK => ?_)
              refine goes_ Tryd.func23 Z32 rfl #[.agg #[.int .i64 t214, .int .i64 t215, .string t216], .agg #[.int .i64 t217, .int .i64 t218, .string t219]] (by rfl) rfl rfl Z25 ?_
              with_reducible refine (spec_FirstMeetingOf.calls k t214 t215 t216 t217 t218 t219 t220 t221 t222 _ A21.out).mono ?_
              rintro e w103 ⟨rfl, hb⟩
              refine ⟨_, rfl, ?_⟩
              have n0_ := A0 (blk_below (g := g210) (o := .cells #[.int .i64 a0_0, .int .i64 a0_1, .string a0_2] 25 (0, 0)) Z27 hb)
              have n1_ := A0 (blk_below (g := g211) (o := .cells #[.int .i64 a1_0, .int .i64 a1_1, .string a1_2] 25 (0, 0)) Z28 hb)
              have n2_ := A0 (blk_below (g := g223) (o := .cells #[.int .i64 0, .int .i64 0] 28 (0, 0)) Z29 hb)
              have n3_ := A0 (below_step Z20 hb)
              clear BK210
              clear BK211
              clear BK223
              clear HB
              have BK210 := n0_
              have BK211 := n1_
              have BK223 := n2_
              have HB := n3_
              clear n0_ n1_ n2_ n3_
              (try clear hb)
              (try clear hb2)
              (try clear hk)
              (try clear hi)
              refine hK.out _ _ ⟨(blk_cell BK210.out 0).trans rfl, (blk_cell BK210.out 1).trans rfl, (blk_cell BK210.out 2).trans rfl, (blk_cell BK211.out 0).trans rfl, (blk_cell BK211.out 1).trans rfl, (blk_cell BK211.out 2).trans rfl⟩ (fun hHeld => ?_)
              clear hK K
              refine norm_ (a' := ?_) ?_ ?_
              rotate_left
              · show Act.put _ (some 25) _ = _
                simp only [Act.put, y1, y2, y3, i64_w, i32_w]
                rfl
              refine pure_ (i := 5) (N := some 20) (v := ?_) (a' := ?_) #[true, true, true, true, true, true, false, false, true, false, false] rfl rfl (any_of HT_.out Z32) (fun _ _ _ h => h) (Or.inl ⟨by rfl, ?_⟩) ?_ ?_
              rotate_left
              · intro w'
                go_simp
                with_reducible rfl
              rotate_left
              · simp only [Act.put, y1, y2, y3, i64_w, i32_w]
                rfl
              refine pure_ (i := 6) (N := some 26) (v := ?_) (a' := ?_) #[true, true, true, true, true, true, true, false, true, false, false] rfl rfl (any_of HT_.out Z32) (fun _ _ _ h => h) (Or.inl ⟨by rfl, ?_⟩) ?_ ?_
              rotate_left
              · intro w'
                go_simp
                with_reducible rfl
              rotate_left
              · simp only [Act.put, y1, y2, y3, i64_w, i32_w]
                rfl
              refine pure_ (i := 7) (N := some 27) (v := ?_) (a' := ?_) #[true, true, true, true, true, true, true, true, true, false, false] rfl rfl (any_of HT_.out Z32) (fun _ _ _ h => h) (Or.inl ⟨by rfl, ?_⟩) ?_ ?_
              rotate_left
              · intro w'
                go_simp
                with_reducible rfl
              rotate_left
              · simp only [Act.put, y1, y2, y3, i64_w, i32_w]
                rfl
              exact norm_ Z31 (hCont (g223) _ ⟨hHeld, Z27, Z28, Z29, GW223.out, GE223.out, NB210_223.out, NB223_210.out, NB211_223.out, NB223_211.out, Z20⟩)
          · skip
            refine box_step ?hg (N := 6) ?hd (cs := #[.int .i64 0, .int .i64 0]) (t := 28) ?hr ?_; (case hd => rfl); (case hg => rfl); (case hr => first | (go_simp; done) | (go_simp; rfl))
            intro g223 hg w100 hbox hb
            have n0_ := A0 (blk_below (g := g210) (o := .cells #[.int .i64 a0_0, .int .i64 a0_1, .string a0_2] 25 (0, 0)) Z27 hb)
            have n1_ := A0 (blk_below (g := g211) (o := .cells #[.int .i64 a1_0, .int .i64 a1_1, .string a1_2] 25 (0, 0)) Z28 hb)
            have n2_ := A0 (below_step Z22 hb)
            have n3_ := A0 (hbox)
            have n4_ := A0 ((Z17 : w.heap.size ≤ g223))
            have n5_ := A0 ((Z17 : w.heap.size ≤ g223))
            have n6_ := A0 ((Z8 : g210 ≠ g223))
            have n7_ := A0 ((Z9 : g223 ≠ g210))
            have n8_ := A0 ((Z10 : g211 ≠ g223))
            have n9_ := A0 ((Z11 : g223 ≠ g211))
            clear BK210
            clear BK211
            clear HB
            have BK210 := n0_
            have BK211 := n1_
            have HB := n2_
            have BK223 := n3_
            have GW223 := n4_
            have GE223 := n5_
            have NB210_223 := n6_
            have NB223_210 := n7_
            have NB211_223 := n8_
            have NB223_211 := n9_
            clear n0_ n1_ n2_ n3_ n4_ n5_ n6_ n7_ n8_ n9_
            clear hb hbox hg
            refine hK.out _ _ ⟨(blk_cell BK210.out 0).trans rfl, (blk_cell BK210.out 1).trans rfl, (blk_cell BK210.out 2).trans rfl, (blk_cell BK211.out 0).trans rfl, (blk_cell BK211.out 1).trans rfl, (blk_cell BK211.out 2).trans rfl⟩ (fun hHeld => ?_)
            clear hK K
            refine norm_ (a' := ?_) ?_ ?_
            rotate_left
            · show Act.put _ (some 6) _ = _
              simp only [Act.put, y1, y2, y3, i64_w, i32_w]
              rfl
            refine one_ (i := 1) (N := some 22) #[true, true, true, false, false, false, false, false, true, false, false] rfl rfl (one_of HT_.out Z32) Z33 (fun K hK => ?_)
            refine goes_ Tryd.func11 Z32 rfl #[.agg #[.int .i64 a0_0, .int .i64 a0_1, .string a0_2]] (by rfl) rfl rfl Z25 ?_
            with_reducible refine (laws_toWay.calls a0_0 a0_1 a0_2 t214 t215 t216 _ A19.out).mono ?_
            rintro e w101 ⟨rfl, hb⟩
            refine ⟨_, rfl, ?_⟩
            have n0_ := A0 (blk_below (g := g210) (o := .cells #[.int .i64 a0_0, .int .i64 a0_1, .string a0_2] 25 (0, 0)) Z27 hb)
            have n1_ := A0 (blk_below (g := g211) (o := .cells #[.int .i64 a1_0, .int .i64 a1_1, .string a1_2] 25 (0, 0)) Z28 hb)
            have n2_ := A0 (blk_below (g := g223) (o := .cells #[.int .i64 0, .int .i64 0] 28 (0, 0)) Z29 hb)
            have n3_ := A0 (below_step Z20 hb)
            clear BK210
            clear BK211
            clear BK223
            clear HB
            have BK210 := n0_
            have BK211 := n1_
            have BK223 := n2_
            have HB := n3_
            clear n0_ n1_ n2_ n3_
            (try clear hb)
            (try clear hb2)
            (try clear hk)
            (try clear hi)
            refine hK.out _ _ ⟨(blk_cell BK210.out 0).trans rfl, (blk_cell BK210.out 1).trans rfl, (blk_cell BK210.out 2).trans rfl, (blk_cell BK211.out 0).trans rfl, (blk_cell BK211.out 1).trans rfl, (blk_cell BK211.out 2).trans rfl⟩ (fun hHeld => ?_)
            clear hK K
            refine norm_ (a' := ?_) ?_ ?_
            rotate_left
            · show Act.put _ (some 22) _ = _
              simp only [Act.put, y1, y2, y3, i64_w, i32_w]
              rfl
            refine one_ (i := 3) (N := some 24) #[true, true, true, true, false, false, false, false, true, false, false] rfl rfl (one_of HT_.out Z32) Z33 (fun K hK => ?_)
            refine goes_ Tryd.func11 Z32 rfl #[.agg #[.int .i64 a1_0, .int .i64 a1_1, .string a1_2]] (by rfl) rfl rfl Z25 ?_
            with_reducible refine (laws_toWay.calls a1_0 a1_1 a1_2 t217 t218 t219 _ A20.out).mono ?_
            rintro e w102 ⟨rfl, hb⟩
            refine ⟨_, rfl, ?_⟩
            have n0_ := A0 (blk_below (g := g210) (o := .cells #[.int .i64 a0_0, .int .i64 a0_1, .string a0_2] 25 (0, 0)) Z27 hb)
            have n1_ := A0 (blk_below (g := g211) (o := .cells #[.int .i64 a1_0, .int .i64 a1_1, .string a1_2] 25 (0, 0)) Z28 hb)
            have n2_ := A0 (blk_below (g := g223) (o := .cells #[.int .i64 0, .int .i64 0] 28 (0, 0)) Z29 hb)
            have n3_ := A0 (below_step Z20 hb)
            clear BK210
            clear BK211
            clear BK223
            clear HB
            have BK210 := n0_
            have BK211 := n1_
            have BK223 := n2_
            have HB := n3_
            clear n0_ n1_ n2_ n3_
            (try clear hb)
            (try clear hb2)
            (try clear hk)
            (try clear hi)
            refine hK.out _ _ ⟨(blk_cell BK210.out 0).trans rfl, (blk_cell BK210.out 1).trans rfl, (blk_cell BK210.out 2).trans rfl, (blk_cell BK211.out 0).trans rfl, (blk_cell BK211.out 1).trans rfl, (blk_cell BK211.out 2).trans rfl⟩ (fun hHeld => ?_)
            clear hK K
            refine norm_ (a' := ?_) ?_ ?_
            rotate_left
            · show Act.put _ (some 24) _ = _
              simp only [Act.put, y1, y2, y3, i64_w, i32_w]
              rfl
            refine one_ (i := 4) (N := some 25) #[true, true, true, true, true, false, false, false, true, false, false] rfl rfl (one_of HT_.out Z32) Z33 (fun K hK => ?_)
            refine goes_ Tryd.func23 Z32 rfl #[.agg #[.int .i64 t214, .int .i64 t215, .string t216], .agg #[.int .i64 t217, .int .i64 t218, .string t219]] (by rfl) rfl rfl Z25 ?_
            with_reducible refine (spec_FirstMeetingOf.calls k t214 t215 t216 t217 t218 t219 t220 t221 t222 _ A21.out).mono ?_
            rintro e w103 ⟨rfl, hb⟩
            refine ⟨_, rfl, ?_⟩
            have n0_ := A0 (blk_below (g := g210) (o := .cells #[.int .i64 a0_0, .int .i64 a0_1, .string a0_2] 25 (0, 0)) Z27 hb)
            have n1_ := A0 (blk_below (g := g211) (o := .cells #[.int .i64 a1_0, .int .i64 a1_1, .string a1_2] 25 (0, 0)) Z28 hb)
            have n2_ := A0 (blk_below (g := g223) (o := .cells #[.int .i64 0, .int .i64 0] 28 (0, 0)) Z29 hb)
            have n3_ := A0 (below_step Z20 hb)
            clear BK210
            clear BK211
            clear BK223
            clear HB
            have BK210 := n0_
            have BK211 := n1_
            have BK223 := n2_
            have HB := n3_
            clear n0_ n1_ n2_ n3_
            (try clear hb)
            (try clear hb2)
            (try clear hk)
            (try clear hi)
            refine hK.out _ _ ⟨(blk_cell BK210.out 0).trans rfl, (blk_cell BK210.out 1).trans rfl, (blk_cell BK210.out 2).trans rfl, (blk_cell BK211.out 0).trans rfl, (blk_cell BK211.out 1).trans rfl, (blk_cell BK211.out 2).trans rfl⟩ (fun hHeld => ?_)
            clear hK K
            refine norm_ (a' := ?_) ?_ ?_
            rotate_left
            · show Act.put _ (some 25) _ = _
              simp only [Act.put, y1, y2, y3, i64_w, i32_w]
              rfl
            refine pure_ (i := 5) (N := some 20) (v := ?_) (a' := ?_) #[true, true, true, true, true, true, false, false, true, false, false] rfl rfl (any_of HT_.out Z32) (fun _ _ _ h => h) (Or.inl ⟨by rfl, ?_⟩) ?_ ?_
            rotate_left
            · intro w'
              go_simp
              with_reducible rfl
            rotate_left
            · simp only [Act.put, y1, y2, y3, i64_w, i32_w]
              rfl
            refine pure_ (i := 6) (N := some 26) (v := ?_) (a' := ?_) #[true, true, true, true, true, true, true, false, true, false, false] rfl rfl (any_of HT_.out Z32) (fun _ _ _ h => h) (Or.inl ⟨by rfl, ?_⟩) ?_ ?_
            rotate_left
            · intro w'
              go_simp
              with_reducible rfl
            rotate_left
            · simp only [Act.put, y1, y2, y3, i64_w, i32_w]
              rfl
            refine pure_ (i := 7) (N := some 27) (v := ?_) (a' := ?_) #[true, true, true, true, true, true, true, true, true, false, false] rfl rfl (any_of HT_.out Z32) (fun _ _ _ h => h) (Or.inl ⟨by rfl, ?_⟩) ?_ ?_
            rotate_left
            · intro w'
              go_simp
              with_reducible rfl
            rotate_left
            · simp only [Act.put, y1, y2, y3, i64_w, i32_w]
              rfl
            exact norm_ Z31 (hCont (g223) _ ⟨hHeld, Z27, Z28, Z29, GW223.out, GE223.out, NB210_223.out, NB223_210.out, NB211_223.out, NB223_211.out, Z20⟩)
        rintro g223 w104 ⟨hS_, h0_, h1_, h2_, h3_, h4_, h5_, h6_, h7_, h8_, h9_⟩
        have n0_ : Aside0 (w104.heap[g210]? = some (.cells #[.int .i64 a0_0, .int .i64 a0_1, .string a0_2] 25 (0, 0))) := ⟨h0_⟩
        have n1_ : Aside0 (w104.heap[g211]? = some (.cells #[.int .i64 a1_0, .int .i64 a1_1, .string a1_2] 25 (0, 0))) := ⟨h1_⟩
        have n2_ : Aside0 (w104.heap[g223]? = some (.cells #[.int .i64 0, .int .i64 0] 28 (0, 0))) := ⟨h2_⟩
        have n3_ : Aside0 (w.heap.size ≤ g223) := ⟨h3_⟩
        have n4_ : Aside0 (w.heap.size ≤ g223) := ⟨h4_⟩
        have n5_ : Aside0 (g210 ≠ g223) := ⟨h5_⟩
        have n6_ : Aside0 (g223 ≠ g210) := ⟨h6_⟩
        have n7_ : Aside0 (g211 ≠ g223) := ⟨h7_⟩
        have n8_ : Aside0 (g223 ≠ g211) := ⟨h8_⟩
        have n9_ : Aside0 (Below w.heap.size w w104) := ⟨h9_⟩
        clear BK210
        clear BK211
        clear HB
        clear h0_ h1_ h2_ h3_ h4_ h5_ h6_ h7_ h8_ h9_
        have BK210 := n0_
        have BK211 := n1_
        have BK223 := n2_
        have GW223 := n3_
        have GE223 := n4_
        have NB210_223 := n5_
        have NB223_210 := n6_
        have NB211_223 := n7_
        have NB223_211 := n8_
        have HB := n9_
        clear n0_ n1_ n2_ n3_ n4_ n5_ n6_ n7_ n8_ n9_
        have hHeld : w104.cell? ⟨g210, 0, none⟩ = some (.int .i64 a0_0) ∧ w104.cell? ⟨g210, 1, none⟩ = some (.int .i64 a0_1) ∧ w104.cell? ⟨g210, 2, none⟩ = some (.string a0_2) ∧ w104.cell? ⟨g211, 0, none⟩ = some (.int .i64 a1_0) ∧ w104.cell? ⟨g211, 1, none⟩ = some (.int .i64 a1_1) ∧ w104.cell? ⟨g211, 2, none⟩ = some (.string a1_2) := hS_
        refine norm_ (a' := ?_) ?_ ?_
        rotate_left
        · simp only [putAll, Act.put, y1, y2, y3]
          rfl
        refine one_ (i := 9) (N := none) #[true, true, true, true, true, true, true, true, true, true, false] rfl rfl (one_of HT_.out Z32) Z33 (fun K hK => ?_)
        have hs105 : w104.cell? ⟨g223, 0, none⟩ = some (.int .i64 0) := (blk_cell BK223.out 0).trans rfl
        have hfs105 := blk_frozen BK223.out 0
        have hns105_0 := NB210_223.out
        have hns105_1 := NB211_223.out
        have hms105_0 := NB223_210.out
        have hms105_1 := NB223_211.out
        have hs106 : w104.cell? ⟨g223, 1, none⟩ = some (.int .i64 0) := (blk_cell BK223.out 1).trans rfl
        have hfs106 := blk_frozen BK223.out 1
        have hns106_0 := NB210_223.out
        have hns106_1 := NB211_223.out
        have hms106_0 := NB223_210.out
        have hms106_1 := NB223_211.out
        refine skip_ (w1 := ?_) (by rfl) rfl ?_ ?_
        rotate_left
        · go_simp
          rfl
        refine hK.out _ _ ⟨((cell_far (p := ⟨g223, _, none⟩) NB210_223.out _).trans (((cell_far (p := ⟨g223, _, none⟩) NB210_223.out _).trans (hHeld.1)))), ((cell_far (p := ⟨g223, _, none⟩) NB210_223.out _).trans (((cell_far (p := ⟨g223, _, none⟩) NB210_223.out _).trans (hHeld.2.1)))), ((cell_far (p := ⟨g223, _, none⟩) NB210_223.out _).trans (((cell_far (p := ⟨g223, _, none⟩) NB210_223.out _).trans (hHeld.2.2.1)))), ((cell_far (p := ⟨g223, _, none⟩) NB211_223.out _).trans (((cell_far (p := ⟨g223, _, none⟩) NB211_223.out _).trans (hHeld.2.2.2.1)))), ((cell_far (p := ⟨g223, _, none⟩) NB211_223.out _).trans (((cell_far (p := ⟨g223, _, none⟩) NB211_223.out _).trans (hHeld.2.2.2.2.1)))), ((cell_far (p := ⟨g223, _, none⟩) NB211_223.out _).trans (((cell_far (p := ⟨g223, _, none⟩) NB211_223.out _).trans (hHeld.2.2.2.2.2))))⟩ (fun hHeld => ?_)
        clear hK K
        refine pure_ (i := 10) (N := some 7) (v := ?_) (a' := ?_) #[true, true, true, true, true, true, true, true, true, true, true] rfl rfl (any_of HT_.out Z32) (fun _ _ _ h => h) (Or.inl ⟨by rfl, ?_⟩) ?_ ?_
        rotate_left
        · intro w'
          go_simp
          with_reducible rfl
        rotate_left
        · simp only [Act.put, y1, y2, y3, i64_w, i32_w]
          rfl
        refine done_ (done_of HT_.out Z32) ?_
        try go_wp2
        have n0_ : Aside0 (((w104.setCell ⟨g223, 0, none⟩ (.int .i64 t220)).setCell ⟨g223, 1, none⟩ (.int .i64 t221)).heap[g210]? = some (.cells #[.int .i64 a0_0, .int .i64 a0_1, .string a0_2] 25 (0, 0))) := ⟨by (with_reducible repeat (first | refine blk_drewN ?_ _ | refine blk_drew ?_ | refine blk_alloc ?_ _)); refine blk_far ?_ NB210_223.out _; (with_reducible repeat (first | refine blk_drewN ?_ _ | refine blk_drew ?_ | refine blk_alloc ?_ _)); refine blk_far ?_ NB210_223.out _; (with_reducible repeat (first | refine blk_drewN ?_ _ | refine blk_drew ?_ | refine blk_alloc ?_ _)); exact BK210.out⟩
        have n1_ : Aside0 (((w104.setCell ⟨g223, 0, none⟩ (.int .i64 t220)).setCell ⟨g223, 1, none⟩ (.int .i64 t221)).heap[g211]? = some (.cells #[.int .i64 a1_0, .int .i64 a1_1, .string a1_2] 25 (0, 0))) := ⟨by (with_reducible repeat (first | refine blk_drewN ?_ _ | refine blk_drew ?_ | refine blk_alloc ?_ _)); refine blk_far ?_ NB211_223.out _; (with_reducible repeat (first | refine blk_drewN ?_ _ | refine blk_drew ?_ | refine blk_alloc ?_ _)); refine blk_far ?_ NB211_223.out _; (with_reducible repeat (first | refine blk_drewN ?_ _ | refine blk_drew ?_ | refine blk_alloc ?_ _)); exact BK211.out⟩
        have n2_ : Aside0 (((w104.setCell ⟨g223, 0, none⟩ (.int .i64 t220)).setCell ⟨g223, 1, none⟩ (.int .i64 t221)).heap[g223]? = some (.cells #[.int .i64 t220, .int .i64 t221] 28 (0, 0))) := ⟨by (with_reducible repeat (first | refine blk_drewN ?_ _ | refine blk_drew ?_ | refine blk_alloc ?_ _)); refine blk_put (cs := #[.int .i64 t220, .int .i64 0]) ?_ 1 _ rfl; (with_reducible repeat (first | refine blk_drewN ?_ _ | refine blk_drew ?_ | refine blk_alloc ?_ _)); refine blk_put (cs := #[.int .i64 0, .int .i64 0]) ?_ 0 _ rfl; (with_reducible repeat (first | refine blk_drewN ?_ _ | refine blk_drew ?_ | refine blk_alloc ?_ _)); exact BK223.out⟩
        have n3_ : Aside0 (Below w.heap.size w ((w104.setCell ⟨g223, 0, none⟩ (.int .i64 t220)).setCell ⟨g223, 1, none⟩ (.int .i64 t221))) := ⟨by repeat (first | (with_reducible first | exact HB.out | apply below_alloc | apply pw_below_drewN | apply below_drew1 | refine below_set ?_ GE210.out | refine below_set ?_ GE211.out | refine below_set ?_ GE223.out) | exact HB.out)⟩
        (try clear BK210)
        (try clear BK211)
        (try clear BK223)
        (try clear HB)
        generalize ((w104.setCell ⟨g223, 0, none⟩ (.int .i64 t220)).setCell ⟨g223, 1, none⟩ (.int .i64 t221)) = w107 at n0_ n1_ n2_ n3_ ⊢
        have BK210 := n0_
        have BK211 := n1_
        have BK223 := n2_
        have HB := n3_
        clear n0_ n1_ n2_ n3_
        have n0_ := A0 (blk_drew BK210.out)
        have n1_ := A0 (blk_drew BK211.out)
        have n2_ := A0 (blk_drew BK223.out)
        have n3_ := A0 (below_drew1 HB.out)
        clear BK210
        clear BK211
        clear BK223
        clear HB
        have BK210 := n0_
        have BK211 := n1_
        have BK223 := n2_
        have HB := n3_
        clear n0_ n1_ n2_ n3_
        refine start_ (n := 11) (S := fun w' => w'.cell? ⟨g210, 0, none⟩ = some (.int .i64 a0_0) ∧ w'.cell? ⟨g210, 1, none⟩ = some (.int .i64 a0_1) ∧ w'.cell? ⟨g210, 2, none⟩ = some (.string a0_2) ∧ w'.cell? ⟨g211, 0, none⟩ = some (.int .i64 a1_0) ∧ w'.cell? ⟨g211, 1, none⟩ = some (.int .i64 a1_1) ∧ w'.cell? ⟨g211, 2, none⟩ = some (.string a1_2)) (ds := []) #[false, false, false, false, false, false, false, false, false, false, false] Z32 rfl rfl ⟨(blk_cell BK210.out 0).trans rfl, (blk_cell BK210.out 1).trans rfl, (blk_cell BK210.out 2).trans rfl, (blk_cell BK211.out 0).trans rfl, (blk_cell BK211.out 1).trans rfl, (blk_cell BK211.out 2).trans rfl⟩ (fun hHeld => ?_); refine with_tabW laws_FnExactFirstMeetingOf.tab9 laws_FnExactFirstMeetingOf.bits9 (fun HT_ HW_ => ?_)
        generalize w107.drew = w108 at BK210 BK211 BK223 HB hHeld ⊢
        refine take_ (i := 0) (N := some 29) (v := ?_) (a' := ?_) #[true, false, false, false, false, false, false, false, false, false, false] rfl rfl (take_ofW HT_.out HW_.out Z32) (fun _ _ _ h => h) (Or.inl ⟨by rfl, ?_⟩) hHeld ?_ ?_
        rotate_left
        · rintro w' ⟨s0, s1, s2, s3, s4, s5⟩
          go_simp
          with_reducible rfl
        rotate_left
        · simp only [Act.put, y1, y2, y3, i64_w, i32_w]
          rfl
        refine take_ (i := 2) (N := some 31) (v := ?_) (a' := ?_) #[true, false, true, false, false, false, false, false, false, false, false] rfl rfl (take_ofW HT_.out HW_.out Z32) (fun _ _ _ h => h) (Or.inl ⟨by rfl, ?_⟩) hHeld ?_ ?_
        rotate_left
        · rintro w' ⟨s0, s1, s2, s3, s4, s5⟩
          go_simp
          with_reducible rfl
        rotate_left
        · simp only [Act.put, y1, y2, y3, i64_w, i32_w]
          rfl
        refine join_ (σ := Nat) 2 #[true, true, true, true, true, true, true, true, true, false, false] (fun s_ => [(30, .agg #[.int .i64 t224, .int .i64 t225, .string t226]), (32, .agg #[.int .i64 t227, .int .i64 t228, .string t229]), (33, .tuple #[.agg #[.int .i64 t230, .int .i64 t231], .bool t232]), (8, .pointer (some ⟨s_, 0, none⟩)), (28, .tuple #[.agg #[.int .i64 t230, .int .i64 t231], .bool t232]), (34, .agg #[.int .i64 t230, .int .i64 t231]), (35, .bool t232)]) (fun s_ w' => (w'.cell? ⟨g210, 0, none⟩ = some (.int .i64 a0_0) ∧ w'.cell? ⟨g210, 1, none⟩ = some (.int .i64 a0_1) ∧ w'.cell? ⟨g210, 2, none⟩ = some (.string a0_2) ∧ w'.cell? ⟨g211, 0, none⟩ = some (.int .i64 a1_0) ∧ w'.cell? ⟨g211, 1, none⟩ = some (.int .i64 a1_1) ∧ w'.cell? ⟨g211, 2, none⟩ = some (.string a1_2)) ∧ (w'.heap[g210]? = some (.cells #[.int .i64 a0_0, .int .i64 a0_1, .string a0_2] 25 (0, 0))) ∧ (w'.heap[g211]? = some (.cells #[.int .i64 a1_0, .int .i64 a1_1, .string a1_2] 25 (0, 0))) ∧ (w'.heap[g223]? = some (.cells #[.int .i64 t220, .int .i64 t221] 28 (0, 0))) ∧ (w'.heap[s_]? = some (.cells #[.int .i64 0, .int .i64 0] 28 (0, 0))) ∧ (w.heap.size ≤ s_) ∧ (w.heap.size ≤ s_) ∧ (g210 ≠ s_) ∧ (s_ ≠ g210) ∧ (g211 ≠ s_) ∧ (s_ ≠ g211) ∧ (g223 ≠ s_) ∧ (s_ ≠ g223) ∧ (Below w.heap.size w w')) ?_ ?_
        rotate_left
        · intro hCont
          refine two_ (i := 1) (j := 8) (Ni := some 30) (Nj := some 8) #[true, true, true, false, false, false, false, false, false, false, false] #[true, false, true, false, false, false, false, false, true, false, false] rfl rfl rfl rfl (two_of HT_.out Z32) Z33 Z33 (fun K hK => ?_) (fun K hK => ?_)
          · skip
            refine goes_ Tryd.func11 Z32 rfl #[.agg #[.int .i64 a0_0, .int .i64 a0_1, .string a0_2]] (by rfl) rfl rfl Z25 ?_
            with_reducible refine (laws_toWay.calls a0_0 a0_1 a0_2 t224 t225 t226 _ A22.out).mono ?_
            rintro e w109 ⟨rfl, hb⟩
            refine ⟨_, rfl, ?_⟩
            have n0_ := A0 (blk_below (g := g210) (o := .cells #[.int .i64 a0_0, .int .i64 a0_1, .string a0_2] 25 (0, 0)) Z27 hb)
            have n1_ := A0 (blk_below (g := g211) (o := .cells #[.int .i64 a1_0, .int .i64 a1_1, .string a1_2] 25 (0, 0)) Z28 hb)
            have n2_ := A0 (blk_below (g := g223) (o := .cells #[.int .i64 t220, .int .i64 t221] 28 (0, 0)) Z29 hb)
            have n3_ := A0 (below_step Z20 hb)
            clear BK210
            clear BK211
            clear BK223
            clear HB
            have BK210 := n0_
            have BK211 := n1_
            have BK223 := n2_
            have HB := n3_
            clear n0_ n1_ n2_ n3_
            (try clear hb)
            (try clear hb2)
            (try clear hk)
            (try clear hi)
            refine hK.out _ _ ⟨(blk_cell BK210.out 0).trans rfl, (blk_cell BK210.out 1).trans rfl, (blk_cell BK210.out 2).trans rfl, (blk_cell BK211.out 0).trans rfl, (blk_cell BK211.out 1).trans rfl, (blk_cell BK211.out 2).trans rfl⟩ (fun hHeld => ?_)
            clear hK K
            refine norm_ (a' := ?_) ?_ ?_
            rotate_left
            · show Act.put _ (some 30) _ = _
              simp only [Act.put, y1, y2, y3, i64_w, i32_w]
              rfl
            refine two_ (i := 3) (j := 8) (Ni := some 32) (Nj := some 8) #[true, true, true, true, false, false, false, false, false, false, false] #[true, true, true, false, false, false, false, false, true, false, false] rfl rfl rfl rfl (two_of HT_.out Z32) Z33 Z33 (fun K hK => ?_) (fun K hK => ?_)
            · skip
              refine goes_ Tryd.func11 Z32 rfl #[.agg #[.int .i64 a1_0, .int .i64 a1_1, .string a1_2]] (by rfl) rfl rfl Z25 ?_
              with_reducible refine (laws_toWay.calls a1_0 a1_1 a1_2 t227 t228 t229 _ A23.out).mono ?_
              rintro e w110 ⟨rfl, hb⟩
              refine ⟨_, rfl, ?_⟩
              have n0_ := A0 (blk_below (g := g210) (o := .cells #[.int .i64 a0_0, .int .i64 a0_1, .string a0_2] 25 (0, 0)) Z27 hb)
              have n1_ := A0 (blk_below (g := g211) (o := .cells #[.int .i64 a1_0, .int .i64 a1_1, .string a1_2] 25 (0, 0)) Z28 hb)
              have n2_ := A0 (blk_below (g := g223) (o := .cells #[.int .i64 t220, .int .i64 t221] 28 (0, 0)) Z29 hb)
              have n3_ := A0 (below_step Z20 hb)
              clear BK210
              clear BK211
              clear BK223
              clear HB
              have BK210 := n0_
              have BK211 := n1_
              have BK223 := n2_
              have HB := n3_
              clear n0_ n1_ n2_ n3_
              (try clear hb)
              (try clear hb2)
              (try clear hk)
              (try clear hi)
              refine hK.out _ _ ⟨(blk_cell BK210.out 0).trans rfl, (blk_cell BK210.out 1).trans rfl, (blk_cell BK210.out 2).trans rfl, (blk_cell BK211.out 0).trans rfl, (blk_cell BK211.out 1).trans rfl, (blk_cell BK211.out 2).trans rfl⟩ (fun hHeld => ?_)
              clear hK K
              refine norm_ (a' := ?_) ?_ ?_
              rotate_left
              · show Act.put _ (some 32) _ = _
                simp only [Act.put, y1, y2, y3, i64_w, i32_w]
                rfl
              refine two_ (i := 4) (j := 8) (Ni := some 33) (Nj := some 8) #[true, true, true, true, true, false, false, false, false, false, false] #[true, true, true, true, false, false, false, false, true, false, false] rfl rfl rfl rfl (two_of HT_.out Z32) Z33 Z33 (fun K hK => ?_) (fun K hK => ?_)
              · skip
                refine goes_ Tryd.func24 Z32 rfl #[.agg #[.int .i64 t224, .int .i64 t225, .string t226], .agg #[.int .i64 t227, .int .i64 t228, .string t229]] (by rfl) rfl rfl Z25 ?_
                with_reducible refine (impl_FirstMeetingOf.calls k t224 t225 t226 t227 t228 t229 t230 t231 t232 _ A24.out).mono ?_
                rintro e w111 ⟨rfl, hb⟩
                refine ⟨_, rfl, ?_⟩
                have n0_ := A0 (blk_below (g := g210) (o := .cells #[.int .i64 a0_0, .int .i64 a0_1, .string a0_2] 25 (0, 0)) Z27 hb)
                have n1_ := A0 (blk_below (g := g211) (o := .cells #[.int .i64 a1_0, .int .i64 a1_1, .string a1_2] 25 (0, 0)) Z28 hb)
                have n2_ := A0 (blk_below (g := g223) (o := .cells #[.int .i64 t220, .int .i64 t221] 28 (0, 0)) Z29 hb)
                have n3_ := A0 (below_step Z20 hb)
                clear BK210
                clear BK211
                clear BK223
                clear HB
                have BK210 := n0_
                have BK211 := n1_
                have BK223 := n2_
                have HB := n3_
                clear n0_ n1_ n2_ n3_
                (try clear hb)
                (try clear hb2)
                (try clear hk)
                (try clear hi)
                refine hK.out _ _ ⟨(blk_cell BK210.out 0).trans rfl, (blk_cell BK210.out 1).trans rfl, (blk_cell BK210.out 2).trans rfl, (blk_cell BK211.out 0).trans rfl, (blk_cell BK211.out 1).trans rfl, (blk_cell BK211.out 2).trans rfl⟩ (fun hHeld => ?_)
                clear hK K
                refine norm_ (a' := ?_) ?_ ?_
                rotate_left
                · show Act.put _ (some 33) _ = _
                  simp only [Act.put, y1, y2, y3, i64_w, i32_w]
                  rfl
                refine pure_ (i := 5) (N := some 28) (v := ?_) (a' := ?_) #[true, true, true, true, true, true, false, false, false, false, false] rfl rfl (any_of HT_.out Z32) (fun _ _ _ h => h) (Or.inl ⟨by rfl, ?_⟩) ?_ ?_
                rotate_left
                · intro w'
                  go_simp
                  with_reducible rfl
                rotate_left
                · simp only [Act.put, y1, y2, y3, i64_w, i32_w]
                  rfl
                refine pure_ (i := 6) (N := some 34) (v := ?_) (a' := ?_) #[true, true, true, true, true, true, true, false, false, false, false] rfl rfl (any_of HT_.out Z32) (fun _ _ _ h => h) (Or.inl ⟨by rfl, ?_⟩) ?_ ?_
                rotate_left
                · intro w'
                  go_simp
                  with_reducible rfl
                rotate_left
                · simp only [Act.put, y1, y2, y3, i64_w, i32_w]
                  rfl
                refine pure_ (i := 7) (N := some 35) (v := ?_) (a' := ?_) #[true, true, true, true, true, true, true, true, false, false, false] rfl rfl (any_of HT_.out Z32) (fun _ _ _ h => h) (Or.inl ⟨by rfl, ?_⟩) ?_ ?_
                rotate_left
                · intro w'
                  go_simp
                  with_reducible rfl
                rotate_left
                · simp only [Act.put, y1, y2, y3, i64_w, i32_w]
                  rfl
                refine one_ (i := 8) (N := some 8) #[true, true, true, true, true, true, true, true, true, false, false] rfl rfl (one_of HT_.out Z32) Z33 (fun K hK => ?_)
                refine box_step ?hg (N := 8) ?hd (cs := #[.int .i64 0, .int .i64 0]) (t := 28) ?hr ?_; (case hd => rfl); (case hg => rfl); (case hr => first | (go_simp; done) | (go_simp; rfl))
                intro g233 hg w112 hbox hb
                have n0_ := A0 (blk_below (g := g210) (o := .cells #[.int .i64 a0_0, .int .i64 a0_1, .string a0_2] 25 (0, 0)) Z27 hb)
                have n1_ := A0 (blk_below (g := g211) (o := .cells #[.int .i64 a1_0, .int .i64 a1_1, .string a1_2] 25 (0, 0)) Z28 hb)
                have n2_ := A0 (blk_below (g := g223) (o := .cells #[.int .i64 t220, .int .i64 t221] 28 (0, 0)) Z29 hb)
                have n3_ := A0 (below_step Z20 hb)
                have n4_ := A0 (hbox)
                have n5_ := A0 ((Z5 : w.heap.size ≤ g233))
                have n6_ := A0 ((Z5 : w.heap.size ≤ g233))
                have n7_ := A0 ((Z12 : g210 ≠ g233))
                have n8_ := A0 ((Z13 : g233 ≠ g210))
                have n9_ := A0 ((Z14 : g211 ≠ g233))
                have n10_ := A0 ((Z15 : g233 ≠ g211))
                have n11_ := A0 ((Z18 : g223 ≠ g233))
                have n12_ := A0 ((Z19 : g233 ≠ g223))
                clear BK210
                clear BK211
                clear BK223
                clear HB
                have BK210 := n0_
                have BK211 := n1_
                have BK223 := n2_
                have HB := n3_
                have BK233 := n4_
                have GW233 := n5_
                have GE233 := n6_
                have NB210_233 := n7_
                have NB233_210 := n8_
                have NB211_233 := n9_
                have NB233_211 := n10_
                have NB223_233 := n11_
                have NB233_223 := n12_
                clear n0_ n1_ n2_ n3_ n4_ n5_ n6_ n7_ n8_ n9_ n10_ n11_ n12_
                clear hb hbox hg
                refine hK.out _ _ ⟨(blk_cell BK210.out 0).trans rfl, (blk_cell BK210.out 1).trans rfl, (blk_cell BK210.out 2).trans rfl, (blk_cell BK211.out 0).trans rfl, (blk_cell BK211.out 1).trans rfl, (blk_cell BK211.out 2).trans rfl⟩ (fun hHeld => ?_)
                clear hK K
                refine norm_ (a' := ?_) ?_ ?_
                rotate_left
                · show Act.put _ (some 8) _ = _
                  simp only [Act.put, y1, y2, y3, i64_w, i32_w]
                  rfl
                exact norm_ Z31 (hCont (g233) _ ⟨hHeld, Z27, Z28, Z29, Z30, GW233.out, GE233.out, NB210_233.out, NB233_210.out, NB211_233.out, NB233_211.out, NB223_233.out, NB233_223.out, Z16⟩)
              · skip
                refine box_step ?hg (N := 8) ?hd (cs := #[.int .i64 0, .int .i64 0]) (t := 28) ?hr ?_; (case hd => rfl); (case hg => rfl); (case hr => first | (go_simp; done) | (go_simp; rfl))
                intro g233 hg w111 hbox hb
                have n0_ := A0 (blk_below (g := g210) (o := .cells #[.int .i64 a0_0, .int .i64 a0_1, .string a0_2] 25 (0, 0)) Z27 hb)
                have n1_ := A0 (blk_below (g := g211) (o := .cells #[.int .i64 a1_0, .int .i64 a1_1, .string a1_2] 25 (0, 0)) Z28 hb)
                have n2_ := A0 (blk_below (g := g223) (o := .cells #[.int .i64 t220, .int .i64 t221] 28 (0, 0)) Z29 hb)
                have n3_ := A0 (below_step Z20 hb)
                have n4_ := A0 (hbox)
                have n5_ := A0 ((Z5 : w.heap.size ≤ g233))
                have n6_ := A0 ((Z5 : w.heap.size ≤ g233))
                have n7_ := A0 ((Z12 : g210 ≠ g233))
                have n8_ := A0 ((Z13 : g233 ≠ g210))
                have n9_ := A0 ((Z14 : g211 ≠ g233))
                have n10_ := A0 ((Z15 : g233 ≠ g211))
                have n11_ := A0 ((Z18 : g223 ≠ g233))
                have n12_ := A0 ((Z19 : g233 ≠ g223))
                clear BK210
                clear BK211
                clear BK223
                clear HB
                have BK210 := n0_
                have BK211 := n1_
                have BK223 := n2_
                have HB := n3_
                have BK233 := n4_
                have GW233 := n5_
                have GE233 := n6_
                have NB210_233 := n7_
                have NB233_210 := n8_
                have NB211_233 := n9_
                have NB233_211 := n10_
                have NB223_233 := n11_
                have NB233_223 := n12_
                clear n0_ n1_ n2_ n3_ n4_ n5_ n6_ n7_ n8_ n9_ n10_ n11_ n12_
                clear hb hbox hg
                refine hK.out _ _ ⟨(blk_cell BK210.out 0).trans rfl, (blk_cell BK210.out 1).trans rfl, (blk_cell BK210.out 2).trans rfl, (blk_cell BK211.out 0).trans rfl, (blk_cell BK211.out 1).trans rfl, (blk_cell BK211.out 2).trans rfl⟩ (fun hHeld => ?_)
                clear hK K
                refine norm_ (a' := ?_) ?_ ?_
                rotate_left
                · show Act.put _ (some 8) _ = _
                  simp only [Act.put, y1, y2, y3, i64_w, i32_w]
                  rfl
                refine one_ (i := 4) (N := some 33) #[true, true, true, true, true, false, false, false, true, false, false] rfl rfl (one_of HT_.out Z32) Z33 (fun K hK => ?_)
                refine goes_ Tryd.func24 Z32 rfl #[.agg #[.int .i64 t224, .int .i64 t225, .string t226], .agg #[.int .i64 t227, .int .i64 t228, .string t229]] (by rfl) rfl rfl Z25 ?_
                with_reducible refine (impl_FirstMeetingOf.calls k t224 t225 t226 t227 t228 t229 t230 t231 t232 _ A24.out).mono ?_
                rintro e w112 ⟨rfl, hb⟩
                refine ⟨_, rfl, ?_⟩
                have n0_ := A0 (blk_below (g := g210) (o := .cells #[.int .i64 a0_0, .int .i64 a0_1, .string a0_2] 25 (0, 0)) Z27 hb)
                have n1_ := A0 (blk_below (g := g211) (o := .cells #[.int .i64 a1_0, .int .i64 a1_1, .string a1_2] 25 (0, 0)) Z28 hb)
                have n2_ := A0 (blk_below (g := g223) (o := .cells #[.int .i64 t220, .int .i64 t221] 28 (0, 0)) Z29 hb)
                have n3_ := A0 (blk_below (g := g233) (o := .cells #[.int .i64 0, .int .i64 0] 28 (0, 0)) Z30 hb)
                have n4_ := A0 (below_step Z16 hb)
                clear BK210
                clear BK211
                clear BK223
                clear BK233
                clear HB
                have BK210 := n0_
                have BK211 := n1_
                have BK223 := n2_
                have BK233 := n3_
                have HB := n4_
                clear n0_ n1_ n2_ n3_ n4_
                (try clear hb)
                (try clear hb2)
                (try clear hk)
                (try clear hi)
                refine hK.out _ _ ⟨(blk_cell BK210.out 0).trans rfl, (blk_cell BK210.out 1).trans rfl, (blk_cell BK210.out 2).trans rfl, (blk_cell BK211.out 0).trans rfl, (blk_cell BK211.out 1).trans rfl, (blk_cell BK211.out 2).trans rfl⟩ (fun hHeld => ?_)
                clear hK K
                refine norm_ (a' := ?_) ?_ ?_
                rotate_left
                · show Act.put _ (some 33) _ = _
                  simp only [Act.put, y1, y2, y3, i64_w, i32_w]
                  rfl
                refine pure_ (i := 5) (N := some 28) (v := ?_) (a' := ?_) #[true, true, true, true, true, true, false, false, true, false, false] rfl rfl (any_of HT_.out Z32) (fun _ _ _ h => h) (Or.inl ⟨by rfl, ?_⟩) ?_ ?_
                rotate_left
                · intro w'
                  go_simp
                  with_reducible rfl
                rotate_left
                · simp only [Act.put, y1, y2, y3, i64_w, i32_w]
                  rfl
                refine pure_ (i := 6) (N := some 34) (v := ?_) (a' := ?_) #[true, true, true, true, true, true, true, false, true, false, false] rfl rfl (any_of HT_.out Z32) (fun _ _ _ h => h) (Or.inl ⟨by rfl, ?_⟩) ?_ ?_
                rotate_left
                · intro w'
                  go_simp
                  with_reducible rfl
                rotate_left
                · simp only [Act.put, y1, y2, y3, i64_w, i32_w]
                  rfl
                refine pure_ (i := 7) (N := some 35) (v := ?_) (a' := ?_) #[true, true, true, true, true, true, true, true, true, false, false] rfl rfl (any_of HT_.out Z32) (fun _ _ _ h => h) (Or.inl ⟨by rfl, ?_⟩) ?_ ?_
                rotate_left
                · intro w'
                  go_simp
                  with_reducible rfl
                rotate_left
                · simp only [Act.put, y1, y2, y3, i64_w, i32_w]
                  rfl
                exact norm_ Z31 (hCont (g233) _ ⟨hHeld, Z27, Z28, Z29, Z30, GW233.out, GE233.out, NB210_233.out, NB233_210.out, NB211_233.out, NB233_211.out, NB223_233.out, NB233_223.out, Z16⟩)
            · skip
              refine box_step ?hg (N := 8) ?hd (cs := #[.int .i64 0, .int .i64 0]) (t := 28) ?hr ?_; (case hd => rfl); (case hg => rfl); (case hr => first | (go_simp; done) | (go_simp; rfl))
              intro g233 hg w110 hbox hb
              have n0_ := A0 (blk_below (g := g210) (o := .cells #[.int .i64 a0_0, .int .i64 a0_1, .string a0_2] 25 (0, 0)) Z27 hb)
              have n1_ := A0 (blk_below (g := g211) (o := .cells #[.int .i64 a1_0, .int .i64 a1_1, .string a1_2] 25 (0, 0)) Z28 hb)
              have n2_ := A0 (blk_below (g := g223) (o := .cells #[.int .i64 t220, .int .i64 t221] 28 (0, 0)) Z29 hb)
              have n3_ := A0 (below_step Z20 hb)
              have n4_ := A0 (hbox)
              have n5_ := A0 ((Z5 : w.heap.size ≤ g233))
              have n6_ := A0 ((Z5 : w.heap.size ≤ g233))
              have n7_ := A0 ((Z12 : g210 ≠ g233))
              have n8_ := A0 ((Z13 : g233 ≠ g210))
              have n9_ := A0 ((Z14 : g211 ≠ g233))
              have n10_ := A0 ((Z15 : g233 ≠ g211))
              have n11_ := A0 ((Z18 : g223 ≠ g233))
              have n12_ := A0 ((Z19 : g233 ≠ g223))
              clear BK210
              clear BK211
              clear BK223
              clear HB
              have BK210 := n0_
              have BK211 := n1_
              have BK223 := n2_
              have HB := n3_
              have BK233 := n4_
              have GW233 := n5_
              have GE233 := n6_
              have NB210_233 := n7_
              have NB233_210 := n8_
              have NB211_233 := n9_
              have NB233_211 := n10_
              have NB223_233 := n11_
              have NB233_223 := n12_
              clear n0_ n1_ n2_ n3_ n4_ n5_ n6_ n7_ n8_ n9_ n10_ n11_ n12_
              clear hb hbox hg
              refine hK.out _ _ ⟨(blk_cell BK210.out 0).trans rfl, (blk_cell BK210.out 1).trans rfl, (blk_cell BK210.out 2).trans rfl, (blk_cell BK211.out 0).trans rfl, (blk_cell BK211.out 1).trans rfl, (blk_cell BK211.out 2).trans rfl⟩ (fun hHeld => ?_)
              clear hK K
              refine norm_ (a' := ?_) ?_ ?_
              rotate_left
              · show Act.put _ (some 8) _ = _
                simp only [Act.put, y1, y2, y3, i64_w, i32_w]
                rfl
              refine one_ (i := 3) (N := some 32) #[true, true, true, true, false, false, false, false, true, false, false] rfl rfl (one_of HT_.out Z32) Z33 (fun K hK => ?_)
              refine goes_ Tryd.func11 Z32 rfl #[.agg #[.int .i64 a1_0, .int .i64 a1_1, .string a1_2]] (by rfl) rfl rfl Z25 ?_
              with_reducible refine (laws_toWay.calls a1_0 a1_1 a1_2 t227 t228 t229 _ A23.out).mono ?_
              rintro e w111 ⟨rfl, hb⟩
              refine ⟨_, rfl, ?_⟩
              have n0_ := A0 (blk_below (g := g210) (o := .cells #[.int .i64 a0_0, .int .i64 a0_1, .string a0_2] 25 (0, 0)) Z27 hb)
              have n1_ := A0 (blk_below (g := g211) (o := .cells #[.int .i64 a1_0, .int .i64 a1_1, .string a1_2] 25 (0, 0)) Z28 hb)
              have n2_ := A0 (blk_below (g := g223) (o := .cells #[.int .i64 t220, .int .i64 t221] 28 (0, 0)) Z29 hb)
              have n3_ := A0 (blk_below (g := g233) (o := .cells #[.int .i64 0, .int .i64 0] 28 (0, 0)) Z30 hb)
              have n4_ := A0 (below_step Z16 hb)
              clear BK210
              clear BK211
              clear BK223
              clear BK233
              clear HB
              have BK210 := n0_
              have BK211 := n1_
              have BK223 := n2_
              have BK233 := n3_
              have HB := n4_
              clear n0_ n1_ n2_ n3_ n4_
              (try clear hb)
              (try clear hb2)
              (try clear hk)
              (try clear hi)
              refine hK.out _ _ ⟨(blk_cell BK210.out 0).trans rfl, (blk_cell BK210.out 1).trans rfl, (blk_cell BK210.out 2).trans rfl, (blk_cell BK211.out 0).trans rfl, (blk_cell BK211.out 1).trans rfl, (blk_cell BK211.out 2).trans rfl⟩ (fun hHeld => ?_)
              clear hK K
              refine norm_ (a' := ?_) ?_ ?_
              rotate_left
              · show Act.put _ (some 32) _ = _
                simp only [Act.put, y1, y2, y3, i64_w, i32_w]
                rfl
              refine one_ (i := 4) (N := some 33) #[true, true, true, true, true, false, false, false, true, false, false] rfl rfl (one_of HT_.out Z32) Z33 (fun K hK => ?_)
              refine goes_ Tryd.func24 Z32 rfl #[.agg #[.int .i64 t224, .int .i64 t225, .string t226], .agg #[.int .i64 t227, .int .i64 t228, .string t229]] (by rfl) rfl rfl Z25 ?_
              with_reducible refine (impl_FirstMeetingOf.calls k t224 t225 t226 t227 t228 t229 t230 t231 t232 _ A24.out).mono ?_
              rintro e w112 ⟨rfl, hb⟩
              refine ⟨_, rfl, ?_⟩
              have n0_ := A0 (blk_below (g := g210) (o := .cells #[.int .i64 a0_0, .int .i64 a0_1, .string a0_2] 25 (0, 0)) Z27 hb)
              have n1_ := A0 (blk_below (g := g211) (o := .cells #[.int .i64 a1_0, .int .i64 a1_1, .string a1_2] 25 (0, 0)) Z28 hb)
              have n2_ := A0 (blk_below (g := g223) (o := .cells #[.int .i64 t220, .int .i64 t221] 28 (0, 0)) Z29 hb)
              have n3_ := A0 (blk_below (g := g233) (o := .cells #[.int .i64 0, .int .i64 0] 28 (0, 0)) Z30 hb)
              have n4_ := A0 (below_step Z16 hb)
              clear BK210
              clear BK211
              clear BK223
              clear BK233
              clear HB
              have BK210 := n0_
              have BK211 := n1_
              have BK223 := n2_
              have BK233 := n3_
              have HB := n4_
              clear n0_ n1_ n2_ n3_ n4_
              (try clear hb)
              (try clear hb2)
              (try clear hk)
              (try clear hi)
              refine hK.out _ _ ⟨(blk_cell BK210.out 0).trans rfl, (blk_cell BK210.out 1).trans rfl, (blk_cell BK210.out 2).trans rfl, (blk_cell BK211.out 0).trans rfl, (blk_cell BK211.out 1).trans rfl, (blk_cell BK211.out 2).trans rfl⟩ (fun hHeld => ?_)
              clear hK K
              refine norm_ (a' := ?_) ?_ ?_
              rotate_left
              · show Act.put _ (some 33) _ = _
                simp only [Act.put, y1, y2, y3, i64_w, i32_w]
                rfl
              refine pure_ (i := 5) (N := some 28) (v := ?_) (a' := ?_) #[true, true, true, true, true, true, false, false, true, false, false] rfl rfl (any_of HT_.out Z32) (fun _ _ _ h => h) (Or.inl ⟨by rfl, ?_⟩) ?_ ?_
              rotate_left
              · intro w'
                go_simp
                with_reducible rfl
              rotate_left
              · simp only [Act.put, y1, y2, y3, i64_w, i32_w]
                rfl
              refine pure_ (i := 6) (N := some 34) (v := ?_) (a' := ?_) #[true, true, true, true, true, true, true, false, true, false, false] rfl rfl (any_of HT_.out Z32) (fun _ _ _ h => h) (Or.inl ⟨by rfl, ?_⟩) ?_ ?_
              rotate_left
              · intro w'
                go_simp
                with_reducible rfl
              rotate_left
              · simp only [Act.put, y1, y2, y3, i64_w, i32_w]
                rfl
              refine pure_ (i := 7) (N := some 35) (v := ?_) (a' := ?_) #[true, true, true, true, true, true, true, true, true, false, false] rfl rfl (any_of HT_.out Z32) (fun _ _ _ h => h) (Or.inl ⟨by rfl, ?_⟩) ?_ ?_
              rotate_left
              · intro w'
                go_simp
                with_reducible rfl
              rotate_left
              · simp only [Act.put, y1, y2, y3, i64_w, i32_w]
                rfl
              exact norm_ Z31 (hCont (g233) _ ⟨hHeld, Z27, Z28, Z29, Z30, GW233.out, GE233.out, NB210_233.out, NB233_210.out, NB211_233.out, NB233_211.out, NB223_233.out, NB233_223.out, Z16⟩)
          · skip
            refine box_step ?hg (N := 8) ?hd (cs := #[.int .i64 0, .int .i64 0]) (t := 28) ?hr ?_; (case hd => rfl); (case hg => rfl); (case hr => first | (go_simp; done) | (go_simp; rfl))
            intro g233 hg w109 hbox hb
            have n0_ := A0 (blk_below (g := g210) (o := .cells #[.int .i64 a0_0, .int .i64 a0_1, .string a0_2] 25 (0, 0)) Z27 hb)
            have n1_ := A0 (blk_below (g := g211) (o := .cells #[.int .i64 a1_0, .int .i64 a1_1, .string a1_2] 25 (0, 0)) Z28 hb)
            have n2_ := A0 (blk_below (g := g223) (o := .cells #[.int .i64 t220, .int .i64 t221] 28 (0, 0)) Z29 hb)
            have n3_ := A0 (below_step Z20 hb)
            have n4_ := A0 (hbox)
            have n5_ := A0 ((Z5 : w.heap.size ≤ g233))
            have n6_ := A0 ((Z5 : w.heap.size ≤ g233))
            have n7_ := A0 ((Z12 : g210 ≠ g233))
            have n8_ := A0 ((Z13 : g233 ≠ g210))
            have n9_ := A0 ((Z14 : g211 ≠ g233))
            have n10_ := A0 ((Z15 : g233 ≠ g211))
            have n11_ := A0 ((Z18 : g223 ≠ g233))
            have n12_ := A0 ((Z19 : g233 ≠ g223))
            clear BK210
            clear BK211
            clear BK223
            clear HB
            have BK210 := n0_
            have BK211 := n1_
            have BK223 := n2_
            have HB := n3_
            have BK233 := n4_
            have GW233 := n5_
            have GE233 := n6_
            have NB210_233 := n7_
            have NB233_210 := n8_
            have NB211_233 := n9_
            have NB233_211 := n10_
            have NB223_233 := n11_
            have NB233_223 := n12_
            clear n0_ n1_ n2_ n3_ n4_ n5_ n6_ n7_ n8_ n9_ n10_ n11_ n12_
            clear hb hbox hg
            refine hK.out _ _ ⟨(blk_cell BK210.out 0).trans rfl, (blk_cell BK210.out 1).trans rfl, (blk_cell BK210.out 2).trans rfl, (blk_cell BK211.out 0).trans rfl, (blk_cell BK211.out 1).trans rfl, (blk_cell BK211.out 2).trans rfl⟩ (fun hHeld => ?_)
            clear hK K
            refine norm_ (a' := ?_) ?_ ?_
            rotate_left
            · show Act.put _ (some 8) _ = _
              simp only [Act.put, y1, y2, y3, i64_w, i32_w]
              rfl
            refine one_ (i := 1) (N := some 30) #[true, true, true, false, false, false, false, false, true, false, false] rfl rfl (one_of HT_.out Z32) Z33 (fun K hK => ?_)
            refine goes_ Tryd.func11 Z32 rfl #[.agg #[.int .i64 a0_0, .int .i64 a0_1, .string a0_2]] (by rfl) rfl rfl Z25 ?_
            with_reducible refine (laws_toWay.calls a0_0 a0_1 a0_2 t224 t225 t226 _ A22.out).mono ?_
            rintro e w110 ⟨rfl, hb⟩
            refine ⟨_, rfl, ?_⟩
            have n0_ := A0 (blk_below (g := g210) (o := .cells #[.int .i64 a0_0, .int .i64 a0_1, .string a0_2] 25 (0, 0)) Z27 hb)
            have n1_ := A0 (blk_below (g := g211) (o := .cells #[.int .i64 a1_0, .int .i64 a1_1, .string a1_2] 25 (0, 0)) Z28 hb)
            have n2_ := A0 (blk_below (g := g223) (o := .cells #[.int .i64 t220, .int .i64 t221] 28 (0, 0)) Z29 hb)
            have n3_ := A0 (blk_below (g := g233) (o := .cells #[.int .i64 0, .int .i64 0] 28 (0, 0)) Z30 hb)
            have n4_ := A0 (below_step Z16 hb)
            clear BK210
            clear BK211
            clear BK223
            clear BK233
            clear HB
            have BK210 := n0_
            have BK211 := n1_
            have BK223 := n2_
            have BK233 := n3_
            have HB := n4_
            clear n0_ n1_ n2_ n3_ n4_
            (try clear hb)
            (try clear hb2)
            (try clear hk)
            (try clear hi)
            refine hK.out _ _ ⟨(blk_cell BK210.out 0).trans rfl, (blk_cell BK210.out 1).trans rfl, (blk_cell BK210.out 2).trans rfl, (blk_cell BK211.out 0).trans rfl, (blk_cell BK211.out 1).trans rfl, (blk_cell BK211.out 2).trans rfl⟩ (fun hHeld => ?_)
            clear hK K
            refine norm_ (a' := ?_) ?_ ?_
            rotate_left
            · show Act.put _ (some 30) _ = _
              simp only [Act.put, y1, y2, y3, i64_w, i32_w]
              rfl
            refine one_ (i := 3) (N := some 32) #[true, true, true, true, false, false, false, false, true, false, false] rfl rfl (one_of HT_.out Z32) Z33 (fun K hK => ?_)
            refine goes_ Tryd.func11 Z32 rfl #[.agg #[.int .i64 a1_0, .int .i64 a1_1, .string a1_2]] (by rfl) rfl rfl Z25 ?_
            with_reducible refine (laws_toWay.calls a1_0 a1_1 a1_2 t227 t228 t229 _ A23.out).mono ?_
            rintro e w111 ⟨rfl, hb⟩
            refine ⟨_, rfl, ?_⟩
            have n0_ := A0 (blk_below (g := g210) (o := .cells #[.int .i64 a0_0, .int .i64 a0_1, .string a0_2] 25 (0, 0)) Z27 hb)
            have n1_ := A0 (blk_below (g := g211) (o := .cells #[.int .i64 a1_0, .int .i64 a1_1, .string a1_2] 25 (0, 0)) Z28 hb)
            have n2_ := A0 (blk_below (g := g223) (o := .cells #[.int .i64 t220, .int .i64 t221] 28 (0, 0)) Z29 hb)
            have n3_ := A0 (blk_below (g := g233) (o := .cells #[.int .i64 0, .int .i64 0] 28 (0, 0)) Z30 hb)
            have n4_ := A0 (below_step Z16 hb)
            clear BK210
            clear BK211
            clear BK223
            clear BK233
            clear HB
            have BK210 := n0_
            have BK211 := n1_
            have BK223 := n2_
            have BK233 := n3_
            have HB := n4_
            clear n0_ n1_ n2_ n3_ n4_
            (try clear hb)
            (try clear hb2)
            (try clear hk)
            (try clear hi)
            refine hK.out _ _ ⟨(blk_cell BK210.out 0).trans rfl, (blk_cell BK210.out 1).trans rfl, (blk_cell BK210.out 2).trans rfl, (blk_cell BK211.out 0).trans rfl, (blk_cell BK211.out 1).trans rfl, (blk_cell BK211.out 2).trans rfl⟩ (fun hHeld => ?_)
            clear hK K
            refine norm_ (a' := ?_) ?_ ?_
            rotate_left
            · show Act.put _ (some 32) _ = _
              simp only [Act.put, y1, y2, y3, i64_w, i32_w]
              rfl
            refine one_ (i := 4) (N := some 33) #[true, true, true, true, true, false, false, false, true, false, false] rfl rfl (one_of HT_.out Z32) Z33 (fun K hK => ?_)
            refine goes_ Tryd.func24 Z32 rfl #[.agg #[.int .i64 t224, .int .i64 t225, .string t226], .agg #[.int .i64 t227, .int .i64 t228, .string t229]] (by rfl) rfl rfl Z25 ?_
            with_reducible refine (impl_FirstMeetingOf.calls k t224 t225 t226 t227 t228 t229 t230 t231 t232 _ A24.out).mono ?_
            rintro e w112 ⟨rfl, hb⟩
            refine ⟨_, rfl, ?_⟩
            have n0_ := A0 (blk_below (g := g210) (o := .cells #[.int .i64 a0_0, .int .i64 a0_1, .string a0_2] 25 (0, 0)) Z27 hb)
            have n1_ := A0 (blk_below (g := g211) (o := .cells #[.int .i64 a1_0, .int .i64 a1_1, .string a1_2] 25 (0, 0)) Z28 hb)
            have n2_ := A0 (blk_below (g := g223) (o := .cells #[.int .i64 t220, .int .i64 t221] 28 (0, 0)) Z29 hb)
            have n3_ := A0 (blk_below (g := g233) (o := .cells #[.int .i64 0, .int .i64 0] 28 (0, 0)) Z30 hb)
            have n4_ := A0 (below_step Z16 hb)
            clear BK210
            clear BK211
            clear BK223
            clear BK233
            clear HB
            have BK210 := n0_
            have BK211 := n1_
            have BK223 := n2_
            have BK233 := n3_
            have HB := n4_
            clear n0_ n1_ n2_ n3_ n4_
            (try clear hb)
            (try clear hb2)
            (try clear hk)
            (try clear hi)
            refine hK.out _ _ ⟨(blk_cell BK210.out 0).trans rfl, (blk_cell BK210.out 1).trans rfl, (blk_cell BK210.out 2).trans rfl, (blk_cell BK211.out 0).trans rfl, (blk_cell BK211.out 1).trans rfl, (blk_cell BK211.out 2).trans rfl⟩ (fun hHeld => ?_)
            clear hK K
            refine norm_ (a' := ?_) ?_ ?_
            rotate_left
            · show Act.put _ (some 33) _ = _
              simp only [Act.put, y1, y2, y3, i64_w, i32_w]
              rfl
            refine pure_ (i := 5) (N := some 28) (v := ?_) (a' := ?_) #[true, true, true, true, true, true, false, false, true, false, false] rfl rfl (any_of HT_.out Z32) (fun _ _ _ h => h) (Or.inl ⟨by rfl, ?_⟩) ?_ ?_
            rotate_left
            · intro w'
              go_simp
              with_reducible rfl
            rotate_left
            · simp only [Act.put, y1, y2, y3, i64_w, i32_w]
              rfl
            refine pure_ (i := 6) (N := some 34) (v := ?_) (a' := ?_) #[true, true, true, true, true, true, true, false, true, false, false] rfl rfl (any_of HT_.out Z32) (fun _ _ _ h => h) (Or.inl ⟨by rfl, ?_⟩) ?_ ?_
            rotate_left
            · intro w'
              go_simp
              with_reducible rfl
            rotate_left
            · simp only [Act.put, y1, y2, y3, i64_w, i32_w]
              rfl
            refine pure_ (i := 7) (N := some 35) (v := ?_) (a' := ?_) #[true, true, true, true, true, true, true, true, true, false, false] rfl rfl (any_of HT_.out Z32) (fun _ _ _ h => h) (Or.inl ⟨by rfl, ?_⟩) ?_ ?_
            rotate_left
            · intro w'
              go_simp
              with_reducible rfl
            rotate_left
            · simp only [Act.put, y1, y2, y3, i64_w, i32_w]
              rfl
            exact norm_ Z31 (hCont (g233) _ ⟨hHeld, Z27, Z28, Z29, Z30, GW233.out, GE233.out, NB210_233.out, NB233_210.out, NB211_233.out, NB233_211.out, NB223_233.out, NB233_223.out, Z16⟩)
        rintro g233 w113 ⟨hS_, h0_, h1_, h2_, h3_, h4_, h5_, h6_, h7_, h8_, h9_, h10_, h11_, h12_⟩
        have n0_ : Aside0 (w113.heap[g210]? = some (.cells #[.int .i64 a0_0, .int .i64 a0_1, .string a0_2] 25 (0, 0))) := ⟨h0_⟩
        have n1_ : Aside0 (w113.heap[g211]? = some (.cells #[.int .i64 a1_0, .int .i64 a1_1, .string a1_2] 25 (0, 0))) := ⟨h1_⟩
        have n2_ : Aside0 (w113.heap[g223]? = some (.cells #[.int .i64 t220, .int .i64 t221] 28 (0, 0))) := ⟨h2_⟩
        have n3_ : Aside0 (w113.heap[g233]? = some (.cells #[.int .i64 0, .int .i64 0] 28 (0, 0))) := ⟨h3_⟩
        have n4_ : Aside0 (w.heap.size ≤ g233) := ⟨h4_⟩
        have n5_ : Aside0 (w.heap.size ≤ g233) := ⟨h5_⟩
        have n6_ : Aside0 (g210 ≠ g233) := ⟨h6_⟩
        have n7_ : Aside0 (g233 ≠ g210) := ⟨h7_⟩
        have n8_ : Aside0 (g211 ≠ g233) := ⟨h8_⟩
        have n9_ : Aside0 (g233 ≠ g211) := ⟨h9_⟩
        have n10_ : Aside0 (g223 ≠ g233) := ⟨h10_⟩
        have n11_ : Aside0 (g233 ≠ g223) := ⟨h11_⟩
        have n12_ : Aside0 (Below w.heap.size w w113) := ⟨h12_⟩
        clear BK210
        clear BK211
        clear BK223
        clear HB
        clear h0_ h1_ h2_ h3_ h4_ h5_ h6_ h7_ h8_ h9_ h10_ h11_ h12_
        have BK210 := n0_
        have BK211 := n1_
        have BK223 := n2_
        have BK233 := n3_
        have GW233 := n4_
        have GE233 := n5_
        have NB210_233 := n6_
        have NB233_210 := n7_
        have NB211_233 := n8_
        have NB233_211 := n9_
        have NB223_233 := n10_
        have NB233_223 := n11_
        have HB := n12_
        clear n0_ n1_ n2_ n3_ n4_ n5_ n6_ n7_ n8_ n9_ n10_ n11_ n12_
        have hHeld : w113.cell? ⟨g210, 0, none⟩ = some (.int .i64 a0_0) ∧ w113.cell? ⟨g210, 1, none⟩ = some (.int .i64 a0_1) ∧ w113.cell? ⟨g210, 2, none⟩ = some (.string a0_2) ∧ w113.cell? ⟨g211, 0, none⟩ = some (.int .i64 a1_0) ∧ w113.cell? ⟨g211, 1, none⟩ = some (.int .i64 a1_1) ∧ w113.cell? ⟨g211, 2, none⟩ = some (.string a1_2) := hS_
        refine norm_ (a' := ?_) ?_ ?_
        rotate_left
        · simp only [putAll, Act.put, y1, y2, y3]
          rfl
        refine one_ (i := 9) (N := none) #[true, true, true, true, true, true, true, true, true, true, false] rfl rfl (one_of HT_.out Z32) Z33 (fun K hK => ?_)
        have hs114 : w113.cell? ⟨g233, 0, none⟩ = some (.int .i64 0) := (blk_cell BK233.out 0).trans rfl
        have hfs114 := blk_frozen BK233.out 0
        have hns114_0 := NB210_233.out
        have hns114_1 := NB211_233.out
        have hns114_2 := NB223_233.out
        have hms114_0 := NB233_210.out
        have hms114_1 := NB233_211.out
        have hms114_2 := NB233_223.out
        have hs115 : w113.cell? ⟨g233, 1, none⟩ = some (.int .i64 0) := (blk_cell BK233.out 1).trans rfl
        have hfs115 := blk_frozen BK233.out 1
        have hns115_0 := NB210_233.out
        have hns115_1 := NB211_233.out
        have hns115_2 := NB223_233.out
        have hms115_0 := NB233_210.out
        have hms115_1 := NB233_211.out
        have hms115_2 := NB233_223.out
        refine skip_ (w1 := ?_) (by rfl) rfl ?_ ?_
        rotate_left
        · go_simp
          rfl
        refine hK.out _ _ ⟨((cell_far (p := ⟨g233, _, none⟩) NB210_233.out _).trans (((cell_far (p := ⟨g233, _, none⟩) NB210_233.out _).trans (hHeld.1)))), ((cell_far (p := ⟨g233, _, none⟩) NB210_233.out _).trans (((cell_far (p := ⟨g233, _, none⟩) NB210_233.out _).trans (hHeld.2.1)))), ((cell_far (p := ⟨g233, _, none⟩) NB210_233.out _).trans (((cell_far (p := ⟨g233, _, none⟩) NB210_233.out _).trans (hHeld.2.2.1)))), ((cell_far (p := ⟨g233, _, none⟩) NB211_233.out _).trans (((cell_far (p := ⟨g233, _, none⟩) NB211_233.out _).trans (hHeld.2.2.2.1)))), ((cell_far (p := ⟨g233, _, none⟩) NB211_233.out _).trans (((cell_far (p := ⟨g233, _, none⟩) NB211_233.out _).trans (hHeld.2.2.2.2.1)))), ((cell_far (p := ⟨g233, _, none⟩) NB211_233.out _).trans (((cell_far (p := ⟨g233, _, none⟩) NB211_233.out _).trans (hHeld.2.2.2.2.2))))⟩ (fun hHeld => ?_)
        clear hK K
        refine pure_ (i := 10) (N := some 9) (v := ?_) (a' := ?_) #[true, true, true, true, true, true, true, true, true, true, true] rfl rfl (any_of HT_.out Z32) (fun _ _ _ h => h) (Or.inl ⟨by rfl, ?_⟩) ?_ ?_
        rotate_left
        · intro w'
          go_simp
          with_reducible rfl
        rotate_left
        · simp only [Act.put, y1, y2, y3, i64_w, i32_w]
          rfl
        refine done_ (done_of HT_.out Z32) ?_
        have hnb116 := NB233_210.out
        have hnc116 := NB210_233.out
        have hnb117 := NB233_211.out
        have hnc117 := NB211_233.out
        have hnb118 := NB233_223.out
        have hnc118 := NB223_233.out
        have hcz119_0 : w113.cell? ⟨g233, 0, none⟩ = some (.int .i64 0) := (blk_cell BK233.out 0).trans rfl
        have hcz119_1 : w113.cell? ⟨g233, 1, none⟩ = some (.int .i64 0) := (blk_cell BK233.out 1).trans rfl
        have hfz119_0 := blk_frozen BK233.out 0
        have hfz119_1 := blk_frozen BK233.out 1
        have hnb120 := NB223_210.out
        have hnc120 := NB210_223.out
        have hnb121 := NB223_211.out
        have hnc121 := NB211_223.out
        have hcz122_0 : w113.cell? ⟨g223, 0, none⟩ = some (.int .i64 t220) := (blk_cell BK223.out 0).trans rfl
        have hcz122_1 : w113.cell? ⟨g223, 1, none⟩ = some (.int .i64 t221) := (blk_cell BK223.out 1).trans rfl
        have hfz122_0 := blk_frozen BK223.out 0
        have hfz122_1 := blk_frozen BK223.out 1
        try go_wp2_with (first | ((with_reducible refine gate_callee (f := 15) rfl ?_); refine goesL_ (some 38) rfl rfl Tryd.func15 Z32 rfl #[.agg #[.int .i64 t230, .int .i64 t231], .agg #[.int .i64 t220, .int .i64 t221]] rfl Z25 ?_; (with_reducible refine (laws_eqCell.calls t230 t231 t220 t221 false _ A25.out).mono ?_); rintro e w123 ⟨rfl, hb⟩; refine ⟨_, rfl, ?_⟩; have n0_ := A0 (blk_below (g := g210) (o := .cells #[.int .i64 a0_0, .int .i64 a0_1, .string a0_2] 25 (0, 0)) Z2 hb); have n1_ := A0 (blk_below (g := g211) (o := .cells #[.int .i64 a1_0, .int .i64 a1_1, .string a1_2] 25 (0, 0)) Z3 hb); have n2_ := A0 (blk_below (g := g223) (o := .cells #[.int .i64 t220, .int .i64 t221] 28 (0, 0)) Z4 hb); have n3_ := A0 (blk_below (g := g233) (o := .cells #[.int .i64 t230, .int .i64 t231] 28 (0, 0)) Z1 hb); have n4_ := A0 (below_step Z16 hb); clear BK210; clear BK211; clear BK223; clear BK233; clear HB; have BK210 := n0_; have BK211 := n1_; have BK223 := n2_; have BK233 := n3_; have HB := n4_; clear n0_ n1_ n2_ n3_ n4_; (try clear hb); (try clear hb2); (try clear hk); (try clear hi)))
        go_ret
        exact ⟨by first | rfl | (simp [errW_none, errW_some] <;> rfl) | (simp [*, errW_none, errW_some] <;> rfl), by repeat (first | (with_reducible first | exact HB.out | apply below_alloc | apply pw_below_drewN | apply below_drew1 | refine below_set ?_ GE210.out | refine below_set ?_ GE211.out | refine below_set ?_ GE223.out | refine below_set ?_ GE233.out) | exact HB.out)⟩

end Go.Proofs.YtkjhfafjfebmjaaDoor.OFnExactFirstMeetingOf
