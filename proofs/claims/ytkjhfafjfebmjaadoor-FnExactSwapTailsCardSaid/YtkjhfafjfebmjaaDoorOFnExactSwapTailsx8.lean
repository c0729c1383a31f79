/- The functions that 'FnExactSwapTails' runs, each as a function over numbers and lists, with the proof that the Go text comes to its answers. No condition. -/
import Derived.Test.YtkjhfafjfebmjaaDoorOFnExactSwapTailsx0
import Derived.Test.YtkjhfafjfebmjaaDoorOFnExactSwapTailsx2
import Derived.Test.YtkjhfafjfebmjaaDoorOFnExactSwapTailsx3
import Derived.Test.YtkjhfafjfebmjaaDoorOFnExactSwapTailsx6
import Derived.Test.YtkjhfafjfebmjaaDoorOFnExactSwapTailsx7
namespace Go.Proofs.YtkjhfafjfebmjaaDoor.OFnExactSwapTails
open Go.Proofs.YtkjhfafjfebmjaaDoor.Stub
open Go.RowKit Go.Proofs.YtkjhfafjfebmjaaDoorW.PrintWords Go.Proofs.YtkjhfafjfebmjaaDoorW.PrintLast Go.Proofs.YtkjhfafjfebmjaaDoorW.PrintMore
attribute [local go_sem] max2_int min2_int max_two min_two max_three min_three max_four min_four   -- for this text's walks alone
set_option linter.unusedVariables false
set_option linter.unusedSimpArgs false

/-! ### laws_FnExactSwapTails: function 8 -/
theorem y1 {α : Type} (l : List α) (i : Nat) (a : α) : l.toArray.setIfInBounds i a = (l.set i a).toArray := List.setIfInBounds_toArray l i a
theorem y2 {α : Type} {x : α} {xs : List α} {b : α} : (x :: xs).set 0 b = b :: xs := List.set_cons_zero
theorem y3 {α : Type} {x : α} {xs : List α} {n : Nat} {b : α} : (x :: xs).set (n + 1) b = x :: xs.set n b := List.set_cons_succ
theorem A0 {p : Prop} (h : p) : Aside0 p := Aside0.mk h
theorem Z1 {p : Prop} (h : p := by rw [hg]; exact (below_size (by repeat (first | (with_reducible first | exact HB.out | apply below_alloc | apply pw_below_drewN | apply below_drew1 | refine below_set ?_ G42.out | refine below_set ?_ G43.out | refine below_set ?_ G44.out | refine below_set ?_ G45.out | refine below_set ?_ G47.out) | exact HB.out)))) : p := h
theorem Z2 {p : Prop} (h : p := by rw [hg]; exact (below_size (by repeat (first | (with_reducible first | exact HB.out | apply below_alloc | apply pw_below_drewN | apply below_drew1 | refine below_set ?_ G42.out | refine below_set ?_ G43.out | refine below_set ?_ G44.out | refine below_set ?_ G45.out | refine below_set ?_ G46.out) | exact HB.out)))) : p := h
theorem Z3 {p : Prop} (h : p := by repeat (first | (with_reducible first | exact HB.out | apply below_alloc | apply pw_below_drewN | apply below_drew1 | refine below_set ?_ G42.out | refine below_set ?_ G43.out | refine below_set ?_ G44.out | refine below_set ?_ G45.out | refine below_set ?_ G47.out | refine below_set ?_ G46.out) | exact HB.out)) : p := h
theorem Z4 {p : Prop} (h : p := by repeat (first | (with_reducible first | exact HB.out | apply below_alloc | apply pw_below_drewN | apply below_drew1 | refine below_set ?_ G42.out | refine below_set ?_ G43.out | refine below_set ?_ G44.out | refine below_set ?_ G45.out | refine below_set ?_ G46.out | refine below_set ?_ G47.out) | exact HB.out)) : p := h
theorem Z5 {p : Prop} (h : p := by rw [hg]; exact (below_size (by repeat (first | (with_reducible first | exact HB.out | apply below_alloc | apply pw_below_drewN | apply below_drew1 | refine below_set ?_ G42.out | refine below_set ?_ G43.out | refine below_set ?_ G44.out | refine below_set ?_ G45.out) | exact HB.out)))) : p := h
theorem Z6 {p : Prop} (h : p := by rw [hg]; exact (below_size (by repeat (first | (with_reducible first | exact HB.out | apply below_alloc | apply pw_below_drewN | apply below_drew1 | refine below_set ?_ G42.out | refine below_set ?_ G43.out | refine below_set ?_ G44.out | refine below_set ?_ G45.out) | exact HB.out)))) : p := h
theorem Z7 {p : Prop} (h : p := by repeat (first | (with_reducible first | exact HB.out | apply below_alloc | apply pw_below_drewN | apply below_drew1 | refine below_set ?_ G42.out | refine below_set ?_ G43.out | refine below_set ?_ G44.out | refine below_set ?_ G45.out | refine below_set ?_ G46.out) | exact HB.out)) : p := h
theorem Z8 {p : Prop} (h : p := by repeat (first | (with_reducible first | exact HB.out | apply below_alloc | apply pw_below_drewN | apply below_drew1 | refine below_set ?_ G42.out | refine below_set ?_ G43.out | refine below_set ?_ G44.out | refine below_set ?_ G45.out | refine below_set ?_ G47.out) | exact HB.out)) : p := h
theorem Z9 {p : Prop} (h : p := by rw [hg]; exact (below_size (by repeat (first | (with_reducible first | exact HB.out | apply below_alloc | apply pw_below_drewN | apply below_drew1 | refine below_set ?_ G42.out | refine below_set ?_ G43.out | refine below_set ?_ G45.out) | exact HB.out)))) : p := h
theorem Z10 {p : Prop} (h : p := by rw [hg]; exact (below_size (by repeat (first | (with_reducible first | exact HB.out | apply below_alloc | apply pw_below_drewN | apply below_drew1 | refine below_set ?_ G42.out | refine below_set ?_ G43.out | refine below_set ?_ G44.out) | exact HB.out)))) : p := h
theorem Z11 {p : Prop} (h : p := by rw [hg]; exact Nat.ne_of_lt (blk_lt (g := g226) (o := .cells #[.int .i64 0, .int .i64 0, .string (⟨#[]⟩ : ByteArray)] 30 (0, 0)) (by (with_reducible repeat (first | refine blk_drewN ?_ _ | refine blk_drew ?_ | refine blk_alloc ?_ _)); exact B33.out))) : p := h
theorem Z12 {p : Prop} (h : p := by rw [hg]; exact Nat.ne_of_gt (blk_lt (g := g226) (o := .cells #[.int .i64 0, .int .i64 0, .string (⟨#[]⟩ : ByteArray)] 30 (0, 0)) (by (with_reducible repeat (first | refine blk_drewN ?_ _ | refine blk_drew ?_ | refine blk_alloc ?_ _)); exact B33.out))) : p := h
theorem Z13 {p : Prop} (h : p := by rw [hg]; exact Nat.ne_of_lt (blk_lt (g := g225) (o := .cells #[.int .i64 0, .int .i64 0, .string (⟨#[]⟩ : ByteArray)] 30 (0, 0)) (by (with_reducible repeat (first | refine blk_drewN ?_ _ | refine blk_drew ?_ | refine blk_alloc ?_ _)); exact B32.out))) : p := h
theorem Z14 {p : Prop} (h : p := by rw [hg]; exact Nat.ne_of_gt (blk_lt (g := g225) (o := .cells #[.int .i64 0, .int .i64 0, .string (⟨#[]⟩ : ByteArray)] 30 (0, 0)) (by (with_reducible repeat (first | refine blk_drewN ?_ _ | refine blk_drew ?_ | refine blk_alloc ?_ _)); exact B32.out))) : p := h
theorem Z15 {p : Prop} (h : p := by rw [hg]; exact Nat.ne_of_lt (blk_lt (g := g241) (o := .cells #[.int .i64 0, .int .i64 0, .string (⟨#[]⟩ : ByteArray)] 30 (0, 0)) (by (with_reducible repeat (first | refine blk_drewN ?_ _ | refine blk_drew ?_ | refine blk_alloc ?_ _)); exact B35.out))) : p := h
theorem Z16 {p : Prop} (h : p := by rw [hg]; exact Nat.ne_of_gt (blk_lt (g := g241) (o := .cells #[.int .i64 0, .int .i64 0, .string (⟨#[]⟩ : ByteArray)] 30 (0, 0)) (by (with_reducible repeat (first | refine blk_drewN ?_ _ | refine blk_drew ?_ | refine blk_alloc ?_ _)); exact B35.out))) : p := h
theorem Z17 {p : Prop} (h : p := by rw [hg]; exact Nat.ne_of_lt (blk_lt (g := g240) (o := .cells #[.int .i64 0, .int .i64 0, .string (⟨#[]⟩ : ByteArray)] 30 (0, 0)) (by (with_reducible repeat (first | refine blk_drewN ?_ _ | refine blk_drew ?_ | refine blk_alloc ?_ _)); exact B34.out))) : p := h
theorem Z18 {p : Prop} (h : p := by rw [hg]; exact Nat.ne_of_gt (blk_lt (g := g240) (o := .cells #[.int .i64 0, .int .i64 0, .string (⟨#[]⟩ : ByteArray)] 30 (0, 0)) (by (with_reducible repeat (first | refine blk_drewN ?_ _ | refine blk_drew ?_ | refine blk_alloc ?_ _)); exact B34.out))) : p := h
theorem Z19 {p : Prop} (h : p := by rw [hg]; exact Nat.ne_of_lt (blk_lt (g := g208) (o := .cells #[.int .i64 a0_0, .int .i64 a0_1, .string a0_2] 25 (0, 0)) (by (with_reducible repeat (first | refine blk_drewN ?_ _ | refine blk_drew ?_ | refine blk_alloc ?_ _)); exact B30.out))) : p := h
theorem Z20 {p : Prop} (h : p := by rw [hg]; exact Nat.ne_of_gt (blk_lt (g := g208) (o := .cells #[.int .i64 a0_0, .int .i64 a0_1, .string a0_2] 25 (0, 0)) (by (with_reducible repeat (first | refine blk_drewN ?_ _ | refine blk_drew ?_ | refine blk_alloc ?_ _)); exact B30.out))) : p := h
theorem Z21 {p : Prop} (h : p := by rw [hg]; exact Nat.ne_of_lt (blk_lt (g := g208) (o := .cells #[.int .i64 a0_0, .int .i64 a0_1, .string a0_2] 25 (0, 0)) (by (with_reducible repeat (first | refine blk_drewN ?_ _ | refine blk_drew ?_ | refine blk_alloc ?_ _)); exact B30.out))) : p := h
theorem Z22 {p : Prop} (h : p := by rw [hg]; exact Nat.ne_of_gt (blk_lt (g := g208) (o := .cells #[.int .i64 a0_0, .int .i64 a0_1, .string a0_2] 25 (0, 0)) (by (with_reducible repeat (first | refine blk_drewN ?_ _ | refine blk_drew ?_ | refine blk_alloc ?_ _)); exact B30.out))) : p := h
theorem Z23 {p : Prop} (h : p := by rw [hg]; exact Nat.ne_of_lt (blk_lt (g := g209) (o := .cells #[.int .i64 a1_0, .int .i64 a1_1, .string a1_2] 25 (0, 0)) (by (with_reducible repeat (first | refine blk_drewN ?_ _ | refine blk_drew ?_ | refine blk_alloc ?_ _)); exact B31.out))) : p := h
theorem Z24 {p : Prop} (h : p := by rw [hg]; exact Nat.ne_of_gt (blk_lt (g := g209) (o := .cells #[.int .i64 a1_0, .int .i64 a1_1, .string a1_2] 25 (0, 0)) (by (with_reducible repeat (first | refine blk_drewN ?_ _ | refine blk_drew ?_ | refine blk_alloc ?_ _)); exact B31.out))) : p := h
theorem Z25 {p : Prop} (h : p := by rw [hg]; exact Nat.ne_of_lt (blk_lt (g := g208) (o := .cells #[.int .i64 a0_0, .int .i64 a0_1, .string a0_2] 25 (0, 0)) (by (with_reducible repeat (first | refine blk_drewN ?_ _ | refine blk_drew ?_ | refine blk_alloc ?_ _)); exact B30.out))) : p := h
theorem Z26 {p : Prop} (h : p := by rw [hg]; exact Nat.ne_of_gt (blk_lt (g := g208) (o := .cells #[.int .i64 a0_0, .int .i64 a0_1, .string a0_2] 25 (0, 0)) (by (with_reducible repeat (first | refine blk_drewN ?_ _ | refine blk_drew ?_ | refine blk_alloc ?_ _)); exact B30.out))) : p := h
theorem Z27 {p : Prop} (h : p := by rw [hg]; exact Nat.ne_of_lt (blk_lt (g := g209) (o := .cells #[.int .i64 a1_0, .int .i64 a1_1, .string a1_2] 25 (0, 0)) (by (with_reducible repeat (first | refine blk_drewN ?_ _ | refine blk_drew ?_ | refine blk_alloc ?_ _)); exact B31.out))) : p := h
theorem Z28 {p : Prop} (h : p := by rw [hg]; exact Nat.ne_of_gt (blk_lt (g := g209) (o := .cells #[.int .i64 a1_0, .int .i64 a1_1, .string a1_2] 25 (0, 0)) (by (with_reducible repeat (first | refine blk_drewN ?_ _ | refine blk_drew ?_ | refine blk_alloc ?_ _)); exact B31.out))) : p := h
theorem Z29 {p : Prop} (h : p := by repeat (first | (with_reducible first | exact HB.out | apply below_alloc | apply pw_below_drewN | apply below_drew1 | refine below_set ?_ G42.out | refine below_set ?_ G43.out | refine below_set ?_ G45.out | refine below_set ?_ G44.out) | exact HB.out)) : p := h
theorem Z30 {p : Prop} (h : p := by repeat (first | (with_reducible first | exact HB.out | apply below_alloc | apply pw_below_drewN | apply below_drew1 | refine below_set ?_ G42.out | refine below_set ?_ G43.out | refine below_set ?_ G44.out | refine below_set ?_ G45.out) | exact HB.out)) : p := h
theorem Z31 {p : Prop} (h : p := by rw [hg]; exact Nat.ne_of_lt (blk_lt (g := g208) (o := .cells #[.int .i64 a0_0, .int .i64 a0_1, .string a0_2] 25 (0, 0)) (by (with_reducible repeat (first | refine blk_drewN ?_ _ | refine blk_drew ?_ | refine blk_alloc ?_ _)); exact B30.out))) : p := h
theorem Z32 {p : Prop} (h : p := by rw [hg]; exact Nat.ne_of_gt (blk_lt (g := g208) (o := .cells #[.int .i64 a0_0, .int .i64 a0_1, .string a0_2] 25 (0, 0)) (by (with_reducible repeat (first | refine blk_drewN ?_ _ | refine blk_drew ?_ | refine blk_alloc ?_ _)); exact B30.out))) : p := h
theorem Z33 {p : Prop} (h : p := by rw [hg]; exact Nat.ne_of_lt (blk_lt (g := g209) (o := .cells #[.int .i64 a1_0, .int .i64 a1_1, .string a1_2] 25 (0, 0)) (by (with_reducible repeat (first | refine blk_drewN ?_ _ | refine blk_drew ?_ | refine blk_alloc ?_ _)); exact B31.out))) : p := h
theorem Z34 {p : Prop} (h : p := by rw [hg]; exact Nat.ne_of_gt (blk_lt (g := g209) (o := .cells #[.int .i64 a1_0, .int .i64 a1_1, .string a1_2] 25 (0, 0)) (by (with_reducible repeat (first | refine blk_drewN ?_ _ | refine blk_drew ?_ | refine blk_alloc ?_ _)); exact B31.out))) : p := h
theorem Z35 {p : Prop} (h : p := by rw [hg]; exact Nat.ne_of_lt (blk_lt (g := g225) (o := .cells #[.int .i64 t218, .int .i64 t219, .string t220] 30 (0, 0)) (by (with_reducible repeat (first | refine blk_drewN ?_ _ | refine blk_drew ?_ | refine blk_alloc ?_ _)); exact B32.out))) : p := h
theorem Z36 {p : Prop} (h : p := by rw [hg]; exact Nat.ne_of_gt (blk_lt (g := g225) (o := .cells #[.int .i64 t218, .int .i64 t219, .string t220] 30 (0, 0)) (by (with_reducible repeat (first | refine blk_drewN ?_ _ | refine blk_drew ?_ | refine blk_alloc ?_ _)); exact B32.out))) : p := h
theorem Z37 {p : Prop} (h : p := by rw [hg]; exact Nat.ne_of_lt (blk_lt (g := g226) (o := .cells #[.int .i64 t221, .int .i64 t222, .string t223] 30 (0, 0)) (by (with_reducible repeat (first | refine blk_drewN ?_ _ | refine blk_drew ?_ | refine blk_alloc ?_ _)); exact B33.out))) : p := h
theorem Z38 {p : Prop} (h : p := by rw [hg]; exact Nat.ne_of_gt (blk_lt (g := g226) (o := .cells #[.int .i64 t221, .int .i64 t222, .string t223] 30 (0, 0)) (by (with_reducible repeat (first | refine blk_drewN ?_ _ | refine blk_drew ?_ | refine blk_alloc ?_ _)); exact B33.out))) : p := h
theorem Z39 {p : Prop} (h : p := by rw [hg]; exact Nat.ne_of_lt (blk_lt (g := g208) (o := .cells #[.int .i64 a0_0, .int .i64 a0_1, .string a0_2] 25 (0, 0)) (by (with_reducible repeat (first | refine blk_drewN ?_ _ | refine blk_drew ?_ | refine blk_alloc ?_ _)); exact B30.out))) : p := h
theorem Z40 {p : Prop} (h : p := by rw [hg]; exact Nat.ne_of_gt (blk_lt (g := g208) (o := .cells #[.int .i64 a0_0, .int .i64 a0_1, .string a0_2] 25 (0, 0)) (by (with_reducible repeat (first | refine blk_drewN ?_ _ | refine blk_drew ?_ | refine blk_alloc ?_ _)); exact B30.out))) : p := h
theorem Z41 {p : Prop} (h : p := by rw [hg]; exact Nat.ne_of_lt (blk_lt (g := g209) (o := .cells #[.int .i64 a1_0, .int .i64 a1_1, .string a1_2] 25 (0, 0)) (by (with_reducible repeat (first | refine blk_drewN ?_ _ | refine blk_drew ?_ | refine blk_alloc ?_ _)); exact B31.out))) : p := h
theorem Z42 {p : Prop} (h : p := by rw [hg]; exact Nat.ne_of_gt (blk_lt (g := g209) (o := .cells #[.int .i64 a1_0, .int .i64 a1_1, .string a1_2] 25 (0, 0)) (by (with_reducible repeat (first | refine blk_drewN ?_ _ | refine blk_drew ?_ | refine blk_alloc ?_ _)); exact B31.out))) : p := h
theorem Z43 {p : Prop} (h : p := by rw [hg]; exact Nat.ne_of_lt (blk_lt (g := g225) (o := .cells #[.int .i64 t218, .int .i64 t219, .string t220] 30 (0, 0)) (by (with_reducible repeat (first | refine blk_drewN ?_ _ | refine blk_drew ?_ | refine blk_alloc ?_ _)); exact B32.out))) : p := h
theorem Z44 {p : Prop} (h : p := by rw [hg]; exact Nat.ne_of_gt (blk_lt (g := g225) (o := .cells #[.int .i64 t218, .int .i64 t219, .string t220] 30 (0, 0)) (by (with_reducible repeat (first | refine blk_drewN ?_ _ | refine blk_drew ?_ | refine blk_alloc ?_ _)); exact B32.out))) : p := h
theorem Z45 {p : Prop} (h : p := by rw [hg]; exact Nat.ne_of_lt (blk_lt (g := g226) (o := .cells #[.int .i64 t221, .int .i64 t222, .string t223] 30 (0, 0)) (by (with_reducible repeat (first | refine blk_drewN ?_ _ | refine blk_drew ?_ | refine blk_alloc ?_ _)); exact B33.out))) : p := h
theorem Z46 {p : Prop} (h : p := by rw [hg]; exact Nat.ne_of_gt (blk_lt (g := g226) (o := .cells #[.int .i64 t221, .int .i64 t222, .string t223] 30 (0, 0)) (by (with_reducible repeat (first | refine blk_drewN ?_ _ | refine blk_drew ?_ | refine blk_alloc ?_ _)); exact B33.out))) : p := h
theorem Z47 {p : Prop} (h : p := by rw [hg]; exact (below_size (by repeat (first | (with_reducible first | exact HB.out | apply below_alloc | apply pw_below_drewN | apply below_drew1 | refine below_set ?_ G42.out | refine below_set ?_ G43.out) | exact HB.out)))) : p := h
theorem Z48 {p : Prop} (h : p := by rw [hg]; exact (below_size (by repeat (first | (with_reducible first | exact HB.out | apply below_alloc | apply pw_below_drewN | apply below_drew1 | refine below_set ?_ G42.out | refine below_set ?_ G43.out) | exact HB.out)))) : p := h
theorem Z49 {p : Prop} (h : p := by repeat (first | (with_reducible first | exact HB.out | apply below_alloc | apply pw_below_drewN | apply below_drew1 | refine below_set ?_ G42.out | refine below_set ?_ G43.out | refine below_set ?_ G44.out) | exact HB.out)) : p := h
theorem Z50 {p : Prop} (h : p := by repeat (first | (with_reducible first | exact HB.out | apply below_alloc | apply pw_below_drewN | apply below_drew1 | refine below_set ?_ G42.out | refine below_set ?_ G43.out | refine below_set ?_ G45.out) | exact HB.out)) : p := h
theorem Z51 {p : Prop} (h : p := by rw [hg]; exact (below_size (by repeat (first | (with_reducible first | exact HB.out | apply below_alloc | apply pw_below_drewN | apply below_drew1 | refine below_set ?_ G42.out) | exact HB.out)))) : p := h
theorem Z52 {p : Prop} (h : p := by first | (simp only [putAll, Act.put, y1, y2, y3]; done) | (simp only [putAll, Act.put, y1, y2, y3]; rfl)) : p := h
theorem Z53 {p : Prop} (h : p := by repeat (first | (with_reducible first | exact HB.out | apply below_alloc | apply pw_below_drewN | apply below_drew1 | refine below_set ?_ G42.out | refine below_set ?_ G43.out) | exact HB.out)) : p := h
theorem Z54 {p : Prop} (h : p := by rw [hg]; exact (below_size (by repeat (first | (with_reducible first | exact HB.out | apply below_alloc | apply pw_below_drewN | apply below_drew1) | exact HB.out)))) : p := h
theorem Z55 {p : Prop} (h : p := by (try simp only [List.map_toArray, List.map_cons, List.map_nil]); first | done | rfl | (simp only [List.length_drop, List.length_take]; rfl)) : p := h
theorem Z56 {p : Prop} (h : p := by (with_reducible repeat (first | refine blk_drewN ?_ _ | refine blk_drew ?_ | refine blk_alloc ?_ _)); exact B30.out) : p := h
theorem Z57 {p : Prop} (h : p := by (with_reducible repeat (first | refine blk_drewN ?_ _ | refine blk_drew ?_ | refine blk_alloc ?_ _)); exact B31.out) : p := h
theorem Z58 {p : Prop} (h : p := by (with_reducible repeat (first | refine blk_drewN ?_ _ | refine blk_drew ?_ | refine blk_alloc ?_ _)); exact B32.out) : p := h
theorem Z59 {p : Prop} (h : p := by (with_reducible repeat (first | refine blk_drewN ?_ _ | refine blk_drew ?_ | refine blk_alloc ?_ _)); exact B33.out) : p := h
theorem Z60 {p : Prop} (h : p := by (with_reducible repeat (first | refine blk_drewN ?_ _ | refine blk_drew ?_ | refine blk_alloc ?_ _)); exact B34.out) : p := h
theorem Z61 {p : Prop} (h : p := by (with_reducible repeat (first | refine blk_drewN ?_ _ | refine blk_drew ?_ | refine blk_alloc ?_ _)); exact B35.out) : p := h
theorem Z62 {p : Prop} (h : p := by kernel_rfl) : p := h
def laws_FnExactSwapTails.f (k : Nat) (a0_0 : Int) (a0_1 : Int) (a0_2 : ByteArray) (a1_0 : Int) (a1_1 : Int) (a1_2 : ByteArray) : Option (Bool) := (laws_szWay.f a0_0 a0_1 a0_2 1048576).bind fun t210 => (if t210 < 0 then (some true) else ((laws_szWay.f a1_0 a1_1 a1_2 t210).bind fun t211 => (if t211 < 0 then (some true) else ((laws_toWay.f a0_0 a0_1 a0_2).bind fun bt212 => ((laws_toWay.f a1_0 a1_1 a1_2).bind fun bt215 => ((spec_SwapTails.f k bt212.1 bt212.2.1 bt212.2.2 bt215.1 bt215.2.1 bt215.2.2).bind fun bt218 => ((laws_toWay.f a0_0 a0_1 a0_2).bind fun bt227 => ((laws_toWay.f a1_0 a1_1 a1_2).bind fun bt230 => ((impl_SwapTails.f k bt227.1 bt227.2.1 bt227.2.2 bt230.1 bt230.2.1 bt230.2.2).bind fun bt233 => ((laws_eqWay.f bt233.1 bt233.2.1 bt233.2.2.1 bt218.1 bt218.2.1 bt218.2.2.1).bind fun t242 => (if t242 = true then ((laws_eqWay.f bt233.2.2.2.1 bt233.2.2.2.2.1 bt233.2.2.2.2.2.1 bt218.2.2.2.1 bt218.2.2.2.2.1 bt218.2.2.2.2.2.1).bind fun t243 => (if t243 = true then (if (bt233.2.2.2.2.2.2 != bt218.2.2.2.2.2.2) = true then (none) else (some true)) else (none))) else (none))))))))))))
theorem laws_FnExactSwapTails.mono : ∀ a0 a1 a2 a3 a4 a5 k, LeO (laws_FnExactSwapTails.f k a0 a1 a2 a3 a4 a5) (laws_FnExactSwapTails.f (k + 1) a0 a1 a2 a3 a4 a5) := by
  intro a0 a1 a2 a3 a4 a5 k
  unfold laws_FnExactSwapTails.f
  repeat' first
      | (with_reducible exact impl_SwapTails.mono _ _ _ _ _ _ _)
      | (with_reducible exact spec_SwapTails.mono _ _ _ _ _ _ _)
      | (with_reducible exact LeO.refl _)
      | (with_reducible exact LeO.none _)
      | (with_reducible refine LeO.ite ?_ ?_)
      | (with_reducible refine LeO.bind ?_ (fun _ => ?_))
      | exact impl_SwapTails.mono _ _ _ _ _ _ _
      | exact spec_SwapTails.mono _ _ _ _ _ _ _
      | exact LeO.none _
      | refine LeO.ite ?_ ?_
      | refine LeO.bind ?_ (fun _ => ?_)
def laws_FnExactSwapTails.T8 : Bool × List (List Nat × List Nat) := (true, [([], []), ([0], [0]), ([], []), ([2, 1], [2]), ([1, 3, 3], [1, 3]), ([4], [4]), ([5], [5]), ([5], [5]), ([5], [5]), ([], []), ([], []), ([9, 6, 4, 0, 1, 2, 3, 4, 5, 6, 9, 10], [6, 9]), ([10, 7, 11, 0, 1, 2, 3, 4, 5, 6, 7, 9, 10, 11], [7, 10]), ([8, 12, 0, 1, 2, 3, 4, 5, 6, 7, 8, 9, 10, 11, 12], [8])])
def laws_FnExactSwapTails.B8 : List Nat := [0, 1, 0, 7, 15, 31, 63, 63, 63, 0, 0, 1663, 3839, 8191]
theorem laws_FnExactSwapTails.tab8 : rtab .any (opsOf Tryd.f8 8) = laws_FnExactSwapTails.T8 := by kernel_rfl
theorem laws_FnExactSwapTails.bits8 : waitsOk laws_FnExactSwapTails.T8.2 laws_FnExactSwapTails.B8 = true := by kernel_rfl
def laws_FnExactSwapTails.T9 : Bool × List (List Nat × List Nat) := (true, [([], []), ([0], [0]), ([], []), ([2, 1], [2]), ([1, 3, 3], [1, 3]), ([4], [4]), ([5], [5]), ([5], [5]), ([5], [5]), ([], []), ([], []), ([9, 6, 4, 0, 1, 2, 3, 4, 5, 6, 9, 10], [6, 9]), ([10, 7, 11, 0, 1, 2, 3, 4, 5, 6, 7, 9, 10, 11], [7, 10]), ([8, 12, 0, 1, 2, 3, 4, 5, 6, 7, 8, 9, 10, 11, 12], [8])])
def laws_FnExactSwapTails.B9 : List Nat := [0, 1, 0, 7, 15, 31, 63, 63, 63, 0, 0, 1663, 3839, 8191]
theorem laws_FnExactSwapTails.tab9 : rtab .any (opsOf Tryd.f8 9) = laws_FnExactSwapTails.T9 := by kernel_rfl
theorem laws_FnExactSwapTails.bits9 : waitsOk laws_FnExactSwapTails.T9.2 laws_FnExactSwapTails.B9 = true := by kernel_rfl
abbrev O25 (a b : Int) (c : ByteArray) : Obj := .cells #[.int .i64 a, .int .i64 b, .string c] 25 (0, 0)
abbrev O30 (a b : Int) (c : ByteArray) : Obj := .cells #[.int .i64 a, .int .i64 b, .string c] 30 (0, 0)
abbrev Y0 : ByteArray := ⟨#[]⟩
abbrev Q6 (g : Nat) (a b : Int) (c : ByteArray) (h : Nat) (d e : Int) (f : ByteArray) (w : World) : Prop := w.cell? ⟨g, 0, none⟩ = some (.int .i64 a) ∧ w.cell? ⟨g, 1, none⟩ = some (.int .i64 b) ∧ w.cell? ⟨g, 2, none⟩ = some (.string c) ∧ w.cell? ⟨h, 0, none⟩ = some (.int .i64 d) ∧ w.cell? ⟨h, 1, none⟩ = some (.int .i64 e) ∧ w.cell? ⟨h, 2, none⟩ = some (.string f)
set_option maxHeartbeats 8000000 in
set_option maxRecDepth 100000 in
theorem laws_FnExactSwapTails.calls (k : Nat) (a0_0 : Int) (a0_1 : Int) (a0_2 : ByteArray) (a1_0 : Int) (a1_1 : Int) (a1_2 : ByteArray) (r : Bool) (w : World) (h : laws_FnExactSwapTails.f k a0_0 a0_1 a0_2 a1_0 a1_1 a1_2 = some r) :
  Calls Tryd.prog 8 #[.agg #[.int .i64 a0_0, .int .i64 a0_1, .string a0_2], .agg #[.int .i64 a1_0, .int .i64 a1_1, .string a1_2]] w fun e w' => e = .returned (.bool r) ∧ Below w.heap.size w w' := by
 have hu25 := Tryd.underlying25
 have hu30 := Tryd.underlying30
 have HB := A0 (Below.refl w.heap.size w)
 have H : ((laws_szWay.f a0_0 a0_1 a0_2 1048576).bind fun t210 => (if t210 < 0 then (some true) else ((laws_szWay.f a1_0 a1_1 a1_2 t210).bind fun t211 => (if t211 < 0 then (some true) else ((laws_toWay.f a0_0 a0_1 a0_2).bind fun bt212 => ((laws_toWay.f a1_0 a1_1 a1_2).bind fun bt215 => ((spec_SwapTails.f k bt212.1 bt212.2.1 bt212.2.2 bt215.1 bt215.2.1 bt215.2.2).bind fun bt218 => ((laws_toWay.f a0_0 a0_1 a0_2).bind fun bt227 => ((laws_toWay.f a1_0 a1_1 a1_2).bind fun bt230 => ((impl_SwapTails.f k bt227.1 bt227.2.1 bt227.2.2 bt230.1 bt230.2.1 bt230.2.2).bind fun bt233 => ((laws_eqWay.f bt233.1 bt233.2.1 bt233.2.2.1 bt218.1 bt218.2.1 bt218.2.2.1).bind fun t242 => (if t242 = true then ((laws_eqWay.f bt233.2.2.2.1 bt233.2.2.2.2.1 bt233.2.2.2.2.2.1 bt218.2.2.2.1 bt218.2.2.2.2.1 bt218.2.2.2.2.2.1).bind fun t243 => (if t243 = true then (if (bt233.2.2.2.2.2.2 != bt218.2.2.2.2.2.2) = true then (none) else (some true)) else (none))) else (none))))))))))))) = some r := h
 clear h
 replace H := Option.bind_eq_some_iff.mp H
 obtain ⟨t210, A30, H⟩ := H
 replace H : (if t210 < 0 then (some true) else ((laws_szWay.f a1_0 a1_1 a1_2 t210).bind fun t211 => (if t211 < 0 then (some true) else ((laws_toWay.f a0_0 a0_1 a0_2).bind fun bt212 => ((laws_toWay.f a1_0 a1_1 a1_2).bind fun bt215 => ((spec_SwapTails.f k bt212.1 bt212.2.1 bt212.2.2 bt215.1 bt215.2.1 bt215.2.2).bind fun bt218 => ((laws_toWay.f a0_0 a0_1 a0_2).bind fun bt227 => ((laws_toWay.f a1_0 a1_1 a1_2).bind fun bt230 => ((impl_SwapTails.f k bt227.1 bt227.2.1 bt227.2.2 bt230.1 bt230.2.1 bt230.2.2).bind fun bt233 => ((laws_eqWay.f bt233.1 bt233.2.1 bt233.2.2.1 bt218.1 bt218.2.1 bt218.2.2.1).bind fun t242 => (if t242 = true then ((laws_eqWay.f bt233.2.2.2.1 bt233.2.2.2.2.1 bt233.2.2.2.2.2.1 bt218.2.2.2.1 bt218.2.2.2.2.1 bt218.2.2.2.2.2.1).bind fun t243 => (if t243 = true then (if (bt233.2.2.2.2.2.2 != bt218.2.2.2.2.2.2) = true then (none) else (some true)) else (none))) else (none)))))))))))) = some r := H
 have A3 := A0 A30
 clear A30
 by_cases c4 : t210 < 0
 ·
  rw [if_pos c4] at H
  have c4b0 : decide (t210 < 0) = true := decide_eq_true c4
  clear c4
  obtain rfl := Option.some.inj H
  go_enter Tryd.func8, Tryd.ntmps8
  go_wp2_with (first | ((with_reducible refine gate_dst (N := 2) rfl ?_); refine box_event ?hg (N := 2) ?hd (cs := #[.int .i64 a0_0, .int .i64 a0_1, .string a0_2]) (t := 25) ?hr ?_; (case hd => rfl); (case hg => rfl); (case hr => first | (go_simp; done) | (go_simp; rfl)); intro g208 hg w5 hbox hb; have n0_ := A0 (below_step (by repeat (first | (with_reducible first | exact HB.out | apply below_alloc | apply pw_below_drewN | apply below_drew1) | exact HB.out)) hb); have n1_ := A0 (hbox); have n2_ := A0 ((Z54 : w.heap.size ≤ g208)); have n3_ := A0 ((Z54 : w.heap.size ≤ g208)); clear HB; have HB := n0_; have B30 := n1_; have G36 := n2_; have G42 := n3_; clear n0_ n1_ n2_ n3_; clear hb hbox hg) | ((with_reducible refine gate_dst (N := 3) rfl ?_); refine box_event ?hg (N := 3) ?hd (cs := #[.int .i64 a1_0, .int .i64 a1_1, .string a1_2]) (t := 25) ?hr ?_; (case hd => rfl); (case hg => rfl); (case hr => first | (go_simp; done) | (go_simp; rfl)); intro g209 hg w6 hbox hb; have n0_ := A0 (blk_below (g := g208) (o := O25 a0_0 a0_1 a0_2) Z56 hb); have n1_ := A0 (below_step (by repeat (first | (with_reducible first | exact HB.out | apply below_alloc | apply pw_below_drewN | apply below_drew1 | refine below_set ?_ G42.out) | exact HB.out)) hb); have n2_ := A0 (hbox); have n3_ := A0 ((Z51 : w.heap.size ≤ g209)); have n4_ := A0 ((Z51 : w.heap.size ≤ g209)); have n5_ := A0 ((Z19 : g208 ≠ g209)); have n6_ := A0 ((Z20 : g209 ≠ g208)); clear B30; clear HB; have B30 := n0_; have HB := n1_; have B31 := n2_; have G37 := n3_; have G43 := n4_; have N0 := n5_; have N5 := n6_; clear n0_ n1_ n2_ n3_ n4_ n5_ n6_; clear hb hbox hg; have hnb7 := N0.out; have hnc7 := N5.out; have hcz8_0 : w6.cell? ⟨g208, 0, none⟩ = some (.int .i64 a0_0) := (blk_cell B30.out 0).trans rfl; have hcz8_1 : w6.cell? ⟨g208, 1, none⟩ = some (.int .i64 a0_1) := (blk_cell B30.out 1).trans rfl; have hcz8_2 : w6.cell? ⟨g208, 2, none⟩ = some (.string a0_2) := (blk_cell B30.out 2).trans rfl; have hfz8_0 := blk_frozen B30.out 0; have hfz8_1 := blk_frozen B30.out 1; have hfz8_2 := blk_frozen B30.out 2) | ((with_reducible refine gate_callee (f := 9) rfl ?_); refine goesL_ (some 14) rfl rfl Tryd.func9 Z62 rfl #[.agg #[.int .i64 a0_0, .int .i64 a0_1, .string a0_2], .int .i64 1048576] rfl Z55 ?_; (with_reducible refine (laws_szWay.calls a0_0 a0_1 a0_2 1048576 t210 _ A3.out).mono ?_); rintro e w9 ⟨rfl, hb⟩; refine ⟨_, rfl, ?_⟩; have n0_ := A0 (blk_below (g := g208) (o := O25 a0_0 a0_1 a0_2) Z56 hb); have n1_ := A0 (blk_below (g := g209) (o := O25 a1_0 a1_1 a1_2) Z57 hb); have n2_ := A0 (below_step Z53 hb); clear B30; clear B31; clear HB; have B30 := n0_; have B31 := n1_; have HB := n2_; clear n0_ n1_ n2_; (try clear hb); (try clear hb2); (try clear hk); (try clear hi)))
  go_ret
  exact ⟨by first | rfl | (simp [errW_none, errW_some] <;> rfl) | (simp [*, errW_none, errW_some] <;> rfl), by repeat (first | (with_reducible first | exact HB.out | apply below_alloc | apply pw_below_drewN | apply below_drew1 | refine below_set ?_ G42.out | refine below_set ?_ G43.out) | exact HB.out)⟩
 ·
  rw [if_neg c4] at H
  have c4b0 : decide (t210 < 0) = false := decide_eq_false c4
  clear c4
  replace H := Option.bind_eq_some_iff.mp H
  obtain ⟨t211, A100, H⟩ := H
  replace H : (if t211 < 0 then (some true) else ((laws_toWay.f a0_0 a0_1 a0_2).bind fun bt212 => ((laws_toWay.f a1_0 a1_1 a1_2).bind fun bt215 => ((spec_SwapTails.f k bt212.1 bt212.2.1 bt212.2.2 bt215.1 bt215.2.1 bt215.2.2).bind fun bt218 => ((laws_toWay.f a0_0 a0_1 a0_2).bind fun bt227 => ((laws_toWay.f a1_0 a1_1 a1_2).bind fun bt230 => ((impl_SwapTails.f k bt227.1 bt227.2.1 bt227.2.2 bt230.1 bt230.2.1 bt230.2.2).bind fun bt233 => ((laws_eqWay.f bt233.1 bt233.2.1 bt233.2.2.1 bt218.1 bt218.2.1 bt218.2.2.1).bind fun t242 => (if t242 = true then ((laws_eqWay.f bt233.2.2.2.1 bt233.2.2.2.2.1 bt233.2.2.2.2.2.1 bt218.2.2.2.1 bt218.2.2.2.2.1 bt218.2.2.2.2.2.1).bind fun t243 => (if t243 = true then (if (bt233.2.2.2.2.2.2 != bt218.2.2.2.2.2.2) = true then (none) else (some true)) else (none))) else (none)))))))))) = some r := H
  have A10 := A0 A100
  clear A100
  by_cases c11 : t211 < 0
  ·
   rw [if_pos c11] at H
   have c11b0 : decide (t211 < 0) = true := decide_eq_true c11
   clear c11
   obtain rfl := Option.some.inj H
   go_enter Tryd.func8, Tryd.ntmps8
   go_wp2_with (first | ((with_reducible refine gate_dst (N := 2) rfl ?_); refine box_event ?hg (N := 2) ?hd (cs := #[.int .i64 a0_0, .int .i64 a0_1, .string a0_2]) (t := 25) ?hr ?_; (case hd => rfl); (case hg => rfl); (case hr => first | (go_simp; done) | (go_simp; rfl)); intro g208 hg w12 hbox hb; have n0_ := A0 (below_step (by repeat (first | (with_reducible first | exact HB.out | apply below_alloc | apply pw_below_drewN | apply below_drew1) | exact HB.out)) hb); have n1_ := A0 (hbox); have n2_ := A0 ((Z54 : w.heap.size ≤ g208)); have n3_ := A0 ((Z54 : w.heap.size ≤ g208)); clear HB; have HB := n0_; have B30 := n1_; have G36 := n2_; have G42 := n3_; clear n0_ n1_ n2_ n3_; clear hb hbox hg) | ((with_reducible refine gate_dst (N := 3) rfl ?_); refine box_event ?hg (N := 3) ?hd (cs := #[.int .i64 a1_0, .int .i64 a1_1, .string a1_2]) (t := 25) ?hr ?_; (case hd => rfl); (case hg => rfl); (case hr => first | (go_simp; done) | (go_simp; rfl)); intro g209 hg w13 hbox hb; have n0_ := A0 (blk_below (g := g208) (o := O25 a0_0 a0_1 a0_2) Z56 hb); have n1_ := A0 (below_step (by repeat (first | (with_reducible first | exact HB.out | apply below_alloc | apply pw_below_drewN | apply below_drew1 | refine below_set ?_ G42.out) | exact HB.out)) hb); have n2_ := A0 (hbox); have n3_ := A0 ((Z51 : w.heap.size ≤ g209)); have n4_ := A0 ((Z51 : w.heap.size ≤ g209)); have n5_ := A0 ((Z19 : g208 ≠ g209)); have n6_ := A0 ((Z20 : g209 ≠ g208)); clear B30; clear HB; have B30 := n0_; have HB := n1_; have B31 := n2_; have G37 := n3_; have G43 := n4_; have N0 := n5_; have N5 := n6_; clear n0_ n1_ n2_ n3_ n4_ n5_ n6_; clear hb hbox hg; have hnb14 := N0.out; have hnc14 := N5.out; have hcz15_0 : w13.cell? ⟨g208, 0, none⟩ = some (.int .i64 a0_0) := (blk_cell B30.out 0).trans rfl; have hcz15_1 : w13.cell? ⟨g208, 1, none⟩ = some (.int .i64 a0_1) := (blk_cell B30.out 1).trans rfl; have hcz15_2 : w13.cell? ⟨g208, 2, none⟩ = some (.string a0_2) := (blk_cell B30.out 2).trans rfl; have hfz15_0 := blk_frozen B30.out 0; have hfz15_1 := blk_frozen B30.out 1; have hfz15_2 := blk_frozen B30.out 2) | ((with_reducible refine gate_callee (f := 9) rfl ?_); refine goesL_ (some 14) rfl rfl Tryd.func9 Z62 rfl #[.agg #[.int .i64 a0_0, .int .i64 a0_1, .string a0_2], .int .i64 1048576] rfl Z55 ?_; (with_reducible refine (laws_szWay.calls a0_0 a0_1 a0_2 1048576 t210 _ A3.out).mono ?_); rintro e w16 ⟨rfl, hb⟩; refine ⟨_, rfl, ?_⟩; have n0_ := A0 (blk_below (g := g208) (o := O25 a0_0 a0_1 a0_2) Z56 hb); have n1_ := A0 (blk_below (g := g209) (o := O25 a1_0 a1_1 a1_2) Z57 hb); have n2_ := A0 (below_step Z53 hb); clear B30; clear B31; clear HB; have B30 := n0_; have B31 := n1_; have HB := n2_; clear n0_ n1_ n2_; (try clear hb); (try clear hb2); (try clear hk); (try clear hi); have hcz17_0 : w16.cell? ⟨g209, 0, none⟩ = some (.int .i64 a1_0) := (blk_cell B31.out 0).trans rfl; have hcz17_1 : w16.cell? ⟨g209, 1, none⟩ = some (.int .i64 a1_1) := (blk_cell B31.out 1).trans rfl; have hcz17_2 : w16.cell? ⟨g209, 2, none⟩ = some (.string a1_2) := (blk_cell B31.out 2).trans rfl; have hfz17_0 := blk_frozen B31.out 0; have hfz17_1 := blk_frozen B31.out 1; have hfz17_2 := blk_frozen B31.out 2) | ((with_reducible refine gate_callee (f := 9) rfl ?_); refine goesL_ (some 19) rfl rfl Tryd.func9 Z62 rfl #[.agg #[.int .i64 a1_0, .int .i64 a1_1, .string a1_2], .int .i64 t210] rfl Z55 ?_; (with_reducible refine (laws_szWay.calls a1_0 a1_1 a1_2 t210 t211 _ A10.out).mono ?_); rintro e w18 ⟨rfl, hb⟩; refine ⟨_, rfl, ?_⟩; have n0_ := A0 (blk_below (g := g208) (o := O25 a0_0 a0_1 a0_2) Z56 hb); have n1_ := A0 (blk_below (g := g209) (o := O25 a1_0 a1_1 a1_2) Z57 hb); have n2_ := A0 (below_step Z53 hb); clear B30; clear B31; clear HB; have B30 := n0_; have B31 := n1_; have HB := n2_; clear n0_ n1_ n2_; (try clear hb); (try clear hb2); (try clear hk); (try clear hi)))
   go_ret
   exact ⟨by first | rfl | (simp [errW_none, errW_some] <;> rfl) | (simp [*, errW_none, errW_some] <;> rfl), by repeat (first | (with_reducible first | exact HB.out | apply below_alloc | apply pw_below_drewN | apply below_drew1 | refine below_set ?_ G42.out | refine below_set ?_ G43.out) | exact HB.out)⟩
  ·
   rw [if_neg c11] at H
   have c11b0 : decide (t211 < 0) = false := decide_eq_false c11
   clear c11
   replace H := Option.bind_eq_some_iff.mp H
   obtain ⟨⟨t212, t213, t214⟩, A190, H⟩ := H
   replace H : ((laws_toWay.f a1_0 a1_1 a1_2).bind fun bt215 => ((spec_SwapTails.f k t212 t213 t214 bt215.1 bt215.2.1 bt215.2.2).bind fun bt218 => ((laws_toWay.f a0_0 a0_1 a0_2).bind fun bt227 => ((laws_toWay.f a1_0 a1_1 a1_2).bind fun bt230 => ((impl_SwapTails.f k bt227.1 bt227.2.1 bt227.2.2 bt230.1 bt230.2.1 bt230.2.2).bind fun bt233 => ((laws_eqWay.f bt233.1 bt233.2.1 bt233.2.2.1 bt218.1 bt218.2.1 bt218.2.2.1).bind fun t242 => (if t242 = true then ((laws_eqWay.f bt233.2.2.2.1 bt233.2.2.2.2.1 bt233.2.2.2.2.2.1 bt218.2.2.2.1 bt218.2.2.2.2.1 bt218.2.2.2.2.2.1).bind fun t243 => (if t243 = true then (if (bt233.2.2.2.2.2.2 != bt218.2.2.2.2.2.2) = true then (none) else (some true)) else (none))) else (none)))))))) = some r := H
   have A19 := A0 A190
   clear A190
   replace H := Option.bind_eq_some_iff.mp H
   obtain ⟨⟨t215, t216, t217⟩, A200, H⟩ := H
   replace H : ((spec_SwapTails.f k t212 t213 t214 t215 t216 t217).bind fun bt218 => ((laws_toWay.f a0_0 a0_1 a0_2).bind fun bt227 => ((laws_toWay.f a1_0 a1_1 a1_2).bind fun bt230 => ((impl_SwapTails.f k bt227.1 bt227.2.1 bt227.2.2 bt230.1 bt230.2.1 bt230.2.2).bind fun bt233 => ((laws_eqWay.f bt233.1 bt233.2.1 bt233.2.2.1 bt218.1 bt218.2.1 bt218.2.2.1).bind fun t242 => (if t242 = true then ((laws_eqWay.f bt233.2.2.2.1 bt233.2.2.2.2.1 bt233.2.2.2.2.2.1 bt218.2.2.2.1 bt218.2.2.2.2.1 bt218.2.2.2.2.2.1).bind fun t243 => (if t243 = true then (if (bt233.2.2.2.2.2.2 != bt218.2.2.2.2.2.2) = true then (none) else (some true)) else (none))) else (none))))))) = some r := H
   have A20 := A0 A200
   clear A200
   replace H := Option.bind_eq_some_iff.mp H
   obtain ⟨⟨t218, t219, t220, t221, t222, t223, t224⟩, A210, H⟩ := H
   replace H : ((laws_toWay.f a0_0 a0_1 a0_2).bind fun bt227 => ((laws_toWay.f a1_0 a1_1 a1_2).bind fun bt230 => ((impl_SwapTails.f k bt227.1 bt227.2.1 bt227.2.2 bt230.1 bt230.2.1 bt230.2.2).bind fun bt233 => ((laws_eqWay.f bt233.1 bt233.2.1 bt233.2.2.1 t218 t219 t220).bind fun t242 => (if t242 = true then ((laws_eqWay.f bt233.2.2.2.1 bt233.2.2.2.2.1 bt233.2.2.2.2.2.1 t221 t222 t223).bind fun t243 => (if t243 = true then (if (bt233.2.2.2.2.2.2 != t224) = true then (none) else (some true)) else (none))) else (none)))))) = some r := H
   have A21 := A0 A210
   clear A210
   replace H := Option.bind_eq_some_iff.mp H
   obtain ⟨⟨t227, t228, t229⟩, A220, H⟩ := H
   replace H : ((laws_toWay.f a1_0 a1_1 a1_2).bind fun bt230 => ((impl_SwapTails.f k t227 t228 t229 bt230.1 bt230.2.1 bt230.2.2).bind fun bt233 => ((laws_eqWay.f bt233.1 bt233.2.1 bt233.2.2.1 t218 t219 t220).bind fun t242 => (if t242 = true then ((laws_eqWay.f bt233.2.2.2.1 bt233.2.2.2.2.1 bt233.2.2.2.2.2.1 t221 t222 t223).bind fun t243 => (if t243 = true then (if (bt233.2.2.2.2.2.2 != t224) = true then (none) else (some true)) else (none))) else (none))))) = some r := H
   have A22 := A0 A220
   clear A220
   replace H := Option.bind_eq_some_iff.mp H
   obtain ⟨⟨t230, t231, t232⟩, A230, H⟩ := H
   replace H : ((impl_SwapTails.f k t227 t228 t229 t230 t231 t232).bind fun bt233 => ((laws_eqWay.f bt233.1 bt233.2.1 bt233.2.2.1 t218 t219 t220).bind fun t242 => (if t242 = true then ((laws_eqWay.f bt233.2.2.2.1 bt233.2.2.2.2.1 bt233.2.2.2.2.2.1 t221 t222 t223).bind fun t243 => (if t243 = true then (if (bt233.2.2.2.2.2.2 != t224) = true then (none) else (some true)) else (none))) else (none)))) = some r := H
   have A23 := A0 A230
   clear A230
   replace H := Option.bind_eq_some_iff.mp H
   obtain ⟨⟨t233, t234, t235, t236, t237, t238, t239⟩, A240, H⟩ := H
   replace H : ((laws_eqWay.f t233 t234 t235 t218 t219 t220).bind fun t242 => (if t242 = true then ((laws_eqWay.f t236 t237 t238 t221 t222 t223).bind fun t243 => (if t243 = true then (if (t239 != t224) = true then (none) else (some true)) else (none))) else (none))) = some r := H
   have A24 := A0 A240
   clear A240
   replace H := Option.bind_eq_some_iff.mp H
   obtain ⟨t242, A250, H⟩ := H
   replace H : (if t242 = true then ((laws_eqWay.f t236 t237 t238 t221 t222 t223).bind fun t243 => (if t243 = true then (if (t239 != t224) = true then (none) else (some true)) else (none))) else (none)) = some r := H
   have A25 := A0 A250
   clear A250
   by_cases c26 : t242 = true
   ·
    subst c26
    have H1 : ((laws_eqWay.f t236 t237 t238 t221 t222 t223).bind fun t243 => (if t243 = true then (if (t239 != t224) = true then (none) else (some true)) else (none))) = some r := by rw [if_pos rfl] at H; exact H
    clear H
    have H := H1
    clear H1
    replace H := Option.bind_eq_some_iff.mp H
    obtain ⟨t243, A270, H⟩ := H
    replace H : (if t243 = true then (if (t239 != t224) = true then (none) else (some true)) else (none)) = some r := H
    have A27 := A0 A270
    clear A270
    by_cases c28 : t243 = true
    ·
     subst c28
     have H1 : (if (t239 != t224) = true then (none) else (some true)) = some r := by rw [if_pos rfl] at H; exact H
     clear H
     have H := H1
     clear H1
     by_cases c29 : (t239 != t224) = true
     ·
      rw [if_pos c29] at H
      exact absurd H (by simp)
     ·
      rw [if_neg c29] at H
      have c29b0 : (t239 != t224) = false := by simpa using c29
      (try (have c29b1 : decide (t239 = t224) = true := by simpa using c29))
      (try (have c29b2 : (t239 == t224) = true := by simpa using c29))
      clear c29
      obtain rfl := Option.some.inj H
      go_enter Tryd.func8, Tryd.ntmps8
      try go_wp2_with (first | ((with_reducible refine gate_dst (N := 2) rfl ?_); refine box_event ?hg (N := 2) ?hd (cs := #[.int .i64 a0_0, .int .i64 a0_1, .string a0_2]) (t := 25) ?hr ?_; (case hd => rfl); (case hg => rfl); (case hr => first | (go_simp; done) | (go_simp; rfl)); intro g208 hg w30 hbox hb; have n0_ := A0 (below_step (by repeat (first | (with_reducible first | exact HB.out | apply below_alloc | apply pw_below_drewN | apply below_drew1) | exact HB.out)) hb); have n1_ := A0 (hbox); have n2_ := A0 ((Z54 : w.heap.size ≤ g208)); have n3_ := A0 ((Z54 : w.heap.size ≤ g208)); clear HB; have HB := n0_; have B30 := n1_; have G36 := n2_; have G42 := n3_; clear n0_ n1_ n2_ n3_; clear hb hbox hg) | ((with_reducible refine gate_dst (N := 3) rfl ?_); refine box_event ?hg (N := 3) ?hd (cs := #[.int .i64 a1_0, .int .i64 a1_1, .string a1_2]) (t := 25) ?hr ?_; (case hd => rfl); (case hg => rfl); (case hr => first | (go_simp; done) | (go_simp; rfl)); intro g209 hg w31 hbox hb; have n0_ := A0 (blk_below (g := g208) (o := O25 a0_0 a0_1 a0_2) Z56 hb); have n1_ := A0 (below_step (by repeat (first | (with_reducible first | exact HB.out | apply below_alloc | apply pw_below_drewN | apply below_drew1 | refine below_set ?_ G42.out) | exact HB.out)) hb); have n2_ := A0 (hbox); have n3_ := A0 ((Z51 : w.heap.size ≤ g209)); have n4_ := A0 ((Z51 : w.heap.size ≤ g209)); have n5_ := A0 ((Z19 : g208 ≠ g209)); have n6_ := A0 ((Z20 : g209 ≠ g208)); clear B30; clear HB; have B30 := n0_; have HB := n1_; have B31 := n2_; have G37 := n3_; have G43 := n4_; have N0 := n5_; have N5 := n6_; clear n0_ n1_ n2_ n3_ n4_ n5_ n6_; clear hb hbox hg; have hnb32 := N0.out; have hnc32 := N5.out; have hcz33_0 : w31.cell? ⟨g208, 0, none⟩ = some (.int .i64 a0_0) := (blk_cell B30.out 0).trans rfl; have hcz33_1 : w31.cell? ⟨g208, 1, none⟩ = some (.int .i64 a0_1) := (blk_cell B30.out 1).trans rfl; have hcz33_2 : w31.cell? ⟨g208, 2, none⟩ = some (.string a0_2) := (blk_cell B30.out 2).trans rfl; have hfz33_0 := blk_frozen B30.out 0; have hfz33_1 := blk_frozen B30.out 1; have hfz33_2 := blk_frozen B30.out 2) | ((with_reducible refine gate_callee (f := 9) rfl ?_); refine goesL_ (some 14) rfl rfl Tryd.func9 Z62 rfl #[.agg #[.int .i64 a0_0, .int .i64 a0_1, .string a0_2], .int .i64 1048576] rfl Z55 ?_; (with_reducible refine (laws_szWay.calls a0_0 a0_1 a0_2 1048576 t210 _ A3.out).mono ?_); rintro e w34 ⟨rfl, hb⟩; refine ⟨_, rfl, ?_⟩; have n0_ := A0 (blk_below (g := g208) (o := O25 a0_0 a0_1 a0_2) Z56 hb); have n1_ := A0 (blk_below (g := g209) (o := O25 a1_0 a1_1 a1_2) Z57 hb); have n2_ := A0 (below_step Z53 hb); clear B30; clear B31; clear HB; have B30 := n0_; have B31 := n1_; have HB := n2_; clear n0_ n1_ n2_; (try clear hb); (try clear hb2); (try clear hk); (try clear hi); have hcz35_0 : w34.cell? ⟨g209, 0, none⟩ = some (.int .i64 a1_0) := (blk_cell B31.out 0).trans rfl; have hcz35_1 : w34.cell? ⟨g209, 1, none⟩ = some (.int .i64 a1_1) := (blk_cell B31.out 1).trans rfl; have hcz35_2 : w34.cell? ⟨g209, 2, none⟩ = some (.string a1_2) := (blk_cell B31.out 2).trans rfl; have hfz35_0 := blk_frozen B31.out 0; have hfz35_1 := blk_frozen B31.out 1; have hfz35_2 := blk_frozen B31.out 2) | ((with_reducible refine gate_callee (f := 9) rfl ?_); refine goesL_ (some 19) rfl rfl Tryd.func9 Z62 rfl #[.agg #[.int .i64 a1_0, .int .i64 a1_1, .string a1_2], .int .i64 t210] rfl Z55 ?_; (with_reducible refine (laws_szWay.calls a1_0 a1_1 a1_2 t210 t211 _ A10.out).mono ?_); rintro e w36 ⟨rfl, hb⟩; refine ⟨_, rfl, ?_⟩; have n0_ := A0 (blk_below (g := g208) (o := O25 a0_0 a0_1 a0_2) Z56 hb); have n1_ := A0 (blk_below (g := g209) (o := O25 a1_0 a1_1 a1_2) Z57 hb); have n2_ := A0 (below_step Z53 hb); clear B30; clear B31; clear HB; have B30 := n0_; have B31 := n1_; have HB := n2_; clear n0_ n1_ n2_; (try clear hb); (try clear hb2); (try clear hk); (try clear hi)))
      have n0_ := A0 (blk_drew B30.out)
      have n1_ := A0 (blk_drew B31.out)
      have n2_ := A0 (below_drew1 HB.out)
      clear B30 B31 HB
      have B30 := n0_
      have B31 := n1_
      have HB := n2_
      clear n0_ n1_ n2_
      refine start_ (n := 14) (S := fun w' => Q6 g208 a0_0 a0_1 a0_2 g209 a1_0 a1_1 a1_2 w') (ds := []) #[false, false, false, false, false, false, false, false, false, false, false, false, false, false] Z62 rfl rfl ⟨(blk_cell B30.out 0).trans rfl, (blk_cell B30.out 1).trans rfl, (blk_cell B30.out 2).trans rfl, (blk_cell B31.out 0).trans rfl, (blk_cell B31.out 1).trans rfl, (blk_cell B31.out 2).trans rfl⟩ (fun hHeld => ?_); refine with_tabW laws_FnExactSwapTails.tab8 laws_FnExactSwapTails.bits8 (fun HT_ HW_ => ?_)
      generalize w36.drew = w37 at B30 B31 HB hHeld ⊢
      refine take_ (i := 0) (N := some 23) (v := ?_) (a' := ?_) #[true, false, false, false, false, false, false, false, false, false, false, false, false, false] rfl rfl (take_ofW HT_.out HW_.out Z62) (fun _ _ _ h => h) (Or.inl ⟨by rfl, ?_⟩) hHeld ?_ ?_
      rotate_left
      ·
       rintro w' ⟨s0, s1, s2, s3, s4, s5⟩
       go_simp
       with_reducible rfl
      rotate_left
      ·
       simp only [Act.put, y1, y2, y3, i64_w, i32_w]
       rfl
      refine take_ (i := 2) (N := some 25) (v := ?_) (a' := ?_) #[true, false, true, false, false, false, false, false, false, false, false, false, false, false] rfl rfl (take_ofW HT_.out HW_.out Z62) (fun _ _ _ h => h) (Or.inl ⟨by rfl, ?_⟩) hHeld ?_ ?_
      rotate_left
      ·
       rintro w' ⟨s0, s1, s2, s3, s4, s5⟩
       go_simp
       with_reducible rfl
      rotate_left
      ·
       simp only [Act.put, y1, y2, y3, i64_w, i32_w]
       rfl
      refine join_ (σ := Nat × Nat) 3 #[true, true, true, true, true, true, true, true, true, true, true, false, false, false] (fun s_ => [(24, .agg #[.int .i64 t212, .int .i64 t213, .string t214]), (26, .agg #[.int .i64 t215, .int .i64 t216, .string t217]), (27, .tuple #[.agg #[.int .i64 t218, .int .i64 t219, .string t220], .agg #[.int .i64 t221, .int .i64 t222, .string t223], .bool t224]), (6, .pointer (some ⟨s_.1, 0, none⟩)), (7, .pointer (some ⟨s_.2, 0, none⟩)), (22, .tuple #[.agg #[.int .i64 t218, .int .i64 t219, .string t220], .agg #[.int .i64 t221, .int .i64 t222, .string t223], .bool t224]), (28, .agg #[.int .i64 t218, .int .i64 t219, .string t220]), (29, .agg #[.int .i64 t221, .int .i64 t222, .string t223]), (30, .bool t224)]) (fun s_ w' => (Q6 g208 a0_0 a0_1 a0_2 g209 a1_0 a1_1 a1_2 w') ∧ (w'.heap[g208]? = some (O25 a0_0 a0_1 a0_2)) ∧ (w'.heap[g209]? = some (O25 a1_0 a1_1 a1_2)) ∧ (w'.heap[s_.1]? = some (O30 0 0 Y0)) ∧ (w'.heap[s_.2]? = some (O30 0 0 Y0)) ∧ (w.heap.size ≤ s_.1) ∧ (w.heap.size ≤ s_.1) ∧ (g208 ≠ s_.1) ∧ (s_.1 ≠ g208) ∧ (g209 ≠ s_.1) ∧ (s_.1 ≠ g209) ∧ (s_.2 ≠ s_.1) ∧ (s_.1 ≠ s_.2) ∧ (w.heap.size ≤ s_.2) ∧ (w.heap.size ≤ s_.2) ∧ (g208 ≠ s_.2) ∧ (s_.2 ≠ g208) ∧ (g209 ≠ s_.2) ∧ (s_.2 ≠ g209) ∧ (Below w.heap.size w w')) ?_ ?_
      rotate_left
      ·
       intro hJ1_3_4_9_10
       refine join_ (σ := Nat) 4 #[true, true, true, true, true, true, true, true, true, true, false, false, false, false] (fun s_ => [(24, .agg #[.int .i64 t212, .int .i64 t213, .string t214]), (26, .agg #[.int .i64 t215, .int .i64 t216, .string t217]), (27, .tuple #[.agg #[.int .i64 t218, .int .i64 t219, .string t220], .agg #[.int .i64 t221, .int .i64 t222, .string t223], .bool t224]), (6, .pointer (some ⟨s_, 0, none⟩)), (22, .tuple #[.agg #[.int .i64 t218, .int .i64 t219, .string t220], .agg #[.int .i64 t221, .int .i64 t222, .string t223], .bool t224]), (28, .agg #[.int .i64 t218, .int .i64 t219, .string t220]), (29, .agg #[.int .i64 t221, .int .i64 t222, .string t223]), (30, .bool t224)]) (fun s_ w' => (Q6 g208 a0_0 a0_1 a0_2 g209 a1_0 a1_1 a1_2 w') ∧ (w'.heap[g208]? = some (O25 a0_0 a0_1 a0_2)) ∧ (w'.heap[g209]? = some (O25 a1_0 a1_1 a1_2)) ∧ (w'.heap[s_]? = some (O30 0 0 Y0)) ∧ (w.heap.size ≤ s_) ∧ (w.heap.size ≤ s_) ∧ (g208 ≠ s_) ∧ (s_ ≠ g208) ∧ (g209 ≠ s_) ∧ (s_ ≠ g209) ∧ (Below w.heap.size w w')) ?_ ?_
       rotate_left
       ·
        intro hJ1_3_4_9
        refine join_ (σ := Nat) 4 #[true, true, true, true, true, true, true, true, true, false, true, false, false, false] (fun s_ => [(24, .agg #[.int .i64 t212, .int .i64 t213, .string t214]), (26, .agg #[.int .i64 t215, .int .i64 t216, .string t217]), (27, .tuple #[.agg #[.int .i64 t218, .int .i64 t219, .string t220], .agg #[.int .i64 t221, .int .i64 t222, .string t223], .bool t224]), (7, .pointer (some ⟨s_, 0, none⟩)), (22, .tuple #[.agg #[.int .i64 t218, .int .i64 t219, .string t220], .agg #[.int .i64 t221, .int .i64 t222, .string t223], .bool t224]), (28, .agg #[.int .i64 t218, .int .i64 t219, .string t220]), (29, .agg #[.int .i64 t221, .int .i64 t222, .string t223]), (30, .bool t224)]) (fun s_ w' => (Q6 g208 a0_0 a0_1 a0_2 g209 a1_0 a1_1 a1_2 w') ∧ (w'.heap[g208]? = some (O25 a0_0 a0_1 a0_2)) ∧ (w'.heap[g209]? = some (O25 a1_0 a1_1 a1_2)) ∧ (w'.heap[s_]? = some (O30 0 0 Y0)) ∧ (w.heap.size ≤ s_) ∧ (w.heap.size ≤ s_) ∧ (g208 ≠ s_) ∧ (s_ ≠ g208) ∧ (g209 ≠ s_) ∧ (s_ ≠ g209) ∧ (Below w.heap.size w w')) ?_ ?_
        rotate_left
        ·
         intro hJ1_3_4_10
         refine join_ (σ := Nat × Nat) 8 #[true, true, true, true, false, false, false, false, false, true, true, false, false, false] (fun s_ => [(24, .agg #[.int .i64 t212, .int .i64 t213, .string t214]), (26, .agg #[.int .i64 t215, .int .i64 t216, .string t217]), (6, .pointer (some ⟨s_.1, 0, none⟩)), (7, .pointer (some ⟨s_.2, 0, none⟩))]) (fun s_ w' => (Q6 g208 a0_0 a0_1 a0_2 g209 a1_0 a1_1 a1_2 w') ∧ (w'.heap[g208]? = some (O25 a0_0 a0_1 a0_2)) ∧ (w'.heap[g209]? = some (O25 a1_0 a1_1 a1_2)) ∧ (w'.heap[s_.1]? = some (O30 0 0 Y0)) ∧ (w'.heap[s_.2]? = some (O30 0 0 Y0)) ∧ (w.heap.size ≤ s_.1) ∧ (w.heap.size ≤ s_.1) ∧ (g208 ≠ s_.1) ∧ (s_.1 ≠ g208) ∧ (g209 ≠ s_.1) ∧ (s_.1 ≠ g209) ∧ (s_.2 ≠ s_.1) ∧ (s_.1 ≠ s_.2) ∧ (w.heap.size ≤ s_.2) ∧ (w.heap.size ≤ s_.2) ∧ (g208 ≠ s_.2) ∧ (s_.2 ≠ g208) ∧ (g209 ≠ s_.2) ∧ (s_.2 ≠ g209) ∧ (Below w.heap.size w w')) ?_ ?_
         rotate_left
         ·
          intro hJ1_3_9_10
          refine join_ (σ := Unit) 5 #[true, true, true, true, true, true, true, true, true, false, false, false, false, false] (fun s_ => [(24, .agg #[.int .i64 t212, .int .i64 t213, .string t214]), (26, .agg #[.int .i64 t215, .int .i64 t216, .string t217]), (27, .tuple #[.agg #[.int .i64 t218, .int .i64 t219, .string t220], .agg #[.int .i64 t221, .int .i64 t222, .string t223], .bool t224]), (22, .tuple #[.agg #[.int .i64 t218, .int .i64 t219, .string t220], .agg #[.int .i64 t221, .int .i64 t222, .string t223], .bool t224]), (28, .agg #[.int .i64 t218, .int .i64 t219, .string t220]), (29, .agg #[.int .i64 t221, .int .i64 t222, .string t223]), (30, .bool t224)]) (fun s_ w' => (Q6 g208 a0_0 a0_1 a0_2 g209 a1_0 a1_1 a1_2 w') ∧ (w'.heap[g208]? = some (O25 a0_0 a0_1 a0_2)) ∧ (w'.heap[g209]? = some (O25 a1_0 a1_1 a1_2)) ∧ (Below w.heap.size w w')) ?_ ?_
          rotate_left
          ·
           intro hJ1_3_4
           refine join_ (σ := Nat) 9 #[true, true, true, true, false, false, false, false, false, true, false, false, false, false] (fun s_ => [(24, .agg #[.int .i64 t212, .int .i64 t213, .string t214]), (26, .agg #[.int .i64 t215, .int .i64 t216, .string t217]), (6, .pointer (some ⟨s_, 0, none⟩))]) (fun s_ w' => (Q6 g208 a0_0 a0_1 a0_2 g209 a1_0 a1_1 a1_2 w') ∧ (w'.heap[g208]? = some (O25 a0_0 a0_1 a0_2)) ∧ (w'.heap[g209]? = some (O25 a1_0 a1_1 a1_2)) ∧ (w'.heap[s_]? = some (O30 0 0 Y0)) ∧ (w.heap.size ≤ s_) ∧ (w.heap.size ≤ s_) ∧ (g208 ≠ s_) ∧ (s_ ≠ g208) ∧ (g209 ≠ s_) ∧ (s_ ≠ g209) ∧ (Below w.heap.size w w')) ?_ ?_
           rotate_left
           ·
            intro hJ1_3_9
            refine join_ (σ := Nat) 9 #[true, true, true, true, false, false, false, false, false, false, true, false, false, false] (fun s_ => [(24, .agg #[.int .i64 t212, .int .i64 t213, .string t214]), (26, .agg #[.int .i64 t215, .int .i64 t216, .string t217]), (7, .pointer (some ⟨s_, 0, none⟩))]) (fun s_ w' => (Q6 g208 a0_0 a0_1 a0_2 g209 a1_0 a1_1 a1_2 w') ∧ (w'.heap[g208]? = some (O25 a0_0 a0_1 a0_2)) ∧ (w'.heap[g209]? = some (O25 a1_0 a1_1 a1_2)) ∧ (w'.heap[s_]? = some (O30 0 0 Y0)) ∧ (w.heap.size ≤ s_) ∧ (w.heap.size ≤ s_) ∧ (g208 ≠ s_) ∧ (s_ ≠ g208) ∧ (g209 ≠ s_) ∧ (s_ ≠ g209) ∧ (Below w.heap.size w w')) ?_ ?_
            rotate_left
            ·
             intro hJ1_3_10
             refine join_ (σ := Nat × Nat) 9 #[true, true, true, false, false, false, false, false, false, true, true, false, false, false] (fun s_ => [(24, .agg #[.int .i64 t212, .int .i64 t213, .string t214]), (6, .pointer (some ⟨s_.1, 0, none⟩)), (7, .pointer (some ⟨s_.2, 0, none⟩))]) (fun s_ w' => (Q6 g208 a0_0 a0_1 a0_2 g209 a1_0 a1_1 a1_2 w') ∧ (w'.heap[g208]? = some (O25 a0_0 a0_1 a0_2)) ∧ (w'.heap[g209]? = some (O25 a1_0 a1_1 a1_2)) ∧ (w'.heap[s_.1]? = some (O30 0 0 Y0)) ∧ (w'.heap[s_.2]? = some (O30 0 0 Y0)) ∧ (w.heap.size ≤ s_.1) ∧ (w.heap.size ≤ s_.1) ∧ (g208 ≠ s_.1) ∧ (s_.1 ≠ g208) ∧ (g209 ≠ s_.1) ∧ (s_.1 ≠ g209) ∧ (s_.2 ≠ s_.1) ∧ (s_.1 ≠ s_.2) ∧ (w.heap.size ≤ s_.2) ∧ (w.heap.size ≤ s_.2) ∧ (g208 ≠ s_.2) ∧ (s_.2 ≠ g208) ∧ (g209 ≠ s_.2) ∧ (s_.2 ≠ g209) ∧ (Below w.heap.size w w')) ?_ ?_
             rotate_left
             ·
              intro hJ1_9_10
              refine join_ (σ := Unit) 10 #[true, true, true, true, false, false, false, false, false, false, false, false, false, false] (fun s_ => [(24, .agg #[.int .i64 t212, .int .i64 t213, .string t214]), (26, .agg #[.int .i64 t215, .int .i64 t216, .string t217])]) (fun s_ w' => (Q6 g208 a0_0 a0_1 a0_2 g209 a1_0 a1_1 a1_2 w') ∧ (w'.heap[g208]? = some (O25 a0_0 a0_1 a0_2)) ∧ (w'.heap[g209]? = some (O25 a1_0 a1_1 a1_2)) ∧ (Below w.heap.size w w')) ?_ ?_
              rotate_left
              ·
               intro hJ1_3
               refine join_ (σ := Nat) 10 #[true, true, true, false, false, false, false, false, false, true, false, false, false, false] (fun s_ => [(24, .agg #[.int .i64 t212, .int .i64 t213, .string t214]), (6, .pointer (some ⟨s_, 0, none⟩))]) (fun s_ w' => (Q6 g208 a0_0 a0_1 a0_2 g209 a1_0 a1_1 a1_2 w') ∧ (w'.heap[g208]? = some (O25 a0_0 a0_1 a0_2)) ∧ (w'.heap[g209]? = some (O25 a1_0 a1_1 a1_2)) ∧ (w'.heap[s_]? = some (O30 0 0 Y0)) ∧ (w.heap.size ≤ s_) ∧ (w.heap.size ≤ s_) ∧ (g208 ≠ s_) ∧ (s_ ≠ g208) ∧ (g209 ≠ s_) ∧ (s_ ≠ g209) ∧ (Below w.heap.size w w')) ?_ ?_
               rotate_left
               ·
                intro hJ1_9
                refine join_ (σ := Nat) 10 #[true, true, true, false, false, false, false, false, false, false, true, false, false, false] (fun s_ => [(24, .agg #[.int .i64 t212, .int .i64 t213, .string t214]), (7, .pointer (some ⟨s_, 0, none⟩))]) (fun s_ w' => (Q6 g208 a0_0 a0_1 a0_2 g209 a1_0 a1_1 a1_2 w') ∧ (w'.heap[g208]? = some (O25 a0_0 a0_1 a0_2)) ∧ (w'.heap[g209]? = some (O25 a1_0 a1_1 a1_2)) ∧ (w'.heap[s_]? = some (O30 0 0 Y0)) ∧ (w.heap.size ≤ s_) ∧ (w.heap.size ≤ s_) ∧ (g208 ≠ s_) ∧ (s_ ≠ g208) ∧ (g209 ≠ s_) ∧ (s_ ≠ g209) ∧ (Below w.heap.size w w')) ?_ ?_
                rotate_left
                ·
                 intro hJ1_10
                 refine join_ (σ := Nat × Nat) 10 #[true, false, true, false, false, false, false, false, false, true, true, false, false, false] (fun s_ => [(6, .pointer (some ⟨s_.1, 0, none⟩)), (7, .pointer (some ⟨s_.2, 0, none⟩))]) (fun s_ w' => (Q6 g208 a0_0 a0_1 a0_2 g209 a1_0 a1_1 a1_2 w') ∧ (w'.heap[g208]? = some (O25 a0_0 a0_1 a0_2)) ∧ (w'.heap[g209]? = some (O25 a1_0 a1_1 a1_2)) ∧ (w'.heap[s_.1]? = some (O30 0 0 Y0)) ∧ (w'.heap[s_.2]? = some (O30 0 0 Y0)) ∧ (w.heap.size ≤ s_.1) ∧ (w.heap.size ≤ s_.1) ∧ (g208 ≠ s_.1) ∧ (s_.1 ≠ g208) ∧ (g209 ≠ s_.1) ∧ (s_.1 ≠ g209) ∧ (s_.2 ≠ s_.1) ∧ (s_.1 ≠ s_.2) ∧ (w.heap.size ≤ s_.2) ∧ (w.heap.size ≤ s_.2) ∧ (g208 ≠ s_.2) ∧ (s_.2 ≠ g208) ∧ (g209 ≠ s_.2) ∧ (s_.2 ≠ g209) ∧ (Below w.heap.size w w')) ?_ ?_
                 rotate_left
                 ·
                  intro hJ9_10
                  refine join_ (σ := Unit) 11 #[true, true, true, false, false, false, false, false, false, false, false, false, false, false] (fun s_ => [(24, .agg #[.int .i64 t212, .int .i64 t213, .string t214])]) (fun s_ w' => (Q6 g208 a0_0 a0_1 a0_2 g209 a1_0 a1_1 a1_2 w') ∧ (w'.heap[g208]? = some (O25 a0_0 a0_1 a0_2)) ∧ (w'.heap[g209]? = some (O25 a1_0 a1_1 a1_2)) ∧ (Below w.heap.size w w')) ?_ ?_
                  rotate_left
                  ·
                   intro hJ1
                   refine join_ (σ := Nat) 11 #[true, false, true, false, false, false, false, false, false, true, false, false, false, false] (fun s_ => [(6, .pointer (some ⟨s_, 0, none⟩))]) (fun s_ w' => (Q6 g208 a0_0 a0_1 a0_2 g209 a1_0 a1_1 a1_2 w') ∧ (w'.heap[g208]? = some (O25 a0_0 a0_1 a0_2)) ∧ (w'.heap[g209]? = some (O25 a1_0 a1_1 a1_2)) ∧ (w'.heap[s_]? = some (O30 0 0 Y0)) ∧ (w.heap.size ≤ s_) ∧ (w.heap.size ≤ s_) ∧ (g208 ≠ s_) ∧ (s_ ≠ g208) ∧ (g209 ≠ s_) ∧ (s_ ≠ g209) ∧ (Below w.heap.size w w')) ?_ ?_
                   rotate_left
                   ·
                    intro hJ9
                    refine join_ (σ := Nat) 11 #[true, false, true, false, false, false, false, false, false, false, true, false, false, false] (fun s_ => [(7, .pointer (some ⟨s_, 0, none⟩))]) (fun s_ w' => (Q6 g208 a0_0 a0_1 a0_2 g209 a1_0 a1_1 a1_2 w') ∧ (w'.heap[g208]? = some (O25 a0_0 a0_1 a0_2)) ∧ (w'.heap[g209]? = some (O25 a1_0 a1_1 a1_2)) ∧ (w'.heap[s_]? = some (O30 0 0 Y0)) ∧ (w.heap.size ≤ s_) ∧ (w.heap.size ≤ s_) ∧ (g208 ≠ s_) ∧ (s_ ≠ g208) ∧ (g209 ≠ s_) ∧ (s_ ≠ g209) ∧ (Below w.heap.size w w')) ?_ ?_
                    rotate_left
                    ·
                     intro hJ10
                     refine three_ (i := 1) (j := 9) (k := 10) (Ni := some 24) (Nj := some 6) (Nk := some 7) #[true, true, true, false, false, false, false, false, false, false, false, false, false, false] #[true, false, true, false, false, false, false, false, false, true, false, false, false, false] #[true, false, true, false, false, false, false, false, false, false, true, false, false, false] rfl rfl rfl rfl rfl rfl (three_of HT_.out Z62) (by decide) (by decide) (by decide) (fun K hK => ?_) (fun K hK => ?_) (fun K hK => ?_)
                     ·
                      skip
                      refine goes_ Tryd.func11 Z62 rfl #[.agg #[.int .i64 a0_0, .int .i64 a0_1, .string a0_2]] (by rfl) rfl rfl Z55 ?_
                      with_reducible refine (laws_toWay.calls a0_0 a0_1 a0_2 t212 t213 t214 _ A19.out).mono ?_
                      rintro e w38 ⟨rfl, hb⟩
                      refine ⟨_, rfl, ?_⟩
                      have n0_ := A0 (blk_below (g := g208) (o := O25 a0_0 a0_1 a0_2) Z56 hb)
                      have n1_ := A0 (blk_below (g := g209) (o := O25 a1_0 a1_1 a1_2) Z57 hb)
                      have n2_ := A0 (below_step Z53 hb)
                      clear B30 B31 HB
                      have B30 := n0_
                      have B31 := n1_
                      have HB := n2_
                      clear n0_ n1_ n2_
                      (try clear hb)
                      (try clear hb2)
                      (try clear hk)
                      (try clear hi)
                      refine hK.out _ _ ⟨(blk_cell B30.out 0).trans rfl, (blk_cell B30.out 1).trans rfl, (blk_cell B30.out 2).trans rfl, (blk_cell B31.out 0).trans rfl, (blk_cell B31.out 1).trans rfl, (blk_cell B31.out 2).trans rfl⟩ (fun hHeld => ?_)
                      clear hK K
                      refine norm_ (a' := ?_) ?_ ?_
                      rotate_left
                      ·
                       show Act.put _ (some 24) _ = _
                       simp only [Act.put, y1, y2, y3, i64_w, i32_w]
                       rfl
                      exact norm_ Z52 (hJ1 () _ ⟨hHeld, Z56, Z57, Z53⟩)
                     ·
                      skip
                      refine box_step ?hg (N := 6) ?hd (cs := #[.int .i64 0, .int .i64 0, .string Y0]) (t := 30) ?hr ?_; (case hd => rfl); (case hg => rfl); (case hr => first | (go_simp; done) | (go_simp; rfl))
                      intro g225 hg w38 hbox hb
                      have n0_ := A0 (blk_below (g := g208) (o := O25 a0_0 a0_1 a0_2) Z56 hb)
                      have n1_ := A0 (blk_below (g := g209) (o := O25 a1_0 a1_1 a1_2) Z57 hb)
                      have n2_ := A0 (below_step Z53 hb)
                      have B32 := A0 (hbox)
                      have G38 := A0 ((Z47 : w.heap.size ≤ g225))
                      have G44 := A0 ((Z47 : w.heap.size ≤ g225))
                      have N1 := A0 ((Z21 : g208 ≠ g225))
                      have N10 := A0 ((Z22 : g225 ≠ g208))
                      have N6 := A0 ((Z23 : g209 ≠ g225))
                      have N11 := A0 ((Z24 : g225 ≠ g209))
                      clear B30 B31 HB
                      have B30 := n0_
                      have B31 := n1_
                      have HB := n2_
                      clear n0_ n1_ n2_
                      clear hb hbox hg
                      refine hK.out _ _ ⟨(blk_cell B30.out 0).trans rfl, (blk_cell B30.out 1).trans rfl, (blk_cell B30.out 2).trans rfl, (blk_cell B31.out 0).trans rfl, (blk_cell B31.out 1).trans rfl, (blk_cell B31.out 2).trans rfl⟩ (fun hHeld => ?_)
                      clear hK K
                      refine norm_ (a' := ?_) ?_ ?_
                      rotate_left
                      ·
                       show Act.put _ (some 6) _ = _
                       simp only [Act.put, y1, y2, y3, i64_w, i32_w]
                       rfl
                      exact norm_ Z52 (hJ9 (g225) _ ⟨hHeld, Z56, Z57, Z58, G38.out, G44.out, N1.out, N10.out, N6.out, N11.out, Z49⟩)
                     ·
                      skip
                      refine box_step ?hg (N := 7) ?hd (cs := #[.int .i64 0, .int .i64 0, .string Y0]) (t := 30) ?hr ?_; (case hd => rfl); (case hg => rfl); (case hr => first | (go_simp; done) | (go_simp; rfl))
                      intro g226 hg w38 hbox hb
                      have n0_ := A0 (blk_below (g := g208) (o := O25 a0_0 a0_1 a0_2) Z56 hb)
                      have n1_ := A0 (blk_below (g := g209) (o := O25 a1_0 a1_1 a1_2) Z57 hb)
                      have n2_ := A0 (below_step Z53 hb)
                      have B33 := A0 (hbox)
                      have G39 := A0 ((Z48 : w.heap.size ≤ g226))
                      have G45 := A0 ((Z48 : w.heap.size ≤ g226))
                      have N2 := A0 ((Z25 : g208 ≠ g226))
                      have N15 := A0 ((Z26 : g226 ≠ g208))
                      have N7 := A0 ((Z27 : g209 ≠ g226))
                      have N16 := A0 ((Z28 : g226 ≠ g209))
                      clear B30 B31 HB
                      have B30 := n0_
                      have B31 := n1_
                      have HB := n2_
                      clear n0_ n1_ n2_
                      clear hb hbox hg
                      refine hK.out _ _ ⟨(blk_cell B30.out 0).trans rfl, (blk_cell B30.out 1).trans rfl, (blk_cell B30.out 2).trans rfl, (blk_cell B31.out 0).trans rfl, (blk_cell B31.out 1).trans rfl, (blk_cell B31.out 2).trans rfl⟩ (fun hHeld => ?_)
                      clear hK K
                      refine norm_ (a' := ?_) ?_ ?_
                      rotate_left
                      ·
                       show Act.put _ (some 7) _ = _
                       simp only [Act.put, y1, y2, y3, i64_w, i32_w]
                       rfl
                      exact norm_ Z52 (hJ10 (g226) _ ⟨hHeld, Z56, Z57, Z59, G39.out, G45.out, N2.out, N15.out, N7.out, N16.out, Z50⟩)
                    ·
                     skip
                     rintro g226 w39 ⟨hS_, h0_, h1_, h2_, h3_, h4_, h5_, h6_, h7_, h8_, h9_⟩
                     have n0_ : Aside0 (w39.heap[g208]? = some (O25 a0_0 a0_1 a0_2)) := ⟨h0_⟩
                     have n1_ : Aside0 (w39.heap[g209]? = some (O25 a1_0 a1_1 a1_2)) := ⟨h1_⟩
                     have B33 : Aside0 (w39.heap[g226]? = some (O30 0 0 Y0)) := ⟨h2_⟩
                     have G39 := A0 h3_
                     have G45 := A0 h4_
                     have N2 := A0 h5_
                     have N15 := A0 h6_
                     have N7 := A0 h7_
                     have N16 := A0 h8_
                     have n9_ : Aside0 (Below w.heap.size w w39) := ⟨h9_⟩
                     clear B30 B31 HB
                     clear h0_ h1_ h2_ h3_ h4_ h5_ h6_ h7_ h8_ h9_
                     have B30 := n0_
                     have B31 := n1_
                     have HB := n9_
                     clear n0_ n1_ n9_
                     have hHeld : Q6 g208 a0_0 a0_1 a0_2 g209 a1_0 a1_1 a1_2 w39 := hS_
                     refine norm_ (a' := ?_) ?_ ?_
                     rotate_left
                     ·
                      simp only [putAll, Act.put, y1, y2, y3]
                      rfl
                     refine two_ (i := 1) (j := 9) (Ni := some 24) (Nj := some 6) #[true, true, true, false, false, false, false, false, false, false, true, false, false, false] #[true, false, true, false, false, false, false, false, false, true, true, false, false, false] rfl rfl rfl rfl (two_of HT_.out Z62) (by decide) (by decide) (fun K hK => ?_) (fun K hK => ?_)
                     ·
                      skip
                      refine goes_ Tryd.func11 Z62 rfl #[.agg #[.int .i64 a0_0, .int .i64 a0_1, .string a0_2]] (by rfl) rfl rfl Z55 ?_
                      with_reducible refine (laws_toWay.calls a0_0 a0_1 a0_2 t212 t213 t214 _ A19.out).mono ?_
                      rintro e w40 ⟨rfl, hb⟩
                      refine ⟨_, rfl, ?_⟩
                      have n0_ := A0 (blk_below (g := g208) (o := O25 a0_0 a0_1 a0_2) Z56 hb)
                      have n1_ := A0 (blk_below (g := g209) (o := O25 a1_0 a1_1 a1_2) Z57 hb)
                      have n2_ := A0 (blk_below (g := g226) (o := O30 0 0 Y0) Z59 hb)
                      have n3_ := A0 (below_step Z50 hb)
                      clear B30 B31 B33 HB
                      have B30 := n0_
                      have B31 := n1_
                      have B33 := n2_
                      have HB := n3_
                      clear n0_ n1_ n2_ n3_
                      (try clear hb)
                      (try clear hb2)
                      (try clear hk)
                      (try clear hi)
                      refine hK.out _ _ ⟨(blk_cell B30.out 0).trans rfl, (blk_cell B30.out 1).trans rfl, (blk_cell B30.out 2).trans rfl, (blk_cell B31.out 0).trans rfl, (blk_cell B31.out 1).trans rfl, (blk_cell B31.out 2).trans rfl⟩ (fun hHeld => ?_)
                      clear hK K
                      refine norm_ (a' := ?_) ?_ ?_
                      rotate_left
                      ·
                       show Act.put _ (some 24) _ = _
                       simp only [Act.put, y1, y2, y3, i64_w, i32_w]
                       rfl
                      exact norm_ Z52 (hJ1_10 (g226) _ ⟨hHeld, Z56, Z57, Z59, G39.out, G45.out, N2.out, N15.out, N7.out, N16.out, Z50⟩)
                     ·
                      skip
                      refine box_step ?hg (N := 6) ?hd (cs := #[.int .i64 0, .int .i64 0, .string Y0]) (t := 30) ?hr ?_; (case hd => rfl); (case hg => rfl); (case hr => first | (go_simp; done) | (go_simp; rfl))
                      intro g225 hg w40 hbox hb
                      have n0_ := A0 (blk_below (g := g208) (o := O25 a0_0 a0_1 a0_2) Z56 hb)
                      have n1_ := A0 (blk_below (g := g209) (o := O25 a1_0 a1_1 a1_2) Z57 hb)
                      have n2_ := A0 (blk_below (g := g226) (o := O30 0 0 Y0) Z59 hb)
                      have n3_ := A0 (below_step Z50 hb)
                      have B32 := A0 (hbox)
                      have G38 := A0 ((Z9 : w.heap.size ≤ g225))
                      have G44 := A0 ((Z9 : w.heap.size ≤ g225))
                      have N1 := A0 ((Z21 : g208 ≠ g225))
                      have N10 := A0 ((Z22 : g225 ≠ g208))
                      have N6 := A0 ((Z23 : g209 ≠ g225))
                      have N11 := A0 ((Z24 : g225 ≠ g209))
                      have N17 := A0 ((Z11 : g226 ≠ g225))
                      have N12 := A0 ((Z12 : g225 ≠ g226))
                      clear B30 B31 B33 HB
                      have B30 := n0_
                      have B31 := n1_
                      have B33 := n2_
                      have HB := n3_
                      clear n0_ n1_ n2_ n3_
                      clear hb hbox hg
                      refine hK.out _ _ ⟨(blk_cell B30.out 0).trans rfl, (blk_cell B30.out 1).trans rfl, (blk_cell B30.out 2).trans rfl, (blk_cell B31.out 0).trans rfl, (blk_cell B31.out 1).trans rfl, (blk_cell B31.out 2).trans rfl⟩ (fun hHeld => ?_)
                      clear hK K
                      refine norm_ (a' := ?_) ?_ ?_
                      rotate_left
                      ·
                       show Act.put _ (some 6) _ = _
                       simp only [Act.put, y1, y2, y3, i64_w, i32_w]
                       rfl
                      exact norm_ Z52 (hJ9_10 (g225, g226) _ ⟨hHeld, Z56, Z57, Z58, Z59, G38.out, G44.out, N1.out, N10.out, N6.out, N11.out, N17.out, N12.out, G39.out, G45.out, N2.out, N15.out, N7.out, N16.out, Z29⟩)
                   ·
                    skip
                    rintro g225 w39 ⟨hS_, h0_, h1_, h2_, h3_, h4_, h5_, h6_, h7_, h8_, h9_⟩
                    have n0_ : Aside0 (w39.heap[g208]? = some (O25 a0_0 a0_1 a0_2)) := ⟨h0_⟩
                    have n1_ : Aside0 (w39.heap[g209]? = some (O25 a1_0 a1_1 a1_2)) := ⟨h1_⟩
                    have B32 : Aside0 (w39.heap[g225]? = some (O30 0 0 Y0)) := ⟨h2_⟩
                    have G38 := A0 h3_
                    have G44 := A0 h4_
                    have N1 := A0 h5_
                    have N10 := A0 h6_
                    have N6 := A0 h7_
                    have N11 := A0 h8_
                    have n9_ : Aside0 (Below w.heap.size w w39) := ⟨h9_⟩
                    clear B30 B31 HB
                    clear h0_ h1_ h2_ h3_ h4_ h5_ h6_ h7_ h8_ h9_
                    have B30 := n0_
                    have B31 := n1_
                    have HB := n9_
                    clear n0_ n1_ n9_
                    have hHeld : Q6 g208 a0_0 a0_1 a0_2 g209 a1_0 a1_1 a1_2 w39 := hS_
                    refine norm_ (a' := ?_) ?_ ?_
                    rotate_left
                    ·
                     simp only [putAll, Act.put, y1, y2, y3]
                     rfl
                    refine two_ (i := 1) (j := 10) (Ni := some 24) (Nj := some 7) #[true, true, true, false, false, false, false, false, false, true, false, false, false, false] #[true, false, true, false, false, false, false, false, false, true, true, false, false, false] rfl rfl rfl rfl (two_of HT_.out Z62) (by decide) (by decide) (fun K hK => ?_) (fun K hK => ?_)
                    ·
                     skip
                     refine goes_ Tryd.func11 Z62 rfl #[.agg #[.int .i64 a0_0, .int .i64 a0_1, .string a0_2]] (by rfl) rfl rfl Z55 ?_
                     with_reducible refine (laws_toWay.calls a0_0 a0_1 a0_2 t212 t213 t214 _ A19.out).mono ?_
                     rintro e w40 ⟨rfl, hb⟩
                     refine ⟨_, rfl, ?_⟩
                     have n0_ := A0 (blk_below (g := g208) (o := O25 a0_0 a0_1 a0_2) Z56 hb)
                     have n1_ := A0 (blk_below (g := g209) (o := O25 a1_0 a1_1 a1_2) Z57 hb)
                     have n2_ := A0 (blk_below (g := g225) (o := O30 0 0 Y0) Z58 hb)
                     have n3_ := A0 (below_step Z49 hb)
                     clear B30 B31 B32 HB
                     have B30 := n0_
                     have B31 := n1_
                     have B32 := n2_
                     have HB := n3_
                     clear n0_ n1_ n2_ n3_
                     (try clear hb)
                     (try clear hb2)
                     (try clear hk)
                     (try clear hi)
                     refine hK.out _ _ ⟨(blk_cell B30.out 0).trans rfl, (blk_cell B30.out 1).trans rfl, (blk_cell B30.out 2).trans rfl, (blk_cell B31.out 0).trans rfl, (blk_cell B31.out 1).trans rfl, (blk_cell B31.out 2).trans rfl⟩ (fun hHeld => ?_)
                     clear hK K
                     refine norm_ (a' := ?_) ?_ ?_
                     rotate_left
                     ·
                      show Act.put _ (some 24) _ = _
                      simp only [Act.put, y1, y2, y3, i64_w, i32_w]
                      rfl
                     exact norm_ Z52 (hJ1_9 (g225) _ ⟨hHeld, Z56, Z57, Z58, G38.out, G44.out, N1.out, N10.out, N6.out, N11.out, Z49⟩)
                    ·
                     skip
                     refine box_step ?hg (N := 7) ?hd (cs := #[.int .i64 0, .int .i64 0, .string Y0]) (t := 30) ?hr ?_; (case hd => rfl); (case hg => rfl); (case hr => first | (go_simp; done) | (go_simp; rfl))
                     intro g226 hg w40 hbox hb
                     have n0_ := A0 (blk_below (g := g208) (o := O25 a0_0 a0_1 a0_2) Z56 hb)
                     have n1_ := A0 (blk_below (g := g209) (o := O25 a1_0 a1_1 a1_2) Z57 hb)
                     have n2_ := A0 (blk_below (g := g225) (o := O30 0 0 Y0) Z58 hb)
                     have n3_ := A0 (below_step Z49 hb)
                     have B33 := A0 (hbox)
                     have G39 := A0 ((Z10 : w.heap.size ≤ g226))
                     have G45 := A0 ((Z10 : w.heap.size ≤ g226))
                     have N2 := A0 ((Z25 : g208 ≠ g226))
                     have N15 := A0 ((Z26 : g226 ≠ g208))
                     have N7 := A0 ((Z27 : g209 ≠ g226))
                     have N16 := A0 ((Z28 : g226 ≠ g209))
                     have N12 := A0 ((Z13 : g225 ≠ g226))
                     have N17 := A0 ((Z14 : g226 ≠ g225))
                     clear B30 B31 B32 HB
                     have B30 := n0_
                     have B31 := n1_
                     have B32 := n2_
                     have HB := n3_
                     clear n0_ n1_ n2_ n3_
                     clear hb hbox hg
                     refine hK.out _ _ ⟨(blk_cell B30.out 0).trans rfl, (blk_cell B30.out 1).trans rfl, (blk_cell B30.out 2).trans rfl, (blk_cell B31.out 0).trans rfl, (blk_cell B31.out 1).trans rfl, (blk_cell B31.out 2).trans rfl⟩ (fun hHeld => ?_)
                     clear hK K
                     refine norm_ (a' := ?_) ?_ ?_
                     rotate_left
                     ·
                      show Act.put _ (some 7) _ = _
                      simp only [Act.put, y1, y2, y3, i64_w, i32_w]
                      rfl
                     exact norm_ Z52 (hJ9_10 (g225, g226) _ ⟨hHeld, Z56, Z57, Z58, Z59, G38.out, G44.out, N1.out, N10.out, N6.out, N11.out, N17.out, N12.out, G39.out, G45.out, N2.out, N15.out, N7.out, N16.out, Z30⟩)
                  ·
                   skip
                   rintro _ w39 ⟨hS_, h0_, h1_, h2_⟩
                   have n0_ : Aside0 (w39.heap[g208]? = some (O25 a0_0 a0_1 a0_2)) := ⟨h0_⟩
                   have n1_ : Aside0 (w39.heap[g209]? = some (O25 a1_0 a1_1 a1_2)) := ⟨h1_⟩
                   have n2_ : Aside0 (Below w.heap.size w w39) := ⟨h2_⟩
                   clear B30 B31 HB
                   clear h0_ h1_ h2_
                   have B30 := n0_
                   have B31 := n1_
                   have HB := n2_
                   clear n0_ n1_ n2_
                   have hHeld : Q6 g208 a0_0 a0_1 a0_2 g209 a1_0 a1_1 a1_2 w39 := hS_
                   refine norm_ (a' := ?_) ?_ ?_
                   rotate_left
                   ·
                    simp only [putAll, Act.put, y1, y2, y3]
                    rfl
                   refine three_ (i := 3) (j := 9) (k := 10) (Ni := some 26) (Nj := some 6) (Nk := some 7) #[true, true, true, true, false, false, false, false, false, false, false, false, false, false] #[true, true, true, false, false, false, false, false, false, true, false, false, false, false] #[true, true, true, false, false, false, false, false, false, false, true, false, false, false] rfl rfl rfl rfl rfl rfl (three_of HT_.out Z62) (by decide) (by decide) (by decide) (fun K hK => ?_) (fun K hK => ?_) (fun K hK => ?_)
                   ·
                    skip
                    refine goes_ Tryd.func11 Z62 rfl #[.agg #[.int .i64 a1_0, .int .i64 a1_1, .string a1_2]] (by rfl) rfl rfl Z55 ?_
                    with_reducible refine (laws_toWay.calls a1_0 a1_1 a1_2 t215 t216 t217 _ A20.out).mono ?_
                    rintro e w40 ⟨rfl, hb⟩
                    refine ⟨_, rfl, ?_⟩
                    have n0_ := A0 (blk_below (g := g208) (o := O25 a0_0 a0_1 a0_2) Z56 hb)
                    have n1_ := A0 (blk_below (g := g209) (o := O25 a1_0 a1_1 a1_2) Z57 hb)
                    have n2_ := A0 (below_step Z53 hb)
                    clear B30 B31 HB
                    have B30 := n0_
                    have B31 := n1_
                    have HB := n2_
                    clear n0_ n1_ n2_
                    (try clear hb)
                    (try clear hb2)
                    (try clear hk)
                    (try clear hi)
                    refine hK.out _ _ ⟨(blk_cell B30.out 0).trans rfl, (blk_cell B30.out 1).trans rfl, (blk_cell B30.out 2).trans rfl, (blk_cell B31.out 0).trans rfl, (blk_cell B31.out 1).trans rfl, (blk_cell B31.out 2).trans rfl⟩ (fun hHeld => ?_)
                    clear hK K
                    refine norm_ (a' := ?_) ?_ ?_
                    rotate_left
                    ·
                     show Act.put _ (some 26) _ = _
                     simp only [Act.put, y1, y2, y3, i64_w, i32_w]
                     rfl
                    exact norm_ Z52 (hJ1_3 () _ ⟨hHeld, Z56, Z57, Z53⟩)
                   ·
                    skip
                    refine box_step ?hg (N := 6) ?hd (cs := #[.int .i64 0, .int .i64 0, .string Y0]) (t := 30) ?hr ?_; (case hd => rfl); (case hg => rfl); (case hr => first | (go_simp; done) | (go_simp; rfl))
                    intro g225 hg w40 hbox hb
                    have n0_ := A0 (blk_below (g := g208) (o := O25 a0_0 a0_1 a0_2) Z56 hb)
                    have n1_ := A0 (blk_below (g := g209) (o := O25 a1_0 a1_1 a1_2) Z57 hb)
                    have n2_ := A0 (below_step Z53 hb)
                    have B32 := A0 (hbox)
                    have G38 := A0 ((Z47 : w.heap.size ≤ g225))
                    have G44 := A0 ((Z47 : w.heap.size ≤ g225))
                    have N1 := A0 ((Z21 : g208 ≠ g225))
                    have N10 := A0 ((Z22 : g225 ≠ g208))
                    have N6 := A0 ((Z23 : g209 ≠ g225))
                    have N11 := A0 ((Z24 : g225 ≠ g209))
                    clear B30 B31 HB
                    have B30 := n0_
                    have B31 := n1_
                    have HB := n2_
                    clear n0_ n1_ n2_
                    clear hb hbox hg
                    refine hK.out _ _ ⟨(blk_cell B30.out 0).trans rfl, (blk_cell B30.out 1).trans rfl, (blk_cell B30.out 2).trans rfl, (blk_cell B31.out 0).trans rfl, (blk_cell B31.out 1).trans rfl, (blk_cell B31.out 2).trans rfl⟩ (fun hHeld => ?_)
                    clear hK K
                    refine norm_ (a' := ?_) ?_ ?_
                    rotate_left
                    ·
                     show Act.put _ (some 6) _ = _
                     simp only [Act.put, y1, y2, y3, i64_w, i32_w]
                     rfl
                    exact norm_ Z52 (hJ1_9 (g225) _ ⟨hHeld, Z56, Z57, Z58, G38.out, G44.out, N1.out, N10.out, N6.out, N11.out, Z49⟩)
                   ·
                    skip
                    refine box_step ?hg (N := 7) ?hd (cs := #[.int .i64 0, .int .i64 0, .string Y0]) (t := 30) ?hr ?_; (case hd => rfl); (case hg => rfl); (case hr => first | (go_simp; done) | (go_simp; rfl))
                    intro g226 hg w40 hbox hb
                    have n0_ := A0 (blk_below (g := g208) (o := O25 a0_0 a0_1 a0_2) Z56 hb)
                    have n1_ := A0 (blk_below (g := g209) (o := O25 a1_0 a1_1 a1_2) Z57 hb)
                    have n2_ := A0 (below_step Z53 hb)
                    have B33 := A0 (hbox)
                    have G39 := A0 ((Z48 : w.heap.size ≤ g226))
                    have G45 := A0 ((Z48 : w.heap.size ≤ g226))
                    have N2 := A0 ((Z25 : g208 ≠ g226))
                    have N15 := A0 ((Z26 : g226 ≠ g208))
                    have N7 := A0 ((Z27 : g209 ≠ g226))
                    have N16 := A0 ((Z28 : g226 ≠ g209))
                    clear B30 B31 HB
                    have B30 := n0_
                    have B31 := n1_
                    have HB := n2_
                    clear n0_ n1_ n2_
                    clear hb hbox hg
                    refine hK.out _ _ ⟨(blk_cell B30.out 0).trans rfl, (blk_cell B30.out 1).trans rfl, (blk_cell B30.out 2).trans rfl, (blk_cell B31.out 0).trans rfl, (blk_cell B31.out 1).trans rfl, (blk_cell B31.out 2).trans rfl⟩ (fun hHeld => ?_)
                    clear hK K
                    refine norm_ (a' := ?_) ?_ ?_
                    rotate_left
                    ·
                     show Act.put _ (some 7) _ = _
                     simp only [Act.put, y1, y2, y3, i64_w, i32_w]
                     rfl
                    exact norm_ Z52 (hJ1_10 (g226) _ ⟨hHeld, Z56, Z57, Z59, G39.out, G45.out, N2.out, N15.out, N7.out, N16.out, Z50⟩)
                 ·
                  skip
                  rintro ⟨g225, g226⟩ w40 ⟨hS_, h0_, h1_, h2_, h3_, h4_, h5_, h6_, h7_, h8_, h9_, h10_, h11_, h12_, h13_, h14_, h15_, h16_, h17_, h18_⟩
                  have n0_ : Aside0 (w40.heap[g208]? = some (O25 a0_0 a0_1 a0_2)) := ⟨h0_⟩
                  have n1_ : Aside0 (w40.heap[g209]? = some (O25 a1_0 a1_1 a1_2)) := ⟨h1_⟩
                  have B32 : Aside0 (w40.heap[g225]? = some (O30 0 0 Y0)) := ⟨h2_⟩
                  have B33 : Aside0 (w40.heap[g226]? = some (O30 0 0 Y0)) := ⟨h3_⟩
                  have G38 := A0 h4_
                  have G44 := A0 h5_
                  have N1 := A0 h6_
                  have N10 := A0 h7_
                  have N6 := A0 h8_
                  have N11 := A0 h9_
                  have N17 := A0 h10_
                  have N12 := A0 h11_
                  have G39 := A0 h12_
                  have G45 := A0 h13_
                  have N2 := A0 h14_
                  have N15 := A0 h15_
                  have N7 := A0 h16_
                  have N16 := A0 h17_
                  have n18_ : Aside0 (Below w.heap.size w w40) := ⟨h18_⟩
                  clear B30 B31 HB
                  clear h0_ h1_ h2_ h3_ h4_ h5_ h6_ h7_ h8_ h9_ h10_ h11_ h12_ h13_ h14_ h15_ h16_ h17_ h18_
                  have B30 := n0_
                  have B31 := n1_
                  have HB := n18_
                  clear n0_ n1_ n18_
                  have hHeld : Q6 g208 a0_0 a0_1 a0_2 g209 a1_0 a1_1 a1_2 w40 := hS_
                  refine norm_ (a' := ?_) ?_ ?_
                  rotate_left
                  ·
                   simp only [putAll, Act.put, y1, y2, y3]
                   rfl
                  refine one_ (i := 1) (N := some 24) #[true, true, true, false, false, false, false, false, false, true, true, false, false, false] rfl rfl (one_of HT_.out Z62) (by decide) (fun K hK => ?_)
                  refine goes_ Tryd.func11 Z62 rfl #[.agg #[.int .i64 a0_0, .int .i64 a0_1, .string a0_2]] (by rfl) rfl rfl Z55 ?_
                  with_reducible refine (laws_toWay.calls a0_0 a0_1 a0_2 t212 t213 t214 _ A19.out).mono ?_
                  rintro e w41 ⟨rfl, hb⟩
                  refine ⟨_, rfl, ?_⟩
                  have n0_ := A0 (blk_below (g := g208) (o := O25 a0_0 a0_1 a0_2) Z56 hb)
                  have n1_ := A0 (blk_below (g := g209) (o := O25 a1_0 a1_1 a1_2) Z57 hb)
                  have n2_ := A0 (blk_below (g := g225) (o := O30 0 0 Y0) Z58 hb)
                  have n3_ := A0 (blk_below (g := g226) (o := O30 0 0 Y0) Z59 hb)
                  have n4_ := A0 (below_step Z30 hb)
                  clear B30 B31 B32 B33 HB
                  have B30 := n0_
                  have B31 := n1_
                  have B32 := n2_
                  have B33 := n3_
                  have HB := n4_
                  clear n0_ n1_ n2_ n3_ n4_
                  (try clear hb)
                  (try clear hb2)
                  (try clear hk)
                  (try clear hi)
                  refine hK.out _ _ ⟨(blk_cell B30.out 0).trans rfl, (blk_cell B30.out 1).trans rfl, (blk_cell B30.out 2).trans rfl, (blk_cell B31.out 0).trans rfl, (blk_cell B31.out 1).trans rfl, (blk_cell B31.out 2).trans rfl⟩ (fun hHeld => ?_)
                  clear hK K
                  refine norm_ (a' := ?_) ?_ ?_
                  rotate_left
                  ·
                   show Act.put _ (some 24) _ = _
                   simp only [Act.put, y1, y2, y3, i64_w, i32_w]
                   rfl
                  exact norm_ Z52 (hJ1_9_10 (g225, g226) _ ⟨hHeld, Z56, Z57, Z58, Z59, G38.out, G44.out, N1.out, N10.out, N6.out, N11.out, N17.out, N12.out, G39.out, G45.out, N2.out, N15.out, N7.out, N16.out, Z30⟩)
                ·
                 skip
                 rintro g226 w40 ⟨hS_, h0_, h1_, h2_, h3_, h4_, h5_, h6_, h7_, h8_, h9_⟩
                 have n0_ : Aside0 (w40.heap[g208]? = some (O25 a0_0 a0_1 a0_2)) := ⟨h0_⟩
                 have n1_ : Aside0 (w40.heap[g209]? = some (O25 a1_0 a1_1 a1_2)) := ⟨h1_⟩
                 have B33 : Aside0 (w40.heap[g226]? = some (O30 0 0 Y0)) := ⟨h2_⟩
                 have G39 := A0 h3_
                 have G45 := A0 h4_
                 have N2 := A0 h5_
                 have N15 := A0 h6_
                 have N7 := A0 h7_
                 have N16 := A0 h8_
                 have n9_ : Aside0 (Below w.heap.size w w40) := ⟨h9_⟩
                 clear B30 B31 HB
                 clear h0_ h1_ h2_ h3_ h4_ h5_ h6_ h7_ h8_ h9_
                 have B30 := n0_
                 have B31 := n1_
                 have HB := n9_
                 clear n0_ n1_ n9_
                 have hHeld : Q6 g208 a0_0 a0_1 a0_2 g209 a1_0 a1_1 a1_2 w40 := hS_
                 refine norm_ (a' := ?_) ?_ ?_
                 rotate_left
                 ·
                  simp only [putAll, Act.put, y1, y2, y3]
                  rfl
                 refine two_ (i := 3) (j := 9) (Ni := some 26) (Nj := some 6) #[true, true, true, true, false, false, false, false, false, false, true, false, false, false] #[true, true, true, false, false, false, false, false, false, true, true, false, false, false] rfl rfl rfl rfl (two_of HT_.out Z62) (by decide) (by decide) (fun K hK => ?_) (fun K hK => ?_)
                 ·
                  skip
                  refine goes_ Tryd.func11 Z62 rfl #[.agg #[.int .i64 a1_0, .int .i64 a1_1, .string a1_2]] (by rfl) rfl rfl Z55 ?_
                  with_reducible refine (laws_toWay.calls a1_0 a1_1 a1_2 t215 t216 t217 _ A20.out).mono ?_
                  rintro e w41 ⟨rfl, hb⟩
                  refine ⟨_, rfl, ?_⟩
                  have n0_ := A0 (blk_below (g := g208) (o := O25 a0_0 a0_1 a0_2) Z56 hb)
                  have n1_ := A0 (blk_below (g := g209) (o := O25 a1_0 a1_1 a1_2) Z57 hb)
                  have n2_ := A0 (blk_below (g := g226) (o := O30 0 0 Y0) Z59 hb)
                  have n3_ := A0 (below_step Z50 hb)
                  clear B30 B31 B33 HB
                  have B30 := n0_
                  have B31 := n1_
                  have B33 := n2_
                  have HB := n3_
                  clear n0_ n1_ n2_ n3_
                  (try clear hb)
                  (try clear hb2)
                  (try clear hk)
                  (try clear hi)
                  refine hK.out _ _ ⟨(blk_cell B30.out 0).trans rfl, (blk_cell B30.out 1).trans rfl, (blk_cell B30.out 2).trans rfl, (blk_cell B31.out 0).trans rfl, (blk_cell B31.out 1).trans rfl, (blk_cell B31.out 2).trans rfl⟩ (fun hHeld => ?_)
                  clear hK K
                  refine norm_ (a' := ?_) ?_ ?_
                  rotate_left
                  ·
                   show Act.put _ (some 26) _ = _
                   simp only [Act.put, y1, y2, y3, i64_w, i32_w]
                   rfl
                  exact norm_ Z52 (hJ1_3_10 (g226) _ ⟨hHeld, Z56, Z57, Z59, G39.out, G45.out, N2.out, N15.out, N7.out, N16.out, Z50⟩)
                 ·
                  skip
                  refine box_step ?hg (N := 6) ?hd (cs := #[.int .i64 0, .int .i64 0, .string Y0]) (t := 30) ?hr ?_; (case hd => rfl); (case hg => rfl); (case hr => first | (go_simp; done) | (go_simp; rfl))
                  intro g225 hg w41 hbox hb
                  have n0_ := A0 (blk_below (g := g208) (o := O25 a0_0 a0_1 a0_2) Z56 hb)
                  have n1_ := A0 (blk_below (g := g209) (o := O25 a1_0 a1_1 a1_2) Z57 hb)
                  have n2_ := A0 (blk_below (g := g226) (o := O30 0 0 Y0) Z59 hb)
                  have n3_ := A0 (below_step Z50 hb)
                  have B32 := A0 (hbox)
                  have G38 := A0 ((Z9 : w.heap.size ≤ g225))
                  have G44 := A0 ((Z9 : w.heap.size ≤ g225))
                  have N1 := A0 ((Z21 : g208 ≠ g225))
                  have N10 := A0 ((Z22 : g225 ≠ g208))
                  have N6 := A0 ((Z23 : g209 ≠ g225))
                  have N11 := A0 ((Z24 : g225 ≠ g209))
                  have N17 := A0 ((Z11 : g226 ≠ g225))
                  have N12 := A0 ((Z12 : g225 ≠ g226))
                  clear B30 B31 B33 HB
                  have B30 := n0_
                  have B31 := n1_
                  have B33 := n2_
                  have HB := n3_
                  clear n0_ n1_ n2_ n3_
                  clear hb hbox hg
                  refine hK.out _ _ ⟨(blk_cell B30.out 0).trans rfl, (blk_cell B30.out 1).trans rfl, (blk_cell B30.out 2).trans rfl, (blk_cell B31.out 0).trans rfl, (blk_cell B31.out 1).trans rfl, (blk_cell B31.out 2).trans rfl⟩ (fun hHeld => ?_)
                  clear hK K
                  refine norm_ (a' := ?_) ?_ ?_
                  rotate_left
                  ·
                   show Act.put _ (some 6) _ = _
                   simp only [Act.put, y1, y2, y3, i64_w, i32_w]
                   rfl
                  exact norm_ Z52 (hJ1_9_10 (g225, g226) _ ⟨hHeld, Z56, Z57, Z58, Z59, G38.out, G44.out, N1.out, N10.out, N6.out, N11.out, N17.out, N12.out, G39.out, G45.out, N2.out, N15.out, N7.out, N16.out, Z29⟩)
               ·
                skip
                rintro g225 w40 ⟨hS_, h0_, h1_, h2_, h3_, h4_, h5_, h6_, h7_, h8_, h9_⟩
                have n0_ : Aside0 (w40.heap[g208]? = some (O25 a0_0 a0_1 a0_2)) := ⟨h0_⟩
                have n1_ : Aside0 (w40.heap[g209]? = some (O25 a1_0 a1_1 a1_2)) := ⟨h1_⟩
                have B32 : Aside0 (w40.heap[g225]? = some (O30 0 0 Y0)) := ⟨h2_⟩
                have G38 := A0 h3_
                have G44 := A0 h4_
                have N1 := A0 h5_
                have N10 := A0 h6_
                have N6 := A0 h7_
                have N11 := A0 h8_
                have n9_ : Aside0 (Below w.heap.size w w40) := ⟨h9_⟩
                clear B30 B31 HB
                clear h0_ h1_ h2_ h3_ h4_ h5_ h6_ h7_ h8_ h9_
                have B30 := n0_
                have B31 := n1_
                have HB := n9_
                clear n0_ n1_ n9_
                have hHeld : Q6 g208 a0_0 a0_1 a0_2 g209 a1_0 a1_1 a1_2 w40 := hS_
                refine norm_ (a' := ?_) ?_ ?_
                rotate_left
                ·
                 simp only [putAll, Act.put, y1, y2, y3]
                 rfl
                refine two_ (i := 3) (j := 10) (Ni := some 26) (Nj := some 7) #[true, true, true, true, false, false, false, false, false, true, false, false, false, false] #[true, true, true, false, false, false, false, false, false, true, true, false, false, false] rfl rfl rfl rfl (two_of HT_.out Z62) (by decide) (by decide) (fun K hK => ?_) (fun K hK => ?_)
                ·
                 skip
                 refine goes_ Tryd.func11 Z62 rfl #[.agg #[.int .i64 a1_0, .int .i64 a1_1, .string a1_2]] (by rfl) rfl rfl Z55 ?_
                 with_reducible refine (laws_toWay.calls a1_0 a1_1 a1_2 t215 t216 t217 _ A20.out).mono ?_
                 rintro e w41 ⟨rfl, hb⟩
                 refine ⟨_, rfl, ?_⟩
                 have n0_ := A0 (blk_below (g := g208) (o := O25 a0_0 a0_1 a0_2) Z56 hb)
                 have n1_ := A0 (blk_below (g := g209) (o := O25 a1_0 a1_1 a1_2) Z57 hb)
                 have n2_ := A0 (blk_below (g := g225) (o := O30 0 0 Y0) Z58 hb)
                 have n3_ := A0 (below_step Z49 hb)
                 clear B30 B31 B32 HB
                 have B30 := n0_
                 have B31 := n1_
                 have B32 := n2_
                 have HB := n3_
                 clear n0_ n1_ n2_ n3_
                 (try clear hb)
                 (try clear hb2)
                 (try clear hk)
                 (try clear hi)
                 refine hK.out _ _ ⟨(blk_cell B30.out 0).trans rfl, (blk_cell B30.out 1).trans rfl, (blk_cell B30.out 2).trans rfl, (blk_cell B31.out 0).trans rfl, (blk_cell B31.out 1).trans rfl, (blk_cell B31.out 2).trans rfl⟩ (fun hHeld => ?_)
                 clear hK K
                 refine norm_ (a' := ?_) ?_ ?_
                 rotate_left
                 ·
                  show Act.put _ (some 26) _ = _
                  simp only [Act.put, y1, y2, y3, i64_w, i32_w]
                  rfl
                 exact norm_ Z52 (hJ1_3_9 (g225) _ ⟨hHeld, Z56, Z57, Z58, G38.out, G44.out, N1.out, N10.out, N6.out, N11.out, Z49⟩)
                ·
                 skip
                 refine box_step ?hg (N := 7) ?hd (cs := #[.int .i64 0, .int .i64 0, .string Y0]) (t := 30) ?hr ?_; (case hd => rfl); (case hg => rfl); (case hr => first | (go_simp; done) | (go_simp; rfl))
                 intro g226 hg w41 hbox hb
                 have n0_ := A0 (blk_below (g := g208) (o := O25 a0_0 a0_1 a0_2) Z56 hb)
                 have n1_ := A0 (blk_below (g := g209) (o := O25 a1_0 a1_1 a1_2) Z57 hb)
                 have n2_ := A0 (blk_below (g := g225) (o := O30 0 0 Y0) Z58 hb)
                 have n3_ := A0 (below_step Z49 hb)
                 have B33 := A0 (hbox)
                 have G39 := A0 ((Z10 : w.heap.size ≤ g226))
                 have G45 := A0 ((Z10 : w.heap.size ≤ g226))
                 have N2 := A0 ((Z25 : g208 ≠ g226))
                 have N15 := A0 ((Z26 : g226 ≠ g208))
                 have N7 := A0 ((Z27 : g209 ≠ g226))
                 have N16 := A0 ((Z28 : g226 ≠ g209))
                 have N12 := A0 ((Z13 : g225 ≠ g226))
                 have N17 := A0 ((Z14 : g226 ≠ g225))
                 clear B30 B31 B32 HB
                 have B30 := n0_
                 have B31 := n1_
                 have B32 := n2_
                 have HB := n3_
                 clear n0_ n1_ n2_ n3_
                 clear hb hbox hg
                 refine hK.out _ _ ⟨(blk_cell B30.out 0).trans rfl, (blk_cell B30.out 1).trans rfl, (blk_cell B30.out 2).trans rfl, (blk_cell B31.out 0).trans rfl, (blk_cell B31.out 1).trans rfl, (blk_cell B31.out 2).trans rfl⟩ (fun hHeld => ?_)
                 clear hK K
                 refine norm_ (a' := ?_) ?_ ?_
                 rotate_left
                 ·
                  show Act.put _ (some 7) _ = _
                  simp only [Act.put, y1, y2, y3, i64_w, i32_w]
                  rfl
                 exact norm_ Z52 (hJ1_9_10 (g225, g226) _ ⟨hHeld, Z56, Z57, Z58, Z59, G38.out, G44.out, N1.out, N10.out, N6.out, N11.out, N17.out, N12.out, G39.out, G45.out, N2.out, N15.out, N7.out, N16.out, Z30⟩)
              ·
               skip
               rintro _ w40 ⟨hS_, h0_, h1_, h2_⟩
               have n0_ : Aside0 (w40.heap[g208]? = some (O25 a0_0 a0_1 a0_2)) := ⟨h0_⟩
               have n1_ : Aside0 (w40.heap[g209]? = some (O25 a1_0 a1_1 a1_2)) := ⟨h1_⟩
               have n2_ : Aside0 (Below w.heap.size w w40) := ⟨h2_⟩
               clear B30 B31 HB
               clear h0_ h1_ h2_
               have B30 := n0_
               have B31 := n1_
               have HB := n2_
               clear n0_ n1_ n2_
               have hHeld : Q6 g208 a0_0 a0_1 a0_2 g209 a1_0 a1_1 a1_2 w40 := hS_
               refine norm_ (a' := ?_) ?_ ?_
               rotate_left
               ·
                simp only [putAll, Act.put, y1, y2, y3]
                rfl
               refine three_ (i := 4) (j := 9) (k := 10) (Ni := some 27) (Nj := some 6) (Nk := some 7) #[true, true, true, true, true, false, false, false, false, false, false, false, false, false] #[true, true, true, true, false, false, false, false, false, true, false, false, false, false] #[true, true, true, true, false, false, false, false, false, false, true, false, false, false] rfl rfl rfl rfl rfl rfl (three_of HT_.out Z62) (by decide) (by decide) (by decide) (fun K hK => ?_) (fun K hK => ?_) (fun K hK => ?_)
               ·
                skip
                refine goes_ Tryd.func25 Z62 rfl #[.agg #[.int .i64 t212, .int .i64 t213, .string t214], .agg #[.int .i64 t215, .int .i64 t216, .string t217]] (by rfl) rfl rfl Z55 ?_
                with_reducible refine (spec_SwapTails.calls k t212 t213 t214 t215 t216 t217 t218 t219 t220 t221 t222 t223 t224 _ A21.out).mono ?_
                rintro e w41 ⟨rfl, hb⟩
                refine ⟨_, rfl, ?_⟩
                have n0_ := A0 (blk_below (g := g208) (o := O25 a0_0 a0_1 a0_2) Z56 hb)
                have n1_ := A0 (blk_below (g := g209) (o := O25 a1_0 a1_1 a1_2) Z57 hb)
                have n2_ := A0 (below_step Z53 hb)
                clear B30 B31 HB
                have B30 := n0_
                have B31 := n1_
                have HB := n2_
                clear n0_ n1_ n2_
                (try clear hb)
                (try clear hb2)
                (try clear hk)
                (try clear hi)
                refine hK.out _ _ ⟨(blk_cell B30.out 0).trans rfl, (blk_cell B30.out 1).trans rfl, (blk_cell B30.out 2).trans rfl, (blk_cell B31.out 0).trans rfl, (blk_cell B31.out 1).trans rfl, (blk_cell B31.out 2).trans rfl⟩ (fun hHeld => ?_)
                clear hK K
                refine norm_ (a' := ?_) ?_ ?_
                rotate_left
                ·
                 show Act.put _ (some 27) _ = _
                 simp only [Act.put, y1, y2, y3, i64_w, i32_w]
                 rfl
                refine pure_ (i := 5) (N := some 22) (v := ?_) (a' := ?_) #[true, true, true, true, true, true, false, false, false, false, false, false, false, false] rfl rfl (any_of HT_.out Z62) (fun _ _ _ h => h) (Or.inl ⟨by rfl, ?_⟩) ?_ ?_
                rotate_left
                ·
                 intro w'
                 go_simp
                 with_reducible rfl
                rotate_left
                ·
                 simp only [Act.put, y1, y2, y3, i64_w, i32_w]
                 rfl
                refine pure_ (i := 6) (N := some 28) (v := ?_) (a' := ?_) #[true, true, true, true, true, true, true, false, false, false, false, false, false, false] rfl rfl (any_of HT_.out Z62) (fun _ _ _ h => h) (Or.inl ⟨by rfl, ?_⟩) ?_ ?_
                rotate_left
                ·
                 intro w'
                 go_simp
                 with_reducible rfl
                rotate_left
                ·
                 simp only [Act.put, y1, y2, y3, i64_w, i32_w]
                 rfl
                refine pure_ (i := 7) (N := some 29) (v := ?_) (a' := ?_) #[true, true, true, true, true, true, true, true, false, false, false, false, false, false] rfl rfl (any_of HT_.out Z62) (fun _ _ _ h => h) (Or.inl ⟨by rfl, ?_⟩) ?_ ?_
                rotate_left
                ·
                 intro w'
                 go_simp
                 with_reducible rfl
                rotate_left
                ·
                 simp only [Act.put, y1, y2, y3, i64_w, i32_w]
                 rfl
                refine pure_ (i := 8) (N := some 30) (v := ?_) (a' := ?_) #[true, true, true, true, true, true, true, true, true, false, false, false, false, false] rfl rfl (any_of HT_.out Z62) (fun _ _ _ h => h) (Or.inl ⟨by rfl, ?_⟩) ?_ ?_
                rotate_left
                ·
                 intro w'
                 go_simp
                 with_reducible rfl
                rotate_left
                ·
                 simp only [Act.put, y1, y2, y3, i64_w, i32_w]
                 rfl
                exact norm_ Z52 (hJ1_3_4 () _ ⟨hHeld, Z56, Z57, Z53⟩)
               ·
                skip
                refine box_step ?hg (N := 6) ?hd (cs := #[.int .i64 0, .int .i64 0, .string Y0]) (t := 30) ?hr ?_; (case hd => rfl); (case hg => rfl); (case hr => first | (go_simp; done) | (go_simp; rfl))
                intro g225 hg w41 hbox hb
                have n0_ := A0 (blk_below (g := g208) (o := O25 a0_0 a0_1 a0_2) Z56 hb)
                have n1_ := A0 (blk_below (g := g209) (o := O25 a1_0 a1_1 a1_2) Z57 hb)
                have n2_ := A0 (below_step Z53 hb)
                have B32 := A0 (hbox)
                have G38 := A0 ((Z47 : w.heap.size ≤ g225))
                have G44 := A0 ((Z47 : w.heap.size ≤ g225))
                have N1 := A0 ((Z21 : g208 ≠ g225))
                have N10 := A0 ((Z22 : g225 ≠ g208))
                have N6 := A0 ((Z23 : g209 ≠ g225))
                have N11 := A0 ((Z24 : g225 ≠ g209))
                clear B30 B31 HB
                have B30 := n0_
                have B31 := n1_
                have HB := n2_
                clear n0_ n1_ n2_
                clear hb hbox hg
                refine hK.out _ _ ⟨(blk_cell B30.out 0).trans rfl, (blk_cell B30.out 1).trans rfl, (blk_cell B30.out 2).trans rfl, (blk_cell B31.out 0).trans rfl, (blk_cell B31.out 1).trans rfl, (blk_cell B31.out 2).trans rfl⟩ (fun hHeld => ?_)
                clear hK K
                refine norm_ (a' := ?_) ?_ ?_
                rotate_left
                ·
                 show Act.put _ (some 6) _ = _
                 simp only [Act.put, y1, y2, y3, i64_w, i32_w]
                 rfl
                exact norm_ Z52 (hJ1_3_9 (g225) _ ⟨hHeld, Z56, Z57, Z58, G38.out, G44.out, N1.out, N10.out, N6.out, N11.out, Z49⟩)
               ·
                skip
                refine box_step ?hg (N := 7) ?hd (cs := #[.int .i64 0, .int .i64 0, .string Y0]) (t := 30) ?hr ?_; (case hd => rfl); (case hg => rfl); (case hr => first | (go_simp; done) | (go_simp; rfl))
                intro g226 hg w41 hbox hb
                have n0_ := A0 (blk_below (g := g208) (o := O25 a0_0 a0_1 a0_2) Z56 hb)
                have n1_ := A0 (blk_below (g := g209) (o := O25 a1_0 a1_1 a1_2) Z57 hb)
                have n2_ := A0 (below_step Z53 hb)
                have B33 := A0 (hbox)
                have G39 := A0 ((Z48 : w.heap.size ≤ g226))
                have G45 := A0 ((Z48 : w.heap.size ≤ g226))
                have N2 := A0 ((Z25 : g208 ≠ g226))
                have N15 := A0 ((Z26 : g226 ≠ g208))
                have N7 := A0 ((Z27 : g209 ≠ g226))
                have N16 := A0 ((Z28 : g226 ≠ g209))
                clear B30 B31 HB
                have B30 := n0_
                have B31 := n1_
                have HB := n2_
                clear n0_ n1_ n2_
                clear hb hbox hg
                refine hK.out _ _ ⟨(blk_cell B30.out 0).trans rfl, (blk_cell B30.out 1).trans rfl, (blk_cell B30.out 2).trans rfl, (blk_cell B31.out 0).trans rfl, (blk_cell B31.out 1).trans rfl, (blk_cell B31.out 2).trans rfl⟩ (fun hHeld => ?_)
                clear hK K
                refine norm_ (a' := ?_) ?_ ?_
                rotate_left
                ·
                 show Act.put _ (some 7) _ = _
                 simp only [Act.put, y1, y2, y3, i64_w, i32_w]
                 rfl
                exact norm_ Z52 (hJ1_3_10 (g226) _ ⟨hHeld, Z56, Z57, Z59, G39.out, G45.out, N2.out, N15.out, N7.out, N16.out, Z50⟩)
             ·
              skip
              rintro ⟨g225, g226⟩ w41 ⟨hS_, h0_, h1_, h2_, h3_, h4_, h5_, h6_, h7_, h8_, h9_, h10_, h11_, h12_, h13_, h14_, h15_, h16_, h17_, h18_⟩
              have n0_ : Aside0 (w41.heap[g208]? = some (O25 a0_0 a0_1 a0_2)) := ⟨h0_⟩
              have n1_ : Aside0 (w41.heap[g209]? = some (O25 a1_0 a1_1 a1_2)) := ⟨h1_⟩
              have B32 : Aside0 (w41.heap[g225]? = some (O30 0 0 Y0)) := ⟨h2_⟩
              have B33 : Aside0 (w41.heap[g226]? = some (O30 0 0 Y0)) := ⟨h3_⟩
              have G38 := A0 h4_
              have G44 := A0 h5_
              have N1 := A0 h6_
              have N10 := A0 h7_
              have N6 := A0 h8_
              have N11 := A0 h9_
              have N17 := A0 h10_
              have N12 := A0 h11_
              have G39 := A0 h12_
              have G45 := A0 h13_
              have N2 := A0 h14_
              have N15 := A0 h15_
              have N7 := A0 h16_
              have N16 := A0 h17_
              have n18_ : Aside0 (Below w.heap.size w w41) := ⟨h18_⟩
              clear B30 B31 HB
              clear h0_ h1_ h2_ h3_ h4_ h5_ h6_ h7_ h8_ h9_ h10_ h11_ h12_ h13_ h14_ h15_ h16_ h17_ h18_
              have B30 := n0_
              have B31 := n1_
              have HB := n18_
              clear n0_ n1_ n18_
              have hHeld : Q6 g208 a0_0 a0_1 a0_2 g209 a1_0 a1_1 a1_2 w41 := hS_
              refine norm_ (a' := ?_) ?_ ?_
              rotate_left
              ·
               simp only [putAll, Act.put, y1, y2, y3]
               rfl
              refine one_ (i := 3) (N := some 26) #[true, true, true, true, false, false, false, false, false, true, true, false, false, false] rfl rfl (one_of HT_.out Z62) (by decide) (fun K hK => ?_)
              refine goes_ Tryd.func11 Z62 rfl #[.agg #[.int .i64 a1_0, .int .i64 a1_1, .string a1_2]] (by rfl) rfl rfl Z55 ?_
              with_reducible refine (laws_toWay.calls a1_0 a1_1 a1_2 t215 t216 t217 _ A20.out).mono ?_
              rintro e w42 ⟨rfl, hb⟩
              refine ⟨_, rfl, ?_⟩
              have n0_ := A0 (blk_below (g := g208) (o := O25 a0_0 a0_1 a0_2) Z56 hb)
              have n1_ := A0 (blk_below (g := g209) (o := O25 a1_0 a1_1 a1_2) Z57 hb)
              have n2_ := A0 (blk_below (g := g225) (o := O30 0 0 Y0) Z58 hb)
              have n3_ := A0 (blk_below (g := g226) (o := O30 0 0 Y0) Z59 hb)
              have n4_ := A0 (below_step Z30 hb)
              clear B30 B31 B32 B33 HB
              have B30 := n0_
              have B31 := n1_
              have B32 := n2_
              have B33 := n3_
              have HB := n4_
              clear n0_ n1_ n2_ n3_ n4_
              (try clear hb)
              (try clear hb2)
              (try clear hk)
              (try clear hi)
              refine hK.out _ _ ⟨(blk_cell B30.out 0).trans rfl, (blk_cell B30.out 1).trans rfl, (blk_cell B30.out 2).trans rfl, (blk_cell B31.out 0).trans rfl, (blk_cell B31.out 1).trans rfl, (blk_cell B31.out 2).trans rfl⟩ (fun hHeld => ?_)
              clear hK K
              refine norm_ (a' := ?_) ?_ ?_
              rotate_left
              ·
               show Act.put _ (some 26) _ = _
               simp only [Act.put, y1, y2, y3, i64_w, i32_w]
               rfl
              exact norm_ Z52 (hJ1_3_9_10 (g225, g226) _ ⟨hHeld, Z56, Z57, Z58, Z59, G38.out, G44.out, N1.out, N10.out, N6.out, N11.out, N17.out, N12.out, G39.out, G45.out, N2.out, N15.out, N7.out, N16.out, Z30⟩)
            ·
             skip
             rintro g226 w41 ⟨hS_, h0_, h1_, h2_, h3_, h4_, h5_, h6_, h7_, h8_, h9_⟩
             have n0_ : Aside0 (w41.heap[g208]? = some (O25 a0_0 a0_1 a0_2)) := ⟨h0_⟩
             have n1_ : Aside0 (w41.heap[g209]? = some (O25 a1_0 a1_1 a1_2)) := ⟨h1_⟩
             have B33 : Aside0 (w41.heap[g226]? = some (O30 0 0 Y0)) := ⟨h2_⟩
             have G39 := A0 h3_
             have G45 := A0 h4_
             have N2 := A0 h5_
             have N15 := A0 h6_
             have N7 := A0 h7_
             have N16 := A0 h8_
             have n9_ : Aside0 (Below w.heap.size w w41) := ⟨h9_⟩
             clear B30 B31 HB
             clear h0_ h1_ h2_ h3_ h4_ h5_ h6_ h7_ h8_ h9_
             have B30 := n0_
             have B31 := n1_
             have HB := n9_
             clear n0_ n1_ n9_
             have hHeld : Q6 g208 a0_0 a0_1 a0_2 g209 a1_0 a1_1 a1_2 w41 := hS_
             refine norm_ (a' := ?_) ?_ ?_
             rotate_left
             ·
              simp only [putAll, Act.put, y1, y2, y3]
              rfl
             refine two_ (i := 4) (j := 9) (Ni := some 27) (Nj := some 6) #[true, true, true, true, true, false, false, false, false, false, true, false, false, false] #[true, true, true, true, false, false, false, false, false, true, true, false, false, false] rfl rfl rfl rfl (two_of HT_.out Z62) (by decide) (by decide) (fun K hK => ?_) (fun K hK => ?_)
             ·
              skip
              refine goes_ Tryd.func25 Z62 rfl #[.agg #[.int .i64 t212, .int .i64 t213, .string t214], .agg #[.int .i64 t215, .int .i64 t216, .string t217]] (by rfl) rfl rfl Z55 ?_
              with_reducible refine (spec_SwapTails.calls k t212 t213 t214 t215 t216 t217 t218 t219 t220 t221 t222 t223 t224 _ A21.out).mono ?_
              rintro e w42 ⟨rfl, hb⟩
              refine ⟨_, rfl, ?_⟩
              have n0_ := A0 (blk_below (g := g208) (o := O25 a0_0 a0_1 a0_2) Z56 hb)
              have n1_ := A0 (blk_below (g := g209) (o := O25 a1_0 a1_1 a1_2) Z57 hb)
              have n2_ := A0 (blk_below (g := g226) (o := O30 0 0 Y0) Z59 hb)
              have n3_ := A0 (below_step Z50 hb)
              clear B30 B31 B33 HB
              have B30 := n0_
              have B31 := n1_
              have B33 := n2_
              have HB := n3_
              clear n0_ n1_ n2_ n3_
              (try clear hb)
              (try clear hb2)
              (try clear hk)
              (try clear hi)
              refine hK.out _ _ ⟨(blk_cell B30.out 0).trans rfl, (blk_cell B30.out 1).trans rfl, (blk_cell B30.out 2).trans rfl, (blk_cell B31.out 0).trans rfl, (blk_cell B31.out 1).trans rfl, (blk_cell B31.out 2).trans rfl⟩ (fun hHeld => ?_)
              clear hK K
              refine norm_ (a' := ?_) ?_ ?_
              rotate_left
              ·
               show Act.put _ (some 27) _ = _
               simp only [Act.put, y1, y2, y3, i64_w, i32_w]
               rfl
              refine pure_ (i := 5) (N := some 22) (v := ?_) (a' := ?_) #[true, true, true, true, true, true, false, false, false, false, true, false, false, false] rfl rfl (any_of HT_.out Z62) (fun _ _ _ h => h) (Or.inl ⟨by rfl, ?_⟩) ?_ ?_
              rotate_left
              ·
               intro w'
               go_simp
               with_reducible rfl
              rotate_left
              ·
               simp only [Act.put, y1, y2, y3, i64_w, i32_w]
               rfl
              refine pure_ (i := 6) (N := some 28) (v := ?_) (a' := ?_) #[true, true, true, true, true, true, true, false, false, false, true, false, false, false] rfl rfl (any_of HT_.out Z62) (fun _ _ _ h => h) (Or.inl ⟨by rfl, ?_⟩) ?_ ?_
              rotate_left
              ·
               intro w'
               go_simp
               with_reducible rfl
              rotate_left
              ·
               simp only [Act.put, y1, y2, y3, i64_w, i32_w]
               rfl
              refine pure_ (i := 7) (N := some 29) (v := ?_) (a' := ?_) #[true, true, true, true, true, true, true, true, false, false, true, false, false, false] rfl rfl (any_of HT_.out Z62) (fun _ _ _ h => h) (Or.inl ⟨by rfl, ?_⟩) ?_ ?_
              rotate_left
              ·
               intro w'
               go_simp
               with_reducible rfl
              rotate_left
              ·
               simp only [Act.put, y1, y2, y3, i64_w, i32_w]
               rfl
              refine pure_ (i := 8) (N := some 30) (v := ?_) (a' := ?_) #[true, true, true, true, true, true, true, true, true, false, true, false, false, false] rfl rfl (any_of HT_.out Z62) (fun _ _ _ h => h) (Or.inl ⟨by rfl, ?_⟩) ?_ ?_
              rotate_left
              ·
               intro w'
               go_simp
               with_reducible rfl
              rotate_left
              ·
               simp only [Act.put, y1, y2, y3, i64_w, i32_w]
               rfl
              exact norm_ Z52 (hJ1_3_4_10 (g226) _ ⟨hHeld, Z56, Z57, Z59, G39.out, G45.out, N2.out, N15.out, N7.out, N16.out, Z50⟩)
             ·
              skip
              refine box_step ?hg (N := 6) ?hd (cs := #[.int .i64 0, .int .i64 0, .string Y0]) (t := 30) ?hr ?_; (case hd => rfl); (case hg => rfl); (case hr => first | (go_simp; done) | (go_simp; rfl))
              intro g225 hg w42 hbox hb
              have n0_ := A0 (blk_below (g := g208) (o := O25 a0_0 a0_1 a0_2) Z56 hb)
              have n1_ := A0 (blk_below (g := g209) (o := O25 a1_0 a1_1 a1_2) Z57 hb)
              have n2_ := A0 (blk_below (g := g226) (o := O30 0 0 Y0) Z59 hb)
              have n3_ := A0 (below_step Z50 hb)
              have B32 := A0 (hbox)
              have G38 := A0 ((Z9 : w.heap.size ≤ g225))
              have G44 := A0 ((Z9 : w.heap.size ≤ g225))
              have N1 := A0 ((Z21 : g208 ≠ g225))
              have N10 := A0 ((Z22 : g225 ≠ g208))
              have N6 := A0 ((Z23 : g209 ≠ g225))
              have N11 := A0 ((Z24 : g225 ≠ g209))
              have N17 := A0 ((Z11 : g226 ≠ g225))
              have N12 := A0 ((Z12 : g225 ≠ g226))
              clear B30 B31 B33 HB
              have B30 := n0_
              have B31 := n1_
              have B33 := n2_
              have HB := n3_
              clear n0_ n1_ n2_ n3_
              clear hb hbox hg
              refine hK.out _ _ ⟨(blk_cell B30.out 0).trans rfl, (blk_cell B30.out 1).trans rfl, (blk_cell B30.out 2).trans rfl, (blk_cell B31.out 0).trans rfl, (blk_cell B31.out 1).trans rfl, (blk_cell B31.out 2).trans rfl⟩ (fun hHeld => ?_)
              clear hK K
              refine norm_ (a' := ?_) ?_ ?_
              rotate_left
              ·
               show Act.put _ (some 6) _ = _
               simp only [Act.put, y1, y2, y3, i64_w, i32_w]
               rfl
              exact norm_ Z52 (hJ1_3_9_10 (g225, g226) _ ⟨hHeld, Z56, Z57, Z58, Z59, G38.out, G44.out, N1.out, N10.out, N6.out, N11.out, N17.out, N12.out, G39.out, G45.out, N2.out, N15.out, N7.out, N16.out, Z29⟩)
           ·
            skip
            rintro g225 w41 ⟨hS_, h0_, h1_, h2_, h3_, h4_, h5_, h6_, h7_, h8_, h9_⟩
            have n0_ : Aside0 (w41.heap[g208]? = some (O25 a0_0 a0_1 a0_2)) := ⟨h0_⟩
            have n1_ : Aside0 (w41.heap[g209]? = some (O25 a1_0 a1_1 a1_2)) := ⟨h1_⟩
            have B32 : Aside0 (w41.heap[g225]? = some (O30 0 0 Y0)) := ⟨h2_⟩
            have G38 := A0 h3_
            have G44 := A0 h4_
            have N1 := A0 h5_
            have N10 := A0 h6_
            have N6 := A0 h7_
            have N11 := A0 h8_
            have n9_ : Aside0 (Below w.heap.size w w41) := ⟨h9_⟩
            clear B30 B31 HB
            clear h0_ h1_ h2_ h3_ h4_ h5_ h6_ h7_ h8_ h9_
            have B30 := n0_
            have B31 := n1_
            have HB := n9_
            clear n0_ n1_ n9_
            have hHeld : Q6 g208 a0_0 a0_1 a0_2 g209 a1_0 a1_1 a1_2 w41 := hS_
            refine norm_ (a' := ?_) ?_ ?_
            rotate_left
            ·
             simp only [putAll, Act.put, y1, y2, y3]
             rfl
            refine two_ (i := 4) (j := 10) (Ni := some 27) (Nj := some 7) #[true, true, true, true, true, false, false, false, false, true, false, false, false, false] #[true, true, true, true, false, false, false, false, false, true, true, false, false, false] rfl rfl rfl rfl (two_of HT_.out Z62) (by decide) (by decide) (fun K hK => ?_) (fun K hK => ?_)
            ·
             skip
             refine goes_ Tryd.func25 Z62 rfl #[.agg #[.int .i64 t212, .int .i64 t213, .string t214], .agg #[.int .i64 t215, .int .i64 t216, .string t217]] (by rfl) rfl rfl Z55 ?_
             with_reducible refine (spec_SwapTails.calls k t212 t213 t214 t215 t216 t217 t218 t219 t220 t221 t222 t223 t224 _ A21.out).mono ?_
             rintro e w42 ⟨rfl, hb⟩
             refine ⟨_, rfl, ?_⟩
             have n0_ := A0 (blk_below (g := g208) (o := O25 a0_0 a0_1 a0_2) Z56 hb)
             have n1_ := A0 (blk_below (g := g209) (o := O25 a1_0 a1_1 a1_2) Z57 hb)
             have n2_ := A0 (blk_below (g := g225) (o := O30 0 0 Y0) Z58 hb)
             have n3_ := A0 (below_step Z49 hb)
             clear B30 B31 B32 HB
             have B30 := n0_
             have B31 := n1_
             have B32 := n2_
             have HB := n3_
             clear n0_ n1_ n2_ n3_
             (try clear hb)
             (try clear hb2)
             (try clear hk)
             (try clear hi)
             refine hK.out _ _ ⟨(blk_cell B30.out 0).trans rfl, (blk_cell B30.out 1).trans rfl, (blk_cell B30.out 2).trans rfl, (blk_cell B31.out 0).trans rfl, (blk_cell B31.out 1).trans rfl, (blk_cell B31.out 2).trans rfl⟩ (fun hHeld => ?_)
             clear hK K
             refine norm_ (a' := ?_) ?_ ?_
             rotate_left
             ·
              show Act.put _ (some 27) _ = _
              simp only [Act.put, y1, y2, y3, i64_w, i32_w]
              rfl
             refine pure_ (i := 5) (N := some 22) (v := ?_) (a' := ?_) #[true, true, true, true, true, true, false, false, false, true, false, false, false, false] rfl rfl (any_of HT_.out Z62) (fun _ _ _ h => h) (Or.inl ⟨by rfl, ?_⟩) ?_ ?_
             rotate_left
             ·
              intro w'
              go_simp
              with_reducible rfl
             rotate_left
             ·
              simp only [Act.put, y1, y2, y3, i64_w, i32_w]
              rfl
             refine pure_ (i := 6) (N := some 28) (v := ?_) (a' := ?_) #[true, true, true, true, true, true, true, false, false, true, false, false, false, false] rfl rfl (any_of HT_.out Z62) (fun _ _ _ h => h) (Or.inl ⟨by rfl, ?_⟩) ?_ ?_
             rotate_left
             ·
              intro w'
              go_simp
              with_reducible rfl
             rotate_left
             ·
              simp only [Act.put, y1, y2, y3, i64_w, i32_w]
              rfl
             refine pure_ (i := 7) (N := some 29) (v := ?_) (a' := ?_) #[true, true, true, true, true, true, true, true, false, true, false, false, false, false] rfl rfl (any_of HT_.out Z62) (fun _ _ _ h => h) (Or.inl ⟨by rfl, ?_⟩) ?_ ?_
             rotate_left
             ·
              intro w'
              go_simp
              with_reducible rfl
             rotate_left
             ·
              simp only [Act.put, y1, y2, y3, i64_w, i32_w]
              rfl
             refine pure_ (i := 8) (N := some 30) (v := ?_) (a' := ?_) #[true, true, true, true, true, true, true, true, true, true, false, false, false, false] rfl rfl (any_of HT_.out Z62) (fun _ _ _ h => h) (Or.inl ⟨by rfl, ?_⟩) ?_ ?_
             rotate_left
             ·
              intro w'
              go_simp
              with_reducible rfl
             rotate_left
             ·
              simp only [Act.put, y1, y2, y3, i64_w, i32_w]
              rfl
             exact norm_ Z52 (hJ1_3_4_9 (g225) _ ⟨hHeld, Z56, Z57, Z58, G38.out, G44.out, N1.out, N10.out, N6.out, N11.out, Z49⟩)
            ·
             skip
             refine box_step ?hg (N := 7) ?hd (cs := #[.int .i64 0, .int .i64 0, .string Y0]) (t := 30) ?hr ?_; (case hd => rfl); (case hg => rfl); (case hr => first | (go_simp; done) | (go_simp; rfl))
             intro g226 hg w42 hbox hb
             have n0_ := A0 (blk_below (g := g208) (o := O25 a0_0 a0_1 a0_2) Z56 hb)
             have n1_ := A0 (blk_below (g := g209) (o := O25 a1_0 a1_1 a1_2) Z57 hb)
             have n2_ := A0 (blk_below (g := g225) (o := O30 0 0 Y0) Z58 hb)
             have n3_ := A0 (below_step Z49 hb)
             have B33 := A0 (hbox)
             have G39 := A0 ((Z10 : w.heap.size ≤ g226))
             have G45 := A0 ((Z10 : w.heap.size ≤ g226))
             have N2 := A0 ((Z25 : g208 ≠ g226))
             have N15 := A0 ((Z26 : g226 ≠ g208))
             have N7 := A0 ((Z27 : g209 ≠ g226))
             have N16 := A0 ((Z28 : g226 ≠ g209))
             have N12 := A0 ((Z13 : g225 ≠ g226))
             have N17 := A0 ((Z14 : g226 ≠ g225))
             clear B30 B31 B32 HB
             have B30 := n0_
             have B31 := n1_
             have B32 := n2_
             have HB := n3_
             clear n0_ n1_ n2_ n3_
             clear hb hbox hg
             refine hK.out _ _ ⟨(blk_cell B30.out 0).trans rfl, (blk_cell B30.out 1).trans rfl, (blk_cell B30.out 2).trans rfl, (blk_cell B31.out 0).trans rfl, (blk_cell B31.out 1).trans rfl, (blk_cell B31.out 2).trans rfl⟩ (fun hHeld => ?_)
             clear hK K
             refine norm_ (a' := ?_) ?_ ?_
             rotate_left
             ·
              show Act.put _ (some 7) _ = _
              simp only [Act.put, y1, y2, y3, i64_w, i32_w]
              rfl
             exact norm_ Z52 (hJ1_3_9_10 (g225, g226) _ ⟨hHeld, Z56, Z57, Z58, Z59, G38.out, G44.out, N1.out, N10.out, N6.out, N11.out, N17.out, N12.out, G39.out, G45.out, N2.out, N15.out, N7.out, N16.out, Z30⟩)
          ·
           skip
           rintro _ w41 ⟨hS_, h0_, h1_, h2_⟩
           have n0_ : Aside0 (w41.heap[g208]? = some (O25 a0_0 a0_1 a0_2)) := ⟨h0_⟩
           have n1_ : Aside0 (w41.heap[g209]? = some (O25 a1_0 a1_1 a1_2)) := ⟨h1_⟩
           have n2_ : Aside0 (Below w.heap.size w w41) := ⟨h2_⟩
           clear B30 B31 HB
           clear h0_ h1_ h2_
           have B30 := n0_
           have B31 := n1_
           have HB := n2_
           clear n0_ n1_ n2_
           have hHeld : Q6 g208 a0_0 a0_1 a0_2 g209 a1_0 a1_1 a1_2 w41 := hS_
           refine norm_ (a' := ?_) ?_ ?_
           rotate_left
           ·
            simp only [putAll, Act.put, y1, y2, y3]
            rfl
           refine two_ (i := 9) (j := 10) (Ni := some 6) (Nj := some 7) #[true, true, true, true, true, true, true, true, true, true, false, false, false, false] #[true, true, true, true, true, true, true, true, true, false, true, false, false, false] rfl rfl rfl rfl (two_of HT_.out Z62) (by decide) (by decide) (fun K hK => ?_) (fun K hK => ?_)
           ·
            skip
            refine box_step ?hg (N := 6) ?hd (cs := #[.int .i64 0, .int .i64 0, .string Y0]) (t := 30) ?hr ?_; (case hd => rfl); (case hg => rfl); (case hr => first | (go_simp; done) | (go_simp; rfl))
            intro g225 hg w42 hbox hb
            have n0_ := A0 (blk_below (g := g208) (o := O25 a0_0 a0_1 a0_2) Z56 hb)
            have n1_ := A0 (blk_below (g := g209) (o := O25 a1_0 a1_1 a1_2) Z57 hb)
            have n2_ := A0 (below_step Z53 hb)
            have B32 := A0 (hbox)
            have G38 := A0 ((Z47 : w.heap.size ≤ g225))
            have G44 := A0 ((Z47 : w.heap.size ≤ g225))
            have N1 := A0 ((Z21 : g208 ≠ g225))
            have N10 := A0 ((Z22 : g225 ≠ g208))
            have N6 := A0 ((Z23 : g209 ≠ g225))
            have N11 := A0 ((Z24 : g225 ≠ g209))
            clear B30 B31 HB
            have B30 := n0_
            have B31 := n1_
            have HB := n2_
            clear n0_ n1_ n2_
            clear hb hbox hg
            refine hK.out _ _ ⟨(blk_cell B30.out 0).trans rfl, (blk_cell B30.out 1).trans rfl, (blk_cell B30.out 2).trans rfl, (blk_cell B31.out 0).trans rfl, (blk_cell B31.out 1).trans rfl, (blk_cell B31.out 2).trans rfl⟩ (fun hHeld => ?_)
            clear hK K
            refine norm_ (a' := ?_) ?_ ?_
            rotate_left
            ·
             show Act.put _ (some 6) _ = _
             simp only [Act.put, y1, y2, y3, i64_w, i32_w]
             rfl
            exact norm_ Z52 (hJ1_3_4_9 (g225) _ ⟨hHeld, Z56, Z57, Z58, G38.out, G44.out, N1.out, N10.out, N6.out, N11.out, Z49⟩)
           ·
            skip
            refine box_step ?hg (N := 7) ?hd (cs := #[.int .i64 0, .int .i64 0, .string Y0]) (t := 30) ?hr ?_; (case hd => rfl); (case hg => rfl); (case hr => first | (go_simp; done) | (go_simp; rfl))
            intro g226 hg w42 hbox hb
            have n0_ := A0 (blk_below (g := g208) (o := O25 a0_0 a0_1 a0_2) Z56 hb)
            have n1_ := A0 (blk_below (g := g209) (o := O25 a1_0 a1_1 a1_2) Z57 hb)
            have n2_ := A0 (below_step Z53 hb)
            have B33 := A0 (hbox)
            have G39 := A0 ((Z48 : w.heap.size ≤ g226))
            have G45 := A0 ((Z48 : w.heap.size ≤ g226))
            have N2 := A0 ((Z25 : g208 ≠ g226))
            have N15 := A0 ((Z26 : g226 ≠ g208))
            have N7 := A0 ((Z27 : g209 ≠ g226))
            have N16 := A0 ((Z28 : g226 ≠ g209))
            clear B30 B31 HB
            have B30 := n0_
            have B31 := n1_
            have HB := n2_
            clear n0_ n1_ n2_
            clear hb hbox hg
            refine hK.out _ _ ⟨(blk_cell B30.out 0).trans rfl, (blk_cell B30.out 1).trans rfl, (blk_cell B30.out 2).trans rfl, (blk_cell B31.out 0).trans rfl, (blk_cell B31.out 1).trans rfl, (blk_cell B31.out 2).trans rfl⟩ (fun hHeld => ?_)
            clear hK K
            refine norm_ (a' := ?_) ?_ ?_
            rotate_left
            ·
             show Act.put _ (some 7) _ = _
             simp only [Act.put, y1, y2, y3, i64_w, i32_w]
             rfl
            exact norm_ Z52 (hJ1_3_4_10 (g226) _ ⟨hHeld, Z56, Z57, Z59, G39.out, G45.out, N2.out, N15.out, N7.out, N16.out, Z50⟩)
         ·
          skip
          rintro ⟨g225, g226⟩ w42 ⟨hS_, h0_, h1_, h2_, h3_, h4_, h5_, h6_, h7_, h8_, h9_, h10_, h11_, h12_, h13_, h14_, h15_, h16_, h17_, h18_⟩
          have n0_ : Aside0 (w42.heap[g208]? = some (O25 a0_0 a0_1 a0_2)) := ⟨h0_⟩
          have n1_ : Aside0 (w42.heap[g209]? = some (O25 a1_0 a1_1 a1_2)) := ⟨h1_⟩
          have B32 : Aside0 (w42.heap[g225]? = some (O30 0 0 Y0)) := ⟨h2_⟩
          have B33 : Aside0 (w42.heap[g226]? = some (O30 0 0 Y0)) := ⟨h3_⟩
          have G38 := A0 h4_
          have G44 := A0 h5_
          have N1 := A0 h6_
          have N10 := A0 h7_
          have N6 := A0 h8_
          have N11 := A0 h9_
          have N17 := A0 h10_
          have N12 := A0 h11_
          have G39 := A0 h12_
          have G45 := A0 h13_
          have N2 := A0 h14_
          have N15 := A0 h15_
          have N7 := A0 h16_
          have N16 := A0 h17_
          have n18_ : Aside0 (Below w.heap.size w w42) := ⟨h18_⟩
          clear B30 B31 HB
          clear h0_ h1_ h2_ h3_ h4_ h5_ h6_ h7_ h8_ h9_ h10_ h11_ h12_ h13_ h14_ h15_ h16_ h17_ h18_
          have B30 := n0_
          have B31 := n1_
          have HB := n18_
          clear n0_ n1_ n18_
          have hHeld : Q6 g208 a0_0 a0_1 a0_2 g209 a1_0 a1_1 a1_2 w42 := hS_
          refine norm_ (a' := ?_) ?_ ?_
          rotate_left
          ·
           simp only [putAll, Act.put, y1, y2, y3]
           rfl
          refine one_ (i := 4) (N := some 27) #[true, true, true, true, true, false, false, false, false, true, true, false, false, false] rfl rfl (one_of HT_.out Z62) (by decide) (fun K hK => ?_)
          refine goes_ Tryd.func25 Z62 rfl #[.agg #[.int .i64 t212, .int .i64 t213, .string t214], .agg #[.int .i64 t215, .int .i64 t216, .string t217]] (by rfl) rfl rfl Z55 ?_
          with_reducible refine (spec_SwapTails.calls k t212 t213 t214 t215 t216 t217 t218 t219 t220 t221 t222 t223 t224 _ A21.out).mono ?_
          rintro e w43 ⟨rfl, hb⟩
          refine ⟨_, rfl, ?_⟩
          have n0_ := A0 (blk_below (g := g208) (o := O25 a0_0 a0_1 a0_2) Z56 hb)
          have n1_ := A0 (blk_below (g := g209) (o := O25 a1_0 a1_1 a1_2) Z57 hb)
          have n2_ := A0 (blk_below (g := g225) (o := O30 0 0 Y0) Z58 hb)
          have n3_ := A0 (blk_below (g := g226) (o := O30 0 0 Y0) Z59 hb)
          have n4_ := A0 (below_step Z30 hb)
          clear B30 B31 B32 B33 HB
          have B30 := n0_
          have B31 := n1_
          have B32 := n2_
          have B33 := n3_
          have HB := n4_
          clear n0_ n1_ n2_ n3_ n4_
          (try clear hb)
          (try clear hb2)
          (try clear hk)
          (try clear hi)
          refine hK.out _ _ ⟨(blk_cell B30.out 0).trans rfl, (blk_cell B30.out 1).trans rfl, (blk_cell B30.out 2).trans rfl, (blk_cell B31.out 0).trans rfl, (blk_cell B31.out 1).trans rfl, (blk_cell B31.out 2).trans rfl⟩ (fun hHeld => ?_)
          clear hK K
          refine norm_ (a' := ?_) ?_ ?_
          rotate_left
          ·
           show Act.put _ (some 27) _ = _
           simp only [Act.put, y1, y2, y3, i64_w, i32_w]
           rfl
          refine pure_ (i := 5) (N := some 22) (v := ?_) (a' := ?_) #[true, true, true, true, true, true, false, false, false, true, true, false, false, false] rfl rfl (any_of HT_.out Z62) (fun _ _ _ h => h) (Or.inl ⟨by rfl, ?_⟩) ?_ ?_
          rotate_left
          ·
           intro w'
           go_simp
           with_reducible rfl
          rotate_left
          ·
           simp only [Act.put, y1, y2, y3, i64_w, i32_w]
           rfl
          refine pure_ (i := 6) (N := some 28) (v := ?_) (a' := ?_) #[true, true, true, true, true, true, true, false, false, true, true, false, false, false] rfl rfl (any_of HT_.out Z62) (fun _ _ _ h => h) (Or.inl ⟨by rfl, ?_⟩) ?_ ?_
          rotate_left
          ·
           intro w'
           go_simp
           with_reducible rfl
          rotate_left
          ·
           simp only [Act.put, y1, y2, y3, i64_w, i32_w]
           rfl
          refine pure_ (i := 7) (N := some 29) (v := ?_) (a' := ?_) #[true, true, true, true, true, true, true, true, false, true, true, false, false, false] rfl rfl (any_of HT_.out Z62) (fun _ _ _ h => h) (Or.inl ⟨by rfl, ?_⟩) ?_ ?_
          rotate_left
          ·
           intro w'
           go_simp
           with_reducible rfl
          rotate_left
          ·
           simp only [Act.put, y1, y2, y3, i64_w, i32_w]
           rfl
          refine pure_ (i := 8) (N := some 30) (v := ?_) (a' := ?_) #[true, true, true, true, true, true, true, true, true, true, true, false, false, false] rfl rfl (any_of HT_.out Z62) (fun _ _ _ h => h) (Or.inl ⟨by rfl, ?_⟩) ?_ ?_
          rotate_left
          ·
           intro w'
           go_simp
           with_reducible rfl
          rotate_left
          ·
           simp only [Act.put, y1, y2, y3, i64_w, i32_w]
           rfl
          exact norm_ Z52 (hJ1_3_4_9_10 (g225, g226) _ ⟨hHeld, Z56, Z57, Z58, Z59, G38.out, G44.out, N1.out, N10.out, N6.out, N11.out, N17.out, N12.out, G39.out, G45.out, N2.out, N15.out, N7.out, N16.out, Z30⟩)
        ·
         skip
         rintro g226 w42 ⟨hS_, h0_, h1_, h2_, h3_, h4_, h5_, h6_, h7_, h8_, h9_⟩
         have n0_ : Aside0 (w42.heap[g208]? = some (O25 a0_0 a0_1 a0_2)) := ⟨h0_⟩
         have n1_ : Aside0 (w42.heap[g209]? = some (O25 a1_0 a1_1 a1_2)) := ⟨h1_⟩
         have B33 : Aside0 (w42.heap[g226]? = some (O30 0 0 Y0)) := ⟨h2_⟩
         have G39 := A0 h3_
         have G45 := A0 h4_
         have N2 := A0 h5_
         have N15 := A0 h6_
         have N7 := A0 h7_
         have N16 := A0 h8_
         have n9_ : Aside0 (Below w.heap.size w w42) := ⟨h9_⟩
         clear B30 B31 HB
         clear h0_ h1_ h2_ h3_ h4_ h5_ h6_ h7_ h8_ h9_
         have B30 := n0_
         have B31 := n1_
         have HB := n9_
         clear n0_ n1_ n9_
         have hHeld : Q6 g208 a0_0 a0_1 a0_2 g209 a1_0 a1_1 a1_2 w42 := hS_
         refine norm_ (a' := ?_) ?_ ?_
         rotate_left
         ·
          simp only [putAll, Act.put, y1, y2, y3]
          rfl
         refine one_ (i := 9) (N := some 6) #[true, true, true, true, true, true, true, true, true, true, true, false, false, false] rfl rfl (one_of HT_.out Z62) (by decide) (fun K hK => ?_)
         refine box_step ?hg (N := 6) ?hd (cs := #[.int .i64 0, .int .i64 0, .string Y0]) (t := 30) ?hr ?_; (case hd => rfl); (case hg => rfl); (case hr => first | (go_simp; done) | (go_simp; rfl))
         intro g225 hg w43 hbox hb
         have n0_ := A0 (blk_below (g := g208) (o := O25 a0_0 a0_1 a0_2) Z56 hb)
         have n1_ := A0 (blk_below (g := g209) (o := O25 a1_0 a1_1 a1_2) Z57 hb)
         have n2_ := A0 (blk_below (g := g226) (o := O30 0 0 Y0) Z59 hb)
         have n3_ := A0 (below_step Z50 hb)
         have B32 := A0 (hbox)
         have G38 := A0 ((Z9 : w.heap.size ≤ g225))
         have G44 := A0 ((Z9 : w.heap.size ≤ g225))
         have N1 := A0 ((Z21 : g208 ≠ g225))
         have N10 := A0 ((Z22 : g225 ≠ g208))
         have N6 := A0 ((Z23 : g209 ≠ g225))
         have N11 := A0 ((Z24 : g225 ≠ g209))
         have N17 := A0 ((Z11 : g226 ≠ g225))
         have N12 := A0 ((Z12 : g225 ≠ g226))
         clear B30 B31 B33 HB
         have B30 := n0_
         have B31 := n1_
         have B33 := n2_
         have HB := n3_
         clear n0_ n1_ n2_ n3_
         clear hb hbox hg
         refine hK.out _ _ ⟨(blk_cell B30.out 0).trans rfl, (blk_cell B30.out 1).trans rfl, (blk_cell B30.out 2).trans rfl, (blk_cell B31.out 0).trans rfl, (blk_cell B31.out 1).trans rfl, (blk_cell B31.out 2).trans rfl⟩ (fun hHeld => ?_)
         clear hK K
         refine norm_ (a' := ?_) ?_ ?_
         rotate_left
         ·
          show Act.put _ (some 6) _ = _
          simp only [Act.put, y1, y2, y3, i64_w, i32_w]
          rfl
         exact norm_ Z52 (hJ1_3_4_9_10 (g225, g226) _ ⟨hHeld, Z56, Z57, Z58, Z59, G38.out, G44.out, N1.out, N10.out, N6.out, N11.out, N17.out, N12.out, G39.out, G45.out, N2.out, N15.out, N7.out, N16.out, Z29⟩)
       ·
        skip
        rintro g225 w42 ⟨hS_, h0_, h1_, h2_, h3_, h4_, h5_, h6_, h7_, h8_, h9_⟩
        have n0_ : Aside0 (w42.heap[g208]? = some (O25 a0_0 a0_1 a0_2)) := ⟨h0_⟩
        have n1_ : Aside0 (w42.heap[g209]? = some (O25 a1_0 a1_1 a1_2)) := ⟨h1_⟩
        have B32 : Aside0 (w42.heap[g225]? = some (O30 0 0 Y0)) := ⟨h2_⟩
        have G38 := A0 h3_
        have G44 := A0 h4_
        have N1 := A0 h5_
        have N10 := A0 h6_
        have N6 := A0 h7_
        have N11 := A0 h8_
        have n9_ : Aside0 (Below w.heap.size w w42) := ⟨h9_⟩
        clear B30 B31 HB
        clear h0_ h1_ h2_ h3_ h4_ h5_ h6_ h7_ h8_ h9_
        have B30 := n0_
        have B31 := n1_
        have HB := n9_
        clear n0_ n1_ n9_
        have hHeld : Q6 g208 a0_0 a0_1 a0_2 g209 a1_0 a1_1 a1_2 w42 := hS_
        refine norm_ (a' := ?_) ?_ ?_
        rotate_left
        ·
         simp only [putAll, Act.put, y1, y2, y3]
         rfl
        refine one_ (i := 10) (N := some 7) #[true, true, true, true, true, true, true, true, true, true, true, false, false, false] rfl rfl (one_of HT_.out Z62) (by decide) (fun K hK => ?_)
        refine box_step ?hg (N := 7) ?hd (cs := #[.int .i64 0, .int .i64 0, .string Y0]) (t := 30) ?hr ?_; (case hd => rfl); (case hg => rfl); (case hr => first | (go_simp; done) | (go_simp; rfl))
        intro g226 hg w43 hbox hb
        have n0_ := A0 (blk_below (g := g208) (o := O25 a0_0 a0_1 a0_2) Z56 hb)
        have n1_ := A0 (blk_below (g := g209) (o := O25 a1_0 a1_1 a1_2) Z57 hb)
        have n2_ := A0 (blk_below (g := g225) (o := O30 0 0 Y0) Z58 hb)
        have n3_ := A0 (below_step Z49 hb)
        have B33 := A0 (hbox)
        have G39 := A0 ((Z10 : w.heap.size ≤ g226))
        have G45 := A0 ((Z10 : w.heap.size ≤ g226))
        have N2 := A0 ((Z25 : g208 ≠ g226))
        have N15 := A0 ((Z26 : g226 ≠ g208))
        have N7 := A0 ((Z27 : g209 ≠ g226))
        have N16 := A0 ((Z28 : g226 ≠ g209))
        have N12 := A0 ((Z13 : g225 ≠ g226))
        have N17 := A0 ((Z14 : g226 ≠ g225))
        clear B30 B31 B32 HB
        have B30 := n0_
        have B31 := n1_
        have B32 := n2_
        have HB := n3_
        clear n0_ n1_ n2_ n3_
        clear hb hbox hg
        refine hK.out _ _ ⟨(blk_cell B30.out 0).trans rfl, (blk_cell B30.out 1).trans rfl, (blk_cell B30.out 2).trans rfl, (blk_cell B31.out 0).trans rfl, (blk_cell B31.out 1).trans rfl, (blk_cell B31.out 2).trans rfl⟩ (fun hHeld => ?_)
        clear hK K
        refine norm_ (a' := ?_) ?_ ?_
        rotate_left
        ·
         show Act.put _ (some 7) _ = _
         simp only [Act.put, y1, y2, y3, i64_w, i32_w]
         rfl
        exact norm_ Z52 (hJ1_3_4_9_10 (g225, g226) _ ⟨hHeld, Z56, Z57, Z58, Z59, G38.out, G44.out, N1.out, N10.out, N6.out, N11.out, N17.out, N12.out, G39.out, G45.out, N2.out, N15.out, N7.out, N16.out, Z30⟩)
      rintro ⟨g225, g226⟩ w43 ⟨hS_, h0_, h1_, h2_, h3_, h4_, h5_, h6_, h7_, h8_, h9_, h10_, h11_, h12_, h13_, h14_, h15_, h16_, h17_, h18_⟩
      have n0_ : Aside0 (w43.heap[g208]? = some (O25 a0_0 a0_1 a0_2)) := ⟨h0_⟩
      have n1_ : Aside0 (w43.heap[g209]? = some (O25 a1_0 a1_1 a1_2)) := ⟨h1_⟩
      have B32 : Aside0 (w43.heap[g225]? = some (O30 0 0 Y0)) := ⟨h2_⟩
      have B33 : Aside0 (w43.heap[g226]? = some (O30 0 0 Y0)) := ⟨h3_⟩
      have G38 := A0 h4_
      have G44 := A0 h5_
      have N1 := A0 h6_
      have N10 := A0 h7_
      have N6 := A0 h8_
      have N11 := A0 h9_
      have N17 := A0 h10_
      have N12 := A0 h11_
      have G39 := A0 h12_
      have G45 := A0 h13_
      have N2 := A0 h14_
      have N15 := A0 h15_
      have N7 := A0 h16_
      have N16 := A0 h17_
      have n18_ : Aside0 (Below w.heap.size w w43) := ⟨h18_⟩
      clear B30 B31 HB
      clear h0_ h1_ h2_ h3_ h4_ h5_ h6_ h7_ h8_ h9_ h10_ h11_ h12_ h13_ h14_ h15_ h16_ h17_ h18_
      have B30 := n0_
      have B31 := n1_
      have HB := n18_
      clear n0_ n1_ n18_
      have hHeld : Q6 g208 a0_0 a0_1 a0_2 g209 a1_0 a1_1 a1_2 w43 := hS_
      refine norm_ (a' := ?_) ?_ ?_
      rotate_left
      ·
       simp only [putAll, Act.put, y1, y2, y3]
       rfl
      refine one_ (i := 11) (N := none) #[true, true, true, true, true, true, true, true, true, true, true, true, false, false] rfl rfl (one_of HT_.out Z62) (by decide) (fun K hK => ?_)
      have hs44 : w43.cell? ⟨g225, 0, none⟩ = some (.int .i64 0) := (blk_cell B32.out 0).trans rfl
      have hfs44 := blk_frozen B32.out 0
      have hns44_0 := N1.out
      have hns44_1 := N6.out
      have hns44_3 := N17.out
      have hms44_0 := N10.out
      have hms44_1 := N11.out
      have hms44_3 := N12.out
      have hs45 : w43.cell? ⟨g225, 1, none⟩ = some (.int .i64 0) := (blk_cell B32.out 1).trans rfl
      have hfs45 := blk_frozen B32.out 1
      have hns45_0 := N1.out
      have hns45_1 := N6.out
      have hns45_3 := N17.out
      have hms45_0 := N10.out
      have hms45_1 := N11.out
      have hms45_3 := N12.out
      have hs46 : w43.cell? ⟨g225, 2, none⟩ = some (.string Y0) := (blk_cell B32.out 2).trans rfl
      have hfs46 := blk_frozen B32.out 2
      have hns46_0 := N1.out
      have hns46_1 := N6.out
      have hns46_3 := N17.out
      have hms46_0 := N10.out
      have hms46_1 := N11.out
      have hms46_3 := N12.out
      refine skip_ (w1 := ?_) (by rfl) rfl ?_ ?_
      rotate_left
      ·
       go_simp
       rfl
      refine hK.out _ _ ⟨((cell_far (p := ⟨g225, _, none⟩) N1.out _).trans (((cell_far (p := ⟨g225, _, none⟩) N1.out _).trans (((cell_far (p := ⟨g225, _, none⟩) N1.out _).trans (hHeld.1)))))), ((cell_far (p := ⟨g225, _, none⟩) N1.out _).trans (((cell_far (p := ⟨g225, _, none⟩) N1.out _).trans (((cell_far (p := ⟨g225, _, none⟩) N1.out _).trans (hHeld.2.1)))))), ((cell_far (p := ⟨g225, _, none⟩) N1.out _).trans (((cell_far (p := ⟨g225, _, none⟩) N1.out _).trans (((cell_far (p := ⟨g225, _, none⟩) N1.out _).trans (hHeld.2.2.1)))))), ((cell_far (p := ⟨g225, _, none⟩) N6.out _).trans (((cell_far (p := ⟨g225, _, none⟩) N6.out _).trans (((cell_far (p := ⟨g225, _, none⟩) N6.out _).trans (hHeld.2.2.2.1)))))), ((cell_far (p := ⟨g225, _, none⟩) N6.out _).trans (((cell_far (p := ⟨g225, _, none⟩) N6.out _).trans (((cell_far (p := ⟨g225, _, none⟩) N6.out _).trans (hHeld.2.2.2.2.1)))))), ((cell_far (p := ⟨g225, _, none⟩) N6.out _).trans (((cell_far (p := ⟨g225, _, none⟩) N6.out _).trans (((cell_far (p := ⟨g225, _, none⟩) N6.out _).trans (hHeld.2.2.2.2.2))))))⟩ (fun hHeld => ?_)
      clear hK K
      refine one_ (i := 12) (N := none) #[true, true, true, true, true, true, true, true, true, true, true, true, true, false] rfl rfl (one_of HT_.out Z62) (by decide) (fun K hK => ?_)
      have hs47 : w43.cell? ⟨g226, 0, none⟩ = some (.int .i64 0) := (blk_cell B33.out 0).trans rfl
      have hfs47 := blk_frozen B33.out 0
      have hns47_0 := N2.out
      have hns47_1 := N7.out
      have hns47_2 := N12.out
      have hms47_0 := N15.out
      have hms47_1 := N16.out
      have hms47_2 := N17.out
      have hs48 : w43.cell? ⟨g226, 1, none⟩ = some (.int .i64 0) := (blk_cell B33.out 1).trans rfl
      have hfs48 := blk_frozen B33.out 1
      have hns48_0 := N2.out
      have hns48_1 := N7.out
      have hns48_2 := N12.out
      have hms48_0 := N15.out
      have hms48_1 := N16.out
      have hms48_2 := N17.out
      have hs49 : w43.cell? ⟨g226, 2, none⟩ = some (.string Y0) := (blk_cell B33.out 2).trans rfl
      have hfs49 := blk_frozen B33.out 2
      have hns49_0 := N2.out
      have hns49_1 := N7.out
      have hns49_2 := N12.out
      have hms49_0 := N15.out
      have hms49_1 := N16.out
      have hms49_2 := N17.out
      refine skip_ (w1 := ?_) (by rfl) rfl ?_ ?_
      rotate_left
      ·
       go_simp
       rfl
      refine hK.out _ _ ⟨((cell_far (p := ⟨g226, _, none⟩) N2.out _).trans (((cell_far (p := ⟨g226, _, none⟩) N2.out _).trans (((cell_far (p := ⟨g226, _, none⟩) N2.out _).trans (hHeld.1)))))), ((cell_far (p := ⟨g226, _, none⟩) N2.out _).trans (((cell_far (p := ⟨g226, _, none⟩) N2.out _).trans (((cell_far (p := ⟨g226, _, none⟩) N2.out _).trans (hHeld.2.1)))))), ((cell_far (p := ⟨g226, _, none⟩) N2.out _).trans (((cell_far (p := ⟨g226, _, none⟩) N2.out _).trans (((cell_far (p := ⟨g226, _, none⟩) N2.out _).trans (hHeld.2.2.1)))))), ((cell_far (p := ⟨g226, _, none⟩) N7.out _).trans (((cell_far (p := ⟨g226, _, none⟩) N7.out _).trans (((cell_far (p := ⟨g226, _, none⟩) N7.out _).trans (hHeld.2.2.2.1)))))), ((cell_far (p := ⟨g226, _, none⟩) N7.out _).trans (((cell_far (p := ⟨g226, _, none⟩) N7.out _).trans (((cell_far (p := ⟨g226, _, none⟩) N7.out _).trans (hHeld.2.2.2.2.1)))))), ((cell_far (p := ⟨g226, _, none⟩) N7.out _).trans (((cell_far (p := ⟨g226, _, none⟩) N7.out _).trans (((cell_far (p := ⟨g226, _, none⟩) N7.out _).trans (hHeld.2.2.2.2.2))))))⟩ (fun hHeld => ?_)
      clear hK K
      refine pure_ (i := 13) (N := some 8) (v := ?_) (a' := ?_) #[true, true, true, true, true, true, true, true, true, true, true, true, true, true] rfl rfl (any_of HT_.out Z62) (fun _ _ _ h => h) (Or.inl ⟨by rfl, ?_⟩) ?_ ?_
      rotate_left
      ·
       intro w'
       go_simp
       with_reducible rfl
      rotate_left
      ·
       simp only [Act.put, y1, y2, y3, i64_w, i32_w]
       rfl
      refine done_ (done_of HT_.out Z62) ?_
      try go_wp2
      have n0_ : Aside0 (((((((w43.setCell ⟨g225, 0, none⟩ (.int .i64 t218)).setCell ⟨g225, 1, none⟩ (.int .i64 t219)).setCell ⟨g225, 2, none⟩ (.string t220)).setCell ⟨g226, 0, none⟩ (.int .i64 t221)).setCell ⟨g226, 1, none⟩ (.int .i64 t222)).setCell ⟨g226, 2, none⟩ (.string t223)).heap[g208]? = some (O25 a0_0 a0_1 a0_2)) := ⟨by (with_reducible repeat (first | refine blk_drewN ?_ _ | refine blk_drew ?_ | refine blk_alloc ?_ _)); refine blk_far ?_ N2.out _; (with_reducible repeat (first | refine blk_drewN ?_ _ | refine blk_drew ?_ | refine blk_alloc ?_ _)); refine blk_far ?_ N2.out _; (with_reducible repeat (first | refine blk_drewN ?_ _ | refine blk_drew ?_ | refine blk_alloc ?_ _)); refine blk_far ?_ N2.out _; (with_reducible repeat (first | refine blk_drewN ?_ _ | refine blk_drew ?_ | refine blk_alloc ?_ _)); refine blk_far ?_ N1.out _; (with_reducible repeat (first | refine blk_drewN ?_ _ | refine blk_drew ?_ | refine blk_alloc ?_ _)); refine blk_far ?_ N1.out _; (with_reducible repeat (first | refine blk_drewN ?_ _ | refine blk_drew ?_ | refine blk_alloc ?_ _)); refine blk_far ?_ N1.out _; (with_reducible repeat (first | refine blk_drewN ?_ _ | refine blk_drew ?_ | refine blk_alloc ?_ _)); exact B30.out⟩
      have n1_ : Aside0 (((((((w43.setCell ⟨g225, 0, none⟩ (.int .i64 t218)).setCell ⟨g225, 1, none⟩ (.int .i64 t219)).setCell ⟨g225, 2, none⟩ (.string t220)).setCell ⟨g226, 0, none⟩ (.int .i64 t221)).setCell ⟨g226, 1, none⟩ (.int .i64 t222)).setCell ⟨g226, 2, none⟩ (.string t223)).heap[g209]? = some (O25 a1_0 a1_1 a1_2)) := ⟨by (with_reducible repeat (first | refine blk_drewN ?_ _ | refine blk_drew ?_ | refine blk_alloc ?_ _)); refine blk_far ?_ N7.out _; (with_reducible repeat (first | refine blk_drewN ?_ _ | refine blk_drew ?_ | refine blk_alloc ?_ _)); refine blk_far ?_ N7.out _; (with_reducible repeat (first | refine blk_drewN ?_ _ | refine blk_drew ?_ | refine blk_alloc ?_ _)); refine blk_far ?_ N7.out _; (with_reducible repeat (first | refine blk_drewN ?_ _ | refine blk_drew ?_ | refine blk_alloc ?_ _)); refine blk_far ?_ N6.out _; (with_reducible repeat (first | refine blk_drewN ?_ _ | refine blk_drew ?_ | refine blk_alloc ?_ _)); refine blk_far ?_ N6.out _; (with_reducible repeat (first | refine blk_drewN ?_ _ | refine blk_drew ?_ | refine blk_alloc ?_ _)); refine blk_far ?_ N6.out _; (with_reducible repeat (first | refine blk_drewN ?_ _ | refine blk_drew ?_ | refine blk_alloc ?_ _)); exact B31.out⟩
      have n2_ : Aside0 (((((((w43.setCell ⟨g225, 0, none⟩ (.int .i64 t218)).setCell ⟨g225, 1, none⟩ (.int .i64 t219)).setCell ⟨g225, 2, none⟩ (.string t220)).setCell ⟨g226, 0, none⟩ (.int .i64 t221)).setCell ⟨g226, 1, none⟩ (.int .i64 t222)).setCell ⟨g226, 2, none⟩ (.string t223)).heap[g225]? = some (O30 t218 t219 t220)) := ⟨by (with_reducible repeat (first | refine blk_drewN ?_ _ | refine blk_drew ?_ | refine blk_alloc ?_ _)); refine blk_far ?_ N12.out _; (with_reducible repeat (first | refine blk_drewN ?_ _ | refine blk_drew ?_ | refine blk_alloc ?_ _)); refine blk_far ?_ N12.out _; (with_reducible repeat (first | refine blk_drewN ?_ _ | refine blk_drew ?_ | refine blk_alloc ?_ _)); refine blk_far ?_ N12.out _; (with_reducible repeat (first | refine blk_drewN ?_ _ | refine blk_drew ?_ | refine blk_alloc ?_ _)); refine blk_put (cs := #[.int .i64 t218, .int .i64 t219, .string Y0]) ?_ 2 _ rfl; (with_reducible repeat (first | refine blk_drewN ?_ _ | refine blk_drew ?_ | refine blk_alloc ?_ _)); refine blk_put (cs := #[.int .i64 t218, .int .i64 0, .string Y0]) ?_ 1 _ rfl; (with_reducible repeat (first | refine blk_drewN ?_ _ | refine blk_drew ?_ | refine blk_alloc ?_ _)); refine blk_put (cs := #[.int .i64 0, .int .i64 0, .string Y0]) ?_ 0 _ rfl; (with_reducible repeat (first | refine blk_drewN ?_ _ | refine blk_drew ?_ | refine blk_alloc ?_ _)); exact B32.out⟩
      have n3_ : Aside0 (((((((w43.setCell ⟨g225, 0, none⟩ (.int .i64 t218)).setCell ⟨g225, 1, none⟩ (.int .i64 t219)).setCell ⟨g225, 2, none⟩ (.string t220)).setCell ⟨g226, 0, none⟩ (.int .i64 t221)).setCell ⟨g226, 1, none⟩ (.int .i64 t222)).setCell ⟨g226, 2, none⟩ (.string t223)).heap[g226]? = some (O30 t221 t222 t223)) := ⟨by (with_reducible repeat (first | refine blk_drewN ?_ _ | refine blk_drew ?_ | refine blk_alloc ?_ _)); refine blk_put (cs := #[.int .i64 t221, .int .i64 t222, .string Y0]) ?_ 2 _ rfl; (with_reducible repeat (first | refine blk_drewN ?_ _ | refine blk_drew ?_ | refine blk_alloc ?_ _)); refine blk_put (cs := #[.int .i64 t221, .int .i64 0, .string Y0]) ?_ 1 _ rfl; (with_reducible repeat (first | refine blk_drewN ?_ _ | refine blk_drew ?_ | refine blk_alloc ?_ _)); refine blk_put (cs := #[.int .i64 0, .int .i64 0, .string Y0]) ?_ 0 _ rfl; (with_reducible repeat (first | refine blk_drewN ?_ _ | refine blk_drew ?_ | refine blk_alloc ?_ _)); refine blk_far ?_ N17.out _; (with_reducible repeat (first | refine blk_drewN ?_ _ | refine blk_drew ?_ | refine blk_alloc ?_ _)); refine blk_far ?_ N17.out _; (with_reducible repeat (first | refine blk_drewN ?_ _ | refine blk_drew ?_ | refine blk_alloc ?_ _)); refine blk_far ?_ N17.out _; (with_reducible repeat (first | refine blk_drewN ?_ _ | refine blk_drew ?_ | refine blk_alloc ?_ _)); exact B33.out⟩
      have n4_ : Aside0 (Below w.heap.size w ((((((w43.setCell ⟨g225, 0, none⟩ (.int .i64 t218)).setCell ⟨g225, 1, none⟩ (.int .i64 t219)).setCell ⟨g225, 2, none⟩ (.string t220)).setCell ⟨g226, 0, none⟩ (.int .i64 t221)).setCell ⟨g226, 1, none⟩ (.int .i64 t222)).setCell ⟨g226, 2, none⟩ (.string t223))) := ⟨by repeat (first | (with_reducible first | exact HB.out | apply below_alloc | apply pw_below_drewN | apply below_drew1 | refine below_set ?_ G42.out | refine below_set ?_ G43.out | refine below_set ?_ G44.out | refine below_set ?_ G45.out) | exact HB.out)⟩
      (try clear B30)
      (try clear B31)
      (try clear B32)
      (try clear B33)
      (try clear HB)
      generalize ((((((w43.setCell ⟨g225, 0, none⟩ (.int .i64 t218)).setCell ⟨g225, 1, none⟩ (.int .i64 t219)).setCell ⟨g225, 2, none⟩ (.string t220)).setCell ⟨g226, 0, none⟩ (.int .i64 t221)).setCell ⟨g226, 1, none⟩ (.int .i64 t222)).setCell ⟨g226, 2, none⟩ (.string t223)) = w50 at n0_ n1_ n2_ n3_ n4_ ⊢
      have B30 := n0_
      have B31 := n1_
      have B32 := n2_
      have B33 := n3_
      have HB := n4_
      clear n0_ n1_ n2_ n3_ n4_
      have n0_ := A0 (blk_drew B30.out)
      have n1_ := A0 (blk_drew B31.out)
      have n2_ := A0 (blk_drew B32.out)
      have n3_ := A0 (blk_drew B33.out)
      have n4_ := A0 (below_drew1 HB.out)
      clear B30 B31 B32 B33 HB
      have B30 := n0_
      have B31 := n1_
      have B32 := n2_
      have B33 := n3_
      have HB := n4_
      clear n0_ n1_ n2_ n3_ n4_
      refine start_ (n := 14) (S := fun w' => Q6 g208 a0_0 a0_1 a0_2 g209 a1_0 a1_1 a1_2 w') (ds := []) #[false, false, false, false, false, false, false, false, false, false, false, false, false, false] Z62 rfl rfl ⟨(blk_cell B30.out 0).trans rfl, (blk_cell B30.out 1).trans rfl, (blk_cell B30.out 2).trans rfl, (blk_cell B31.out 0).trans rfl, (blk_cell B31.out 1).trans rfl, (blk_cell B31.out 2).trans rfl⟩ (fun hHeld => ?_); refine with_tabW laws_FnExactSwapTails.tab9 laws_FnExactSwapTails.bits9 (fun HT_ HW_ => ?_)
      generalize w50.drew = w51 at B30 B31 B32 B33 HB hHeld ⊢
      refine take_ (i := 0) (N := some 32) (v := ?_) (a' := ?_) #[true, false, false, false, false, false, false, false, false, false, false, false, false, false] rfl rfl (take_ofW HT_.out HW_.out Z62) (fun _ _ _ h => h) (Or.inl ⟨by rfl, ?_⟩) hHeld ?_ ?_
      rotate_left
      ·
       rintro w' ⟨s0, s1, s2, s3, s4, s5⟩
       go_simp
       with_reducible rfl
      rotate_left
      ·
       simp only [Act.put, y1, y2, y3, i64_w, i32_w]
       rfl
      refine take_ (i := 2) (N := some 34) (v := ?_) (a' := ?_) #[true, false, true, false, false, false, false, false, false, false, false, false, false, false] rfl rfl (take_ofW HT_.out HW_.out Z62) (fun _ _ _ h => h) (Or.inl ⟨by rfl, ?_⟩) hHeld ?_ ?_
      rotate_left
      ·
       rintro w' ⟨s0, s1, s2, s3, s4, s5⟩
       go_simp
       with_reducible rfl
      rotate_left
      ·
       simp only [Act.put, y1, y2, y3, i64_w, i32_w]
       rfl
      refine join_ (σ := Nat × Nat) 3 #[true, true, true, true, true, true, true, true, true, true, true, false, false, false] (fun s_ => [(33, .agg #[.int .i64 t227, .int .i64 t228, .string t229]), (35, .agg #[.int .i64 t230, .int .i64 t231, .string t232]), (36, .tuple #[.agg #[.int .i64 t233, .int .i64 t234, .string t235], .agg #[.int .i64 t236, .int .i64 t237, .string t238], .bool t239]), (9, .pointer (some ⟨s_.1, 0, none⟩)), (10, .pointer (some ⟨s_.2, 0, none⟩)), (31, .tuple #[.agg #[.int .i64 t233, .int .i64 t234, .string t235], .agg #[.int .i64 t236, .int .i64 t237, .string t238], .bool t239]), (37, .agg #[.int .i64 t233, .int .i64 t234, .string t235]), (38, .agg #[.int .i64 t236, .int .i64 t237, .string t238]), (39, .bool t239)]) (fun s_ w' => (Q6 g208 a0_0 a0_1 a0_2 g209 a1_0 a1_1 a1_2 w') ∧ (w'.heap[g208]? = some (O25 a0_0 a0_1 a0_2)) ∧ (w'.heap[g209]? = some (O25 a1_0 a1_1 a1_2)) ∧ (w'.heap[g225]? = some (O30 t218 t219 t220)) ∧ (w'.heap[g226]? = some (O30 t221 t222 t223)) ∧ (w'.heap[s_.1]? = some (O30 0 0 Y0)) ∧ (w'.heap[s_.2]? = some (O30 0 0 Y0)) ∧ (w.heap.size ≤ s_.1) ∧ (w.heap.size ≤ s_.1) ∧ (g208 ≠ s_.1) ∧ (s_.1 ≠ g208) ∧ (g209 ≠ s_.1) ∧ (s_.1 ≠ g209) ∧ (g225 ≠ s_.1) ∧ (s_.1 ≠ g225) ∧ (g226 ≠ s_.1) ∧ (s_.1 ≠ g226) ∧ (s_.2 ≠ s_.1) ∧ (s_.1 ≠ s_.2) ∧ (w.heap.size ≤ s_.2) ∧ (w.heap.size ≤ s_.2) ∧ (g208 ≠ s_.2) ∧ (s_.2 ≠ g208) ∧ (g209 ≠ s_.2) ∧ (s_.2 ≠ g209) ∧ (g225 ≠ s_.2) ∧ (s_.2 ≠ g225) ∧ (g226 ≠ s_.2) ∧ (s_.2 ≠ g226) ∧ (Below w.heap.size w w')) ?_ ?_
      rotate_left
      ·
       intro hJ1_3_4_9_10
       refine join_ (σ := Nat) 4 #[true, true, true, true, true, true, true, true, true, true, false, false, false, false] (fun s_ => [(33, .agg #[.int .i64 t227, .int .i64 t228, .string t229]), (35, .agg #[.int .i64 t230, .int .i64 t231, .string t232]), (36, .tuple #[.agg #[.int .i64 t233, .int .i64 t234, .string t235], .agg #[.int .i64 t236, .int .i64 t237, .string t238], .bool t239]), (9, .pointer (some ⟨s_, 0, none⟩)), (31, .tuple #[.agg #[.int .i64 t233, .int .i64 t234, .string t235], .agg #[.int .i64 t236, .int .i64 t237, .string t238], .bool t239]), (37, .agg #[.int .i64 t233, .int .i64 t234, .string t235]), (38, .agg #[.int .i64 t236, .int .i64 t237, .string t238]), (39, .bool t239)]) (fun s_ w' => (Q6 g208 a0_0 a0_1 a0_2 g209 a1_0 a1_1 a1_2 w') ∧ (w'.heap[g208]? = some (O25 a0_0 a0_1 a0_2)) ∧ (w'.heap[g209]? = some (O25 a1_0 a1_1 a1_2)) ∧ (w'.heap[g225]? = some (O30 t218 t219 t220)) ∧ (w'.heap[g226]? = some (O30 t221 t222 t223)) ∧ (w'.heap[s_]? = some (O30 0 0 Y0)) ∧ (w.heap.size ≤ s_) ∧ (w.heap.size ≤ s_) ∧ (g208 ≠ s_) ∧ (s_ ≠ g208) ∧ (g209 ≠ s_) ∧ (s_ ≠ g209) ∧ (g225 ≠ s_) ∧ (s_ ≠ g225) ∧ (g226 ≠ s_) ∧ (s_ ≠ g226) ∧ (Below w.heap.size w w')) ?_ ?_
       rotate_left
       ·
        intro hJ1_3_4_9
        refine join_ (σ := Nat) 4 #[true, true, true, true, true, true, true, true, true, false, true, false, false, false] (fun s_ => [(33, .agg #[.int .i64 t227, .int .i64 t228, .string t229]), (35, .agg #[.int .i64 t230, .int .i64 t231, .string t232]), (36, .tuple #[.agg #[.int .i64 t233, .int .i64 t234, .string t235], .agg #[.int .i64 t236, .int .i64 t237, .string t238], .bool t239]), (10, .pointer (some ⟨s_, 0, none⟩)), (31, .tuple #[.agg #[.int .i64 t233, .int .i64 t234, .string t235], .agg #[.int .i64 t236, .int .i64 t237, .string t238], .bool t239]), (37, .agg #[.int .i64 t233, .int .i64 t234, .string t235]), (38, .agg #[.int .i64 t236, .int .i64 t237, .string t238]), (39, .bool t239)]) (fun s_ w' => (Q6 g208 a0_0 a0_1 a0_2 g209 a1_0 a1_1 a1_2 w') ∧ (w'.heap[g208]? = some (O25 a0_0 a0_1 a0_2)) ∧ (w'.heap[g209]? = some (O25 a1_0 a1_1 a1_2)) ∧ (w'.heap[g225]? = some (O30 t218 t219 t220)) ∧ (w'.heap[g226]? = some (O30 t221 t222 t223)) ∧ (w'.heap[s_]? = some (O30 0 0 Y0)) ∧ (w.heap.size ≤ s_) ∧ (w.heap.size ≤ s_) ∧ (g208 ≠ s_) ∧ (s_ ≠ g208) ∧ (g209 ≠ s_) ∧ (s_ ≠ g209) ∧ (g225 ≠ s_) ∧ (s_ ≠ g225) ∧ (g226 ≠ s_) ∧ (s_ ≠ g226) ∧ (Below w.heap.size w w')) ?_ ?_
        rotate_left
        ·
         intro hJ1_3_4_10
         refine join_ (σ := Nat × Nat) 8 #[true, true, true, true, false, false, false, false, false, true, true, false, false, false] (fun s_ => [(33, .agg #[.int .i64 t227, .int .i64 t228, .string t229]), (35, .agg #[.int .i64 t230, .int .i64 t231, .string t232]), (9, .pointer (some ⟨s_.1, 0, none⟩)), (10, .pointer (some ⟨s_.2, 0, none⟩))]) (fun s_ w' => (Q6 g208 a0_0 a0_1 a0_2 g209 a1_0 a1_1 a1_2 w') ∧ (w'.heap[g208]? = some (O25 a0_0 a0_1 a0_2)) ∧ (w'.heap[g209]? = some (O25 a1_0 a1_1 a1_2)) ∧ (w'.heap[g225]? = some (O30 t218 t219 t220)) ∧ (w'.heap[g226]? = some (O30 t221 t222 t223)) ∧ (w'.heap[s_.1]? = some (O30 0 0 Y0)) ∧ (w'.heap[s_.2]? = some (O30 0 0 Y0)) ∧ (w.heap.size ≤ s_.1) ∧ (w.heap.size ≤ s_.1) ∧ (g208 ≠ s_.1) ∧ (s_.1 ≠ g208) ∧ (g209 ≠ s_.1) ∧ (s_.1 ≠ g209) ∧ (g225 ≠ s_.1) ∧ (s_.1 ≠ g225) ∧ (g226 ≠ s_.1) ∧ (s_.1 ≠ g226) ∧ (s_.2 ≠ s_.1) ∧ (s_.1 ≠ s_.2) ∧ (w.heap.size ≤ s_.2) ∧ (w.heap.size ≤ s_.2) ∧ (g208 ≠ s_.2) ∧ (s_.2 ≠ g208) ∧ (g209 ≠ s_.2) ∧ (s_.2 ≠ g209) ∧ (g225 ≠ s_.2) ∧ (s_.2 ≠ g225) ∧ (g226 ≠ s_.2) ∧ (s_.2 ≠ g226) ∧ (Below w.heap.size w w')) ?_ ?_
         rotate_left
         ·
          intro hJ1_3_9_10
          refine join_ (σ := Unit) 5 #[true, true, true, true, true, true, true, true, true, false, false, false, false, false] (fun s_ => [(33, .agg #[.int .i64 t227, .int .i64 t228, .string t229]), (35, .agg #[.int .i64 t230, .int .i64 t231, .string t232]), (36, .tuple #[.agg #[.int .i64 t233, .int .i64 t234, .string t235], .agg #[.int .i64 t236, .int .i64 t237, .string t238], .bool t239]), (31, .tuple #[.agg #[.int .i64 t233, .int .i64 t234, .string t235], .agg #[.int .i64 t236, .int .i64 t237, .string t238], .bool t239]), (37, .agg #[.int .i64 t233, .int .i64 t234, .string t235]), (38, .agg #[.int .i64 t236, .int .i64 t237, .string t238]), (39, .bool t239)]) (fun s_ w' => (Q6 g208 a0_0 a0_1 a0_2 g209 a1_0 a1_1 a1_2 w') ∧ (w'.heap[g208]? = some (O25 a0_0 a0_1 a0_2)) ∧ (w'.heap[g209]? = some (O25 a1_0 a1_1 a1_2)) ∧ (w'.heap[g225]? = some (O30 t218 t219 t220)) ∧ (w'.heap[g226]? = some (O30 t221 t222 t223)) ∧ (Below w.heap.size w w')) ?_ ?_
          rotate_left
          ·
           intro hJ1_3_4
           refine join_ (σ := Nat) 9 #[true, true, true, true, false, false, false, false, false, true, false, false, false, false] (fun s_ => [(33, .agg #[.int .i64 t227, .int .i64 t228, .string t229]), (35, .agg #[.int .i64 t230, .int .i64 t231, .string t232]), (9, .pointer (some ⟨s_, 0, none⟩))]) (fun s_ w' => (Q6 g208 a0_0 a0_1 a0_2 g209 a1_0 a1_1 a1_2 w') ∧ (w'.heap[g208]? = some (O25 a0_0 a0_1 a0_2)) ∧ (w'.heap[g209]? = some (O25 a1_0 a1_1 a1_2)) ∧ (w'.heap[g225]? = some (O30 t218 t219 t220)) ∧ (w'.heap[g226]? = some (O30 t221 t222 t223)) ∧ (w'.heap[s_]? = some (O30 0 0 Y0)) ∧ (w.heap.size ≤ s_) ∧ (w.heap.size ≤ s_) ∧ (g208 ≠ s_) ∧ (s_ ≠ g208) ∧ (g209 ≠ s_) ∧ (s_ ≠ g209) ∧ (g225 ≠ s_) ∧ (s_ ≠ g225) ∧ (g226 ≠ s_) ∧ (s_ ≠ g226) ∧ (Below w.heap.size w w')) ?_ ?_
           rotate_left
           ·
            intro hJ1_3_9
            refine join_ (σ := Nat) 9 #[true, true, true, true, false, false, false, false, false, false, true, false, false, false] (fun s_ => [(33, .agg #[.int .i64 t227, .int .i64 t228, .string t229]), (35, .agg #[.int .i64 t230, .int .i64 t231, .string t232]), (10, .pointer (some ⟨s_, 0, none⟩))]) (fun s_ w' => (Q6 g208 a0_0 a0_1 a0_2 g209 a1_0 a1_1 a1_2 w') ∧ (w'.heap[g208]? = some (O25 a0_0 a0_1 a0_2)) ∧ (w'.heap[g209]? = some (O25 a1_0 a1_1 a1_2)) ∧ (w'.heap[g225]? = some (O30 t218 t219 t220)) ∧ (w'.heap[g226]? = some (O30 t221 t222 t223)) ∧ (w'.heap[s_]? = some (O30 0 0 Y0)) ∧ (w.heap.size ≤ s_) ∧ (w.heap.size ≤ s_) ∧ (g208 ≠ s_) ∧ (s_ ≠ g208) ∧ (g209 ≠ s_) ∧ (s_ ≠ g209) ∧ (g225 ≠ s_) ∧ (s_ ≠ g225) ∧ (g226 ≠ s_) ∧ (s_ ≠ g226) ∧ (Below w.heap.size w w')) ?_ ?_
            rotate_left
            ·
             intro hJ1_3_10
             refine join_ (σ := Nat × Nat) 9 #[true, true, true, false, false, false, false, false, false, true, true, false, false, false] (fun s_ => [(33, .agg #[.int .i64 t227, .int .i64 t228, .string t229]), (9, .pointer (some ⟨s_.1, 0, none⟩)), (10, .pointer (some ⟨s_.2, 0, none⟩))]) (fun s_ w' => (Q6 g208 a0_0 a0_1 a0_2 g209 a1_0 a1_1 a1_2 w') ∧ (w'.heap[g208]? = some (O25 a0_0 a0_1 a0_2)) ∧ (w'.heap[g209]? = some (O25 a1_0 a1_1 a1_2)) ∧ (w'.heap[g225]? = some (O30 t218 t219 t220)) ∧ (w'.heap[g226]? = some (O30 t221 t222 t223)) ∧ (w'.heap[s_.1]? = some (O30 0 0 Y0)) ∧ (w'.heap[s_.2]? = some (O30 0 0 Y0)) ∧ (w.heap.size ≤ s_.1) ∧ (w.heap.size ≤ s_.1) ∧ (g208 ≠ s_.1) ∧ (s_.1 ≠ g208) ∧ (g209 ≠ s_.1) ∧ (s_.1 ≠ g209) ∧ (g225 ≠ s_.1) ∧ (s_.1 ≠ g225) ∧ (g226 ≠ s_.1) ∧ (s_.1 ≠ g226) ∧ (s_.2 ≠ s_.1) ∧ (s_.1 ≠ s_.2) ∧ (w.heap.size ≤ s_.2) ∧ (w.heap.size ≤ s_.2) ∧ (g208 ≠ s_.2) ∧ (s_.2 ≠ g208) ∧ (g209 ≠ s_.2) ∧ (s_.2 ≠ g209) ∧ (g225 ≠ s_.2) ∧ (s_.2 ≠ g225) ∧ (g226 ≠ s_.2) ∧ (s_.2 ≠ g226) ∧ (Below w.heap.size w w')) ?_ ?_
             rotate_left
             ·
              intro hJ1_9_10
              refine join_ (σ := Unit) 10 #[true, true, true, true, false, false, false, false, false, false, false, false, false, false] (fun s_ => [(33, .agg #[.int .i64 t227, .int .i64 t228, .string t229]), (35, .agg #[.int .i64 t230, .int .i64 t231, .string t232])]) (fun s_ w' => (Q6 g208 a0_0 a0_1 a0_2 g209 a1_0 a1_1 a1_2 w') ∧ (w'.heap[g208]? = some (O25 a0_0 a0_1 a0_2)) ∧ (w'.heap[g209]? = some (O25 a1_0 a1_1 a1_2)) ∧ (w'.heap[g225]? = some (O30 t218 t219 t220)) ∧ (w'.heap[g226]? = some (O30 t221 t222 t223)) ∧ (Below w.heap.size w w')) ?_ ?_
              rotate_left
              ·
               intro hJ1_3
               refine join_ (σ := Nat) 10 #[true, true, true, false, false, false, false, false, false, true, false, false, false, false] (fun s_ => [(33, .agg #[.int .i64 t227, .int .i64 t228, .string t229]), (9, .pointer (some ⟨s_, 0, none⟩))]) (fun s_ w' => (Q6 g208 a0_0 a0_1 a0_2 g209 a1_0 a1_1 a1_2 w') ∧ (w'.heap[g208]? = some (O25 a0_0 a0_1 a0_2)) ∧ (w'.heap[g209]? = some (O25 a1_0 a1_1 a1_2)) ∧ (w'.heap[g225]? = some (O30 t218 t219 t220)) ∧ (w'.heap[g226]? = some (O30 t221 t222 t223)) ∧ (w'.heap[s_]? = some (O30 0 0 Y0)) ∧ (w.heap.size ≤ s_) ∧ (w.heap.size ≤ s_) ∧ (g208 ≠ s_) ∧ (s_ ≠ g208) ∧ (g209 ≠ s_) ∧ (s_ ≠ g209) ∧ (g225 ≠ s_) ∧ (s_ ≠ g225) ∧ (g226 ≠ s_) ∧ (s_ ≠ g226) ∧ (Below w.heap.size w w')) ?_ ?_
               rotate_left
               ·
                intro hJ1_9
                refine join_ (σ := Nat) 10 #[true, true, true, false, false, false, false, false, false, false, true, false, false, false] (fun s_ => [(33, .agg #[.int .i64 t227, .int .i64 t228, .string t229]), (10, .pointer (some ⟨s_, 0, none⟩))]) (fun s_ w' => (Q6 g208 a0_0 a0_1 a0_2 g209 a1_0 a1_1 a1_2 w') ∧ (w'.heap[g208]? = some (O25 a0_0 a0_1 a0_2)) ∧ (w'.heap[g209]? = some (O25 a1_0 a1_1 a1_2)) ∧ (w'.heap[g225]? = some (O30 t218 t219 t220)) ∧ (w'.heap[g226]? = some (O30 t221 t222 t223)) ∧ (w'.heap[s_]? = some (O30 0 0 Y0)) ∧ (w.heap.size ≤ s_) ∧ (w.heap.size ≤ s_) ∧ (g208 ≠ s_) ∧ (s_ ≠ g208) ∧ (g209 ≠ s_) ∧ (s_ ≠ g209) ∧ (g225 ≠ s_) ∧ (s_ ≠ g225) ∧ (g226 ≠ s_) ∧ (s_ ≠ g226) ∧ (Below w.heap.size w w')) ?_ ?_
                rotate_left
                ·
                 intro hJ1_10
                 refine join_ (σ := Nat × Nat) 10 #[true, false, true, false, false, false, false, false, false, true, true, false, false, false] (fun s_ => [(9, .pointer (some ⟨s_.1, 0, none⟩)), (10, .pointer (some ⟨s_.2, 0, none⟩))]) (fun s_ w' => (Q6 g208 a0_0 a0_1 a0_2 g209 a1_0 a1_1 a1_2 w') ∧ (w'.heap[g208]? = some (O25 a0_0 a0_1 a0_2)) ∧ (w'.heap[g209]? = some (O25 a1_0 a1_1 a1_2)) ∧ (w'.heap[g225]? = some (O30 t218 t219 t220)) ∧ (w'.heap[g226]? = some (O30 t221 t222 t223)) ∧ (w'.heap[s_.1]? = some (O30 0 0 Y0)) ∧ (w'.heap[s_.2]? = some (O30 0 0 Y0)) ∧ (w.heap.size ≤ s_.1) ∧ (w.heap.size ≤ s_.1) ∧ (g208 ≠ s_.1) ∧ (s_.1 ≠ g208) ∧ (g209 ≠ s_.1) ∧ (s_.1 ≠ g209) ∧ (g225 ≠ s_.1) ∧ (s_.1 ≠ g225) ∧ (g226 ≠ s_.1) ∧ (s_.1 ≠ g226) ∧ (s_.2 ≠ s_.1) ∧ (s_.1 ≠ s_.2) ∧ (w.heap.size ≤ s_.2) ∧ (w.heap.size ≤ s_.2) ∧ (g208 ≠ s_.2) ∧ (s_.2 ≠ g208) ∧ (g209 ≠ s_.2) ∧ (s_.2 ≠ g209) ∧ (g225 ≠ s_.2) ∧ (s_.2 ≠ g225) ∧ (g226 ≠ s_.2) ∧ (s_.2 ≠ g226) ∧ (Below w.heap.size w w')) ?_ ?_
                 rotate_left
                 ·
                  intro hJ9_10
                  refine join_ (σ := Unit) 11 #[true, true, true, false, false, false, false, false, false, false, false, false, false, false] (fun s_ => [(33, .agg #[.int .i64 t227, .int .i64 t228, .string t229])]) (fun s_ w' => (Q6 g208 a0_0 a0_1 a0_2 g209 a1_0 a1_1 a1_2 w') ∧ (w'.heap[g208]? = some (O25 a0_0 a0_1 a0_2)) ∧ (w'.heap[g209]? = some (O25 a1_0 a1_1 a1_2)) ∧ (w'.heap[g225]? = some (O30 t218 t219 t220)) ∧ (w'.heap[g226]? = some (O30 t221 t222 t223)) ∧ (Below w.heap.size w w')) ?_ ?_
                  rotate_left
                  ·
                   intro hJ1
                   refine join_ (σ := Nat) 11 #[true, false, true, false, false, false, false, false, false, true, false, false, false, false] (fun s_ => [(9, .pointer (some ⟨s_, 0, none⟩))]) (fun s_ w' => (Q6 g208 a0_0 a0_1 a0_2 g209 a1_0 a1_1 a1_2 w') ∧ (w'.heap[g208]? = some (O25 a0_0 a0_1 a0_2)) ∧ (w'.heap[g209]? = some (O25 a1_0 a1_1 a1_2)) ∧ (w'.heap[g225]? = some (O30 t218 t219 t220)) ∧ (w'.heap[g226]? = some (O30 t221 t222 t223)) ∧ (w'.heap[s_]? = some (O30 0 0 Y0)) ∧ (w.heap.size ≤ s_) ∧ (w.heap.size ≤ s_) ∧ (g208 ≠ s_) ∧ (s_ ≠ g208) ∧ (g209 ≠ s_) ∧ (s_ ≠ g209) ∧ (g225 ≠ s_) ∧ (s_ ≠ g225) ∧ (g226 ≠ s_) ∧ (s_ ≠ g226) ∧ (Below w.heap.size w w')) ?_ ?_
                   rotate_left
                   ·
                    intro hJ9
                    refine join_ (σ := Nat) 11 #[true, false, true, false, false, false, false, false, false, false, true, false, false, false] (fun s_ => [(10, .pointer (some ⟨s_, 0, none⟩))]) (fun s_ w' => (Q6 g208 a0_0 a0_1 a0_2 g209 a1_0 a1_1 a1_2 w') ∧ (w'.heap[g208]? = some (O25 a0_0 a0_1 a0_2)) ∧ (w'.heap[g209]? = some (O25 a1_0 a1_1 a1_2)) ∧ (w'.heap[g225]? = some (O30 t218 t219 t220)) ∧ (w'.heap[g226]? = some (O30 t221 t222 t223)) ∧ (w'.heap[s_]? = some (O30 0 0 Y0)) ∧ (w.heap.size ≤ s_) ∧ (w.heap.size ≤ s_) ∧ (g208 ≠ s_) ∧ (s_ ≠ g208) ∧ (g209 ≠ s_) ∧ (s_ ≠ g209) ∧ (g225 ≠ s_) ∧ (s_ ≠ g225) ∧ (g226 ≠ s_) ∧ (s_ ≠ g226) ∧ (Below w.heap.size w w')) ?_ ?_
                    rotate_left
                    ·
                     intro hJ10
                     refine three_ (i := 1) (j := 9) (k := 10) (Ni := some 33) (Nj := some 9) (Nk := some 10) #[true, true, true, false, false, false, false, false, false, false, false, false, false, false] #[true, false, true, false, false, false, false, false, false, true, false, false, false, false] #[true, false, true, false, false, false, false, false, false, false, true, false, false, false] rfl rfl rfl rfl rfl rfl (three_of HT_.out Z62) (by decide) (by decide) (by decide) (fun K hK => ?_) (fun K hK => ?_) (fun K hK => ?_)
                     ·
                      skip
                      refine goes_ Tryd.func11 Z62 rfl #[.agg #[.int .i64 a0_0, .int .i64 a0_1, .string a0_2]] (by rfl) rfl rfl Z55 ?_
                      with_reducible refine (laws_toWay.calls a0_0 a0_1 a0_2 t227 t228 t229 _ A22.out).mono ?_
                      rintro e w52 ⟨rfl, hb⟩
                      refine ⟨_, rfl, ?_⟩
                      have n0_ := A0 (blk_below (g := g208) (o := O25 a0_0 a0_1 a0_2) Z56 hb)
                      have n1_ := A0 (blk_below (g := g209) (o := O25 a1_0 a1_1 a1_2) Z57 hb)
                      have n2_ := A0 (blk_below (g := g225) (o := O30 t218 t219 t220) Z58 hb)
                      have n3_ := A0 (blk_below (g := g226) (o := O30 t221 t222 t223) Z59 hb)
                      have n4_ := A0 (below_step Z30 hb)
                      clear B30 B31 B32 B33 HB
                      have B30 := n0_
                      have B31 := n1_
                      have B32 := n2_
                      have B33 := n3_
                      have HB := n4_
                      clear n0_ n1_ n2_ n3_ n4_
                      (try clear hb)
                      (try clear hb2)
                      (try clear hk)
                      (try clear hi)
                      refine hK.out _ _ ⟨(blk_cell B30.out 0).trans rfl, (blk_cell B30.out 1).trans rfl, (blk_cell B30.out 2).trans rfl, (blk_cell B31.out 0).trans rfl, (blk_cell B31.out 1).trans rfl, (blk_cell B31.out 2).trans rfl⟩ (fun hHeld => ?_)
                      clear hK K
                      refine norm_ (a' := ?_) ?_ ?_
                      rotate_left
                      ·
                       show Act.put _ (some 33) _ = _
                       simp only [Act.put, y1, y2, y3, i64_w, i32_w]
                       rfl
                      exact norm_ Z52 (hJ1 () _ ⟨hHeld, Z56, Z57, Z58, Z59, Z30⟩)
                     ·
                      skip
                      refine box_step ?hg (N := 9) ?hd (cs := #[.int .i64 0, .int .i64 0, .string Y0]) (t := 30) ?hr ?_; (case hd => rfl); (case hg => rfl); (case hr => first | (go_simp; done) | (go_simp; rfl))
                      intro g240 hg w52 hbox hb
                      have n0_ := A0 (blk_below (g := g208) (o := O25 a0_0 a0_1 a0_2) Z56 hb)
                      have n1_ := A0 (blk_below (g := g209) (o := O25 a1_0 a1_1 a1_2) Z57 hb)
                      have n2_ := A0 (blk_below (g := g225) (o := O30 t218 t219 t220) Z58 hb)
                      have n3_ := A0 (blk_below (g := g226) (o := O30 t221 t222 t223) Z59 hb)
                      have n4_ := A0 (below_step Z30 hb)
                      have B34 := A0 (hbox)
                      have G40 := A0 ((Z5 : w.heap.size ≤ g240))
                      have G46 := A0 ((Z5 : w.heap.size ≤ g240))
                      have N3 := A0 ((Z31 : g208 ≠ g240))
                      have N20 := A0 ((Z32 : g240 ≠ g208))
                      have N8 := A0 ((Z33 : g209 ≠ g240))
                      have N21 := A0 ((Z34 : g240 ≠ g209))
                      have N13 := A0 ((Z35 : g225 ≠ g240))
                      have N22 := A0 ((Z36 : g240 ≠ g225))
                      have N18 := A0 ((Z37 : g226 ≠ g240))
                      have N23 := A0 ((Z38 : g240 ≠ g226))
                      clear B30 B31 B32 B33 HB
                      have B30 := n0_
                      have B31 := n1_
                      have B32 := n2_
                      have B33 := n3_
                      have HB := n4_
                      clear n0_ n1_ n2_ n3_ n4_
                      clear hb hbox hg
                      refine hK.out _ _ ⟨(blk_cell B30.out 0).trans rfl, (blk_cell B30.out 1).trans rfl, (blk_cell B30.out 2).trans rfl, (blk_cell B31.out 0).trans rfl, (blk_cell B31.out 1).trans rfl, (blk_cell B31.out 2).trans rfl⟩ (fun hHeld => ?_)
                      clear hK K
                      refine norm_ (a' := ?_) ?_ ?_
                      rotate_left
                      ·
                       show Act.put _ (some 9) _ = _
                       simp only [Act.put, y1, y2, y3, i64_w, i32_w]
                       rfl
                      exact norm_ Z52 (hJ9 (g240) _ ⟨hHeld, Z56, Z57, Z58, Z59, Z60, G40.out, G46.out, N3.out, N20.out, N8.out, N21.out, N13.out, N22.out, N18.out, N23.out, Z7⟩)
                     ·
                      skip
                      refine box_step ?hg (N := 10) ?hd (cs := #[.int .i64 0, .int .i64 0, .string Y0]) (t := 30) ?hr ?_; (case hd => rfl); (case hg => rfl); (case hr => first | (go_simp; done) | (go_simp; rfl))
                      intro g241 hg w52 hbox hb
                      have n0_ := A0 (blk_below (g := g208) (o := O25 a0_0 a0_1 a0_2) Z56 hb)
                      have n1_ := A0 (blk_below (g := g209) (o := O25 a1_0 a1_1 a1_2) Z57 hb)
                      have n2_ := A0 (blk_below (g := g225) (o := O30 t218 t219 t220) Z58 hb)
                      have n3_ := A0 (blk_below (g := g226) (o := O30 t221 t222 t223) Z59 hb)
                      have n4_ := A0 (below_step Z30 hb)
                      have B35 := A0 (hbox)
                      have G41 := A0 ((Z6 : w.heap.size ≤ g241))
                      have G47 := A0 ((Z6 : w.heap.size ≤ g241))
                      have N4 := A0 ((Z39 : g208 ≠ g241))
                      have N25 := A0 ((Z40 : g241 ≠ g208))
                      have N9 := A0 ((Z41 : g209 ≠ g241))
                      have N26 := A0 ((Z42 : g241 ≠ g209))
                      have N14 := A0 ((Z43 : g225 ≠ g241))
                      have N27 := A0 ((Z44 : g241 ≠ g225))
                      have N19 := A0 ((Z45 : g226 ≠ g241))
                      have N28 := A0 ((Z46 : g241 ≠ g226))
                      clear B30 B31 B32 B33 HB
                      have B30 := n0_
                      have B31 := n1_
                      have B32 := n2_
                      have B33 := n3_
                      have HB := n4_
                      clear n0_ n1_ n2_ n3_ n4_
                      clear hb hbox hg
                      refine hK.out _ _ ⟨(blk_cell B30.out 0).trans rfl, (blk_cell B30.out 1).trans rfl, (blk_cell B30.out 2).trans rfl, (blk_cell B31.out 0).trans rfl, (blk_cell B31.out 1).trans rfl, (blk_cell B31.out 2).trans rfl⟩ (fun hHeld => ?_)
                      clear hK K
                      refine norm_ (a' := ?_) ?_ ?_
                      rotate_left
                      ·
                       show Act.put _ (some 10) _ = _
                       simp only [Act.put, y1, y2, y3, i64_w, i32_w]
                       rfl
                      exact norm_ Z52 (hJ10 (g241) _ ⟨hHeld, Z56, Z57, Z58, Z59, Z61, G41.out, G47.out, N4.out, N25.out, N9.out, N26.out, N14.out, N27.out, N19.out, N28.out, Z8⟩)
                    ·
                     skip
                     rintro g241 w53 ⟨hS_, h0_, h1_, h2_, h3_, h4_, h5_, h6_, h7_, h8_, h9_, h10_, h11_, h12_, h13_, h14_, h15_⟩
                     have n0_ : Aside0 (w53.heap[g208]? = some (O25 a0_0 a0_1 a0_2)) := ⟨h0_⟩
                     have n1_ : Aside0 (w53.heap[g209]? = some (O25 a1_0 a1_1 a1_2)) := ⟨h1_⟩
                     have n2_ : Aside0 (w53.heap[g225]? = some (O30 t218 t219 t220)) := ⟨h2_⟩
                     have n3_ : Aside0 (w53.heap[g226]? = some (O30 t221 t222 t223)) := ⟨h3_⟩
                     have B35 : Aside0 (w53.heap[g241]? = some (O30 0 0 Y0)) := ⟨h4_⟩
                     have G41 := A0 h5_
                     have G47 := A0 h6_
                     have N4 := A0 h7_
                     have N25 := A0 h8_
                     have N9 := A0 h9_
                     have N26 := A0 h10_
                     have N14 := A0 h11_
                     have N27 := A0 h12_
                     have N19 := A0 h13_
                     have N28 := A0 h14_
                     have n15_ : Aside0 (Below w.heap.size w w53) := ⟨h15_⟩
                     clear B30 B31 B32 B33 HB
                     clear h0_ h1_ h2_ h3_ h4_ h5_ h6_ h7_ h8_ h9_ h10_ h11_ h12_ h13_ h14_ h15_
                     have B30 := n0_
                     have B31 := n1_
                     have B32 := n2_
                     have B33 := n3_
                     have HB := n15_
                     clear n0_ n1_ n2_ n3_ n15_
                     have hHeld : Q6 g208 a0_0 a0_1 a0_2 g209 a1_0 a1_1 a1_2 w53 := hS_
                     refine norm_ (a' := ?_) ?_ ?_
                     rotate_left
                     ·
                      simp only [putAll, Act.put, y1, y2, y3]
                      rfl
                     refine two_ (i := 1) (j := 9) (Ni := some 33) (Nj := some 9) #[true, true, true, false, false, false, false, false, false, false, true, false, false, false] #[true, false, true, false, false, false, false, false, false, true, true, false, false, false] rfl rfl rfl rfl (two_of HT_.out Z62) (by decide) (by decide) (fun K hK => ?_) (fun K hK => ?_)
                     ·
                      skip
                      refine goes_ Tryd.func11 Z62 rfl #[.agg #[.int .i64 a0_0, .int .i64 a0_1, .string a0_2]] (by rfl) rfl rfl Z55 ?_
                      with_reducible refine (laws_toWay.calls a0_0 a0_1 a0_2 t227 t228 t229 _ A22.out).mono ?_
                      rintro e w54 ⟨rfl, hb⟩
                      refine ⟨_, rfl, ?_⟩
                      have n0_ := A0 (blk_below (g := g208) (o := O25 a0_0 a0_1 a0_2) Z56 hb)
                      have n1_ := A0 (blk_below (g := g209) (o := O25 a1_0 a1_1 a1_2) Z57 hb)
                      have n2_ := A0 (blk_below (g := g225) (o := O30 t218 t219 t220) Z58 hb)
                      have n3_ := A0 (blk_below (g := g226) (o := O30 t221 t222 t223) Z59 hb)
                      have n4_ := A0 (blk_below (g := g241) (o := O30 0 0 Y0) Z61 hb)
                      have n5_ := A0 (below_step Z8 hb)
                      clear B30 B31 B32 B33 B35 HB
                      have B30 := n0_
                      have B31 := n1_
                      have B32 := n2_
                      have B33 := n3_
                      have B35 := n4_
                      have HB := n5_
                      clear n0_ n1_ n2_ n3_ n4_ n5_
                      (try clear hb)
                      (try clear hb2)
                      (try clear hk)
                      (try clear hi)
                      refine hK.out _ _ ⟨(blk_cell B30.out 0).trans rfl, (blk_cell B30.out 1).trans rfl, (blk_cell B30.out 2).trans rfl, (blk_cell B31.out 0).trans rfl, (blk_cell B31.out 1).trans rfl, (blk_cell B31.out 2).trans rfl⟩ (fun hHeld => ?_)
                      clear hK K
                      refine norm_ (a' := ?_) ?_ ?_
                      rotate_left
                      ·
                       show Act.put _ (some 33) _ = _
                       simp only [Act.put, y1, y2, y3, i64_w, i32_w]
                       rfl
                      exact norm_ Z52 (hJ1_10 (g241) _ ⟨hHeld, Z56, Z57, Z58, Z59, Z61, G41.out, G47.out, N4.out, N25.out, N9.out, N26.out, N14.out, N27.out, N19.out, N28.out, Z8⟩)
                     ·
                      skip
                      refine box_step ?hg (N := 9) ?hd (cs := #[.int .i64 0, .int .i64 0, .string Y0]) (t := 30) ?hr ?_; (case hd => rfl); (case hg => rfl); (case hr => first | (go_simp; done) | (go_simp; rfl))
                      intro g240 hg w54 hbox hb
                      have n0_ := A0 (blk_below (g := g208) (o := O25 a0_0 a0_1 a0_2) Z56 hb)
                      have n1_ := A0 (blk_below (g := g209) (o := O25 a1_0 a1_1 a1_2) Z57 hb)
                      have n2_ := A0 (blk_below (g := g225) (o := O30 t218 t219 t220) Z58 hb)
                      have n3_ := A0 (blk_below (g := g226) (o := O30 t221 t222 t223) Z59 hb)
                      have n4_ := A0 (blk_below (g := g241) (o := O30 0 0 Y0) Z61 hb)
                      have n5_ := A0 (below_step Z8 hb)
                      have B34 := A0 (hbox)
                      have G40 := A0 ((Z1 : w.heap.size ≤ g240))
                      have G46 := A0 ((Z1 : w.heap.size ≤ g240))
                      have N3 := A0 ((Z31 : g208 ≠ g240))
                      have N20 := A0 ((Z32 : g240 ≠ g208))
                      have N8 := A0 ((Z33 : g209 ≠ g240))
                      have N21 := A0 ((Z34 : g240 ≠ g209))
                      have N13 := A0 ((Z35 : g225 ≠ g240))
                      have N22 := A0 ((Z36 : g240 ≠ g225))
                      have N18 := A0 ((Z37 : g226 ≠ g240))
                      have N23 := A0 ((Z38 : g240 ≠ g226))
                      have N29 := A0 ((Z15 : g241 ≠ g240))
                      have N24 := A0 ((Z16 : g240 ≠ g241))
                      clear B30 B31 B32 B33 B35 HB
                      have B30 := n0_
                      have B31 := n1_
                      have B32 := n2_
                      have B33 := n3_
                      have B35 := n4_
                      have HB := n5_
                      clear n0_ n1_ n2_ n3_ n4_ n5_
                      clear hb hbox hg
                      refine hK.out _ _ ⟨(blk_cell B30.out 0).trans rfl, (blk_cell B30.out 1).trans rfl, (blk_cell B30.out 2).trans rfl, (blk_cell B31.out 0).trans rfl, (blk_cell B31.out 1).trans rfl, (blk_cell B31.out 2).trans rfl⟩ (fun hHeld => ?_)
                      clear hK K
                      refine norm_ (a' := ?_) ?_ ?_
                      rotate_left
                      ·
                       show Act.put _ (some 9) _ = _
                       simp only [Act.put, y1, y2, y3, i64_w, i32_w]
                       rfl
                      exact norm_ Z52 (hJ9_10 (g240, g241) _ ⟨hHeld, Z56, Z57, Z58, Z59, Z60, Z61, G40.out, G46.out, N3.out, N20.out, N8.out, N21.out, N13.out, N22.out, N18.out, N23.out, N29.out, N24.out, G41.out, G47.out, N4.out, N25.out, N9.out, N26.out, N14.out, N27.out, N19.out, N28.out, Z3⟩)
                   ·
                    skip
                    rintro g240 w53 ⟨hS_, h0_, h1_, h2_, h3_, h4_, h5_, h6_, h7_, h8_, h9_, h10_, h11_, h12_, h13_, h14_, h15_⟩
                    have n0_ : Aside0 (w53.heap[g208]? = some (O25 a0_0 a0_1 a0_2)) := ⟨h0_⟩
                    have n1_ : Aside0 (w53.heap[g209]? = some (O25 a1_0 a1_1 a1_2)) := ⟨h1_⟩
                    have n2_ : Aside0 (w53.heap[g225]? = some (O30 t218 t219 t220)) := ⟨h2_⟩
                    have n3_ : Aside0 (w53.heap[g226]? = some (O30 t221 t222 t223)) := ⟨h3_⟩
                    have B34 : Aside0 (w53.heap[g240]? = some (O30 0 0 Y0)) := ⟨h4_⟩
                    have G40 := A0 h5_
                    have G46 := A0 h6_
                    have N3 := A0 h7_
                    have N20 := A0 h8_
                    have N8 := A0 h9_
                    have N21 := A0 h10_
                    have N13 := A0 h11_
                    have N22 := A0 h12_
                    have N18 := A0 h13_
                    have N23 := A0 h14_
                    have n15_ : Aside0 (Below w.heap.size w w53) := ⟨h15_⟩
                    clear B30 B31 B32 B33 HB
                    clear h0_ h1_ h2_ h3_ h4_ h5_ h6_ h7_ h8_ h9_ h10_ h11_ h12_ h13_ h14_ h15_
                    have B30 := n0_
                    have B31 := n1_
                    have B32 := n2_
                    have B33 := n3_
                    have HB := n15_
                    clear n0_ n1_ n2_ n3_ n15_
                    have hHeld : Q6 g208 a0_0 a0_1 a0_2 g209 a1_0 a1_1 a1_2 w53 := hS_
                    refine norm_ (a' := ?_) ?_ ?_
                    rotate_left
                    ·
                     simp only [putAll, Act.put, y1, y2, y3]
                     rfl
                    refine two_ (i := 1) (j := 10) (Ni := some 33) (Nj := some 10) #[true, true, true, false, false, false, false, false, false, true, false, false, false, false] #[true, false, true, false, false, false, false, false, false, true, true, false, false, false] rfl rfl rfl rfl (two_of HT_.out Z62) (by decide) (by decide) (fun K hK => ?_) (fun K hK => ?_)
                    ·
                     skip
                     refine goes_ Tryd.func11 Z62 rfl #[.agg #[.int .i64 a0_0, .int .i64 a0_1, .string a0_2]] (by rfl) rfl rfl Z55 ?_
                     with_reducible refine (laws_toWay.calls a0_0 a0_1 a0_2 t227 t228 t229 _ A22.out).mono ?_
                     rintro e w54 ⟨rfl, hb⟩
                     refine ⟨_, rfl, ?_⟩
                     have n0_ := A0 (blk_below (g := g208) (o := O25 a0_0 a0_1 a0_2) Z56 hb)
                     have n1_ := A0 (blk_below (g := g209) (o := O25 a1_0 a1_1 a1_2) Z57 hb)
                     have n2_ := A0 (blk_below (g := g225) (o := O30 t218 t219 t220) Z58 hb)
                     have n3_ := A0 (blk_below (g := g226) (o := O30 t221 t222 t223) Z59 hb)
                     have n4_ := A0 (blk_below (g := g240) (o := O30 0 0 Y0) Z60 hb)
                     have n5_ := A0 (below_step Z7 hb)
                     clear B30 B31 B32 B33 B34 HB
                     have B30 := n0_
                     have B31 := n1_
                     have B32 := n2_
                     have B33 := n3_
                     have B34 := n4_
                     have HB := n5_
                     clear n0_ n1_ n2_ n3_ n4_ n5_
                     (try clear hb)
                     (try clear hb2)
                     (try clear hk)
                     (try clear hi)
                     refine hK.out _ _ ⟨(blk_cell B30.out 0).trans rfl, (blk_cell B30.out 1).trans rfl, (blk_cell B30.out 2).trans rfl, (blk_cell B31.out 0).trans rfl, (blk_cell B31.out 1).trans rfl, (blk_cell B31.out 2).trans rfl⟩ (fun hHeld => ?_)
                     clear hK K
                     refine norm_ (a' := ?_) ?_ ?_
                     rotate_left
                     ·
                      show Act.put _ (some 33) _ = _
                      simp only [Act.put, y1, y2, y3, i64_w, i32_w]
                      rfl
                     exact norm_ Z52 (hJ1_9 (g240) _ ⟨hHeld, Z56, Z57, Z58, Z59, Z60, G40.out, G46.out, N3.out, N20.out, N8.out, N21.out, N13.out, N22.out, N18.out, N23.out, Z7⟩)
                    ·
                     skip
                     refine box_step ?hg (N := 10) ?hd (cs := #[.int .i64 0, .int .i64 0, .string Y0]) (t := 30) ?hr ?_; (case hd => rfl); (case hg => rfl); (case hr => first | (go_simp; done) | (go_simp; rfl))
                     intro g241 hg w54 hbox hb
                     have n0_ := A0 (blk_below (g := g208) (o := O25 a0_0 a0_1 a0_2) Z56 hb)
                     have n1_ := A0 (blk_below (g := g209) (o := O25 a1_0 a1_1 a1_2) Z57 hb)
                     have n2_ := A0 (blk_below (g := g225) (o := O30 t218 t219 t220) Z58 hb)
                     have n3_ := A0 (blk_below (g := g226) (o := O30 t221 t222 t223) Z59 hb)
                     have n4_ := A0 (blk_below (g := g240) (o := O30 0 0 Y0) Z60 hb)
                     have n5_ := A0 (below_step Z7 hb)
                     have B35 := A0 (hbox)
                     have G41 := A0 ((Z2 : w.heap.size ≤ g241))
                     have G47 := A0 ((Z2 : w.heap.size ≤ g241))
                     have N4 := A0 ((Z39 : g208 ≠ g241))
                     have N25 := A0 ((Z40 : g241 ≠ g208))
                     have N9 := A0 ((Z41 : g209 ≠ g241))
                     have N26 := A0 ((Z42 : g241 ≠ g209))
                     have N14 := A0 ((Z43 : g225 ≠ g241))
                     have N27 := A0 ((Z44 : g241 ≠ g225))
                     have N19 := A0 ((Z45 : g226 ≠ g241))
                     have N28 := A0 ((Z46 : g241 ≠ g226))
                     have N24 := A0 ((Z17 : g240 ≠ g241))
                     have N29 := A0 ((Z18 : g241 ≠ g240))
                     clear B30 B31 B32 B33 B34 HB
                     have B30 := n0_
                     have B31 := n1_
                     have B32 := n2_
                     have B33 := n3_
                     have B34 := n4_
                     have HB := n5_
                     clear n0_ n1_ n2_ n3_ n4_ n5_
                     clear hb hbox hg
                     refine hK.out _ _ ⟨(blk_cell B30.out 0).trans rfl, (blk_cell B30.out 1).trans rfl, (blk_cell B30.out 2).trans rfl, (blk_cell B31.out 0).trans rfl, (blk_cell B31.out 1).trans rfl, (blk_cell B31.out 2).trans rfl⟩ (fun hHeld => ?_)
                     clear hK K
                     refine norm_ (a' := ?_) ?_ ?_
                     rotate_left
                     ·
                      show Act.put _ (some 10) _ = _
                      simp only [Act.put, y1, y2, y3, i64_w, i32_w]
                      rfl
                     exact norm_ Z52 (hJ9_10 (g240, g241) _ ⟨hHeld, Z56, Z57, Z58, Z59, Z60, Z61, G40.out, G46.out, N3.out, N20.out, N8.out, N21.out, N13.out, N22.out, N18.out, N23.out, N29.out, N24.out, G41.out, G47.out, N4.out, N25.out, N9.out, N26.out, N14.out, N27.out, N19.out, N28.out, Z4⟩)
                  ·
                   skip
                   rintro _ w53 ⟨hS_, h0_, h1_, h2_, h3_, h4_⟩
                   have n0_ : Aside0 (w53.heap[g208]? = some (O25 a0_0 a0_1 a0_2)) := ⟨h0_⟩
                   have n1_ : Aside0 (w53.heap[g209]? = some (O25 a1_0 a1_1 a1_2)) := ⟨h1_⟩
                   have n2_ : Aside0 (w53.heap[g225]? = some (O30 t218 t219 t220)) := ⟨h2_⟩
                   have n3_ : Aside0 (w53.heap[g226]? = some (O30 t221 t222 t223)) := ⟨h3_⟩
                   have n4_ : Aside0 (Below w.heap.size w w53) := ⟨h4_⟩
                   clear B30 B31 B32 B33 HB
                   clear h0_ h1_ h2_ h3_ h4_
                   have B30 := n0_
                   have B31 := n1_
                   have B32 := n2_
                   have B33 := n3_
                   have HB := n4_
                   clear n0_ n1_ n2_ n3_ n4_
                   have hHeld : Q6 g208 a0_0 a0_1 a0_2 g209 a1_0 a1_1 a1_2 w53 := hS_
                   refine norm_ (a' := ?_) ?_ ?_
                   rotate_left
                   ·
                    simp only [putAll, Act.put, y1, y2, y3]
                    rfl
                   refine three_ (i := 3) (j := 9) (k := 10) (Ni := some 35) (Nj := some 9) (Nk := some 10) #[true, true, true, true, false, false, false, false, false, false, false, false, false, false] #[true, true, true, false, false, false, false, false, false, true, false, false, false, false] #[true, true, true, false, false, false, false, false, false, false, true, false, false, false] rfl rfl rfl rfl rfl rfl (three_of HT_.out Z62) (by decide) (by decide) (by decide) (fun K hK => ?_) (fun K hK => ?_) (fun K hK => ?_)
                   ·
                    skip
                    refine goes_ Tryd.func11 Z62 rfl #[.agg #[.int .i64 a1_0, .int .i64 a1_1, .string a1_2]] (by rfl) rfl rfl Z55 ?_
                    with_reducible refine (laws_toWay.calls a1_0 a1_1 a1_2 t230 t231 t232 _ A23.out).mono ?_
                    rintro e w54 ⟨rfl, hb⟩
                    refine ⟨_, rfl, ?_⟩
                    have n0_ := A0 (blk_below (g := g208) (o := O25 a0_0 a0_1 a0_2) Z56 hb)
                    have n1_ := A0 (blk_below (g := g209) (o := O25 a1_0 a1_1 a1_2) Z57 hb)
                    have n2_ := A0 (blk_below (g := g225) (o := O30 t218 t219 t220) Z58 hb)
                    have n3_ := A0 (blk_below (g := g226) (o := O30 t221 t222 t223) Z59 hb)
                    have n4_ := A0 (below_step Z30 hb)
                    clear B30 B31 B32 B33 HB
                    have B30 := n0_
                    have B31 := n1_
                    have B32 := n2_
                    have B33 := n3_
                    have HB := n4_
                    clear n0_ n1_ n2_ n3_ n4_
                    (try clear hb)
                    (try clear hb2)
                    (try clear hk)
                    (try clear hi)
                    refine hK.out _ _ ⟨(blk_cell B30.out 0).trans rfl, (blk_cell B30.out 1).trans rfl, (blk_cell B30.out 2).trans rfl, (blk_cell B31.out 0).trans rfl, (blk_cell B31.out 1).trans rfl, (blk_cell B31.out 2).trans rfl⟩ (fun hHeld => ?_)
                    clear hK K
                    refine norm_ (a' := ?_) ?_ ?_
                    rotate_left
                    ·
                     show Act.put _ (some 35) _ = _
                     simp only [Act.put, y1, y2, y3, i64_w, i32_w]
                     rfl
                    exact norm_ Z52 (hJ1_3 () _ ⟨hHeld, Z56, Z57, Z58, Z59, Z30⟩)
                   ·
                    skip
                    refine box_step ?hg (N := 9) ?hd (cs := #[.int .i64 0, .int .i64 0, .string Y0]) (t := 30) ?hr ?_; (case hd => rfl); (case hg => rfl); (case hr => first | (go_simp; done) | (go_simp; rfl))
                    intro g240 hg w54 hbox hb
                    have n0_ := A0 (blk_below (g := g208) (o := O25 a0_0 a0_1 a0_2) Z56 hb)
                    have n1_ := A0 (blk_below (g := g209) (o := O25 a1_0 a1_1 a1_2) Z57 hb)
                    have n2_ := A0 (blk_below (g := g225) (o := O30 t218 t219 t220) Z58 hb)
                    have n3_ := A0 (blk_below (g := g226) (o := O30 t221 t222 t223) Z59 hb)
                    have n4_ := A0 (below_step Z30 hb)
                    have B34 := A0 (hbox)
                    have G40 := A0 ((Z5 : w.heap.size ≤ g240))
                    have G46 := A0 ((Z5 : w.heap.size ≤ g240))
                    have N3 := A0 ((Z31 : g208 ≠ g240))
                    have N20 := A0 ((Z32 : g240 ≠ g208))
                    have N8 := A0 ((Z33 : g209 ≠ g240))
                    have N21 := A0 ((Z34 : g240 ≠ g209))
                    have N13 := A0 ((Z35 : g225 ≠ g240))
                    have N22 := A0 ((Z36 : g240 ≠ g225))
                    have N18 := A0 ((Z37 : g226 ≠ g240))
                    have N23 := A0 ((Z38 : g240 ≠ g226))
                    clear B30 B31 B32 B33 HB
                    have B30 := n0_
                    have B31 := n1_
                    have B32 := n2_
                    have B33 := n3_
                    have HB := n4_
                    clear n0_ n1_ n2_ n3_ n4_
                    clear hb hbox hg
                    refine hK.out _ _ ⟨(blk_cell B30.out 0).trans rfl, (blk_cell B30.out 1).trans rfl, (blk_cell B30.out 2).trans rfl, (blk_cell B31.out 0).trans rfl, (blk_cell B31.out 1).trans rfl, (blk_cell B31.out 2).trans rfl⟩ (fun hHeld => ?_)
                    clear hK K
                    refine norm_ (a' := ?_) ?_ ?_
                    rotate_left
                    ·
                     show Act.put _ (some 9) _ = _
                     simp only [Act.put, y1, y2, y3, i64_w, i32_w]
                     rfl
                    exact norm_ Z52 (hJ1_9 (g240) _ ⟨hHeld, Z56, Z57, Z58, Z59, Z60, G40.out, G46.out, N3.out, N20.out, N8.out, N21.out, N13.out, N22.out, N18.out, N23.out, Z7⟩)
                   ·
                    skip
                    refine box_step ?hg (N := 10) ?hd (cs := #[.int .i64 0, .int .i64 0, .string Y0]) (t := 30) ?hr ?_; (case hd => rfl); (case hg => rfl); (case hr => first | (go_simp; done) | (go_simp; rfl))
                    intro g241 hg w54 hbox hb
                    have n0_ := A0 (blk_below (g := g208) (o := O25 a0_0 a0_1 a0_2) Z56 hb)
                    have n1_ := A0 (blk_below (g := g209) (o := O25 a1_0 a1_1 a1_2) Z57 hb)
                    have n2_ := A0 (blk_below (g := g225) (o := O30 t218 t219 t220) Z58 hb)
                    have n3_ := A0 (blk_below (g := g226) (o := O30 t221 t222 t223) Z59 hb)
                    have n4_ := A0 (below_step Z30 hb)
                    have B35 := A0 (hbox)
                    have G41 := A0 ((Z6 : w.heap.size ≤ g241))
                    have G47 := A0 ((Z6 : w.heap.size ≤ g241))
                    have N4 := A0 ((Z39 : g208 ≠ g241))
                    have N25 := A0 ((Z40 : g241 ≠ g208))
                    have N9 := A0 ((Z41 : g209 ≠ g241))
                    have N26 := A0 ((Z42 : g241 ≠ g209))
                    have N14 := A0 ((Z43 : g225 ≠ g241))
                    have N27 := A0 ((Z44 : g241 ≠ g225))
                    have N19 := A0 ((Z45 : g226 ≠ g241))
                    have N28 := A0 ((Z46 : g241 ≠ g226))
                    clear B30 B31 B32 B33 HB
                    have B30 := n0_
                    have B31 := n1_
                    have B32 := n2_
                    have B33 := n3_
                    have HB := n4_
                    clear n0_ n1_ n2_ n3_ n4_
                    clear hb hbox hg
                    refine hK.out _ _ ⟨(blk_cell B30.out 0).trans rfl, (blk_cell B30.out 1).trans rfl, (blk_cell B30.out 2).trans rfl, (blk_cell B31.out 0).trans rfl, (blk_cell B31.out 1).trans rfl, (blk_cell B31.out 2).trans rfl⟩ (fun hHeld => ?_)
                    clear hK K
                    refine norm_ (a' := ?_) ?_ ?_
                    rotate_left
                    ·
                     show Act.put _ (some 10) _ = _
                     simp only [Act.put, y1, y2, y3, i64_w, i32_w]
                     rfl
                    exact norm_ Z52 (hJ1_10 (g241) _ ⟨hHeld, Z56, Z57, Z58, Z59, Z61, G41.out, G47.out, N4.out, N25.out, N9.out, N26.out, N14.out, N27.out, N19.out, N28.out, Z8⟩)
                 ·
                  skip
                  rintro ⟨g240, g241⟩ w54 ⟨hS_, h0_, h1_, h2_, h3_, h4_, h5_, h6_, h7_, h8_, h9_, h10_, h11_, h12_, h13_, h14_, h15_, h16_, h17_, h18_, h19_, h20_, h21_, h22_, h23_, h24_, h25_, h26_, h27_, h28_⟩
                  have n0_ : Aside0 (w54.heap[g208]? = some (O25 a0_0 a0_1 a0_2)) := ⟨h0_⟩
                  have n1_ : Aside0 (w54.heap[g209]? = some (O25 a1_0 a1_1 a1_2)) := ⟨h1_⟩
                  have n2_ : Aside0 (w54.heap[g225]? = some (O30 t218 t219 t220)) := ⟨h2_⟩
                  have n3_ : Aside0 (w54.heap[g226]? = some (O30 t221 t222 t223)) := ⟨h3_⟩
                  have B34 : Aside0 (w54.heap[g240]? = some (O30 0 0 Y0)) := ⟨h4_⟩
                  have B35 : Aside0 (w54.heap[g241]? = some (O30 0 0 Y0)) := ⟨h5_⟩
                  have G40 := A0 h6_
                  have G46 := A0 h7_
                  have N3 := A0 h8_
                  have N20 := A0 h9_
                  have N8 := A0 h10_
                  have N21 := A0 h11_
                  have N13 := A0 h12_
                  have N22 := A0 h13_
                  have N18 := A0 h14_
                  have N23 := A0 h15_
                  have N29 := A0 h16_
                  have N24 := A0 h17_
                  have G41 := A0 h18_
                  have G47 := A0 h19_
                  have N4 := A0 h20_
                  have N25 := A0 h21_
                  have N9 := A0 h22_
                  have N26 := A0 h23_
                  have N14 := A0 h24_
                  have N27 := A0 h25_
                  have N19 := A0 h26_
                  have N28 := A0 h27_
                  have n28_ : Aside0 (Below w.heap.size w w54) := ⟨h28_⟩
                  clear B30 B31 B32 B33 HB
                  clear h0_ h1_ h2_ h3_ h4_ h5_ h6_ h7_ h8_ h9_ h10_ h11_ h12_ h13_ h14_ h15_ h16_ h17_ h18_ h19_ h20_ h21_ h22_ h23_ h24_ h25_ h26_ h27_ h28_
                  have B30 := n0_
                  have B31 := n1_
                  have B32 := n2_
                  have B33 := n3_
                  have HB := n28_
                  clear n0_ n1_ n2_ n3_ n28_
                  have hHeld : Q6 g208 a0_0 a0_1 a0_2 g209 a1_0 a1_1 a1_2 w54 := hS_
                  refine norm_ (a' := ?_) ?_ ?_
                  rotate_left
                  ·
                   simp only [putAll, Act.put, y1, y2, y3]
                   rfl
                  refine one_ (i := 1) (N := some 33) #[true, true, true, false, false, false, false, false, false, true, true, false, false, false] rfl rfl (one_of HT_.out Z62) (by decide) (fun K hK => ?_)
                  refine goes_ Tryd.func11 Z62 rfl #[.agg #[.int .i64 a0_0, .int .i64 a0_1, .string a0_2]] (by rfl) rfl rfl Z55 ?_
                  with_reducible refine (laws_toWay.calls a0_0 a0_1 a0_2 t227 t228 t229 _ A22.out).mono ?_
                  rintro e w55 ⟨rfl, hb⟩
                  refine ⟨_, rfl, ?_⟩
                  have n0_ := A0 (blk_below (g := g208) (o := O25 a0_0 a0_1 a0_2) Z56 hb)
                  have n1_ := A0 (blk_below (g := g209) (o := O25 a1_0 a1_1 a1_2) Z57 hb)
                  have n2_ := A0 (blk_below (g := g225) (o := O30 t218 t219 t220) Z58 hb)
                  have n3_ := A0 (blk_below (g := g226) (o := O30 t221 t222 t223) Z59 hb)
                  have n4_ := A0 (blk_below (g := g240) (o := O30 0 0 Y0) Z60 hb)
                  have n5_ := A0 (blk_below (g := g241) (o := O30 0 0 Y0) Z61 hb)
                  have n6_ := A0 (below_step Z4 hb)
                  clear B30 B31 B32 B33 B34 B35 HB
                  have B30 := n0_
                  have B31 := n1_
                  have B32 := n2_
                  have B33 := n3_
                  have B34 := n4_
                  have B35 := n5_
                  have HB := n6_
                  clear n0_ n1_ n2_ n3_ n4_ n5_ n6_
                  (try clear hb)
                  (try clear hb2)
                  (try clear hk)
                  (try clear hi)
                  refine hK.out _ _ ⟨(blk_cell B30.out 0).trans rfl, (blk_cell B30.out 1).trans rfl, (blk_cell B30.out 2).trans rfl, (blk_cell B31.out 0).trans rfl, (blk_cell B31.out 1).trans rfl, (blk_cell B31.out 2).trans rfl⟩ (fun hHeld => ?_)
                  clear hK K
                  refine norm_ (a' := ?_) ?_ ?_
                  rotate_left
                  ·
                   show Act.put _ (some 33) _ = _
                   simp only [Act.put, y1, y2, y3, i64_w, i32_w]
                   rfl
                  exact norm_ Z52 (hJ1_9_10 (g240, g241) _ ⟨hHeld, Z56, Z57, Z58, Z59, Z60, Z61, G40.out, G46.out, N3.out, N20.out, N8.out, N21.out, N13.out, N22.out, N18.out, N23.out, N29.out, N24.out, G41.out, G47.out, N4.out, N25.out, N9.out, N26.out, N14.out, N27.out, N19.out, N28.out, Z4⟩)
                ·
                 skip
                 rintro g241 w54 ⟨hS_, h0_, h1_, h2_, h3_, h4_, h5_, h6_, h7_, h8_, h9_, h10_, h11_, h12_, h13_, h14_, h15_⟩
                 have n0_ : Aside0 (w54.heap[g208]? = some (O25 a0_0 a0_1 a0_2)) := ⟨h0_⟩
                 have n1_ : Aside0 (w54.heap[g209]? = some (O25 a1_0 a1_1 a1_2)) := ⟨h1_⟩
                 have n2_ : Aside0 (w54.heap[g225]? = some (O30 t218 t219 t220)) := ⟨h2_⟩
                 have n3_ : Aside0 (w54.heap[g226]? = some (O30 t221 t222 t223)) := ⟨h3_⟩
                 have B35 : Aside0 (w54.heap[g241]? = some (O30 0 0 Y0)) := ⟨h4_⟩
                 have G41 := A0 h5_
                 have G47 := A0 h6_
                 have N4 := A0 h7_
                 have N25 := A0 h8_
                 have N9 := A0 h9_
                 have N26 := A0 h10_
                 have N14 := A0 h11_
                 have N27 := A0 h12_
                 have N19 := A0 h13_
                 have N28 := A0 h14_
                 have n15_ : Aside0 (Below w.heap.size w w54) := ⟨h15_⟩
                 clear B30 B31 B32 B33 HB
                 clear h0_ h1_ h2_ h3_ h4_ h5_ h6_ h7_ h8_ h9_ h10_ h11_ h12_ h13_ h14_ h15_
                 have B30 := n0_
                 have B31 := n1_
                 have B32 := n2_
                 have B33 := n3_
                 have HB := n15_
                 clear n0_ n1_ n2_ n3_ n15_
                 have hHeld : Q6 g208 a0_0 a0_1 a0_2 g209 a1_0 a1_1 a1_2 w54 := hS_
                 refine norm_ (a' := ?_) ?_ ?_
                 rotate_left
                 ·
                  simp only [putAll, Act.put, y1, y2, y3]
                  rfl
                 refine two_ (i := 3) (j := 9) (Ni := some 35) (Nj := some 9) #[true, true, true, true, false, false, false, false, false, false, true, false, false, false] #[true, true, true, false, false, false, false, false, false, true, true, false, false, false] rfl rfl rfl rfl (two_of HT_.out Z62) (by decide) (by decide) (fun K hK => ?_) (fun K hK => ?_)
                 ·
                  skip
                  refine goes_ Tryd.func11 Z62 rfl #[.agg #[.int .i64 a1_0, .int .i64 a1_1, .string a1_2]] (by rfl) rfl rfl Z55 ?_
                  with_reducible refine (laws_toWay.calls a1_0 a1_1 a1_2 t230 t231 t232 _ A23.out).mono ?_
                  rintro e w55 ⟨rfl, hb⟩
                  refine ⟨_, rfl, ?_⟩
                  have n0_ := A0 (blk_below (g := g208) (o := O25 a0_0 a0_1 a0_2) Z56 hb)
                  have n1_ := A0 (blk_below (g := g209) (o := O25 a1_0 a1_1 a1_2) Z57 hb)
                  have n2_ := A0 (blk_below (g := g225) (o := O30 t218 t219 t220) Z58 hb)
                  have n3_ := A0 (blk_below (g := g226) (o := O30 t221 t222 t223) Z59 hb)
                  have n4_ := A0 (blk_below (g := g241) (o := O30 0 0 Y0) Z61 hb)
                  have n5_ := A0 (below_step Z8 hb)
                  clear B30 B31 B32 B33 B35 HB
                  have B30 := n0_
                  have B31 := n1_
                  have B32 := n2_
                  have B33 := n3_
                  have B35 := n4_
                  have HB := n5_
                  clear n0_ n1_ n2_ n3_ n4_ n5_
                  (try clear hb)
                  (try clear hb2)
                  (try clear hk)
                  (try clear hi)
                  refine hK.out _ _ ⟨(blk_cell B30.out 0).trans rfl, (blk_cell B30.out 1).trans rfl, (blk_cell B30.out 2).trans rfl, (blk_cell B31.out 0).trans rfl, (blk_cell B31.out 1).trans rfl, (blk_cell B31.out 2).trans rfl⟩ (fun hHeld => ?_)
                  clear hK K
                  refine norm_ (a' := ?_) ?_ ?_
                  rotate_left
                  ·
                   show Act.put _ (some 35) _ = _
                   simp only [Act.put, y1, y2, y3, i64_w, i32_w]
                   rfl
                  exact norm_ Z52 (hJ1_3_10 (g241) _ ⟨hHeld, Z56, Z57, Z58, Z59, Z61, G41.out, G47.out, N4.out, N25.out, N9.out, N26.out, N14.out, N27.out, N19.out, N28.out, Z8⟩)
                 ·
                  skip
                  refine box_step ?hg (N := 9) ?hd (cs := #[.int .i64 0, .int .i64 0, .string Y0]) (t := 30) ?hr ?_; (case hd => rfl); (case hg => rfl); (case hr => first | (go_simp; done) | (go_simp; rfl))
                  intro g240 hg w55 hbox hb
                  have n0_ := A0 (blk_below (g := g208) (o := O25 a0_0 a0_1 a0_2) Z56 hb)
                  have n1_ := A0 (blk_below (g := g209) (o := O25 a1_0 a1_1 a1_2) Z57 hb)
                  have n2_ := A0 (blk_below (g := g225) (o := O30 t218 t219 t220) Z58 hb)
                  have n3_ := A0 (blk_below (g := g226) (o := O30 t221 t222 t223) Z59 hb)
                  have n4_ := A0 (blk_below (g := g241) (o := O30 0 0 Y0) Z61 hb)
                  have n5_ := A0 (below_step Z8 hb)
                  have B34 := A0 (hbox)
                  have G40 := A0 ((Z1 : w.heap.size ≤ g240))
                  have G46 := A0 ((Z1 : w.heap.size ≤ g240))
                  have N3 := A0 ((Z31 : g208 ≠ g240))
                  have N20 := A0 ((Z32 : g240 ≠ g208))
                  have N8 := A0 ((Z33 : g209 ≠ g240))
                  have N21 := A0 ((Z34 : g240 ≠ g209))
                  have N13 := A0 ((Z35 : g225 ≠ g240))
                  have N22 := A0 ((Z36 : g240 ≠ g225))
                  have N18 := A0 ((Z37 : g226 ≠ g240))
                  have N23 := A0 ((Z38 : g240 ≠ g226))
                  have N29 := A0 ((Z15 : g241 ≠ g240))
                  have N24 := A0 ((Z16 : g240 ≠ g241))
                  clear B30 B31 B32 B33 B35 HB
                  have B30 := n0_
                  have B31 := n1_
                  have B32 := n2_
                  have B33 := n3_
                  have B35 := n4_
                  have HB := n5_
                  clear n0_ n1_ n2_ n3_ n4_ n5_
                  clear hb hbox hg
                  refine hK.out _ _ ⟨(blk_cell B30.out 0).trans rfl, (blk_cell B30.out 1).trans rfl, (blk_cell B30.out 2).trans rfl, (blk_cell B31.out 0).trans rfl, (blk_cell B31.out 1).trans rfl, (blk_cell B31.out 2).trans rfl⟩ (fun hHeld => ?_)
                  clear hK K
                  refine norm_ (a' := ?_) ?_ ?_
                  rotate_left
                  ·
                   show Act.put _ (some 9) _ = _
                   simp only [Act.put, y1, y2, y3, i64_w, i32_w]
                   rfl
                  exact norm_ Z52 (hJ1_9_10 (g240, g241) _ ⟨hHeld, Z56, Z57, Z58, Z59, Z60, Z61, G40.out, G46.out, N3.out, N20.out, N8.out, N21.out, N13.out, N22.out, N18.out, N23.out, N29.out, N24.out, G41.out, G47.out, N4.out, N25.out, N9.out, N26.out, N14.out, N27.out, N19.out, N28.out, Z3⟩)
               ·
                skip
                rintro g240 w54 ⟨hS_, h0_, h1_, h2_, h3_, h4_, h5_, h6_, h7_, h8_, h9_, h10_, h11_, h12_, h13_, h14_, h15_⟩
                have n0_ : Aside0 (w54.heap[g208]? = some (O25 a0_0 a0_1 a0_2)) := ⟨h0_⟩
                have n1_ : Aside0 (w54.heap[g209]? = some (O25 a1_0 a1_1 a1_2)) := ⟨h1_⟩
                have n2_ : Aside0 (w54.heap[g225]? = some (O30 t218 t219 t220)) := ⟨h2_⟩
                have n3_ : Aside0 (w54.heap[g226]? = some (O30 t221 t222 t223)) := ⟨h3_⟩
                have B34 : Aside0 (w54.heap[g240]? = some (O30 0 0 Y0)) := ⟨h4_⟩
                have G40 := A0 h5_
                have G46 := A0 h6_
                have N3 := A0 h7_
                have N20 := A0 h8_
                have N8 := A0 h9_
                have N21 := A0 h10_
                have N13 := A0 h11_
                have N22 := A0 h12_
                have N18 := A0 h13_
                have N23 := A0 h14_
                have n15_ : Aside0 (Below w.heap.size w w54) := ⟨h15_⟩
                clear B30 B31 B32 B33 HB
                clear h0_ h1_ h2_ h3_ h4_ h5_ h6_ h7_ h8_ h9_ h10_ h11_ h12_ h13_ h14_ h15_
                have B30 := n0_
                have B31 := n1_
                have B32 := n2_
                have B33 := n3_
                have HB := n15_
                clear n0_ n1_ n2_ n3_ n15_
                have hHeld : Q6 g208 a0_0 a0_1 a0_2 g209 a1_0 a1_1 a1_2 w54 := hS_
                refine norm_ (a' := ?_) ?_ ?_
                rotate_left
                ·
                 simp only [putAll, Act.put, y1, y2, y3]
                 rfl
                refine two_ (i := 3) (j := 10) (Ni := some 35) (Nj := some 10) #[true, true, true, true, false, false, false, false, false, true, false, false, false, false] #[true, true, true, false, false, false, false, false, false, true, true, false, false, false] rfl rfl rfl rfl (two_of HT_.out Z62) (by decide) (by decide) (fun K hK => ?_) (fun K hK => ?_)
                ·
                 skip
                 refine goes_ Tryd.func11 Z62 rfl #[.agg #[.int .i64 a1_0, .int .i64 a1_1, .string a1_2]] (by rfl) rfl rfl Z55 ?_
                 with_reducible refine (laws_toWay.calls a1_0 a1_1 a1_2 t230 t231 t232 _ A23.out).mono ?_
                 rintro e w55 ⟨rfl, hb⟩
                 refine ⟨_, rfl, ?_⟩
                 have n0_ := A0 (blk_below (g := g208) (o := O25 a0_0 a0_1 a0_2) Z56 hb)
                 have n1_ := A0 (blk_below (g := g209) (o := O25 a1_0 a1_1 a1_2) Z57 hb)
                 have n2_ := A0 (blk_below (g := g225) (o := O30 t218 t219 t220) Z58 hb)
                 have n3_ := A0 (blk_below (g := g226) (o := O30 t221 t222 t223) Z59 hb)
                 have n4_ := A0 (blk_below (g := g240) (o := O30 0 0 Y0) Z60 hb)
                 have n5_ := A0 (below_step Z7 hb)
                 clear B30 B31 B32 B33 B34 HB
                 have B30 := n0_
                 have B31 := n1_
                 have B32 := n2_
                 have B33 := n3_
                 have B34 := n4_
                 have HB := n5_
                 clear n0_ n1_ n2_ n3_ n4_ n5_
                 (try clear hb)
                 (try clear hb2)
                 (try clear hk)
                 (try clear hi)
                 refine hK.out _ _ ⟨(blk_cell B30.out 0).trans rfl, (blk_cell B30.out 1).trans rfl, (blk_cell B30.out 2).trans rfl, (blk_cell B31.out 0).trans rfl, (blk_cell B31.out 1).trans rfl, (blk_cell B31.out 2).trans rfl⟩ (fun hHeld => ?_)
                 clear hK K
                 refine norm_ (a' := ?_) ?_ ?_
                 rotate_left
                 ·
                  show Act.put _ (some 35) _ = _
                  simp only [Act.put, y1, y2, y3, i64_w, i32_w]
                  rfl
                 exact norm_ Z52 (hJ1_3_9 (g240) _ ⟨hHeld, Z56, Z57, Z58, Z59, Z60, G40.out, G46.out, N3.out, N20.out, N8.out, N21.out, N13.out, N22.out, N18.out, N23.out, Z7⟩)
                ·
                 skip
                 refine box_step ?hg (N := 10) ?hd (cs := #[.int .i64 0, .int .i64 0, .string Y0]) (t := 30) ?hr ?_; (case hd => rfl); (case hg => rfl); (case hr => first | (go_simp; done) | (go_simp; rfl))
                 intro g241 hg w55 hbox hb
                 have n0_ := A0 (blk_below (g := g208) (o := O25 a0_0 a0_1 a0_2) Z56 hb)
                 have n1_ := A0 (blk_below (g := g209) (o := O25 a1_0 a1_1 a1_2) Z57 hb)
                 have n2_ := A0 (blk_below (g := g225) (o := O30 t218 t219 t220) Z58 hb)
                 have n3_ := A0 (blk_below (g := g226) (o := O30 t221 t222 t223) Z59 hb)
                 have n4_ := A0 (blk_below (g := g240) (o := O30 0 0 Y0) Z60 hb)
                 have n5_ := A0 (below_step Z7 hb)
                 have B35 := A0 (hbox)
                 have G41 := A0 ((Z2 : w.heap.size ≤ g241))
                 have G47 := A0 ((Z2 : w.heap.size ≤ g241))
                 have N4 := A0 ((Z39 : g208 ≠ g241))
                 have N25 := A0 ((Z40 : g241 ≠ g208))
                 have N9 := A0 ((Z41 : g209 ≠ g241))
                 have N26 := A0 ((Z42 : g241 ≠ g209))
                 have N14 := A0 ((Z43 : g225 ≠ g241))
                 have N27 := A0 ((Z44 : g241 ≠ g225))
                 have N19 := A0 ((Z45 : g226 ≠ g241))
                 have N28 := A0 ((Z46 : g241 ≠ g226))
                 have N24 := A0 ((Z17 : g240 ≠ g241))
                 have N29 := A0 ((Z18 : g241 ≠ g240))
                 clear B30 B31 B32 B33 B34 HB
                 have B30 := n0_
                 have B31 := n1_
                 have B32 := n2_
                 have B33 := n3_
                 have B34 := n4_
                 have HB := n5_
                 clear n0_ n1_ n2_ n3_ n4_ n5_
                 clear hb hbox hg
                 refine hK.out _ _ ⟨(blk_cell B30.out 0).trans rfl, (blk_cell B30.out 1).trans rfl, (blk_cell B30.out 2).trans rfl, (blk_cell B31.out 0).trans rfl, (blk_cell B31.out 1).trans rfl, (blk_cell B31.out 2).trans rfl⟩ (fun hHeld => ?_)
                 clear hK K
                 refine norm_ (a' := ?_) ?_ ?_
                 rotate_left
                 ·
                  show Act.put _ (some 10) _ = _
                  simp only [Act.put, y1, y2, y3, i64_w, i32_w]
                  rfl
                 exact norm_ Z52 (hJ1_9_10 (g240, g241) _ ⟨hHeld, Z56, Z57, Z58, Z59, Z60, Z61, G40.out, G46.out, N3.out, N20.out, N8.out, N21.out, N13.out, N22.out, N18.out, N23.out, N29.out, N24.out, G41.out, G47.out, N4.out, N25.out, N9.out, N26.out, N14.out, N27.out, N19.out, N28.out, Z4⟩)
              ·
               skip
               rintro _ w54 ⟨hS_, h0_, h1_, h2_, h3_, h4_⟩
               have n0_ : Aside0 (w54.heap[g208]? = some (O25 a0_0 a0_1 a0_2)) := ⟨h0_⟩
               have n1_ : Aside0 (w54.heap[g209]? = some (O25 a1_0 a1_1 a1_2)) := ⟨h1_⟩
               have n2_ : Aside0 (w54.heap[g225]? = some (O30 t218 t219 t220)) := ⟨h2_⟩
               have n3_ : Aside0 (w54.heap[g226]? = some (O30 t221 t222 t223)) := ⟨h3_⟩
               have n4_ : Aside0 (Below w.heap.size w w54) := ⟨h4_⟩
               clear B30 B31 B32 B33 HB
               clear h0_ h1_ h2_ h3_ h4_
               have B30 := n0_
               have B31 := n1_
               have B32 := n2_
               have B33 := n3_
               have HB := n4_
               clear n0_ n1_ n2_ n3_ n4_
               have hHeld : Q6 g208 a0_0 a0_1 a0_2 g209 a1_0 a1_1 a1_2 w54 := hS_
               refine norm_ (a' := ?_) ?_ ?_
               rotate_left
               ·
                simp only [putAll, Act.put, y1, y2, y3]
                rfl
               refine three_ (i := 4) (j := 9) (k := 10) (Ni := some 36) (Nj := some 9) (Nk := some 10) #[true, true, true, true, true, false, false, false, false, false, false, false, false, false] #[true, true, true, true, false, false, false, false, false, true, false, false, false, false] #[true, true, true, true, false, false, false, false, false, false, true, false, false, false] rfl rfl rfl rfl rfl rfl (three_of HT_.out Z62) (by decide) (by decide) (by decide) (fun K hK => ?_) (fun K hK => ?_) (fun K hK => ?_)
               ·
                skip
                refine goes_ Tryd.func26 Z62 rfl #[.agg #[.int .i64 t227, .int .i64 t228, .string t229], .agg #[.int .i64 t230, .int .i64 t231, .string t232]] (by rfl) rfl rfl Z55 ?_
                with_reducible refine (impl_SwapTails.calls k t227 t228 t229 t230 t231 t232 t233 t234 t235 t236 t237 t238 t239 _ A24.out).mono ?_
                rintro e w55 ⟨rfl, hb⟩
                refine ⟨_, rfl, ?_⟩
                have n0_ := A0 (blk_below (g := g208) (o := O25 a0_0 a0_1 a0_2) Z56 hb)
                have n1_ := A0 (blk_below (g := g209) (o := O25 a1_0 a1_1 a1_2) Z57 hb)
                have n2_ := A0 (blk_below (g := g225) (o := O30 t218 t219 t220) Z58 hb)
                have n3_ := A0 (blk_below (g := g226) (o := O30 t221 t222 t223) Z59 hb)
                have n4_ := A0 (below_step Z30 hb)
                clear B30 B31 B32 B33 HB
                have B30 := n0_
                have B31 := n1_
                have B32 := n2_
                have B33 := n3_
                have HB := n4_
                clear n0_ n1_ n2_ n3_ n4_
                (try clear hb)
                (try clear hb2)
                (try clear hk)
                (try clear hi)
                refine hK.out _ _ ⟨(blk_cell B30.out 0).trans rfl, (blk_cell B30.out 1).trans rfl, (blk_cell B30.out 2).trans rfl, (blk_cell B31.out 0).trans rfl, (blk_cell B31.out 1).trans rfl, (blk_cell B31.out 2).trans rfl⟩ (fun hHeld => ?_)
                clear hK K
                refine norm_ (a' := ?_) ?_ ?_
                rotate_left
                ·
                 show Act.put _ (some 36) _ = _
                 simp only [Act.put, y1, y2, y3, i64_w, i32_w]
                 rfl
                refine pure_ (i := 5) (N := some 31) (v := ?_) (a' := ?_) #[true, true, true, true, true, true, false, false, false, false, false, false, false, false] rfl rfl (any_of HT_.out Z62) (fun _ _ _ h => h) (Or.inl ⟨by rfl, ?_⟩) ?_ ?_
                rotate_left
                ·
                 intro w'
                 go_simp
                 with_reducible rfl
                rotate_left
                ·
                 simp only [Act.put, y1, y2, y3, i64_w, i32_w]
                 rfl
                refine pure_ (i := 6) (N := some 37) (v := ?_) (a' := ?_) #[true, true, true, true, true, true, true, false, false, false, false, false, false, false] rfl rfl (any_of HT_.out Z62) (fun _ _ _ h => h) (Or.inl ⟨by rfl, ?_⟩) ?_ ?_
                rotate_left
                ·
                 intro w'
                 go_simp
                 with_reducible rfl
                rotate_left
                ·
                 simp only [Act.put, y1, y2, y3, i64_w, i32_w]
                 rfl
                refine pure_ (i := 7) (N := some 38) (v := ?_) (a' := ?_) #[true, true, true, true, true, true, true, true, false, false, false, false, false, false] rfl rfl (any_of HT_.out Z62) (fun _ _ _ h => h) (Or.inl ⟨by rfl, ?_⟩) ?_ ?_
                rotate_left
                ·
                 intro w'
                 go_simp
                 with_reducible rfl
                rotate_left
                ·
                 simp only [Act.put, y1, y2, y3, i64_w, i32_w]
                 rfl
                refine pure_ (i := 8) (N := some 39) (v := ?_) (a' := ?_) #[true, true, true, true, true, true, true, true, true, false, false, false, false, false] rfl rfl (any_of HT_.out Z62) (fun _ _ _ h => h) (Or.inl ⟨by rfl, ?_⟩) ?_ ?_
                rotate_left
                ·
                 intro w'
                 go_simp
                 with_reducible rfl
                rotate_left
                ·
                 simp only [Act.put, y1, y2, y3, i64_w, i32_w]
                 rfl
                exact norm_ Z52 (hJ1_3_4 () _ ⟨hHeld, Z56, Z57, Z58, Z59, Z30⟩)
               ·
                skip
                refine box_step ?hg (N := 9) ?hd (cs := #[.int .i64 0, .int .i64 0, .string Y0]) (t := 30) ?hr ?_; (case hd => rfl); (case hg => rfl); (case hr => first | (go_simp; done) | (go_simp; rfl))
                intro g240 hg w55 hbox hb
                have n0_ := A0 (blk_below (g := g208) (o := O25 a0_0 a0_1 a0_2) Z56 hb)
                have n1_ := A0 (blk_below (g := g209) (o := O25 a1_0 a1_1 a1_2) Z57 hb)
                have n2_ := A0 (blk_below (g := g225) (o := O30 t218 t219 t220) Z58 hb)
                have n3_ := A0 (blk_below (g := g226) (o := O30 t221 t222 t223) Z59 hb)
                have n4_ := A0 (below_step Z30 hb)
                have B34 := A0 (hbox)
                have G40 := A0 ((Z5 : w.heap.size ≤ g240))
                have G46 := A0 ((Z5 : w.heap.size ≤ g240))
                have N3 := A0 ((Z31 : g208 ≠ g240))
                have N20 := A0 ((Z32 : g240 ≠ g208))
                have N8 := A0 ((Z33 : g209 ≠ g240))
                have N21 := A0 ((Z34 : g240 ≠ g209))
                have N13 := A0 ((Z35 : g225 ≠ g240))
                have N22 := A0 ((Z36 : g240 ≠ g225))
                have N18 := A0 ((Z37 : g226 ≠ g240))
                have N23 := A0 ((Z38 : g240 ≠ g226))
                clear B30 B31 B32 B33 HB
                have B30 := n0_
                have B31 := n1_
                have B32 := n2_
                have B33 := n3_
                have HB := n4_
                clear n0_ n1_ n2_ n3_ n4_
                clear hb hbox hg
                refine hK.out _ _ ⟨(blk_cell B30.out 0).trans rfl, (blk_cell B30.out 1).trans rfl, (blk_cell B30.out 2).trans rfl, (blk_cell B31.out 0).trans rfl, (blk_cell B31.out 1).trans rfl, (blk_cell B31.out 2).trans rfl⟩ (fun hHeld => ?_)
                clear hK K
                refine norm_ (a' := ?_) ?_ ?_
                rotate_left
                ·
                 show Act.put _ (some 9) _ = _
                 simp only [Act.put, y1, y2, y3, i64_w, i32_w]
                 rfl
                exact norm_ Z52 (hJ1_3_9 (g240) _ ⟨hHeld, Z56, Z57, Z58, Z59, Z60, G40.out, G46.out, N3.out, N20.out, N8.out, N21.out, N13.out, N22.out, N18.out, N23.out, Z7⟩)
               ·
                skip
                refine box_step ?hg (N := 10) ?hd (cs := #[.int .i64 0, .int .i64 0, .string Y0]) (t := 30) ?hr ?_; (case hd => rfl); (case hg => rfl); (case hr => first | (go_simp; done) | (go_simp; rfl))
                intro g241 hg w55 hbox hb
                have n0_ := A0 (blk_below (g := g208) (o := O25 a0_0 a0_1 a0_2) Z56 hb)
                have n1_ := A0 (blk_below (g := g209) (o := O25 a1_0 a1_1 a1_2) Z57 hb)
                have n2_ := A0 (blk_below (g := g225) (o := O30 t218 t219 t220) Z58 hb)
                have n3_ := A0 (blk_below (g := g226) (o := O30 t221 t222 t223) Z59 hb)
                have n4_ := A0 (below_step Z30 hb)
                have B35 := A0 (hbox)
                have G41 := A0 ((Z6 : w.heap.size ≤ g241))
                have G47 := A0 ((Z6 : w.heap.size ≤ g241))
                have N4 := A0 ((Z39 : g208 ≠ g241))
                have N25 := A0 ((Z40 : g241 ≠ g208))
                have N9 := A0 ((Z41 : g209 ≠ g241))
                have N26 := A0 ((Z42 : g241 ≠ g209))
                have N14 := A0 ((Z43 : g225 ≠ g241))
                have N27 := A0 ((Z44 : g241 ≠ g225))
                have N19 := A0 ((Z45 : g226 ≠ g241))
                have N28 := A0 ((Z46 : g241 ≠ g226))
                clear B30 B31 B32 B33 HB
                have B30 := n0_
                have B31 := n1_
                have B32 := n2_
                have B33 := n3_
                have HB := n4_
                clear n0_ n1_ n2_ n3_ n4_
                clear hb hbox hg
                refine hK.out _ _ ⟨(blk_cell B30.out 0).trans rfl, (blk_cell B30.out 1).trans rfl, (blk_cell B30.out 2).trans rfl, (blk_cell B31.out 0).trans rfl, (blk_cell B31.out 1).trans rfl, (blk_cell B31.out 2).trans rfl⟩ (fun hHeld => ?_)
                clear hK K
                refine norm_ (a' := ?_) ?_ ?_
                rotate_left
                ·
                 show Act.put _ (some 10) _ = _
                 simp only [Act.put, y1, y2, y3, i64_w, i32_w]
                 rfl
                exact norm_ Z52 (hJ1_3_10 (g241) _ ⟨hHeld, Z56, Z57, Z58, Z59, Z61, G41.out, G47.out, N4.out, N25.out, N9.out, N26.out, N14.out, N27.out, N19.out, N28.out, Z8⟩)
             ·
              skip
              rintro ⟨g240, g241⟩ w55 ⟨hS_, h0_, h1_, h2_, h3_, h4_, h5_, h6_, h7_, h8_, h9_, h10_, h11_, h12_, h13_, h14_, h15_, h16_, h17_, h18_, h19_, h20_, h21_, h22_, h23_, h24_, h25_, h26_, h27_, h28_⟩
              have n0_ : Aside0 (w55.heap[g208]? = some (O25 a0_0 a0_1 a0_2)) := ⟨h0_⟩
              have n1_ : Aside0 (w55.heap[g209]? = some (O25 a1_0 a1_1 a1_2)) := ⟨h1_⟩
              have n2_ : Aside0 (w55.heap[g225]? = some (O30 t218 t219 t220)) := ⟨h2_⟩
              have n3_ : Aside0 (w55.heap[g226]? = some (O30 t221 t222 t223)) := ⟨h3_⟩
              have B34 : Aside0 (w55.heap[g240]? = some (O30 0 0 Y0)) := ⟨h4_⟩
              have B35 : Aside0 (w55.heap[g241]? = some (O30 0 0 Y0)) := ⟨h5_⟩
              have G40 := A0 h6_
              have G46 := A0 h7_
              have N3 := A0 h8_
              have N20 := A0 h9_
              have N8 := A0 h10_
              have N21 := A0 h11_
              have N13 := A0 h12_
              have N22 := A0 h13_
              have N18 := A0 h14_
              have N23 := A0 h15_
              have N29 := A0 h16_
              have N24 := A0 h17_
              have G41 := A0 h18_
              have G47 := A0 h19_
              have N4 := A0 h20_
              have N25 := A0 h21_
              have N9 := A0 h22_
              have N26 := A0 h23_
              have N14 := A0 h24_
              have N27 := A0 h25_
              have N19 := A0 h26_
              have N28 := A0 h27_
              have n28_ : Aside0 (Below w.heap.size w w55) := ⟨h28_⟩
              clear B30 B31 B32 B33 HB
              clear h0_ h1_ h2_ h3_ h4_ h5_ h6_ h7_ h8_ h9_ h10_ h11_ h12_ h13_ h14_ h15_ h16_ h17_ h18_ h19_ h20_ h21_ h22_ h23_ h24_ h25_ h26_ h27_ h28_
              have B30 := n0_
              have B31 := n1_
              have B32 := n2_
              have B33 := n3_
              have HB := n28_
              clear n0_ n1_ n2_ n3_ n28_
              have hHeld : Q6 g208 a0_0 a0_1 a0_2 g209 a1_0 a1_1 a1_2 w55 := hS_
              refine norm_ (a' := ?_) ?_ ?_
              rotate_left
              ·
               simp only [putAll, Act.put, y1, y2, y3]
               rfl
              refine one_ (i := 3) (N := some 35) #[true, true, true, true, false, false, false, false, false, true, true, false, false, false] rfl rfl (one_of HT_.out Z62) (by decide) (fun K hK => ?_)
              refine goes_ Tryd.func11 Z62 rfl #[.agg #[.int .i64 a1_0, .int .i64 a1_1, .string a1_2]] (by rfl) rfl rfl Z55 ?_
              with_reducible refine (laws_toWay.calls a1_0 a1_1 a1_2 t230 t231 t232 _ A23.out).mono ?_
              rintro e w56 ⟨rfl, hb⟩
              refine ⟨_, rfl, ?_⟩
              have n0_ := A0 (blk_below (g := g208) (o := O25 a0_0 a0_1 a0_2) Z56 hb)
              have n1_ := A0 (blk_below (g := g209) (o := O25 a1_0 a1_1 a1_2) Z57 hb)
              have n2_ := A0 (blk_below (g := g225) (o := O30 t218 t219 t220) Z58 hb)
              have n3_ := A0 (blk_below (g := g226) (o := O30 t221 t222 t223) Z59 hb)
              have n4_ := A0 (blk_below (g := g240) (o := O30 0 0 Y0) Z60 hb)
              have n5_ := A0 (blk_below (g := g241) (o := O30 0 0 Y0) Z61 hb)
              have n6_ := A0 (below_step Z4 hb)
              clear B30 B31 B32 B33 B34 B35 HB
              have B30 := n0_
              have B31 := n1_
              have B32 := n2_
              have B33 := n3_
              have B34 := n4_
              have B35 := n5_
              have HB := n6_
              clear n0_ n1_ n2_ n3_ n4_ n5_ n6_
              (try clear hb)
              (try clear hb2)
              (try clear hk)
              (try clear hi)
              refine hK.out _ _ ⟨(blk_cell B30.out 0).trans rfl, (blk_cell B30.out 1).trans rfl, (blk_cell B30.out 2).trans rfl, (blk_cell B31.out 0).trans rfl, (blk_cell B31.out 1).trans rfl, (blk_cell B31.out 2).trans rfl⟩ (fun hHeld => ?_)
              clear hK K
              refine norm_ (a' := ?_) ?_ ?_
              rotate_left
              ·
               show Act.put _ (some 35) _ = _
               simp only [Act.put, y1, y2, y3, i64_w, i32_w]
               rfl
              exact norm_ Z52 (hJ1_3_9_10 (g240, g241) _ ⟨hHeld, Z56, Z57, Z58, Z59, Z60, Z61, G40.out, G46.out, N3.out, N20.out, N8.out, N21.out, N13.out, N22.out, N18.out, N23.out, N29.out, N24.out, G41.out, G47.out, N4.out, N25.out, N9.out, N26.out, N14.out, N27.out, N19.out, N28.out, Z4⟩)
            ·
             skip
             rintro g241 w55 ⟨hS_, h0_, h1_, h2_, h3_, h4_, h5_, h6_, h7_, h8_, h9_, h10_, h11_, h12_, h13_, h14_, h15_⟩
             have n0_ : Aside0 (w55.heap[g208]? = some (O25 a0_0 a0_1 a0_2)) := ⟨h0_⟩
             have n1_ : Aside0 (w55.heap[g209]? = some (O25 a1_0 a1_1 a1_2)) := ⟨h1_⟩
             have n2_ : Aside0 (w55.heap[g225]? = some (O30 t218 t219 t220)) := ⟨h2_⟩
             have n3_ : Aside0 (w55.heap[g226]? = some (O30 t221 t222 t223)) := ⟨h3_⟩
             have B35 : Aside0 (w55.heap[g241]? = some (O30 0 0 Y0)) := ⟨h4_⟩
             have G41 := A0 h5_
             have G47 := A0 h6_
             have N4 := A0 h7_
             have N25 := A0 h8_
             have N9 := A0 h9_
             have N26 := A0 h10_
             have N14 := A0 h11_
             have N27 := A0 h12_
             have N19 := A0 h13_
             have N28 := A0 h14_
             have n15_ : Aside0 (Below w.heap.size w w55) := ⟨h15_⟩
             clear B30 B31 B32 B33 HB
             clear h0_ h1_ h2_ h3_ h4_ h5_ h6_ h7_ h8_ h9_ h10_ h11_ h12_ h13_ h14_ h15_
             have B30 := n0_
             have B31 := n1_
             have B32 := n2_
             have B33 := n3_
             have HB := n15_
             clear n0_ n1_ n2_ n3_ n15_
             have hHeld : Q6 g208 a0_0 a0_1 a0_2 g209 a1_0 a1_1 a1_2 w55 := hS_
             refine norm_ (a' := ?_) ?_ ?_
             rotate_left
             ·
              simp only [putAll, Act.put, y1, y2, y3]
              rfl
             refine two_ (i := 4) (j := 9) (Ni := some 36) (Nj := some 9) #[true, true, true, true, true, false, false, false, false, false, true, false, false, false] #[true, true, true, true, false, false, false, false, false, true, true, false, false, false] rfl rfl rfl rfl (two_of HT_.out Z62) (by decide) (by decide) (fun K hK => ?_) (fun K hK => ?_)
             ·
              skip
              refine goes_ Tryd.func26 Z62 rfl #[.agg #[.int .i64 t227, .int .i64 t228, .string t229], .agg #[.int .i64 t230, .int .i64 t231, .string t232]] (by rfl) rfl rfl Z55 ?_
              with_reducible refine (impl_SwapTails.calls k t227 t228 t229 t230 t231 t232 t233 t234 t235 t236 t237 t238 t239 _ A24.out).mono ?_
              rintro e w56 ⟨rfl, hb⟩
              refine ⟨_, rfl, ?_⟩
              have n0_ := A0 (blk_below (g := g208) (o := O25 a0_0 a0_1 a0_2) Z56 hb)
              have n1_ := A0 (blk_below (g := g209) (o := O25 a1_0 a1_1 a1_2) Z57 hb)
              have n2_ := A0 (blk_below (g := g225) (o := O30 t218 t219 t220) Z58 hb)
              have n3_ := A0 (blk_below (g := g226) (o := O30 t221 t222 t223) Z59 hb)
              have n4_ := A0 (blk_below (g := g241) (o := O30 0 0 Y0) Z61 hb)
              have n5_ := A0 (below_step Z8 hb)
              clear B30 B31 B32 B33 B35 HB
              have B30 := n0_
              have B31 := n1_
              have B32 := n2_
              have B33 := n3_
              have B35 := n4_
              have HB := n5_
              clear n0_ n1_ n2_ n3_ n4_ n5_
              (try clear hb)
              (try clear hb2)
              (try clear hk)
              (try clear hi)
              refine hK.out _ _ ⟨(blk_cell B30.out 0).trans rfl, (blk_cell B30.out 1).trans rfl, (blk_cell B30.out 2).trans rfl, (blk_cell B31.out 0).trans rfl, (blk_cell B31.out 1).trans rfl, (blk_cell B31.out 2).trans rfl⟩ (fun hHeld => ?_)
              clear hK K
              refine norm_ (a' := ?_) ?_ ?_
              rotate_left
              ·
               show Act.put _ (some 36) _ = _
               simp only [Act.put, y1, y2, y3, i64_w, i32_w]
               rfl
              refine pure_ (i := 5) (N := some 31) (v := ?_) (a' := ?_) #[true, true, true, true, true, true, false, false, false, false, true, false, false, false] rfl rfl (any_of HT_.out Z62) (fun _ _ _ h => h) (Or.inl ⟨by rfl, ?_⟩) ?_ ?_
              rotate_left
              ·
               intro w'
               go_simp
               with_reducible rfl
              rotate_left
              ·
               simp only [Act.put, y1, y2, y3, i64_w, i32_w]
               rfl
              refine pure_ (i := 6) (N := some 37) (v := ?_) (a' := ?_) #[true, true, true, true, true, true, true, false, false, false, true, false, false, false] rfl rfl (any_of HT_.out Z62) (fun _ _ _ h => h) (Or.inl ⟨by rfl, ?_⟩) ?_ ?_
              rotate_left
              ·
               intro w'
               go_simp
               with_reducible rfl
              rotate_left
              ·
               simp only [Act.put, y1, y2, y3, i64_w, i32_w]
               rfl
              refine pure_ (i := 7) (N := some 38) (v := ?_) (a' := ?_) #[true, true, true, true, true, true, true, true, false, false, true, false, false, false] rfl rfl (any_of HT_.out Z62) (fun _ _ _ h => h) (Or.inl ⟨by rfl, ?_⟩) ?_ ?_
              rotate_left
              ·
               intro w'
               go_simp
               with_reducible rfl
              rotate_left
              ·
               simp only [Act.put, y1, y2, y3, i64_w, i32_w]
               rfl
              refine pure_ (i := 8) (N := some 39) (v := ?_) (a' := ?_) #[true, true, true, true, true, true, true, true, true, false, true, false, false, false] rfl rfl (any_of HT_.out Z62) (fun _ _ _ h => h) (Or.inl ⟨by rfl, ?_⟩) ?_ ?_
              rotate_left
              ·
               intro w'
               go_simp
               with_reducible rfl
              rotate_left
              ·
               simp only [Act.put, y1, y2, y3, i64_w, i32_w]
               rfl
              exact norm_ Z52 (hJ1_3_4_10 (g241) _ ⟨hHeld, Z56, Z57, Z58, Z59, Z61, G41.out, G47.out, N4.out, N25.out, N9.out, N26.out, N14.out, N27.out, N19.out, N28.out, Z8⟩)
             ·
              skip
              refine box_step ?hg (N := 9) ?hd (cs := #[.int .i64 0, .int .i64 0, .string Y0]) (t := 30) ?hr ?_; (case hd => rfl); (case hg => rfl); (case hr => first | (go_simp; done) | (go_simp; rfl))
              intro g240 hg w56 hbox hb
              have n0_ := A0 (blk_below (g := g208) (o := O25 a0_0 a0_1 a0_2) Z56 hb)
              have n1_ := A0 (blk_below (g := g209) (o := O25 a1_0 a1_1 a1_2) Z57 hb)
              have n2_ := A0 (blk_below (g := g225) (o := O30 t218 t219 t220) Z58 hb)
              have n3_ := A0 (blk_below (g := g226) (o := O30 t221 t222 t223) Z59 hb)
              have n4_ := A0 (blk_below (g := g241) (o := O30 0 0 Y0) Z61 hb)
              have n5_ := A0 (below_step Z8 hb)
              have B34 := A0 (hbox)
              have G40 := A0 ((Z1 : w.heap.size ≤ g240))
              have G46 := A0 ((Z1 : w.heap.size ≤ g240))
              have N3 := A0 ((Z31 : g208 ≠ g240))
              have N20 := A0 ((Z32 : g240 ≠ g208))
              have N8 := A0 ((Z33 : g209 ≠ g240))
              have N21 := A0 ((Z34 : g240 ≠ g209))
              have N13 := A0 ((Z35 : g225 ≠ g240))
              have N22 := A0 ((Z36 : g240 ≠ g225))
              have N18 := A0 ((Z37 : g226 ≠ g240))
              have N23 := A0 ((Z38 : g240 ≠ g226))
              have N29 := A0 ((Z15 : g241 ≠ g240))
              have N24 := A0 ((Z16 : g240 ≠ g241))
              clear B30 B31 B32 B33 B35 HB
              have B30 := n0_
              have B31 := n1_
              have B32 := n2_
              have B33 := n3_
              have B35 := n4_
              have HB := n5_
              clear n0_ n1_ n2_ n3_ n4_ n5_
              clear hb hbox hg
              refine hK.out _ _ ⟨(blk_cell B30.out 0).trans rfl, (blk_cell B30.out 1).trans rfl, (blk_cell B30.out 2).trans rfl, (blk_cell B31.out 0).trans rfl, (blk_cell B31.out 1).trans rfl, (blk_cell B31.out 2).trans rfl⟩ (fun hHeld => ?_)
              clear hK K
              refine norm_ (a' := ?_) ?_ ?_
              rotate_left
              ·
               show Act.put _ (some 9) _ = _
               simp only [Act.put, y1, y2, y3, i64_w, i32_w]
               rfl
              exact norm_ Z52 (hJ1_3_9_10 (g240, g241) _ ⟨hHeld, Z56, Z57, Z58, Z59, Z60, Z61, G40.out, G46.out, N3.out, N20.out, N8.out, N21.out, N13.out, N22.out, N18.out, N23.out, N29.out, N24.out, G41.out, G47.out, N4.out, N25.out, N9.out, N26.out, N14.out, N27.out, N19.out, N28.out, Z3⟩)
           ·
            skip
            rintro g240 w55 ⟨hS_, h0_, h1_, h2_, h3_, h4_, h5_, h6_, h7_, h8_, h9_, h10_, h11_, h12_, h13_, h14_, h15_⟩
            have n0_ : Aside0 (w55.heap[g208]? = some (O25 a0_0 a0_1 a0_2)) := ⟨h0_⟩
            have n1_ : Aside0 (w55.heap[g209]? = some (O25 a1_0 a1_1 a1_2)) := ⟨h1_⟩
            have n2_ : Aside0 (w55.heap[g225]? = some (O30 t218 t219 t220)) := ⟨h2_⟩
            have n3_ : Aside0 (w55.heap[g226]? = some (O30 t221 t222 t223)) := ⟨h3_⟩
            have B34 : Aside0 (w55.heap[g240]? = some (O30 0 0 Y0)) := ⟨h4_⟩
            have G40 := A0 h5_
            have G46 := A0 h6_
            have N3 := A0 h7_
            have N20 := A0 h8_
            have N8 := A0 h9_
            have N21 := A0 h10_
            have N13 := A0 h11_
            have N22 := A0 h12_
            have N18 := A0 h13_
            have N23 := A0 h14_
            have n15_ : Aside0 (Below w.heap.size w w55) := ⟨h15_⟩
            clear B30 B31 B32 B33 HB
            clear h0_ h1_ h2_ h3_ h4_ h5_ h6_ h7_ h8_ h9_ h10_ h11_ h12_ h13_ h14_ h15_
            have B30 := n0_
            have B31 := n1_
            have B32 := n2_
            have B33 := n3_
            have HB := n15_
            clear n0_ n1_ n2_ n3_ n15_
            have hHeld : Q6 g208 a0_0 a0_1 a0_2 g209 a1_0 a1_1 a1_2 w55 := hS_
            refine norm_ (a' := ?_) ?_ ?_
            rotate_left
            ·
             simp only [putAll, Act.put, y1, y2, y3]
             rfl
            refine two_ (i := 4) (j := 10) (Ni := some 36) (Nj := some 10) #[true, true, true, true, true, false, false, false, false, true, false, false, false, false] #[true, true, true, true, false, false, false, false, false, true, true, false, false, false] rfl rfl rfl rfl (two_of HT_.out Z62) (by decide) (by decide) (fun K hK => ?_) (fun K hK => ?_)
            ·
             skip
             refine goes_ Tryd.func26 Z62 rfl #[.agg #[.int .i64 t227, .int .i64 t228, .string t229], .agg #[.int .i64 t230, .int .i64 t231, .string t232]] (by rfl) rfl rfl Z55 ?_
             with_reducible refine (impl_SwapTails.calls k t227 t228 t229 t230 t231 t232 t233 t234 t235 t236 t237 t238 t239 _ A24.out).mono ?_
             rintro e w56 ⟨rfl, hb⟩
             refine ⟨_, rfl, ?_⟩
             have n0_ := A0 (blk_below (g := g208) (o := O25 a0_0 a0_1 a0_2) Z56 hb)
             have n1_ := A0 (blk_below (g := g209) (o := O25 a1_0 a1_1 a1_2) Z57 hb)
             have n2_ := A0 (blk_below (g := g225) (o := O30 t218 t219 t220) Z58 hb)
             have n3_ := A0 (blk_below (g := g226) (o := O30 t221 t222 t223) Z59 hb)
             have n4_ := A0 (blk_below (g := g240) (o := O30 0 0 Y0) Z60 hb)
             have n5_ := A0 (below_step Z7 hb)
             clear B30 B31 B32 B33 B34 HB
             have B30 := n0_
             have B31 := n1_
             have B32 := n2_
             have B33 := n3_
             have B34 := n4_
             have HB := n5_
             clear n0_ n1_ n2_ n3_ n4_ n5_
             (try clear hb)
             (try clear hb2)
             (try clear hk)
             (try clear hi)
             refine hK.out _ _ ⟨(blk_cell B30.out 0).trans rfl, (blk_cell B30.out 1).trans rfl, (blk_cell B30.out 2).trans rfl, (blk_cell B31.out 0).trans rfl, (blk_cell B31.out 1).trans rfl, (blk_cell B31.out 2).trans rfl⟩ (fun hHeld => ?_)
             clear hK K
             refine norm_ (a' := ?_) ?_ ?_
             rotate_left
             ·
              show Act.put _ (some 36) _ = _
              simp only [Act.put, y1, y2, y3, i64_w, i32_w]
              rfl
             refine pure_ (i := 5) (N := some 31) (v := ?_) (a' := ?_) #[true, true, true, true, true, true, false, false, false, true, false, false, false, false] rfl rfl (any_of HT_.out Z62) (fun _ _ _ h => h) (Or.inl ⟨by rfl, ?_⟩) ?_ ?_
             rotate_left
             ·
              intro w'
              go_simp
              with_reducible rfl
             rotate_left
             ·
              simp only [Act.put, y1, y2, y3, i64_w, i32_w]
              rfl
             refine pure_ (i := 6) (N := some 37) (v := ?_) (a' := ?_) #[true, true, true, true, true, true, true, false, false, true, false, false, false, false] rfl rfl (any_of HT_.out Z62) (fun _ _ _ h => h) (Or.inl ⟨by rfl, ?_⟩) ?_ ?_
             rotate_left
             ·
              intro w'
              go_simp
              with_reducible rfl
             rotate_left
             ·
              simp only [Act.put, y1, y2, y3, i64_w, i32_w]
              rfl
             refine pure_ (i := 7) (N := some 38) (v := ?_) (a' := ?_) #[true, true, true, true, true, true, true, true, false, true, false, false, false, false] rfl rfl (any_of HT_.out Z62) (fun _ _ _ h => h) (Or.inl ⟨by rfl, ?_⟩) ?_ ?_
             rotate_left
             ·
              intro w'
              go_simp
              with_reducible rfl
             rotate_left
             ·
              simp only [Act.put, y1, y2, y3, i64_w, i32_w]
              rfl
             refine pure_ (i := 8) (N := some 39) (v := ?_) (a' := ?_) #[true, true, true, true, true, true, true, true, true, true, false, false, false, false] rfl rfl (any_of HT_.out Z62) (fun _ _ _ h => h) (Or.inl ⟨by rfl, ?_⟩) ?_ ?_
             rotate_left
             ·
              intro w'
              go_simp
              with_reducible rfl
             rotate_left
             ·
              simp only [Act.put, y1, y2, y3, i64_w, i32_w]
              rfl
             exact norm_ Z52 (hJ1_3_4_9 (g240) _ ⟨hHeld, Z56, Z57, Z58, Z59, Z60, G40.out, G46.out, N3.out, N20.out, N8.out, N21.out, N13.out, N22.out, N18.out, N23.out, Z7⟩)
            ·
             skip
             refine box_step ?hg (N := 10) ?hd (cs := #[.int .i64 0, .int .i64 0, .string Y0]) (t := 30) ?hr ?_; (case hd => rfl); (case hg => rfl); (case hr => first | (go_simp; done) | (go_simp; rfl))
             intro g241 hg w56 hbox hb
             have n0_ := A0 (blk_below (g := g208) (o := O25 a0_0 a0_1 a0_2) Z56 hb)
             have n1_ := A0 (blk_below (g := g209) (o := O25 a1_0 a1_1 a1_2) Z57 hb)
             have n2_ := A0 (blk_below (g := g225) (o := O30 t218 t219 t220) Z58 hb)
             have n3_ := A0 (blk_below (g := g226) (o := O30 t221 t222 t223) Z59 hb)
             have n4_ := A0 (blk_below (g := g240) (o := O30 0 0 Y0) Z60 hb)
             have n5_ := A0 (below_step Z7 hb)
             have B35 := A0 (hbox)
             have G41 := A0 ((Z2 : w.heap.size ≤ g241))
             have G47 := A0 ((Z2 : w.heap.size ≤ g241))
             have N4 := A0 ((Z39 : g208 ≠ g241))
             have N25 := A0 ((Z40 : g241 ≠ g208))
             have N9 := A0 ((Z41 : g209 ≠ g241))
             have N26 := A0 ((Z42 : g241 ≠ g209))
             have N14 := A0 ((Z43 : g225 ≠ g241))
             have N27 := A0 ((Z44 : g241 ≠ g225))
             have N19 := A0 ((Z45 : g226 ≠ g241))
             have N28 := A0 ((Z46 : g241 ≠ g226))
             have N24 := A0 ((Z17 : g240 ≠ g241))
             have N29 := A0 ((Z18 : g241 ≠ g240))
             clear B30 B31 B32 B33 B34 HB
             have B30 := n0_
             have B31 := n1_
             have B32 := n2_
             have B33 := n3_
             have B34 := n4_
             have HB := n5_
             clear n0_ n1_ n2_ n3_ n4_ n5_
             clear hb hbox hg
             refine hK.out _ _ ⟨(blk_cell B30.out 0).trans rfl, (blk_cell B30.out 1).trans rfl, (blk_cell B30.out 2).trans rfl, (blk_cell B31.out 0).trans rfl, (blk_cell B31.out 1).trans rfl, (blk_cell B31.out 2).trans rfl⟩ (fun hHeld => ?_)
             clear hK K
             refine norm_ (a' := ?_) ?_ ?_
             rotate_left
             ·
              show Act.put _ (some 10) _ = _
              simp only [Act.put, y1, y2, y3, i64_w, i32_w]
              rfl
             exact norm_ Z52 (hJ1_3_9_10 (g240, g241) _ ⟨hHeld, Z56, Z57, Z58, Z59, Z60, Z61, G40.out, G46.out, N3.out, N20.out, N8.out, N21.out, N13.out, N22.out, N18.out, N23.out, N29.out, N24.out, G41.out, G47.out, N4.out, N25.out, N9.out, N26.out, N14.out, N27.out, N19.out, N28.out, Z4⟩)
          ·
           skip
           rintro _ w55 ⟨hS_, h0_, h1_, h2_, h3_, h4_⟩
           have n0_ : Aside0 (w55.heap[g208]? = some (O25 a0_0 a0_1 a0_2)) := ⟨h0_⟩
           have n1_ : Aside0 (w55.heap[g209]? = some (O25 a1_0 a1_1 a1_2)) := ⟨h1_⟩
           have n2_ : Aside0 (w55.heap[g225]? = some (O30 t218 t219 t220)) := ⟨h2_⟩
           have n3_ : Aside0 (w55.heap[g226]? = some (O30 t221 t222 t223)) := ⟨h3_⟩
           have n4_ : Aside0 (Below w.heap.size w w55) := ⟨h4_⟩
           clear B30 B31 B32 B33 HB
           clear h0_ h1_ h2_ h3_ h4_
           have B30 := n0_
           have B31 := n1_
           have B32 := n2_
           have B33 := n3_
           have HB := n4_
           clear n0_ n1_ n2_ n3_ n4_
           have hHeld : Q6 g208 a0_0 a0_1 a0_2 g209 a1_0 a1_1 a1_2 w55 := hS_
           refine norm_ (a' := ?_) ?_ ?_
           rotate_left
           ·
            simp only [putAll, Act.put, y1, y2, y3]
            rfl
           refine two_ (i := 9) (j := 10) (Ni := some 9) (Nj := some 10) #[true, true, true, true, true, true, true, true, true, true, false, false, false, false] #[true, true, true, true, true, true, true, true, true, false, true, false, false, false] rfl rfl rfl rfl (two_of HT_.out Z62) (by decide) (by decide) (fun K hK => ?_) (fun K hK => ?_)
           ·
            skip
            refine box_step ?hg (N := 9) ?hd (cs := #[.int .i64 0, .int .i64 0, .string Y0]) (t := 30) ?hr ?_; (case hd => rfl); (case hg => rfl); (case hr => first | (go_simp; done) | (go_simp; rfl))
            intro g240 hg w56 hbox hb
            have n0_ := A0 (blk_below (g := g208) (o := O25 a0_0 a0_1 a0_2) Z56 hb)
            have n1_ := A0 (blk_below (g := g209) (o := O25 a1_0 a1_1 a1_2) Z57 hb)
            have n2_ := A0 (blk_below (g := g225) (o := O30 t218 t219 t220) Z58 hb)
            have n3_ := A0 (blk_below (g := g226) (o := O30 t221 t222 t223) Z59 hb)
            have n4_ := A0 (below_step Z30 hb)
            have B34 := A0 (hbox)
            have G40 := A0 ((Z5 : w.heap.size ≤ g240))
            have G46 := A0 ((Z5 : w.heap.size ≤ g240))
            have N3 := A0 ((Z31 : g208 ≠ g240))
            have N20 := A0 ((Z32 : g240 ≠ g208))
            have N8 := A0 ((Z33 : g209 ≠ g240))
            have N21 := A0 ((Z34 : g240 ≠ g209))
            have N13 := A0 ((Z35 : g225 ≠ g240))
            have N22 := A0 ((Z36 : g240 ≠ g225))
            have N18 := A0 ((Z37 : g226 ≠ g240))
            have N23 := A0 ((Z38 : g240 ≠ g226))
            clear B30 B31 B32 B33 HB
            have B30 := n0_
            have B31 := n1_
            have B32 := n2_
            have B33 := n3_
            have HB := n4_
            clear n0_ n1_ n2_ n3_ n4_
            clear hb hbox hg
            refine hK.out _ _ ⟨(blk_cell B30.out 0).trans rfl, (blk_cell B30.out 1).trans rfl, (blk_cell B30.out 2).trans rfl, (blk_cell B31.out 0).trans rfl, (blk_cell B31.out 1).trans rfl, (blk_cell B31.out 2).trans rfl⟩ (fun hHeld => ?_)
            clear hK K
            refine norm_ (a' := ?_) ?_ ?_
            rotate_left
            ·
             show Act.put _ (some 9) _ = _
             simp only [Act.put, y1, y2, y3, i64_w, i32_w]
             rfl
            exact norm_ Z52 (hJ1_3_4_9 (g240) _ ⟨hHeld, Z56, Z57, Z58, Z59, Z60, G40.out, G46.out, N3.out, N20.out, N8.out, N21.out, N13.out, N22.out, N18.out, N23.out, Z7⟩)
           ·
            skip
            refine box_step ?hg (N := 10) ?hd (cs := #[.int .i64 0, .int .i64 0, .string Y0]) (t := 30) ?hr ?_; (case hd => rfl); (case hg => rfl); (case hr => first | (go_simp; done) | (go_simp; rfl))
            intro g241 hg w56 hbox hb
            have n0_ := A0 (blk_below (g := g208) (o := O25 a0_0 a0_1 a0_2) Z56 hb)
            have n1_ := A0 (blk_below (g := g209) (o := O25 a1_0 a1_1 a1_2) Z57 hb)
            have n2_ := A0 (blk_below (g := g225) (o := O30 t218 t219 t220) Z58 hb)
            have n3_ := A0 (blk_below (g := g226) (o := O30 t221 t222 t223) Z59 hb)
            have n4_ := A0 (below_step Z30 hb)
            have B35 := A0 (hbox)
            have G41 := A0 ((Z6 : w.heap.size ≤ g241))
            have G47 := A0 ((Z6 : w.heap.size ≤ g241))
            have N4 := A0 ((Z39 : g208 ≠ g241))
            have N25 := A0 ((Z40 : g241 ≠ g208))
            have N9 := A0 ((Z41 : g209 ≠ g241))
            have N26 := A0 ((Z42 : g241 ≠ g209))
            have N14 := A0 ((Z43 : g225 ≠ g241))
            have N27 := A0 ((Z44 : g241 ≠ g225))
            have N19 := A0 ((Z45 : g226 ≠ g241))
            have N28 := A0 ((Z46 : g241 ≠ g226))
            clear B30 B31 B32 B33 HB
            have B30 := n0_
            have B31 := n1_
            have B32 := n2_
            have B33 := n3_
            have HB := n4_
            clear n0_ n1_ n2_ n3_ n4_
            clear hb hbox hg
            refine hK.out _ _ ⟨(blk_cell B30.out 0).trans rfl, (blk_cell B30.out 1).trans rfl, (blk_cell B30.out 2).trans rfl, (blk_cell B31.out 0).trans rfl, (blk_cell B31.out 1).trans rfl, (blk_cell B31.out 2).trans rfl⟩ (fun hHeld => ?_)
            clear hK K
            refine norm_ (a' := ?_) ?_ ?_
            rotate_left
            ·
             show Act.put _ (some 10) _ = _
             simp only [Act.put, y1, y2, y3, i64_w, i32_w]
             rfl
            exact norm_ Z52 (hJ1_3_4_10 (g241) _ ⟨hHeld, Z56, Z57, Z58, Z59, Z61, G41.out, G47.out, N4.out, N25.out, N9.out, N26.out, N14.out, N27.out, N19.out, N28.out, Z8⟩)
         ·
          skip
          rintro ⟨g240, g241⟩ w56 ⟨hS_, h0_, h1_, h2_, h3_, h4_, h5_, h6_, h7_, h8_, h9_, h10_, h11_, h12_, h13_, h14_, h15_, h16_, h17_, h18_, h19_, h20_, h21_, h22_, h23_, h24_, h25_, h26_, h27_, h28_⟩
          have n0_ : Aside0 (w56.heap[g208]? = some (O25 a0_0 a0_1 a0_2)) := ⟨h0_⟩
          have n1_ : Aside0 (w56.heap[g209]? = some (O25 a1_0 a1_1 a1_2)) := ⟨h1_⟩
          have n2_ : Aside0 (w56.heap[g225]? = some (O30 t218 t219 t220)) := ⟨h2_⟩
          have n3_ : Aside0 (w56.heap[g226]? = some (O30 t221 t222 t223)) := ⟨h3_⟩
          have B34 : Aside0 (w56.heap[g240]? = some (O30 0 0 Y0)) := ⟨h4_⟩
          have B35 : Aside0 (w56.heap[g241]? = some (O30 0 0 Y0)) := ⟨h5_⟩
          have G40 := A0 h6_
          have G46 := A0 h7_
          have N3 := A0 h8_
          have N20 := A0 h9_
          have N8 := A0 h10_
          have N21 := A0 h11_
          have N13 := A0 h12_
          have N22 := A0 h13_
          have N18 := A0 h14_
          have N23 := A0 h15_
          have N29 := A0 h16_
          have N24 := A0 h17_
          have G41 := A0 h18_
          have G47 := A0 h19_
          have N4 := A0 h20_
          have N25 := A0 h21_
          have N9 := A0 h22_
          have N26 := A0 h23_
          have N14 := A0 h24_
          have N27 := A0 h25_
          have N19 := A0 h26_
          have N28 := A0 h27_
          have n28_ : Aside0 (Below w.heap.size w w56) := ⟨h28_⟩
          clear B30 B31 B32 B33 HB
          clear h0_ h1_ h2_ h3_ h4_ h5_ h6_ h7_ h8_ h9_ h10_ h11_ h12_ h13_ h14_ h15_ h16_ h17_ h18_ h19_ h20_ h21_ h22_ h23_ h24_ h25_ h26_ h27_ h28_
          have B30 := n0_
          have B31 := n1_
          have B32 := n2_
          have B33 := n3_
          have HB := n28_
          clear n0_ n1_ n2_ n3_ n28_
          have hHeld : Q6 g208 a0_0 a0_1 a0_2 g209 a1_0 a1_1 a1_2 w56 := hS_
          refine norm_ (a' := ?_) ?_ ?_
          rotate_left
          ·
           simp only [putAll, Act.put, y1, y2, y3]
           rfl
          refine one_ (i := 4) (N := some 36) #[true, true, true, true, true, false, false, false, false, true, true, false, false, false] rfl rfl (one_of HT_.out Z62) (by decide) (fun K hK => ?_)
          refine goes_ Tryd.func26 Z62 rfl #[.agg #[.int .i64 t227, .int .i64 t228, .string t229], .agg #[.int .i64 t230, .int .i64 t231, .string t232]] (by rfl) rfl rfl Z55 ?_
          with_reducible refine (impl_SwapTails.calls k t227 t228 t229 t230 t231 t232 t233 t234 t235 t236 t237 t238 t239 _ A24.out).mono ?_
          rintro e w57 ⟨rfl, hb⟩
          refine ⟨_, rfl, ?_⟩
          have n0_ := A0 (blk_below (g := g208) (o := O25 a0_0 a0_1 a0_2) Z56 hb)
          have n1_ := A0 (blk_below (g := g209) (o := O25 a1_0 a1_1 a1_2) Z57 hb)
          have n2_ := A0 (blk_below (g := g225) (o := O30 t218 t219 t220) Z58 hb)
          have n3_ := A0 (blk_below (g := g226) (o := O30 t221 t222 t223) Z59 hb)
          have n4_ := A0 (blk_below (g := g240) (o := O30 0 0 Y0) Z60 hb)
          have n5_ := A0 (blk_below (g := g241) (o := O30 0 0 Y0) Z61 hb)
          have n6_ := A0 (below_step Z4 hb)
          clear B30 B31 B32 B33 B34 B35 HB
          have B30 := n0_
          have B31 := n1_
          have B32 := n2_
          have B33 := n3_
          have B34 := n4_
          have B35 := n5_
          have HB := n6_
          clear n0_ n1_ n2_ n3_ n4_ n5_ n6_
          (try clear hb)
          (try clear hb2)
          (try clear hk)
          (try clear hi)
          refine hK.out _ _ ⟨(blk_cell B30.out 0).trans rfl, (blk_cell B30.out 1).trans rfl, (blk_cell B30.out 2).trans rfl, (blk_cell B31.out 0).trans rfl, (blk_cell B31.out 1).trans rfl, (blk_cell B31.out 2).trans rfl⟩ (fun hHeld => ?_)
          clear hK K
          refine norm_ (a' := ?_) ?_ ?_
          rotate_left
          ·
           show Act.put _ (some 36) _ = _
           simp only [Act.put, y1, y2, y3, i64_w, i32_w]
           rfl
          refine pure_ (i := 5) (N := some 31) (v := ?_) (a' := ?_) #[true, true, true, true, true, true, false, false, false, true, true, false, false, false] rfl rfl (any_of HT_.out Z62) (fun _ _ _ h => h) (Or.inl ⟨by rfl, ?_⟩) ?_ ?_
          rotate_left
          ·
           intro w'
           go_simp
           with_reducible rfl
          rotate_left
          ·
           simp only [Act.put, y1, y2, y3, i64_w, i32_w]
           rfl
          refine pure_ (i := 6) (N := some 37) (v := ?_) (a' := ?_) #[true, true, true, true, true, true, true, false, false, true, true, false, false, false] rfl rfl (any_of HT_.out Z62) (fun _ _ _ h => h) (Or.inl ⟨by rfl, ?_⟩) ?_ ?_
          rotate_left
          ·
           intro w'
           go_simp
           with_reducible rfl
          rotate_left
          ·
           simp only [Act.put, y1, y2, y3, i64_w, i32_w]
           rfl
          refine pure_ (i := 7) (N := some 38) (v := ?_) (a' := ?_) #[true, true, true, true, true, true, true, true, false, true, true, false, false, false] rfl rfl (any_of HT_.out Z62) (fun _ _ _ h => h) (Or.inl ⟨by rfl, ?_⟩) ?_ ?_
          rotate_left
          ·
           intro w'
           go_simp
           with_reducible rfl
          rotate_left
          ·
           simp only [Act.put, y1, y2, y3, i64_w, i32_w]
           rfl
          refine pure_ (i := 8) (N := some 39) (v := ?_) (a' := ?_) #[true, true, true, true, true, true, true, true, true, true, true, false, false, false] rfl rfl (any_of HT_.out Z62) (fun _ _ _ h => h) (Or.inl ⟨by rfl, ?_⟩) ?_ ?_
          rotate_left
          ·
           intro w'
           go_simp
           with_reducible rfl
          rotate_left
          ·
           simp only [Act.put, y1, y2, y3, i64_w, i32_w]
           rfl
          exact norm_ Z52 (hJ1_3_4_9_10 (g240, g241) _ ⟨hHeld, Z56, Z57, Z58, Z59, Z60, Z61, G40.out, G46.out, N3.out, N20.out, N8.out, N21.out, N13.out, N22.out, N18.out, N23.out, N29.out, N24.out, G41.out, G47.out, N4.out, N25.out, N9.out, N26.out, N14.out, N27.out, N19.out, N28.out, Z4⟩)
        ·
         skip
         rintro g241 w56 ⟨hS_, h0_, h1_, h2_, h3_, h4_, h5_, h6_, h7_, h8_, h9_, h10_, h11_, h12_, h13_, h14_, h15_⟩
         have n0_ : Aside0 (w56.heap[g208]? = some (O25 a0_0 a0_1 a0_2)) := ⟨h0_⟩
         have n1_ : Aside0 (w56.heap[g209]? = some (O25 a1_0 a1_1 a1_2)) := ⟨h1_⟩
         have n2_ : Aside0 (w56.heap[g225]? = some (O30 t218 t219 t220)) := ⟨h2_⟩
         have n3_ : Aside0 (w56.heap[g226]? = some (O30 t221 t222 t223)) := ⟨h3_⟩
         have B35 : Aside0 (w56.heap[g241]? = some (O30 0 0 Y0)) := ⟨h4_⟩
         have G41 := A0 h5_
         have G47 := A0 h6_
         have N4 := A0 h7_
         have N25 := A0 h8_
         have N9 := A0 h9_
         have N26 := A0 h10_
         have N14 := A0 h11_
         have N27 := A0 h12_
         have N19 := A0 h13_
         have N28 := A0 h14_
         have n15_ : Aside0 (Below w.heap.size w w56) := ⟨h15_⟩
         clear B30 B31 B32 B33 HB
         clear h0_ h1_ h2_ h3_ h4_ h5_ h6_ h7_ h8_ h9_ h10_ h11_ h12_ h13_ h14_ h15_
         have B30 := n0_
         have B31 := n1_
         have B32 := n2_
         have B33 := n3_
         have HB := n15_
         clear n0_ n1_ n2_ n3_ n15_
         have hHeld : Q6 g208 a0_0 a0_1 a0_2 g209 a1_0 a1_1 a1_2 w56 := hS_
         refine norm_ (a' := ?_) ?_ ?_
         rotate_left
         ·
          simp only [putAll, Act.put, y1, y2, y3]
          rfl
         refine one_ (i := 9) (N := some 9) #[true, true, true, true, true, true, true, true, true, true, true, false, false, false] rfl rfl (one_of HT_.out Z62) (by decide) (fun K hK => ?_)
         refine box_step ?hg (N := 9) ?hd (cs := #[.int .i64 0, .int .i64 0, .string Y0]) (t := 30) ?hr ?_; (case hd => rfl); (case hg => rfl); (case hr => first | (go_simp; done) | (go_simp; rfl))
         intro g240 hg w57 hbox hb
         have n0_ := A0 (blk_below (g := g208) (o := O25 a0_0 a0_1 a0_2) Z56 hb)
         have n1_ := A0 (blk_below (g := g209) (o := O25 a1_0 a1_1 a1_2) Z57 hb)
         have n2_ := A0 (blk_below (g := g225) (o := O30 t218 t219 t220) Z58 hb)
         have n3_ := A0 (blk_below (g := g226) (o := O30 t221 t222 t223) Z59 hb)
         have n4_ := A0 (blk_below (g := g241) (o := O30 0 0 Y0) Z61 hb)
         have n5_ := A0 (below_step Z8 hb)
         have B34 := A0 (hbox)
         have G40 := A0 ((Z1 : w.heap.size ≤ g240))
         have G46 := A0 ((Z1 : w.heap.size ≤ g240))
         have N3 := A0 ((Z31 : g208 ≠ g240))
         have N20 := A0 ((Z32 : g240 ≠ g208))
         have N8 := A0 ((Z33 : g209 ≠ g240))
         have N21 := A0 ((Z34 : g240 ≠ g209))
         have N13 := A0 ((Z35 : g225 ≠ g240))
         have N22 := A0 ((Z36 : g240 ≠ g225))
         have N18 := A0 ((Z37 : g226 ≠ g240))
         have N23 := A0 ((Z38 : g240 ≠ g226))
         have N29 := A0 ((Z15 : g241 ≠ g240))
         have N24 := A0 ((Z16 : g240 ≠ g241))
         clear B30 B31 B32 B33 B35 HB
         have B30 := n0_
         have B31 := n1_
         have B32 := n2_
         have B33 := n3_
         have B35 := n4_
         have HB := n5_
         clear n0_ n1_ n2_ n3_ n4_ n5_
         clear hb hbox hg
         refine hK.out _ _ ⟨(blk_cell B30.out 0).trans rfl, (blk_cell B30.out 1).trans rfl, (blk_cell B30.out 2).trans rfl, (blk_cell B31.out 0).trans rfl, (blk_cell B31.out 1).trans rfl, (blk_cell B31.out 2).trans rfl⟩ (fun hHeld => ?_)
         clear hK K
         refine norm_ (a' := ?_) ?_ ?_
         rotate_left
         ·
          show Act.put _ (some 9) _ = _
          simp only [Act.put, y1, y2, y3, i64_w, i32_w]
          rfl
         exact norm_ Z52 (hJ1_3_4_9_10 (g240, g241) _ ⟨hHeld, Z56, Z57, Z58, Z59, Z60, Z61, G40.out, G46.out, N3.out, N20.out, N8.out, N21.out, N13.out, N22.out, N18.out, N23.out, N29.out, N24.out, G41.out, G47.out, N4.out, N25.out, N9.out, N26.out, N14.out, N27.out, N19.out, N28.out, Z3⟩)
       ·
        skip
        rintro g240 w56 ⟨hS_, h0_, h1_, h2_, h3_, h4_, h5_, h6_, h7_, h8_, h9_, h10_, h11_, h12_, h13_, h14_, h15_⟩
        have n0_ : Aside0 (w56.heap[g208]? = some (O25 a0_0 a0_1 a0_2)) := ⟨h0_⟩
        have n1_ : Aside0 (w56.heap[g209]? = some (O25 a1_0 a1_1 a1_2)) := ⟨h1_⟩
        have n2_ : Aside0 (w56.heap[g225]? = some (O30 t218 t219 t220)) := ⟨h2_⟩
        have n3_ : Aside0 (w56.heap[g226]? = some (O30 t221 t222 t223)) := ⟨h3_⟩
        have B34 : Aside0 (w56.heap[g240]? = some (O30 0 0 Y0)) := ⟨h4_⟩
        have G40 := A0 h5_
        have G46 := A0 h6_
        have N3 := A0 h7_
        have N20 := A0 h8_
        have N8 := A0 h9_
        have N21 := A0 h10_
        have N13 := A0 h11_
        have N22 := A0 h12_
        have N18 := A0 h13_
        have N23 := A0 h14_
        have n15_ : Aside0 (Below w.heap.size w w56) := ⟨h15_⟩
        clear B30 B31 B32 B33 HB
        clear h0_ h1_ h2_ h3_ h4_ h5_ h6_ h7_ h8_ h9_ h10_ h11_ h12_ h13_ h14_ h15_
        have B30 := n0_
        have B31 := n1_
        have B32 := n2_
        have B33 := n3_
        have HB := n15_
        clear n0_ n1_ n2_ n3_ n15_
        have hHeld : Q6 g208 a0_0 a0_1 a0_2 g209 a1_0 a1_1 a1_2 w56 := hS_
        refine norm_ (a' := ?_) ?_ ?_
        rotate_left
        ·
         simp only [putAll, Act.put, y1, y2, y3]
         rfl
        refine one_ (i := 10) (N := some 10) #[true, true, true, true, true, true, true, true, true, true, true, false, false, false] rfl rfl (one_of HT_.out Z62) (by decide) (fun K hK => ?_)
        refine box_step ?hg (N := 10) ?hd (cs := #[.int .i64 0, .int .i64 0, .string Y0]) (t := 30) ?hr ?_; (case hd => rfl); (case hg => rfl); (case hr => first | (go_simp; done) | (go_simp; rfl))
        intro g241 hg w57 hbox hb
        have n0_ := A0 (blk_below (g := g208) (o := O25 a0_0 a0_1 a0_2) Z56 hb)
        have n1_ := A0 (blk_below (g := g209) (o := O25 a1_0 a1_1 a1_2) Z57 hb)
        have n2_ := A0 (blk_below (g := g225) (o := O30 t218 t219 t220) Z58 hb)
        have n3_ := A0 (blk_below (g := g226) (o := O30 t221 t222 t223) Z59 hb)
        have n4_ := A0 (blk_below (g := g240) (o := O30 0 0 Y0) Z60 hb)
        have n5_ := A0 (below_step Z7 hb)
        have B35 := A0 (hbox)
        have G41 := A0 ((Z2 : w.heap.size ≤ g241))
        have G47 := A0 ((Z2 : w.heap.size ≤ g241))
        have N4 := A0 ((Z39 : g208 ≠ g241))
        have N25 := A0 ((Z40 : g241 ≠ g208))
        have N9 := A0 ((Z41 : g209 ≠ g241))
        have N26 := A0 ((Z42 : g241 ≠ g209))
        have N14 := A0 ((Z43 : g225 ≠ g241))
        have N27 := A0 ((Z44 : g241 ≠ g225))
        have N19 := A0 ((Z45 : g226 ≠ g241))
        have N28 := A0 ((Z46 : g241 ≠ g226))
        have N24 := A0 ((Z17 : g240 ≠ g241))
        have N29 := A0 ((Z18 : g241 ≠ g240))
        clear B30 B31 B32 B33 B34 HB
        have B30 := n0_
        have B31 := n1_
        have B32 := n2_
        have B33 := n3_
        have B34 := n4_
        have HB := n5_
        clear n0_ n1_ n2_ n3_ n4_ n5_
        clear hb hbox hg
        refine hK.out _ _ ⟨(blk_cell B30.out 0).trans rfl, (blk_cell B30.out 1).trans rfl, (blk_cell B30.out 2).trans rfl, (blk_cell B31.out 0).trans rfl, (blk_cell B31.out 1).trans rfl, (blk_cell B31.out 2).trans rfl⟩ (fun hHeld => ?_)
        clear hK K
        refine norm_ (a' := ?_) ?_ ?_
        rotate_left
        ·
         show Act.put _ (some 10) _ = _
         simp only [Act.put, y1, y2, y3, i64_w, i32_w]
         rfl
        exact norm_ Z52 (hJ1_3_4_9_10 (g240, g241) _ ⟨hHeld, Z56, Z57, Z58, Z59, Z60, Z61, G40.out, G46.out, N3.out, N20.out, N8.out, N21.out, N13.out, N22.out, N18.out, N23.out, N29.out, N24.out, G41.out, G47.out, N4.out, N25.out, N9.out, N26.out, N14.out, N27.out, N19.out, N28.out, Z4⟩)
      rintro ⟨g240, g241⟩ w57 ⟨hS_, h0_, h1_, h2_, h3_, h4_, h5_, h6_, h7_, h8_, h9_, h10_, h11_, h12_, h13_, h14_, h15_, h16_, h17_, h18_, h19_, h20_, h21_, h22_, h23_, h24_, h25_, h26_, h27_, h28_⟩
      have n0_ : Aside0 (w57.heap[g208]? = some (O25 a0_0 a0_1 a0_2)) := ⟨h0_⟩
      have n1_ : Aside0 (w57.heap[g209]? = some (O25 a1_0 a1_1 a1_2)) := ⟨h1_⟩
      have n2_ : Aside0 (w57.heap[g225]? = some (O30 t218 t219 t220)) := ⟨h2_⟩
      have n3_ : Aside0 (w57.heap[g226]? = some (O30 t221 t222 t223)) := ⟨h3_⟩
      have B34 : Aside0 (w57.heap[g240]? = some (O30 0 0 Y0)) := ⟨h4_⟩
      have B35 : Aside0 (w57.heap[g241]? = some (O30 0 0 Y0)) := ⟨h5_⟩
      have G40 := A0 h6_
      have G46 := A0 h7_
      have N3 := A0 h8_
      have N20 := A0 h9_
      have N8 := A0 h10_
      have N21 := A0 h11_
      have N13 := A0 h12_
      have N22 := A0 h13_
      have N18 := A0 h14_
      have N23 := A0 h15_
      have N29 := A0 h16_
      have N24 := A0 h17_
      have G41 := A0 h18_
      have G47 := A0 h19_
      have N4 := A0 h20_
      have N25 := A0 h21_
      have N9 := A0 h22_
      have N26 := A0 h23_
      have N14 := A0 h24_
      have N27 := A0 h25_
      have N19 := A0 h26_
      have N28 := A0 h27_
      have n28_ : Aside0 (Below w.heap.size w w57) := ⟨h28_⟩
      clear B30 B31 B32 B33 HB
      clear h0_ h1_ h2_ h3_ h4_ h5_ h6_ h7_ h8_ h9_ h10_ h11_ h12_ h13_ h14_ h15_ h16_ h17_ h18_ h19_ h20_ h21_ h22_ h23_ h24_ h25_ h26_ h27_ h28_
      have B30 := n0_
      have B31 := n1_
      have B32 := n2_
      have B33 := n3_
      have HB := n28_
      clear n0_ n1_ n2_ n3_ n28_
      have hHeld : Q6 g208 a0_0 a0_1 a0_2 g209 a1_0 a1_1 a1_2 w57 := hS_
      refine norm_ (a' := ?_) ?_ ?_
      rotate_left
      ·
       simp only [putAll, Act.put, y1, y2, y3]
       rfl
      refine one_ (i := 11) (N := none) #[true, true, true, true, true, true, true, true, true, true, true, true, false, false] rfl rfl (one_of HT_.out Z62) (by decide) (fun K hK => ?_)
      have hs58 : w57.cell? ⟨g240, 0, none⟩ = some (.int .i64 0) := (blk_cell B34.out 0).trans rfl
      have hfs58 := blk_frozen B34.out 0
      have hns58_0 := N3.out
      have hns58_1 := N8.out
      have hns58_2 := N13.out
      have hns58_3 := N18.out
      have hns58_5 := N29.out
      have hms58_0 := N20.out
      have hms58_1 := N21.out
      have hms58_2 := N22.out
      have hms58_3 := N23.out
      have hms58_5 := N24.out
      have hs59 : w57.cell? ⟨g240, 1, none⟩ = some (.int .i64 0) := (blk_cell B34.out 1).trans rfl
      have hfs59 := blk_frozen B34.out 1
      have hns59_0 := N3.out
      have hns59_1 := N8.out
      have hns59_2 := N13.out
      have hns59_3 := N18.out
      have hns59_5 := N29.out
      have hms59_0 := N20.out
      have hms59_1 := N21.out
      have hms59_2 := N22.out
      have hms59_3 := N23.out
      have hms59_5 := N24.out
      have hs60 : w57.cell? ⟨g240, 2, none⟩ = some (.string Y0) := (blk_cell B34.out 2).trans rfl
      have hfs60 := blk_frozen B34.out 2
      have hns60_0 := N3.out
      have hns60_1 := N8.out
      have hns60_2 := N13.out
      have hns60_3 := N18.out
      have hns60_5 := N29.out
      have hms60_0 := N20.out
      have hms60_1 := N21.out
      have hms60_2 := N22.out
      have hms60_3 := N23.out
      have hms60_5 := N24.out
      refine skip_ (w1 := ?_) (by rfl) rfl ?_ ?_
      rotate_left
      ·
       go_simp
       rfl
      refine hK.out _ _ ⟨((cell_far (p := ⟨g240, _, none⟩) N3.out _).trans (((cell_far (p := ⟨g240, _, none⟩) N3.out _).trans (((cell_far (p := ⟨g240, _, none⟩) N3.out _).trans (hHeld.1)))))), ((cell_far (p := ⟨g240, _, none⟩) N3.out _).trans (((cell_far (p := ⟨g240, _, none⟩) N3.out _).trans (((cell_far (p := ⟨g240, _, none⟩) N3.out _).trans (hHeld.2.1)))))), ((cell_far (p := ⟨g240, _, none⟩) N3.out _).trans (((cell_far (p := ⟨g240, _, none⟩) N3.out _).trans (((cell_far (p := ⟨g240, _, none⟩) N3.out _).trans (hHeld.2.2.1)))))), ((cell_far (p := ⟨g240, _, none⟩) N8.out _).trans (((cell_far (p := ⟨g240, _, none⟩) N8.out _).trans (((cell_far (p := ⟨g240, _, none⟩) N8.out _).trans (hHeld.2.2.2.1)))))), ((cell_far (p := ⟨g240, _, none⟩) N8.out _).trans (((cell_far (p := ⟨g240, _, none⟩) N8.out _).trans (((cell_far (p := ⟨g240, _, none⟩) N8.out _).trans (hHeld.2.2.2.2.1)))))), ((cell_far (p := ⟨g240, _, none⟩) N8.out _).trans (((cell_far (p := ⟨g240, _, none⟩) N8.out _).trans (((cell_far (p := ⟨g240, _, none⟩) N8.out _).trans (hHeld.2.2.2.2.2))))))⟩ (fun hHeld => ?_)
      clear hK K
      refine one_ (i := 12) (N := none) #[true, true, true, true, true, true, true, true, true, true, true, true, true, false] rfl rfl (one_of HT_.out Z62) (by decide) (fun K hK => ?_)
      have hs61 : w57.cell? ⟨g241, 0, none⟩ = some (.int .i64 0) := (blk_cell B35.out 0).trans rfl
      have hfs61 := blk_frozen B35.out 0
      have hns61_0 := N4.out
      have hns61_1 := N9.out
      have hns61_2 := N14.out
      have hns61_3 := N19.out
      have hns61_4 := N24.out
      have hms61_0 := N25.out
      have hms61_1 := N26.out
      have hms61_2 := N27.out
      have hms61_3 := N28.out
      have hms61_4 := N29.out
      have hs62 : w57.cell? ⟨g241, 1, none⟩ = some (.int .i64 0) := (blk_cell B35.out 1).trans rfl
      have hfs62 := blk_frozen B35.out 1
      have hns62_0 := N4.out
      have hns62_1 := N9.out
      have hns62_2 := N14.out
      have hns62_3 := N19.out
      have hns62_4 := N24.out
      have hms62_0 := N25.out
      have hms62_1 := N26.out
      have hms62_2 := N27.out
      have hms62_3 := N28.out
      have hms62_4 := N29.out
      have hs63 : w57.cell? ⟨g241, 2, none⟩ = some (.string Y0) := (blk_cell B35.out 2).trans rfl
      have hfs63 := blk_frozen B35.out 2
      have hns63_0 := N4.out
      have hns63_1 := N9.out
      have hns63_2 := N14.out
      have hns63_3 := N19.out
      have hns63_4 := N24.out
      have hms63_0 := N25.out
      have hms63_1 := N26.out
      have hms63_2 := N27.out
      have hms63_3 := N28.out
      have hms63_4 := N29.out
      refine skip_ (w1 := ?_) (by rfl) rfl ?_ ?_
      rotate_left
      ·
       go_simp
       rfl
      refine hK.out _ _ ⟨((cell_far (p := ⟨g241, _, none⟩) N4.out _).trans (((cell_far (p := ⟨g241, _, none⟩) N4.out _).trans (((cell_far (p := ⟨g241, _, none⟩) N4.out _).trans (hHeld.1)))))), ((cell_far (p := ⟨g241, _, none⟩) N4.out _).trans (((cell_far (p := ⟨g241, _, none⟩) N4.out _).trans (((cell_far (p := ⟨g241, _, none⟩) N4.out _).trans (hHeld.2.1)))))), ((cell_far (p := ⟨g241, _, none⟩) N4.out _).trans (((cell_far (p := ⟨g241, _, none⟩) N4.out _).trans (((cell_far (p := ⟨g241, _, none⟩) N4.out _).trans (hHeld.2.2.1)))))), ((cell_far (p := ⟨g241, _, none⟩) N9.out _).trans (((cell_far (p := ⟨g241, _, none⟩) N9.out _).trans (((cell_far (p := ⟨g241, _, none⟩) N9.out _).trans (hHeld.2.2.2.1)))))), ((cell_far (p := ⟨g241, _, none⟩) N9.out _).trans (((cell_far (p := ⟨g241, _, none⟩) N9.out _).trans (((cell_far (p := ⟨g241, _, none⟩) N9.out _).trans (hHeld.2.2.2.2.1)))))), ((cell_far (p := ⟨g241, _, none⟩) N9.out _).trans (((cell_far (p := ⟨g241, _, none⟩) N9.out _).trans (((cell_far (p := ⟨g241, _, none⟩) N9.out _).trans (hHeld.2.2.2.2.2))))))⟩ (fun hHeld => ?_)
      clear hK K
      refine pure_ (i := 13) (N := some 11) (v := ?_) (a' := ?_) #[true, true, true, true, true, true, true, true, true, true, true, true, true, true] rfl rfl (any_of HT_.out Z62) (fun _ _ _ h => h) (Or.inl ⟨by rfl, ?_⟩) ?_ ?_
      rotate_left
      ·
       intro w'
       go_simp
       with_reducible rfl
      rotate_left
      ·
       simp only [Act.put, y1, y2, y3, i64_w, i32_w]
       rfl
      refine done_ (done_of HT_.out Z62) ?_
      have hnb64 := N20.out
      have hnc64 := N3.out
      have hnb65 := N21.out
      have hnc65 := N8.out
      have hnb66 := N22.out
      have hnc66 := N13.out
      have hnb67 := N23.out
      have hnc67 := N18.out
      have hnb68 := N24.out
      have hnc68 := N29.out
      have hcz69_0 : w57.cell? ⟨g240, 0, none⟩ = some (.int .i64 0) := (blk_cell B34.out 0).trans rfl
      have hcz69_1 : w57.cell? ⟨g240, 1, none⟩ = some (.int .i64 0) := (blk_cell B34.out 1).trans rfl
      have hcz69_2 : w57.cell? ⟨g240, 2, none⟩ = some (.string Y0) := (blk_cell B34.out 2).trans rfl
      have hfz69_0 := blk_frozen B34.out 0
      have hfz69_1 := blk_frozen B34.out 1
      have hfz69_2 := blk_frozen B34.out 2
      have hnb70 := N10.out
      have hnc70 := N1.out
      have hnb71 := N11.out
      have hnc71 := N6.out
      have hnb72 := N12.out
      have hnc72 := N17.out
      have hnb73 := N14.out
      have hnc73 := N27.out
      have hcz74_0 : w57.cell? ⟨g225, 0, none⟩ = some (.int .i64 t218) := (blk_cell B32.out 0).trans rfl
      have hcz74_1 : w57.cell? ⟨g225, 1, none⟩ = some (.int .i64 t219) := (blk_cell B32.out 1).trans rfl
      have hcz74_2 : w57.cell? ⟨g225, 2, none⟩ = some (.string t220) := (blk_cell B32.out 2).trans rfl
      have hfz74_0 := blk_frozen B32.out 0
      have hfz74_1 := blk_frozen B32.out 1
      have hfz74_2 := blk_frozen B32.out 2
      try go_wp2_with (first | ((with_reducible refine gate_callee (f := 27) rfl ?_); refine goesL_ (some 42) rfl rfl Tryd.func27 Z62 rfl #[.agg #[.int .i64 t233, .int .i64 t234, .string t235], .agg #[.int .i64 t218, .int .i64 t219, .string t220]] rfl Z55 ?_; (with_reducible refine (laws_eqWay.calls t233 t234 t235 t218 t219 t220 true _ A25.out).mono ?_); rintro e w75 ⟨rfl, hb⟩; refine ⟨_, rfl, ?_⟩; have n0_ := A0 (blk_below (g := g208) (o := O25 a0_0 a0_1 a0_2) (by (with_reducible repeat (first | refine blk_drewN ?_ _ | refine blk_drew ?_ | refine blk_alloc ?_ _)); refine blk_far ?_ N4.out _; (with_reducible repeat (first | refine blk_drewN ?_ _ | refine blk_drew ?_ | refine blk_alloc ?_ _)); refine blk_far ?_ N4.out _; (with_reducible repeat (first | refine blk_drewN ?_ _ | refine blk_drew ?_ | refine blk_alloc ?_ _)); refine blk_far ?_ N4.out _; (with_reducible repeat (first | refine blk_drewN ?_ _ | refine blk_drew ?_ | refine blk_alloc ?_ _)); refine blk_far ?_ N3.out _; (with_reducible repeat (first | refine blk_drewN ?_ _ | refine blk_drew ?_ | refine blk_alloc ?_ _)); refine blk_far ?_ N3.out _; (with_reducible repeat (first | refine blk_drewN ?_ _ | refine blk_drew ?_ | refine blk_alloc ?_ _)); refine blk_far ?_ N3.out _; (with_reducible repeat (first | refine blk_drewN ?_ _ | refine blk_drew ?_ | refine blk_alloc ?_ _)); exact B30.out) hb); have n1_ := A0 (blk_below (g := g209) (o := O25 a1_0 a1_1 a1_2) (by (with_reducible repeat (first | refine blk_drewN ?_ _ | refine blk_drew ?_ | refine blk_alloc ?_ _)); refine blk_far ?_ N9.out _; (with_reducible repeat (first | refine blk_drewN ?_ _ | refine blk_drew ?_ | refine blk_alloc ?_ _)); refine blk_far ?_ N9.out _; (with_reducible repeat (first | refine blk_drewN ?_ _ | refine blk_drew ?_ | refine blk_alloc ?_ _)); refine blk_far ?_ N9.out _; (with_reducible repeat (first | refine blk_drewN ?_ _ | refine blk_drew ?_ | refine blk_alloc ?_ _)); refine blk_far ?_ N8.out _; (with_reducible repeat (first | refine blk_drewN ?_ _ | refine blk_drew ?_ | refine blk_alloc ?_ _)); refine blk_far ?_ N8.out _; (with_reducible repeat (first | refine blk_drewN ?_ _ | refine blk_drew ?_ | refine blk_alloc ?_ _)); refine blk_far ?_ N8.out _; (with_reducible repeat (first | refine blk_drewN ?_ _ | refine blk_drew ?_ | refine blk_alloc ?_ _)); exact B31.out) hb); have n2_ := A0 (blk_below (g := g225) (o := O30 t218 t219 t220) (by (with_reducible repeat (first | refine blk_drewN ?_ _ | refine blk_drew ?_ | refine blk_alloc ?_ _)); refine blk_far ?_ N14.out _; (with_reducible repeat (first | refine blk_drewN ?_ _ | refine blk_drew ?_ | refine blk_alloc ?_ _)); refine blk_far ?_ N14.out _; (with_reducible repeat (first | refine blk_drewN ?_ _ | refine blk_drew ?_ | refine blk_alloc ?_ _)); refine blk_far ?_ N14.out _; (with_reducible repeat (first | refine blk_drewN ?_ _ | refine blk_drew ?_ | refine blk_alloc ?_ _)); refine blk_far ?_ N13.out _; (with_reducible repeat (first | refine blk_drewN ?_ _ | refine blk_drew ?_ | refine blk_alloc ?_ _)); refine blk_far ?_ N13.out _; (with_reducible repeat (first | refine blk_drewN ?_ _ | refine blk_drew ?_ | refine blk_alloc ?_ _)); refine blk_far ?_ N13.out _; (with_reducible repeat (first | refine blk_drewN ?_ _ | refine blk_drew ?_ | refine blk_alloc ?_ _)); exact B32.out) hb); have n3_ := A0 (blk_below (g := g226) (o := O30 t221 t222 t223) (by (with_reducible repeat (first | refine blk_drewN ?_ _ | refine blk_drew ?_ | refine blk_alloc ?_ _)); refine blk_far ?_ N19.out _; (with_reducible repeat (first | refine blk_drewN ?_ _ | refine blk_drew ?_ | refine blk_alloc ?_ _)); refine blk_far ?_ N19.out _; (with_reducible repeat (first | refine blk_drewN ?_ _ | refine blk_drew ?_ | refine blk_alloc ?_ _)); refine blk_far ?_ N19.out _; (with_reducible repeat (first | refine blk_drewN ?_ _ | refine blk_drew ?_ | refine blk_alloc ?_ _)); refine blk_far ?_ N18.out _; (with_reducible repeat (first | refine blk_drewN ?_ _ | refine blk_drew ?_ | refine blk_alloc ?_ _)); refine blk_far ?_ N18.out _; (with_reducible repeat (first | refine blk_drewN ?_ _ | refine blk_drew ?_ | refine blk_alloc ?_ _)); refine blk_far ?_ N18.out _; (with_reducible repeat (first | refine blk_drewN ?_ _ | refine blk_drew ?_ | refine blk_alloc ?_ _)); exact B33.out) hb); have n4_ := A0 (blk_below (g := g240) (o := O30 t233 t234 t235) (by (with_reducible repeat (first | refine blk_drewN ?_ _ | refine blk_drew ?_ | refine blk_alloc ?_ _)); refine blk_far ?_ N24.out _; (with_reducible repeat (first | refine blk_drewN ?_ _ | refine blk_drew ?_ | refine blk_alloc ?_ _)); refine blk_far ?_ N24.out _; (with_reducible repeat (first | refine blk_drewN ?_ _ | refine blk_drew ?_ | refine blk_alloc ?_ _)); refine blk_far ?_ N24.out _; (with_reducible repeat (first | refine blk_drewN ?_ _ | refine blk_drew ?_ | refine blk_alloc ?_ _)); refine blk_put (cs := #[.int .i64 t233, .int .i64 t234, .string Y0]) ?_ 2 _ rfl; (with_reducible repeat (first | refine blk_drewN ?_ _ | refine blk_drew ?_ | refine blk_alloc ?_ _)); refine blk_put (cs := #[.int .i64 t233, .int .i64 0, .string Y0]) ?_ 1 _ rfl; (with_reducible repeat (first | refine blk_drewN ?_ _ | refine blk_drew ?_ | refine blk_alloc ?_ _)); refine blk_put (cs := #[.int .i64 0, .int .i64 0, .string Y0]) ?_ 0 _ rfl; (with_reducible repeat (first | refine blk_drewN ?_ _ | refine blk_drew ?_ | refine blk_alloc ?_ _)); exact B34.out) hb); have n5_ := A0 (blk_below (g := g241) (o := O30 t236 t237 t238) (by (with_reducible repeat (first | refine blk_drewN ?_ _ | refine blk_drew ?_ | refine blk_alloc ?_ _)); refine blk_put (cs := #[.int .i64 t236, .int .i64 t237, .string Y0]) ?_ 2 _ rfl; (with_reducible repeat (first | refine blk_drewN ?_ _ | refine blk_drew ?_ | refine blk_alloc ?_ _)); refine blk_put (cs := #[.int .i64 t236, .int .i64 0, .string Y0]) ?_ 1 _ rfl; (with_reducible repeat (first | refine blk_drewN ?_ _ | refine blk_drew ?_ | refine blk_alloc ?_ _)); refine blk_put (cs := #[.int .i64 0, .int .i64 0, .string Y0]) ?_ 0 _ rfl; (with_reducible repeat (first | refine blk_drewN ?_ _ | refine blk_drew ?_ | refine blk_alloc ?_ _)); refine blk_far ?_ N29.out _; (with_reducible repeat (first | refine blk_drewN ?_ _ | refine blk_drew ?_ | refine blk_alloc ?_ _)); refine blk_far ?_ N29.out _; (with_reducible repeat (first | refine blk_drewN ?_ _ | refine blk_drew ?_ | refine blk_alloc ?_ _)); refine blk_far ?_ N29.out _; (with_reducible repeat (first | refine blk_drewN ?_ _ | refine blk_drew ?_ | refine blk_alloc ?_ _)); exact B35.out) hb); have n6_ := A0 (below_step Z4 hb); clear B30; clear B31; clear B32; clear B33; clear B34; clear B35; clear HB; have B30 := n0_; have B31 := n1_; have B32 := n2_; have B33 := n3_; have B34 := n4_; have B35 := n5_; have HB := n6_; clear n0_ n1_ n2_ n3_ n4_ n5_ n6_; (try clear hb); (try clear hb2); (try clear hk); (try clear hi); have hnb76 := N25.out; have hnc76 := N4.out; have hnb77 := N26.out; have hnc77 := N9.out; have hnb78 := N28.out; have hnc78 := N19.out; have hcz79_0 : w75.cell? ⟨g241, 0, none⟩ = some (.int .i64 t236) := (blk_cell B35.out 0).trans rfl; have hcz79_1 : w75.cell? ⟨g241, 1, none⟩ = some (.int .i64 t237) := (blk_cell B35.out 1).trans rfl; have hcz79_2 : w75.cell? ⟨g241, 2, none⟩ = some (.string t238) := (blk_cell B35.out 2).trans rfl; have hfz79_0 := blk_frozen B35.out 0; have hfz79_1 := blk_frozen B35.out 1; have hfz79_2 := blk_frozen B35.out 2; have hnb80 := N15.out; have hnc80 := N2.out; have hnb81 := N16.out; have hnc81 := N7.out; have hcz82_0 : w75.cell? ⟨g226, 0, none⟩ = some (.int .i64 t221) := (blk_cell B33.out 0).trans rfl; have hcz82_1 : w75.cell? ⟨g226, 1, none⟩ = some (.int .i64 t222) := (blk_cell B33.out 1).trans rfl; have hcz82_2 : w75.cell? ⟨g226, 2, none⟩ = some (.string t223) := (blk_cell B33.out 2).trans rfl; have hfz82_0 := blk_frozen B33.out 0; have hfz82_1 := blk_frozen B33.out 1; have hfz82_2 := blk_frozen B33.out 2) | (go_at_call 27; (with_reducible refine (laws_eqWay.calls t236 t237 t238 t221 t222 t223 true _ A27.out).mono ?_); rintro e w83 ⟨rfl, hb⟩; have n0_ := A0 (blk_below (g := g208) (o := O25 a0_0 a0_1 a0_2) Z56 hb); have n1_ := A0 (blk_below (g := g209) (o := O25 a1_0 a1_1 a1_2) Z57 hb); have n2_ := A0 (blk_below (g := g225) (o := O30 t218 t219 t220) Z58 hb); have n3_ := A0 (blk_below (g := g226) (o := O30 t221 t222 t223) Z59 hb); have n4_ := A0 (blk_below (g := g240) (o := O30 t233 t234 t235) Z60 hb); have n5_ := A0 (blk_below (g := g241) (o := O30 t236 t237 t238) Z61 hb); have n6_ := A0 (below_step Z4 hb); clear B30; clear B31; clear B32; clear B33; clear B34; clear B35; clear HB; have B30 := n0_; have B31 := n1_; have B32 := n2_; have B33 := n3_; have B34 := n4_; have B35 := n5_; have HB := n6_; clear n0_ n1_ n2_ n3_ n4_ n5_ n6_; (try clear hb); (try clear hb2); (try clear hk); (try clear hi)))
      go_ret
      exact ⟨by first | rfl | (simp [errW_none, errW_some] <;> rfl) | (simp [*, errW_none, errW_some] <;> rfl), by repeat (first | (with_reducible first | exact HB.out | apply below_alloc | apply pw_below_drewN | apply below_drew1 | refine below_set ?_ G42.out | refine below_set ?_ G43.out | refine below_set ?_ G44.out | refine below_set ?_ G45.out | refine below_set ?_ G46.out | refine below_set ?_ G47.out) | exact HB.out)⟩
    ·
     replace c28 := Bool.eq_false_iff.mpr c28
     subst c28
     have H1 : (none) = some r := by rw [if_neg (show ¬ (false = true) by decide)] at H; exact H
     clear H
     have H := H1
     clear H1
     exact absurd H (by simp)
   ·
    replace c26 := Bool.eq_false_iff.mpr c26
    subst c26
    have H1 : (none) = some r := by rw [if_neg (show ¬ (false = true) by decide)] at H; exact H
    clear H
    have H := H1
    clear H1
    exact absurd H (by simp)

end Go.Proofs.YtkjhfafjfebmjaaDoor.OFnExactSwapTails
