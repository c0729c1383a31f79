/- The functions that 'FnExactAllPairsApart' runs, each as a function over numbers and lists, with the proof that the Go text comes to its answers. No condition. -/
import Derived.Test.YthlbbngmgioamaaOFnExactAllPairsApartx0
import Derived.Test.YthlbbngmgioamaaOFnExactAllPairsApartx2
import Derived.Test.YthlbbngmgioamaaOFnExactAllPairsApartx3
import Derived.Test.YthlbbngmgioamaaOFnExactAllPairsApartx4
namespace Go.Proofs.Ythlbbngmgioamaa.OFnExactAllPairsApart
open Go.Proofs.Ythlbbngmgioamaa.Stub
open Go.RowKit Go.Proofs.YthlbbngmgioamaaW.PrintWords Go.Proofs.YthlbbngmgioamaaW.PrintLast Go.Proofs.YthlbbngmgioamaaW.PrintMore
attribute [local go_sem] max2_int min2_int max_two min_two max_three min_three max_four min_four   -- for this text's walks alone
set_option linter.unusedVariables false
set_option linter.unusedSimpArgs false

/-! ### spec_AllPairsApart: function 4 -/
theorem Zrd {p : Prop} (h : p := by first | rfl | (simp [errW_none, errW_some] <;> rfl) | (simp [*, errW_none, errW_some] <;> rfl)) : p := h
theorem Zbd {p : Prop} (h : p := by repeat (first | (with_reducible first | exact HB.out | apply below_alloc | apply pw_below_drewN | apply below_drew1) | exact HB.out)) : p := h
theorem y1d {α : Type} (l : List α) (i : Nat) (a : α) : l.toArray.setIfInBounds i a = (l.set i a).toArray := List.setIfInBounds_toArray l i a
theorem y2d {α : Type} {x : α} {xs : List α} {b : α} : (x :: xs).set 0 b = b :: xs := List.set_cons_zero
theorem y3d {α : Type} {x : α} {xs : List α} {n : Nat} {b : α} : (x :: xs).set (n + 1) b = x :: xs.set n b := List.set_cons_succ
theorem Adq {p : Prop} (h : p) : Aside0 p := Aside0.mk h
theorem Zd1 {p : Prop} (h : p := by (with_reducible repeat (first | refine blk_drewN ?_ _ | refine blk_drew ?_ | refine blk_alloc ?_ _)); refine blk_put (cs := #[.int .i64 ((rd_T37 t183 x66_4).f0.f0), .int .i64 ((rd_T37 t183 x66_4).f0.f1), .string (⟨#[]⟩ : ByteArray)]) ?_ 2 _ rfl; (with_reducible repeat (first | refine blk_drewN ?_ _ | refine blk_drew ?_ | refine blk_alloc ?_ _)); refine blk_put (cs := #[.int .i64 ((rd_T37 t183 x66_4).f0.f0), .int .i64 0, .string (⟨#[]⟩ : ByteArray)]) ?_ 1 _ rfl; (with_reducible repeat (first | refine blk_drewN ?_ _ | refine blk_drew ?_ | refine blk_alloc ?_ _)); refine blk_put (cs := #[.int .i64 0, .int .i64 0, .string (⟨#[]⟩ : ByteArray)]) ?_ 0 _ rfl; (with_reducible repeat (first | refine blk_drewN ?_ _ | refine blk_drew ?_ | refine blk_alloc ?_ _)); exact BK190.out) : p := h
theorem Zd2 {p : Prop} (h : p := by (with_reducible repeat (first | refine blk_drewN ?_ _ | refine blk_drew ?_ | refine blk_alloc ?_ _)); refine blk_far ?_ NB171_190.out _; (with_reducible repeat (first | refine blk_drewN ?_ _ | refine blk_drew ?_ | refine blk_alloc ?_ _)); refine blk_far ?_ NB171_190.out _; (with_reducible repeat (first | refine blk_drewN ?_ _ | refine blk_drew ?_ | refine blk_alloc ?_ _)); refine blk_far ?_ NB171_190.out _; (with_reducible repeat (first | refine blk_drewN ?_ _ | refine blk_drew ?_ | refine blk_alloc ?_ _)); exact BK171.out) : p := h
theorem Zd3 {p : Prop} (h : p := by (with_reducible repeat (first | refine blk_drewN ?_ _ | refine blk_drew ?_ | refine blk_alloc ?_ _)); refine blk_far ?_ NB172_190.out _; (with_reducible repeat (first | refine blk_drewN ?_ _ | refine blk_drew ?_ | refine blk_alloc ?_ _)); refine blk_far ?_ NB172_190.out _; (with_reducible repeat (first | refine blk_drewN ?_ _ | refine blk_drew ?_ | refine blk_alloc ?_ _)); refine blk_far ?_ NB172_190.out _; (with_reducible repeat (first | refine blk_drewN ?_ _ | refine blk_drew ?_ | refine blk_alloc ?_ _)); exact BK172.out) : p := h
theorem Zd4 {p : Prop} (h : p := by (with_reducible repeat (first | refine blk_drewN ?_ _ | refine blk_drew ?_ | refine blk_alloc ?_ _)); refine blk_far ?_ NB173_190.out _; (with_reducible repeat (first | refine blk_drewN ?_ _ | refine blk_drew ?_ | refine blk_alloc ?_ _)); refine blk_far ?_ NB173_190.out _; (with_reducible repeat (first | refine blk_drewN ?_ _ | refine blk_drew ?_ | refine blk_alloc ?_ _)); refine blk_far ?_ NB173_190.out _; (with_reducible repeat (first | refine blk_drewN ?_ _ | refine blk_drew ?_ | refine blk_alloc ?_ _)); exact BK173.out) : p := h
theorem Zd5 {p : Prop} (h : p := by (with_reducible repeat (first | refine blk_drewN ?_ _ | refine blk_drew ?_ | refine blk_alloc ?_ _)); refine blk_far ?_ NB174_190.out _; (with_reducible repeat (first | refine blk_drewN ?_ _ | refine blk_drew ?_ | refine blk_alloc ?_ _)); refine blk_far ?_ NB174_190.out _; (with_reducible repeat (first | refine blk_drewN ?_ _ | refine blk_drew ?_ | refine blk_alloc ?_ _)); refine blk_far ?_ NB174_190.out _; (with_reducible repeat (first | refine blk_drewN ?_ _ | refine blk_drew ?_ | refine blk_alloc ?_ _)); exact BK174.out) : p := h
theorem Zd6 {p : Prop} (h : p := by (with_reducible repeat (first | refine blk_drewN ?_ _ | refine blk_drew ?_ | refine blk_alloc ?_ _)); refine blk_far ?_ NB188_190.out _; (with_reducible repeat (first | refine blk_drewN ?_ _ | refine blk_drew ?_ | refine blk_alloc ?_ _)); refine blk_far ?_ NB188_190.out _; (with_reducible repeat (first | refine blk_drewN ?_ _ | refine blk_drew ?_ | refine blk_alloc ?_ _)); refine blk_far ?_ NB188_190.out _; (with_reducible repeat (first | refine blk_drewN ?_ _ | refine blk_drew ?_ | refine blk_alloc ?_ _)); exact BK188.out) : p := h
theorem Zd7 {p : Prop} (h : p := by (with_reducible repeat (first | apply Kd.R_alloc | apply Kd.R_drewN | apply Kd.R_drew)); exact (Kd.R_mono (Kd.R_far (p := ⟨g190, 2, none⟩) (Kd.R_far (p := ⟨g190, 1, none⟩) (Kd.R_far (p := ⟨g190, 0, none⟩) (Kd.R_mono HO_12.out (fun k_ hk => (⟨hk, hk.2⟩ : _ ∧ k_ ≠ g190))) (fun _ hk => hk.2) (.int .i64 ((rd_T37 t183 x66_4).f0.f0))) (fun _ hk => hk.2) (.int .i64 ((rd_T37 t183 x66_4).f0.f1))) (fun _ hk => hk.2) (.string ((rd_T37 t183 x66_4).f1))) (fun _ h_ => h_.1))) : p := h
theorem Zd8 {p : Prop} (h : p := by (with_reducible repeat (first | apply Kd.S_alloc | apply Kd.S_drewN | apply Kd.S_drew)); exact (Kd.S_mono (Kd.S_far (p := ⟨g190, 2, none⟩) (Kd.S_far (p := ⟨g190, 1, none⟩) (Kd.S_far (p := ⟨g190, 0, none⟩) (Kd.S_mono HO_14.out (fun k_ hk => (⟨hk, hk.2⟩ : _ ∧ k_ ≠ g190))) (fun _ hk => hk.2) (.int .i64 ((rd_T37 t183 x66_4).f0.f0))) (fun _ hk => hk.2) (.int .i64 ((rd_T37 t183 x66_4).f0.f1))) (fun _ hk => hk.2) (.string ((rd_T37 t183 x66_4).f1))) (fun _ h_ => h_.1))) : p := h
theorem Zd9 {p : Prop} (h : p := by (with_reducible repeat (first | apply Kd.R_alloc | apply Kd.R_drewN | apply Kd.R_drew)); exact (Kd.R_mono (Kd.R_far (p := ⟨g190, 2, none⟩) (Kd.R_far (p := ⟨g190, 1, none⟩) (Kd.R_far (p := ⟨g190, 0, none⟩) (Kd.R_mono HO_58.out (fun k_ hk => (⟨hk, hk.2⟩ : _ ∧ k_ ≠ g190))) (fun _ hk => hk.2) (.int .i64 ((rd_T37 t183 x66_4).f0.f0))) (fun _ hk => hk.2) (.int .i64 ((rd_T37 t183 x66_4).f0.f1))) (fun _ hk => hk.2) (.string ((rd_T37 t183 x66_4).f1))) (fun _ h_ => h_.1))) : p := h
theorem Zd10 {p : Prop} (h : p := by (with_reducible repeat (first | apply Kd.R_alloc | apply Kd.R_drewN | apply Kd.R_drew)); exact (Kd.R_mono (Kd.R_far (p := ⟨g190, 2, none⟩) (Kd.R_far (p := ⟨g190, 1, none⟩) (Kd.R_far (p := ⟨g190, 0, none⟩) (Kd.R_mono HO_64.out (fun k_ hk => (⟨hk, hk.2⟩ : _ ∧ k_ ≠ g190))) (fun _ hk => hk.2) (.int .i64 ((rd_T37 t183 x66_4).f0.f0))) (fun _ hk => hk.2) (.int .i64 ((rd_T37 t183 x66_4).f0.f1))) (fun _ hk => hk.2) (.string ((rd_T37 t183 x66_4).f1))) (fun _ h_ => h_.1))) : p := h
theorem Zd11 {p : Prop} (h : p := by rw [hg]; exact (below_size (by repeat (first | (with_reducible first | exact HB.out | apply below_alloc | apply pw_below_drewN | apply below_drew1 | refine below_set ?_ GE171.out | refine below_set ?_ GE172.out | refine below_set ?_ GE173.out | refine below_set ?_ GE174.out | refine below_set ?_ GE188.out) | exact HB.out)))) : p := h
theorem Zd12 {p : Prop} (h : p := by rw [hg]; exact Nat.ne_of_lt (blk_lt (g := g188) (o := .cells #[.int .i64 ((rd_T37 t179 x60_3).f0.f0), .int .i64 ((rd_T37 t179 x60_3).f0.f1), .string ((rd_T37 t179 x60_3).f1)] 37 (0, 0)) (by (with_reducible repeat (first | refine blk_drewN ?_ _ | refine blk_drew ?_ | refine blk_alloc ?_ _)); exact BK188.out))) : p := h
theorem Zd13 {p : Prop} (h : p := by rw [hg]; exact Nat.ne_of_gt (blk_lt (g := g188) (o := .cells #[.int .i64 ((rd_T37 t179 x60_3).f0.f0), .int .i64 ((rd_T37 t179 x60_3).f0.f1), .string ((rd_T37 t179 x60_3).f1)] 37 (0, 0)) (by (with_reducible repeat (first | refine blk_drewN ?_ _ | refine blk_drew ?_ | refine blk_alloc ?_ _)); exact BK188.out))) : p := h
theorem Zd14 {p : Prop} (h : p := by repeat (first | (with_reducible first | exact HB.out | apply below_alloc | apply pw_below_drewN | apply below_drew1 | refine below_set ?_ GE171.out | refine below_set ?_ GE172.out | refine below_set ?_ GE173.out | refine below_set ?_ GE174.out | refine below_set ?_ GE188.out | refine below_set ?_ GE190.out) | exact HB.out)) : p := h
theorem Zd15 {p : Prop} (h : p := by repeat (first | (with_reducible first | exact HB.out | apply below_alloc | apply pw_below_drewN | apply below_drew1 | refine below_set ?_ GE171.out | refine below_set ?_ GE172.out | refine below_set ?_ GE173.out | refine below_set ?_ GE174.out | refine below_set ?_ GE188.out) | exact HB.out)) : p := h
theorem Zd16 {p : Prop} (h : p := by repeat (first | (with_reducible first | exact HB.out | apply below_alloc | apply pw_below_drewN | apply below_drew1 | refine below_set ?_ GE171.out | refine below_set ?_ GE172.out | refine below_set ?_ GE173.out | refine below_set ?_ GE174.out) | exact HB.out)) : p := h
theorem Zd17 {p : Prop} (h : p := by rw [hg]; exact Nat.ne_of_lt (blk_lt (g := g171) (o := .cells #[.int .i64 a0_0, .int .i64 a0_1] 27 (0, 0)) (by (with_reducible repeat (first | refine blk_drewN ?_ _ | refine blk_drew ?_ | refine blk_alloc ?_ _)); exact BK171.out))) : p := h
theorem Zd18 {p : Prop} (h : p := by rw [hg]; exact Nat.ne_of_gt (blk_lt (g := g171) (o := .cells #[.int .i64 a0_0, .int .i64 a0_1] 27 (0, 0)) (by (with_reducible repeat (first | refine blk_drewN ?_ _ | refine blk_drew ?_ | refine blk_alloc ?_ _)); exact BK171.out))) : p := h
theorem Zd19 {p : Prop} (h : p := by rw [hg]; exact Nat.ne_of_lt (blk_lt (g := g172) (o := .cells #[.int .i64 a1_0, .int .i64 a1_1] 27 (0, 0)) (by (with_reducible repeat (first | refine blk_drewN ?_ _ | refine blk_drew ?_ | refine blk_alloc ?_ _)); exact BK172.out))) : p := h
theorem Zd20 {p : Prop} (h : p := by rw [hg]; exact Nat.ne_of_gt (blk_lt (g := g172) (o := .cells #[.int .i64 a1_0, .int .i64 a1_1] 27 (0, 0)) (by (with_reducible repeat (first | refine blk_drewN ?_ _ | refine blk_drew ?_ | refine blk_alloc ?_ _)); exact BK172.out))) : p := h
theorem Zd21 {p : Prop} (h : p := by rw [hg]; exact Nat.ne_of_lt (blk_lt (g := g173) (o := .cells #[.int .i64 a2_0, .int .i64 a2_1] 27 (0, 0)) (by (with_reducible repeat (first | refine blk_drewN ?_ _ | refine blk_drew ?_ | refine blk_alloc ?_ _)); exact BK173.out))) : p := h
theorem Zd22 {p : Prop} (h : p := by rw [hg]; exact Nat.ne_of_gt (blk_lt (g := g173) (o := .cells #[.int .i64 a2_0, .int .i64 a2_1] 27 (0, 0)) (by (with_reducible repeat (first | refine blk_drewN ?_ _ | refine blk_drew ?_ | refine blk_alloc ?_ _)); exact BK173.out))) : p := h
theorem Zd23 {p : Prop} (h : p := by rw [hg]; exact Nat.ne_of_lt (blk_lt (g := g174) (o := .cells #[.int .i64 a3_0, .int .i64 a3_1] 27 (0, 0)) (by (with_reducible repeat (first | refine blk_drewN ?_ _ | refine blk_drew ?_ | refine blk_alloc ?_ _)); exact BK174.out))) : p := h
theorem Zd24 {p : Prop} (h : p := by rw [hg]; exact Nat.ne_of_gt (blk_lt (g := g174) (o := .cells #[.int .i64 a3_0, .int .i64 a3_1] 27 (0, 0)) (by (with_reducible repeat (first | refine blk_drewN ?_ _ | refine blk_drew ?_ | refine blk_alloc ?_ _)); exact BK174.out))) : p := h
theorem Zd25 {p : Prop} (h : p := by repeat (first | (with_reducible first | exact HB.out | apply below_alloc | apply pw_below_drewN | apply below_drew1 | refine below_set ?_ GE171.out | refine below_set ?_ GE172.out | refine below_set ?_ GE173.out) | exact HB.out)) : p := h
theorem Zd26 {p : Prop} (h : p := by repeat (first | (with_reducible first | exact HB.out | apply below_alloc | apply pw_below_drewN | apply below_drew1 | refine below_set ?_ GE171.out | refine below_set ?_ GE172.out) | exact HB.out)) : p := h
theorem Zd27 {p : Prop} (h : p := by (try simp only [List.map_toArray, List.map_cons, List.map_nil]); first | done | rfl | (simp only [List.length_drop, List.length_take]; rfl)) : p := h
theorem Zd28 {p : Prop} (h : p := by (with_reducible repeat (first | refine blk_drewN ?_ _ | refine blk_drew ?_ | refine blk_alloc ?_ _)); exact BK171.out) : p := h
theorem Zd29 {p : Prop} (h : p := by (with_reducible repeat (first | refine blk_drewN ?_ _ | refine blk_drew ?_ | refine blk_alloc ?_ _)); exact BK172.out) : p := h
theorem Zd30 {p : Prop} (h : p := by (with_reducible repeat (first | refine blk_drewN ?_ _ | refine blk_drew ?_ | refine blk_alloc ?_ _)); exact BK173.out) : p := h
theorem Zd31 {p : Prop} (h : p := by (with_reducible repeat (first | refine blk_drewN ?_ _ | refine blk_drew ?_ | refine blk_alloc ?_ _)); exact BK174.out) : p := h
theorem Zd32 {p : Prop} (h : p := by (with_reducible repeat (first | refine blk_drewN ?_ _ | refine blk_drew ?_ | refine blk_alloc ?_ _)); exact BK188.out) : p := h
theorem Zd33 {p : Prop} (h : p := by (with_reducible repeat (first | refine blk_drewN ?_ _ | refine blk_drew ?_ | refine blk_alloc ?_ _)); exact BK190.out) : p := h
theorem Zd34 {p : Prop} (h : p := by (with_reducible repeat (first | apply Kd.R_alloc | apply Kd.R_drewN | apply Kd.R_drew)); exact HO_12.out) : p := h
theorem Zd35 {p : Prop} (h : p := by (with_reducible repeat (first | apply Kd.S_alloc | apply Kd.S_drewN | apply Kd.S_drew)); exact HO_14.out) : p := h
theorem Zd36 {p : Prop} (h : p := by (with_reducible repeat (first | apply Kd.R_alloc | apply Kd.R_drewN | apply Kd.R_drew)); exact HO_58.out) : p := h
theorem Zd37 {p : Prop} (h : p := by (with_reducible repeat (first | apply Kd.R_alloc | apply Kd.R_drewN | apply Kd.R_drew)); exact HO_64.out) : p := h
theorem Zd38 {p : Prop} (h : p := by first | rfl | (simp; done) | (simp [*]; done) | (simp only [i64_w]; done)) : p := h
mutual
def spec_AllPairsApart.j0 : Nat → Bool → Int → Int → Int → Int → Int → Int → Int → Int → Option ((List (List (S37))) × Bool)
  | 0, _, _, _, _, _, _, _, _, _ => none
  | k + 1, x39, x172000, x172001, x173000, x173001, x174000, x174001, x175000, x175001 => if x39 = true then (some (([] : List (List (S37))), false)) else ((spec_ncAll.f k x172000 x172001 x174000 x174001).bind fun bt179 => ((spec_ncAll.f k x173000 x173001 x175000 x175001).bind fun bt183 => (if bt179.2 = true then (spec_AllPairsApart.j1 k bt179.1 bt183.1 (!bt183.2)) else (spec_AllPairsApart.j1 k bt179.1 bt183.1 true))))
def spec_AllPairsApart.j1 : Nat → List (S37) → List (S37) → Bool → Option ((List (List (S37))) × Bool)
  | 0, _, _, _ => none
  | k + 1, x10, x12, x57 => if x57 = true then (some (([] : List (List (S37))), false)) else (spec_AllPairsApart.l0 k x12 ([] : List (List (S37))) x10 (x10.length : Int) 0)
def spec_AllPairsApart.l0 : Nat → List (S37) → List (List (S37)) → List (S37) → Int → Int → Option ((List (List (S37))) × Bool)
  | 0, _, _, _, _, _ => none
  | k + 1, x12, x14, x58, x59, x60 => if x60 < x59 then (if 0 ≤ x60 then (if x60 < (x58.length : Int) then (spec_AllPairsApart.l1 k x12 x14 x58 x59 x60 x12 (x12.length : Int) 0 ((rd_T37 x58 x60).f0.f0) ((rd_T37 x58 x60).f0.f1) ((rd_T37 x58 x60).f1)) else (none)) else (none)) else (some (x14, true))
def spec_AllPairsApart.l1 : Nat → List (S37) → List (List (S37)) → List (S37) → Int → Int → List (S37) → Int → Int → Int → Int → ByteArray → Option ((List (List (S37))) × Bool)
  | 0, _, _, _, _, _, _, _, _, _, _, _ => none
  | k + 1, x12, x14, x58, x59, x60, x64, x65, x66, x189000, x189001, x189002 => if x66 < x65 then (if 0 ≤ x66 then (if x66 < (x64.length : Int) then ((spec_ncMeet.f k x189000 x189001 x189002 ((rd_T37 x64 x66).f0.f0) ((rd_T37 x64 x66).f0.f1) ((rd_T37 x64 x66).f1)).bind fun bt191 => (if bt191.2.2 = true then (spec_AllPairsApart.l1 k x12 x14 x58 x59 x60 x64 x65 (wrap64 (x66 + 1)) x189000 x189001 x189002) else (if x14.length < 5864062014805 then ((some (x14 ++ [(([(⟨(⟨x189000, x189001⟩ : S27), x189002⟩ : S37), (⟨(⟨(rd_T37 x64 x66).f0.f0, (rd_T37 x64 x66).f0.f1⟩ : S27), (rd_T37 x64 x66).f1⟩ : S37)] : List (S37)))] : List (List (S37)))).bind fun y197 => (if (y197.length : Int) > 200 then (some (([] : List (List (S37))), false)) else (spec_AllPairsApart.l1 k x12 y197 x58 x59 x60 x64 x65 (wrap64 (x66 + 1)) x189000 x189001 x189002))) else (none)))) else (none)) else (none)) else (spec_AllPairsApart.l0 k x12 x14 x58 x59 (wrap64 (x60 + 1)))
end
def spec_AllPairsApart.f (k : Nat) (a0_0 : Int) (a0_1 : Int) (a1_0 : Int) (a1_1 : Int) (a2_0 : Int) (a2_1 : Int) (a3_0 : Int) (a3_1 : Int) : Option ((List (List (S37))) × Bool) := (spec_ncCell.f a0_0 a0_1).bind fun t175 => (if t175 = true then ((spec_ncCell.f a1_0 a1_1).bind fun t176 => (if t176 = true then ((spec_ncCell.f a2_0 a2_1).bind fun t177 => (if t177 = true then ((spec_ncCell.f a3_0 a3_1).bind fun t178 => (spec_AllPairsApart.j0 k (!t178) a0_0 a0_1 a1_0 a1_1 a2_0 a2_1 a3_0 a3_1)) else (spec_AllPairsApart.j0 k true a0_0 a0_1 a1_0 a1_1 a2_0 a2_1 a3_0 a3_1))) else (spec_AllPairsApart.j0 k true a0_0 a0_1 a1_0 a1_1 a2_0 a2_1 a3_0 a3_1))) else (spec_AllPairsApart.j0 k true a0_0 a0_1 a1_0 a1_1 a2_0 a2_1 a3_0 a3_1))
theorem spec_AllPairsApart.mono_l : ∀ k, (∀ y0 y1 y2 y3 y4 y5 y6 y7 y8, LeO (spec_AllPairsApart.j0 k y0 y1 y2 y3 y4 y5 y6 y7 y8) (spec_AllPairsApart.j0 (k + 1) y0 y1 y2 y3 y4 y5 y6 y7 y8)) ∧ (∀ y0 y1 y2, LeO (spec_AllPairsApart.j1 k y0 y1 y2) (spec_AllPairsApart.j1 (k + 1) y0 y1 y2)) ∧ (∀ y0 y1 y2 y3 y4, LeO (spec_AllPairsApart.l0 k y0 y1 y2 y3 y4) (spec_AllPairsApart.l0 (k + 1) y0 y1 y2 y3 y4)) ∧ (∀ y0 y1 y2 y3 y4 y5 y6 y7 y8 y9 y10, LeO (spec_AllPairsApart.l1 k y0 y1 y2 y3 y4 y5 y6 y7 y8 y9 y10) (spec_AllPairsApart.l1 (k + 1) y0 y1 y2 y3 y4 y5 y6 y7 y8 y9 y10))
  | 0 => ⟨fun _ _ _ _ _ _ _ _ _ r h => by simp [spec_AllPairsApart.j0] at h, fun _ _ _ r h => by simp [spec_AllPairsApart.j1] at h, fun _ _ _ _ _ r h => by simp [spec_AllPairsApart.l0] at h, fun _ _ _ _ _ _ _ _ _ _ _ r h => by simp [spec_AllPairsApart.l1] at h⟩
  | k + 1 => by
    obtain ⟨ih0, ih1, ih2, ih3⟩ := spec_AllPairsApart.mono_l k
    refine ⟨?_, ?_, ?_, ?_⟩
    · intro y0 y1 y2 y3 y4 y5 y6 y7 y8
      unfold spec_AllPairsApart.j0
      repeat' first
      | (with_reducible exact ih0 _ _ _ _ _ _ _ _ _)
      | (with_reducible exact ih1 _ _ _)
      | (with_reducible exact ih2 _ _ _ _ _)
      | (with_reducible exact ih3 _ _ _ _ _ _ _ _ _ _ _)
      | (with_reducible exact spec_ncAll.mono _ _ _ _ _)
      | (with_reducible exact spec_ncMeet.mono _ _ _ _ _ _ _)
      | (with_reducible exact LeO.refl _)
      | (with_reducible exact LeO.none _)
      | (with_reducible refine LeO.ite ?_ ?_)
      | (with_reducible refine LeO.bind ?_ (fun _ => ?_))
      | exact ih0 _ _ _ _ _ _ _ _ _
      | exact ih1 _ _ _
      | exact ih2 _ _ _ _ _
      | exact ih3 _ _ _ _ _ _ _ _ _ _ _
      | exact spec_ncAll.mono _ _ _ _ _
      | exact spec_ncMeet.mono _ _ _ _ _ _ _
      | exact LeO.none _
      | refine LeO.ite ?_ ?_
      | refine LeO.bind ?_ (fun _ => ?_)
    · intro y0 y1 y2
      unfold spec_AllPairsApart.j1
      repeat' first
      | (with_reducible exact ih0 _ _ _ _ _ _ _ _ _)
      | (with_reducible exact ih1 _ _ _)
      | (with_reducible exact ih2 _ _ _ _ _)
      | (with_reducible exact ih3 _ _ _ _ _ _ _ _ _ _ _)
      | (with_reducible exact spec_ncAll.mono _ _ _ _ _)
      | (with_reducible exact spec_ncMeet.mono _ _ _ _ _ _ _)
      | (with_reducible exact LeO.refl _)
      | (with_reducible exact LeO.none _)
      | (with_reducible refine LeO.ite ?_ ?_)
      | (with_reducible refine LeO.bind ?_ (fun _ => ?_))
      | exact ih0 _ _ _ _ _ _ _ _ _
      | exact ih1 _ _ _
      | exact ih2 _ _ _ _ _
      | exact ih3 _ _ _ _ _ _ _ _ _ _ _
      | exact spec_ncAll.mono _ _ _ _ _
      | exact spec_ncMeet.mono _ _ _ _ _ _ _
      | exact LeO.none _
      | refine LeO.ite ?_ ?_
      | refine LeO.bind ?_ (fun _ => ?_)
    · intro y0 y1 y2 y3 y4
      unfold spec_AllPairsApart.l0
      repeat' first
      | (with_reducible exact ih0 _ _ _ _ _ _ _ _ _)
      | (with_reducible exact ih1 _ _ _)
      | (with_reducible exact ih2 _ _ _ _ _)
      | (with_reducible exact ih3 _ _ _ _ _ _ _ _ _ _ _)
      | (with_reducible exact spec_ncAll.mono _ _ _ _ _)
      | (with_reducible exact spec_ncMeet.mono _ _ _ _ _ _ _)
      | (with_reducible exact LeO.refl _)
      | (with_reducible exact LeO.none _)
      | (with_reducible refine LeO.ite ?_ ?_)
      | (with_reducible refine LeO.bind ?_ (fun _ => ?_))
      | exact ih0 _ _ _ _ _ _ _ _ _
      | exact ih1 _ _ _
      | exact ih2 _ _ _ _ _
      | exact ih3 _ _ _ _ _ _ _ _ _ _ _
      | exact spec_ncAll.mono _ _ _ _ _
      | exact spec_ncMeet.mono _ _ _ _ _ _ _
      | exact LeO.none _
      | refine LeO.ite ?_ ?_
      | refine LeO.bind ?_ (fun _ => ?_)
    · intro y0 y1 y2 y3 y4 y5 y6 y7 y8 y9 y10
      unfold spec_AllPairsApart.l1
      repeat' first
      | (with_reducible exact ih0 _ _ _ _ _ _ _ _ _)
      | (with_reducible exact ih1 _ _ _)
      | (with_reducible exact ih2 _ _ _ _ _)
      | (with_reducible exact ih3 _ _ _ _ _ _ _ _ _ _ _)
      | (with_reducible exact spec_ncAll.mono _ _ _ _ _)
      | (with_reducible exact spec_ncMeet.mono _ _ _ _ _ _ _)
      | (with_reducible exact LeO.refl _)
      | (with_reducible exact LeO.none _)
      | (with_reducible refine LeO.ite ?_ ?_)
      | (with_reducible refine LeO.bind ?_ (fun _ => ?_))
      | exact ih0 _ _ _ _ _ _ _ _ _
      | exact ih1 _ _ _
      | exact ih2 _ _ _ _ _
      | exact ih3 _ _ _ _ _ _ _ _ _ _ _
      | exact spec_ncAll.mono _ _ _ _ _
      | exact spec_ncMeet.mono _ _ _ _ _ _ _
      | exact LeO.none _
      | refine LeO.ite ?_ ?_
      | refine LeO.bind ?_ (fun _ => ?_)
theorem spec_AllPairsApart.mono : ∀ a0 a1 a2 a3 a4 a5 a6 a7 k, LeO (spec_AllPairsApart.f k a0 a1 a2 a3 a4 a5 a6 a7) (spec_AllPairsApart.f (k + 1) a0 a1 a2 a3 a4 a5 a6 a7) := by
  intro a0 a1 a2 a3 a4 a5 a6 a7 k
  obtain ⟨ih0, ih1, ih2, ih3⟩ := spec_AllPairsApart.mono_l k
  unfold spec_AllPairsApart.f
  repeat' first
      | (with_reducible exact ih0 _ _ _ _ _ _ _ _ _)
      | (with_reducible exact ih1 _ _ _)
      | (with_reducible exact ih2 _ _ _ _ _)
      | (with_reducible exact ih3 _ _ _ _ _ _ _ _ _ _ _)
      | (with_reducible exact spec_ncAll.mono _ _ _ _ _)
      | (with_reducible exact spec_ncMeet.mono _ _ _ _ _ _ _)
      | (with_reducible exact LeO.refl _)
      | (with_reducible exact LeO.none _)
      | (with_reducible refine LeO.ite ?_ ?_)
      | (with_reducible refine LeO.bind ?_ (fun _ => ?_))
      | exact ih0 _ _ _ _ _ _ _ _ _
      | exact ih1 _ _ _
      | exact ih2 _ _ _ _ _
      | exact ih3 _ _ _ _ _ _ _ _ _ _ _
      | exact spec_ncAll.mono _ _ _ _ _
      | exact spec_ncMeet.mono _ _ _ _ _ _ _
      | exact LeO.none _
      | refine LeO.ite ?_ ?_
      | refine LeO.bind ?_ (fun _ => ?_)
set_option maxHeartbeats 8000000 in
set_option maxRecDepth 100000 in
theorem spec_AllPairsApart.calls (k : Nat) (a0_0 : Int) (a0_1 : Int) (a1_0 : Int) (a1_1 : Int) (a2_0 : Int) (a2_1 : Int) (a3_0 : Int) (a3_1 : Int) (r1 : List (List (S37))) (r2 : Bool) (w : World) (h : spec_AllPairsApart.f k a0_0 a0_1 a1_0 a1_1 a2_0 a2_1 a3_0 a3_1 = some (r1, r2)) :
    Calls Try.prog 4 #[.agg #[.int .i64 a0_0, .int .i64 a0_1], .agg #[.int .i64 a1_0, .int .i64 a1_1], .agg #[.int .i64 a2_0, .int .i64 a2_1], .agg #[.int .i64 a3_0, .int .i64 a3_1]] w fun e w' => ∃ v0_ : Value, e = .returned (.tuple #[v0_, .bool r2]) ∧ Kd.S (Kd.slice 37 k37) 33 w' w.heap.size (fun _ => True) v0_ r1 ∧ Below w.heap.size w w' := by
 have hu27 := Try.underlying27
 have hu37 := Try.underlying37
 have HB := Adq (Below.refl w.heap.size w)
 have H : ((spec_ncCell.f a0_0 a0_1).bind fun t175 => (if t175 = true then ((spec_ncCell.f a1_0 a1_1).bind fun t176 => (if t176 = true then ((spec_ncCell.f a2_0 a2_1).bind fun t177 => (if t177 = true then ((spec_ncCell.f a3_0 a3_1).bind fun t178 => (spec_AllPairsApart.j0 k (!t178) a0_0 a0_1 a1_0 a1_1 a2_0 a2_1 a3_0 a3_1)) else (spec_AllPairsApart.j0 k true a0_0 a0_1 a1_0 a1_1 a2_0 a2_1 a3_0 a3_1))) else (spec_AllPairsApart.j0 k true a0_0 a0_1 a1_0 a1_1 a2_0 a2_1 a3_0 a3_1))) else (spec_AllPairsApart.j0 k true a0_0 a0_1 a1_0 a1_1 a2_0 a2_1 a3_0 a3_1))) = some (r1, r2) := h
 clear h
 have HC5 := Adq H
 clear H
 go_enter Try.func4, Try.ntmps4
 go_upto_region 1 with (first | ((with_reducible refine gate_dst (N := 4) rfl ?_); refine box_event ?hg (N := 4) ?hd (cs := #[.int .i64 a0_0, .int .i64 a0_1]) (t := 27) ?hr ?_; (case hd => rfl); (case hg => rfl); (case hr => first | (go_simp; done) | (go_simp; rfl)); intro g171 hg w6 hbox hb; have n0_ := Adq (below_step (Zbd) hb); have n1_ := Adq (hbox); have n2_ := Adq ((by rw [hg]; exact (below_size (Zbd)) : w.heap.size ≤ g171)); have n3_ := Adq ((by rw [hg]; exact (below_size (Zbd)) : w.heap.size ≤ g171)); clear HB; have HB := n0_; have BK171 := n1_; have GW171 := n2_; have GE171 := n3_; clear n0_ n1_ n2_ n3_; clear hb hbox hg) | ((with_reducible refine gate_dst (N := 5) rfl ?_); refine box_event ?hg (N := 5) ?hd (cs := #[.int .i64 a1_0, .int .i64 a1_1]) (t := 27) ?hr ?_; (case hd => rfl); (case hg => rfl); (case hr => first | (go_simp; done) | (go_simp; rfl)); intro g172 hg w7 hbox hb; have n0_ := Adq (blk_below (g := g171) (o := .cells #[.int .i64 a0_0, .int .i64 a0_1] 27 (0, 0)) Zd28 hb); have n1_ := Adq (below_step (by repeat (first | (with_reducible first | exact HB.out | apply below_alloc | apply pw_below_drewN | apply below_drew1 | refine below_set ?_ GE171.out) | exact HB.out)) hb); have n2_ := Adq (hbox); have n3_ := Adq ((by rw [hg]; exact (below_size (by repeat (first | (with_reducible first | exact HB.out | apply below_alloc | apply pw_below_drewN | apply below_drew1 | refine below_set ?_ GE171.out) | exact HB.out))) : w.heap.size ≤ g172)); have n4_ := Adq ((by rw [hg]; exact (below_size (by repeat (first | (with_reducible first | exact HB.out | apply below_alloc | apply pw_below_drewN | apply below_drew1 | refine below_set ?_ GE171.out) | exact HB.out))) : w.heap.size ≤ g172)); have n5_ := Adq ((by rw [hg]; exact Nat.ne_of_lt (blk_lt (g := g171) (o := .cells #[.int .i64 a0_0, .int .i64 a0_1] 27 (0, 0)) Zd28) : g171 ≠ g172)); have n6_ := Adq ((by rw [hg]; exact Nat.ne_of_gt (blk_lt (g := g171) (o := .cells #[.int .i64 a0_0, .int .i64 a0_1] 27 (0, 0)) Zd28) : g172 ≠ g171)); clear BK171; clear HB; have BK171 := n0_; have HB := n1_; have BK172 := n2_; have GW172 := n3_; have GE172 := n4_; have NB171_172 := n5_; have NB172_171 := n6_; clear n0_ n1_ n2_ n3_ n4_ n5_ n6_; clear hb hbox hg) | ((with_reducible refine gate_dst (N := 6) rfl ?_); refine box_event ?hg (N := 6) ?hd (cs := #[.int .i64 a2_0, .int .i64 a2_1]) (t := 27) ?hr ?_; (case hd => rfl); (case hg => rfl); (case hr => first | (go_simp; done) | (go_simp; rfl)); intro g173 hg w8 hbox hb; have n0_ := Adq (blk_below (g := g171) (o := .cells #[.int .i64 a0_0, .int .i64 a0_1] 27 (0, 0)) Zd28 hb); have n1_ := Adq (blk_below (g := g172) (o := .cells #[.int .i64 a1_0, .int .i64 a1_1] 27 (0, 0)) Zd29 hb); have n2_ := Adq (below_step Zd26 hb); have n3_ := Adq (hbox); have n4_ := Adq ((by rw [hg]; exact (below_size Zd26) : w.heap.size ≤ g173)); have n5_ := Adq ((by rw [hg]; exact (below_size Zd26) : w.heap.size ≤ g173)); have n6_ := Adq ((by rw [hg]; exact Nat.ne_of_lt (blk_lt (g := g171) (o := .cells #[.int .i64 a0_0, .int .i64 a0_1] 27 (0, 0)) Zd28) : g171 ≠ g173)); have n7_ := Adq ((by rw [hg]; exact Nat.ne_of_gt (blk_lt (g := g171) (o := .cells #[.int .i64 a0_0, .int .i64 a0_1] 27 (0, 0)) Zd28) : g173 ≠ g171)); have n8_ := Adq ((by rw [hg]; exact Nat.ne_of_lt (blk_lt (g := g172) (o := .cells #[.int .i64 a1_0, .int .i64 a1_1] 27 (0, 0)) Zd29) : g172 ≠ g173)); have n9_ := Adq ((by rw [hg]; exact Nat.ne_of_gt (blk_lt (g := g172) (o := .cells #[.int .i64 a1_0, .int .i64 a1_1] 27 (0, 0)) Zd29) : g173 ≠ g172)); clear BK171; clear BK172; clear HB; have BK171 := n0_; have BK172 := n1_; have HB := n2_; have BK173 := n3_; have GW173 := n4_; have GE173 := n5_; have NB171_173 := n6_; have NB173_171 := n7_; have NB172_173 := n8_; have NB173_172 := n9_; clear n0_ n1_ n2_ n3_ n4_ n5_ n6_ n7_ n8_ n9_; clear hb hbox hg) | ((with_reducible refine gate_dst (N := 7) rfl ?_); refine box_event ?hg (N := 7) ?hd (cs := #[.int .i64 a3_0, .int .i64 a3_1]) (t := 27) ?hr ?_; (case hd => rfl); (case hg => rfl); (case hr => first | (go_simp; done) | (go_simp; rfl)); intro g174 hg w9 hbox hb; have n0_ := Adq (blk_below (g := g171) (o := .cells #[.int .i64 a0_0, .int .i64 a0_1] 27 (0, 0)) Zd28 hb); have n1_ := Adq (blk_below (g := g172) (o := .cells #[.int .i64 a1_0, .int .i64 a1_1] 27 (0, 0)) Zd29 hb); have n2_ := Adq (blk_below (g := g173) (o := .cells #[.int .i64 a2_0, .int .i64 a2_1] 27 (0, 0)) Zd30 hb); have n3_ := Adq (below_step Zd25 hb); have n4_ := Adq (hbox); have n5_ := Adq ((by rw [hg]; exact (below_size Zd25) : w.heap.size ≤ g174)); have n6_ := Adq ((by rw [hg]; exact (below_size Zd25) : w.heap.size ≤ g174)); have n7_ := Adq ((by rw [hg]; exact Nat.ne_of_lt (blk_lt (g := g171) (o := .cells #[.int .i64 a0_0, .int .i64 a0_1] 27 (0, 0)) Zd28) : g171 ≠ g174)); have n8_ := Adq ((by rw [hg]; exact Nat.ne_of_gt (blk_lt (g := g171) (o := .cells #[.int .i64 a0_0, .int .i64 a0_1] 27 (0, 0)) Zd28) : g174 ≠ g171)); have n9_ := Adq ((by rw [hg]; exact Nat.ne_of_lt (blk_lt (g := g172) (o := .cells #[.int .i64 a1_0, .int .i64 a1_1] 27 (0, 0)) Zd29) : g172 ≠ g174)); have n10_ := Adq ((by rw [hg]; exact Nat.ne_of_gt (blk_lt (g := g172) (o := .cells #[.int .i64 a1_0, .int .i64 a1_1] 27 (0, 0)) Zd29) : g174 ≠ g172)); have n11_ := Adq ((by rw [hg]; exact Nat.ne_of_lt (blk_lt (g := g173) (o := .cells #[.int .i64 a2_0, .int .i64 a2_1] 27 (0, 0)) Zd30) : g173 ≠ g174)); have n12_ := Adq ((by rw [hg]; exact Nat.ne_of_gt (blk_lt (g := g173) (o := .cells #[.int .i64 a2_0, .int .i64 a2_1] 27 (0, 0)) Zd30) : g174 ≠ g173)); clear BK171; clear BK172; clear BK173; clear HB; have BK171 := n0_; have BK172 := n1_; have BK173 := n2_; have HB := n3_; have BK174 := n4_; have GW174 := n5_; have GE174 := n6_; have NB171_174 := n7_; have NB174_171 := n8_; have NB172_174 := n9_; have NB174_172 := n10_; have NB173_174 := n11_; have NB174_173 := n12_; clear n0_ n1_ n2_ n3_ n4_ n5_ n6_ n7_ n8_ n9_ n10_ n11_ n12_; clear hb hbox hg))
 (try simp only [Act.put, y1d, y2d, y3d])
 go_cut [39] (fun v39 wc => ∃ (kq : Nat) (x39_4 : Bool), v39 = .bool x39_4 ∧ Aside0 (spec_AllPairsApart.j0 kq x39_4 a0_0 a0_1 a1_0 a1_1 a2_0 a2_1 a3_0 a3_1 = some (r1, r2)) ∧ Aside0 (kq ≤ k) ∧ Aside0 (wc.heap[g171]? = some (.cells #[.int .i64 a0_0, .int .i64 a0_1] 27 (0, 0))) ∧ Aside0 (wc.heap[g172]? = some (.cells #[.int .i64 a1_0, .int .i64 a1_1] 27 (0, 0))) ∧ Aside0 (wc.heap[g173]? = some (.cells #[.int .i64 a2_0, .int .i64 a2_1] 27 (0, 0))) ∧ Aside0 (wc.heap[g174]? = some (.cells #[.int .i64 a3_0, .int .i64 a3_1] 27 (0, 0))) ∧ Aside0 (Below w.heap.size w wc))
 case first =>
  have H := HC5.out
  clear HC5
  replace H := Option.bind_eq_some_iff.mp H
  obtain ⟨t175, A100, H⟩ := H
  replace H : (if t175 = true then ((spec_ncCell.f a1_0 a1_1).bind fun t176 => (if t176 = true then ((spec_ncCell.f a2_0 a2_1).bind fun t177 => (if t177 = true then ((spec_ncCell.f a3_0 a3_1).bind fun t178 => (spec_AllPairsApart.j0 k (!t178) a0_0 a0_1 a1_0 a1_1 a2_0 a2_1 a3_0 a3_1)) else (spec_AllPairsApart.j0 k true a0_0 a0_1 a1_0 a1_1 a2_0 a2_1 a3_0 a3_1))) else (spec_AllPairsApart.j0 k true a0_0 a0_1 a1_0 a1_1 a2_0 a2_1 a3_0 a3_1))) else (spec_AllPairsApart.j0 k true a0_0 a0_1 a1_0 a1_1 a2_0 a2_1 a3_0 a3_1)) = some (r1, r2) := H
  have A10 := Adq A100
  clear A100
  by_cases c11 : t175 = true
  ·
   subst c11
   have H1 : ((spec_ncCell.f a1_0 a1_1).bind fun t176 => (if t176 = true then ((spec_ncCell.f a2_0 a2_1).bind fun t177 => (if t177 = true then ((spec_ncCell.f a3_0 a3_1).bind fun t178 => (spec_AllPairsApart.j0 k (!t178) a0_0 a0_1 a1_0 a1_1 a2_0 a2_1 a3_0 a3_1)) else (spec_AllPairsApart.j0 k true a0_0 a0_1 a1_0 a1_1 a2_0 a2_1 a3_0 a3_1))) else (spec_AllPairsApart.j0 k true a0_0 a0_1 a1_0 a1_1 a2_0 a2_1 a3_0 a3_1))) = some (r1, r2) := by rw [if_pos rfl] at H; exact H
   clear H
   have H := H1
   clear H1
   replace H := Option.bind_eq_some_iff.mp H
   obtain ⟨t176, A120, H⟩ := H
   replace H : (if t176 = true then ((spec_ncCell.f a2_0 a2_1).bind fun t177 => (if t177 = true then ((spec_ncCell.f a3_0 a3_1).bind fun t178 => (spec_AllPairsApart.j0 k (!t178) a0_0 a0_1 a1_0 a1_1 a2_0 a2_1 a3_0 a3_1)) else (spec_AllPairsApart.j0 k true a0_0 a0_1 a1_0 a1_1 a2_0 a2_1 a3_0 a3_1))) else (spec_AllPairsApart.j0 k true a0_0 a0_1 a1_0 a1_1 a2_0 a2_1 a3_0 a3_1)) = some (r1, r2) := H
   have A12 := Adq A120
   clear A120
   by_cases c13 : t176 = true
   ·
    subst c13
    have H1 : ((spec_ncCell.f a2_0 a2_1).bind fun t177 => (if t177 = true then ((spec_ncCell.f a3_0 a3_1).bind fun t178 => (spec_AllPairsApart.j0 k (!t178) a0_0 a0_1 a1_0 a1_1 a2_0 a2_1 a3_0 a3_1)) else (spec_AllPairsApart.j0 k true a0_0 a0_1 a1_0 a1_1 a2_0 a2_1 a3_0 a3_1))) = some (r1, r2) := by rw [if_pos rfl] at H; exact H
    clear H
    have H := H1
    clear H1
    replace H := Option.bind_eq_some_iff.mp H
    obtain ⟨t177, A140, H⟩ := H
    replace H : (if t177 = true then ((spec_ncCell.f a3_0 a3_1).bind fun t178 => (spec_AllPairsApart.j0 k (!t178) a0_0 a0_1 a1_0 a1_1 a2_0 a2_1 a3_0 a3_1)) else (spec_AllPairsApart.j0 k true a0_0 a0_1 a1_0 a1_1 a2_0 a2_1 a3_0 a3_1)) = some (r1, r2) := H
    have A14 := Adq A140
    clear A140
    by_cases c15 : t177 = true
    ·
     subst c15
     have H1 : ((spec_ncCell.f a3_0 a3_1).bind fun t178 => (spec_AllPairsApart.j0 k (!t178) a0_0 a0_1 a1_0 a1_1 a2_0 a2_1 a3_0 a3_1)) = some (r1, r2) := by rw [if_pos rfl] at H; exact H
     clear H
     have H := H1
     clear H1
     replace H := Option.bind_eq_some_iff.mp H
     obtain ⟨t178, A160, H⟩ := H
     replace H : (spec_AllPairsApart.j0 k (!t178) a0_0 a0_1 a1_0 a1_1 a2_0 a2_1 a3_0 a3_1) = some (r1, r2) := H
     have A16 := Adq A160
     clear A160
     have H' := Adq H
     clear H
     have hnb17 := NB171_172.out
     have hnc17 := NB172_171.out
     have hnb18 := NB171_173.out
     have hnc18 := NB173_171.out
     have hnb19 := NB171_174.out
     have hnc19 := NB174_171.out
     have hcz20_0 : w9.cell? ⟨g171, 0, none⟩ = some (.int .i64 a0_0) := (blk_cell BK171.out 0).trans rfl
     have hcz20_1 : w9.cell? ⟨g171, 1, none⟩ = some (.int .i64 a0_1) := (blk_cell BK171.out 1).trans rfl
     have hfz20_0 := blk_frozen BK171.out 0
     have hfz20_1 := blk_frozen BK171.out 1
     go_wp2_with (first | ((with_reducible refine gate_callee (f := 10) rfl ?_); refine goesL_ (some 23) rfl rfl Try.func10 (by kernel_rfl) rfl #[.agg #[.int .i64 a0_0, .int .i64 a0_1]] rfl Zd27 ?_; (with_reducible refine (spec_ncCell.calls a0_0 a0_1 true _ A10.out).mono ?_); rintro e w21 ⟨rfl, hb⟩; refine ⟨_, rfl, ?_⟩; have n0_ := Adq (blk_below (g := g171) (o := .cells #[.int .i64 a0_0, .int .i64 a0_1] 27 (0, 0)) Zd28 hb); have n1_ := Adq (blk_below (g := g172) (o := .cells #[.int .i64 a1_0, .int .i64 a1_1] 27 (0, 0)) Zd29 hb); have n2_ := Adq (blk_below (g := g173) (o := .cells #[.int .i64 a2_0, .int .i64 a2_1] 27 (0, 0)) Zd30 hb); have n3_ := Adq (blk_below (g := g174) (o := .cells #[.int .i64 a3_0, .int .i64 a3_1] 27 (0, 0)) Zd31 hb); have n4_ := Adq (below_step Zd16 hb); clear BK171; clear BK172; clear BK173; clear BK174; clear HB; have BK171 := n0_; have BK172 := n1_; have BK173 := n2_; have BK174 := n3_; have HB := n4_; clear n0_ n1_ n2_ n3_ n4_; (try clear hb); have hnb22 := NB172_173.out; have hnc22 := NB173_172.out; have hnb23 := NB172_174.out; have hnc23 := NB174_172.out; have hcz24_0 : w21.cell? ⟨g172, 0, none⟩ = some (.int .i64 a1_0) := (blk_cell BK172.out 0).trans rfl; have hcz24_1 : w21.cell? ⟨g172, 1, none⟩ = some (.int .i64 a1_1) := (blk_cell BK172.out 1).trans rfl; have hfz24_0 := blk_frozen BK172.out 0; have hfz24_1 := blk_frozen BK172.out 1) | (go_at_call 10; (with_reducible refine (spec_ncCell.calls a1_0 a1_1 true _ A12.out).mono ?_); rintro e w25 ⟨rfl, hb⟩; have n0_ := Adq (blk_below (g := g171) (o := .cells #[.int .i64 a0_0, .int .i64 a0_1] 27 (0, 0)) Zd28 hb); have n1_ := Adq (blk_below (g := g172) (o := .cells #[.int .i64 a1_0, .int .i64 a1_1] 27 (0, 0)) Zd29 hb); have n2_ := Adq (blk_below (g := g173) (o := .cells #[.int .i64 a2_0, .int .i64 a2_1] 27 (0, 0)) Zd30 hb); have n3_ := Adq (blk_below (g := g174) (o := .cells #[.int .i64 a3_0, .int .i64 a3_1] 27 (0, 0)) Zd31 hb); have n4_ := Adq (below_step Zd16 hb); clear BK171; clear BK172; clear BK173; clear BK174; clear HB; have BK171 := n0_; have BK172 := n1_; have BK173 := n2_; have BK174 := n3_; have HB := n4_; clear n0_ n1_ n2_ n3_ n4_; (try clear hb); have hnb26 := NB173_174.out; have hnc26 := NB174_173.out; have hcz27_0 : w25.cell? ⟨g173, 0, none⟩ = some (.int .i64 a2_0) := (blk_cell BK173.out 0).trans rfl; have hcz27_1 : w25.cell? ⟨g173, 1, none⟩ = some (.int .i64 a2_1) := (blk_cell BK173.out 1).trans rfl; have hfz27_0 := blk_frozen BK173.out 0; have hfz27_1 := blk_frozen BK173.out 1) | (go_at_call 10; (with_reducible refine (spec_ncCell.calls a2_0 a2_1 true _ A14.out).mono ?_); rintro e w28 ⟨rfl, hb⟩; have n0_ := Adq (blk_below (g := g171) (o := .cells #[.int .i64 a0_0, .int .i64 a0_1] 27 (0, 0)) Zd28 hb); have n1_ := Adq (blk_below (g := g172) (o := .cells #[.int .i64 a1_0, .int .i64 a1_1] 27 (0, 0)) Zd29 hb); have n2_ := Adq (blk_below (g := g173) (o := .cells #[.int .i64 a2_0, .int .i64 a2_1] 27 (0, 0)) Zd30 hb); have n3_ := Adq (blk_below (g := g174) (o := .cells #[.int .i64 a3_0, .int .i64 a3_1] 27 (0, 0)) Zd31 hb); have n4_ := Adq (below_step Zd16 hb); clear BK171; clear BK172; clear BK173; clear BK174; clear HB; have BK171 := n0_; have BK172 := n1_; have BK173 := n2_; have BK174 := n3_; have HB := n4_; clear n0_ n1_ n2_ n3_ n4_; (try clear hb); have hcz29_0 : w28.cell? ⟨g174, 0, none⟩ = some (.int .i64 a3_0) := (blk_cell BK174.out 0).trans rfl; have hcz29_1 : w28.cell? ⟨g174, 1, none⟩ = some (.int .i64 a3_1) := (blk_cell BK174.out 1).trans rfl; have hfz29_0 := blk_frozen BK174.out 0; have hfz29_1 := blk_frozen BK174.out 1) | (go_at_call 10; (with_reducible refine (spec_ncCell.calls a3_0 a3_1 t178 _ A16.out).mono ?_); rintro e w30 ⟨rfl, hb⟩; have n0_ := Adq (blk_below (g := g171) (o := .cells #[.int .i64 a0_0, .int .i64 a0_1] 27 (0, 0)) Zd28 hb); have n1_ := Adq (blk_below (g := g172) (o := .cells #[.int .i64 a1_0, .int .i64 a1_1] 27 (0, 0)) Zd29 hb); have n2_ := Adq (blk_below (g := g173) (o := .cells #[.int .i64 a2_0, .int .i64 a2_1] 27 (0, 0)) Zd30 hb); have n3_ := Adq (blk_below (g := g174) (o := .cells #[.int .i64 a3_0, .int .i64 a3_1] 27 (0, 0)) Zd31 hb); have n4_ := Adq (below_step Zd16 hb); clear BK171; clear BK172; clear BK173; clear BK174; clear HB; have BK171 := n0_; have BK172 := n1_; have BK173 := n2_; have BK174 := n3_; have HB := n4_; clear n0_ n1_ n2_ n3_ n4_; (try clear hb)))
     go_meet
     case rel => exact ⟨_, (!t178), Zd38, H', ⟨by first | omega | exact Nat.le_refl _⟩, ⟨by (with_reducible repeat (first | refine blk_drewN ?_ _ | refine blk_drew ?_ | refine blk_alloc ?_ _)); exact BK171.out⟩, ⟨by (with_reducible repeat (first | refine blk_drewN ?_ _ | refine blk_drew ?_ | refine blk_alloc ?_ _)); exact BK172.out⟩, ⟨by (with_reducible repeat (first | refine blk_drewN ?_ _ | refine blk_drew ?_ | refine blk_alloc ?_ _)); exact BK173.out⟩, ⟨by (with_reducible repeat (first | refine blk_drewN ?_ _ | refine blk_drew ?_ | refine blk_alloc ?_ _)); exact BK174.out⟩, ⟨by repeat (first | (with_reducible first | exact HB.out | apply below_alloc | apply pw_below_drewN | apply below_drew1 | refine below_set ?_ GE171.out | refine below_set ?_ GE172.out | refine below_set ?_ GE173.out | refine below_set ?_ GE174.out) | exact HB.out)⟩⟩
    ·
     replace c15 := Bool.eq_false_iff.mpr c15
     subst c15
     have H1 : (spec_AllPairsApart.j0 k true a0_0 a0_1 a1_0 a1_1 a2_0 a2_1 a3_0 a3_1) = some (r1, r2) := by rw [if_neg (show ¬ (false = true) by decide)] at H; exact H
     clear H
     have H := H1
     clear H1
     have H' := Adq H
     clear H
     have hnb31 := NB171_172.out
     have hnc31 := NB172_171.out
     have hnb32 := NB171_173.out
     have hnc32 := NB173_171.out
     have hnb33 := NB171_174.out
     have hnc33 := NB174_171.out
     have hcz34_0 : w9.cell? ⟨g171, 0, none⟩ = some (.int .i64 a0_0) := (blk_cell BK171.out 0).trans rfl
     have hcz34_1 : w9.cell? ⟨g171, 1, none⟩ = some (.int .i64 a0_1) := (blk_cell BK171.out 1).trans rfl
     have hfz34_0 := blk_frozen BK171.out 0
     have hfz34_1 := blk_frozen BK171.out 1
     go_wp2_with (first | ((with_reducible refine gate_callee (f := 10) rfl ?_); refine goesL_ (some 23) rfl rfl Try.func10 (by kernel_rfl) rfl #[.agg #[.int .i64 a0_0, .int .i64 a0_1]] rfl Zd27 ?_; (with_reducible refine (spec_ncCell.calls a0_0 a0_1 true _ A10.out).mono ?_); rintro e w35 ⟨rfl, hb⟩; refine ⟨_, rfl, ?_⟩; have n0_ := Adq (blk_below (g := g171) (o := .cells #[.int .i64 a0_0, .int .i64 a0_1] 27 (0, 0)) Zd28 hb); have n1_ := Adq (blk_below (g := g172) (o := .cells #[.int .i64 a1_0, .int .i64 a1_1] 27 (0, 0)) Zd29 hb); have n2_ := Adq (blk_below (g := g173) (o := .cells #[.int .i64 a2_0, .int .i64 a2_1] 27 (0, 0)) Zd30 hb); have n3_ := Adq (blk_below (g := g174) (o := .cells #[.int .i64 a3_0, .int .i64 a3_1] 27 (0, 0)) Zd31 hb); have n4_ := Adq (below_step Zd16 hb); clear BK171; clear BK172; clear BK173; clear BK174; clear HB; have BK171 := n0_; have BK172 := n1_; have BK173 := n2_; have BK174 := n3_; have HB := n4_; clear n0_ n1_ n2_ n3_ n4_; (try clear hb); have hnb36 := NB172_173.out; have hnc36 := NB173_172.out; have hnb37 := NB172_174.out; have hnc37 := NB174_172.out; have hcz38_0 : w35.cell? ⟨g172, 0, none⟩ = some (.int .i64 a1_0) := (blk_cell BK172.out 0).trans rfl; have hcz38_1 : w35.cell? ⟨g172, 1, none⟩ = some (.int .i64 a1_1) := (blk_cell BK172.out 1).trans rfl; have hfz38_0 := blk_frozen BK172.out 0; have hfz38_1 := blk_frozen BK172.out 1) | (go_at_call 10; (with_reducible refine (spec_ncCell.calls a1_0 a1_1 true _ A12.out).mono ?_); rintro e w39 ⟨rfl, hb⟩; have n0_ := Adq (blk_below (g := g171) (o := .cells #[.int .i64 a0_0, .int .i64 a0_1] 27 (0, 0)) Zd28 hb); have n1_ := Adq (blk_below (g := g172) (o := .cells #[.int .i64 a1_0, .int .i64 a1_1] 27 (0, 0)) Zd29 hb); have n2_ := Adq (blk_below (g := g173) (o := .cells #[.int .i64 a2_0, .int .i64 a2_1] 27 (0, 0)) Zd30 hb); have n3_ := Adq (blk_below (g := g174) (o := .cells #[.int .i64 a3_0, .int .i64 a3_1] 27 (0, 0)) Zd31 hb); have n4_ := Adq (below_step Zd16 hb); clear BK171; clear BK172; clear BK173; clear BK174; clear HB; have BK171 := n0_; have BK172 := n1_; have BK173 := n2_; have BK174 := n3_; have HB := n4_; clear n0_ n1_ n2_ n3_ n4_; (try clear hb); have hnb40 := NB173_174.out; have hnc40 := NB174_173.out; have hcz41_0 : w39.cell? ⟨g173, 0, none⟩ = some (.int .i64 a2_0) := (blk_cell BK173.out 0).trans rfl; have hcz41_1 : w39.cell? ⟨g173, 1, none⟩ = some (.int .i64 a2_1) := (blk_cell BK173.out 1).trans rfl; have hfz41_0 := blk_frozen BK173.out 0; have hfz41_1 := blk_frozen BK173.out 1) | (go_at_call 10; (with_reducible refine (spec_ncCell.calls a2_0 a2_1 false _ A14.out).mono ?_); rintro e w42 ⟨rfl, hb⟩; have n0_ := Adq (blk_below (g := g171) (o := .cells #[.int .i64 a0_0, .int .i64 a0_1] 27 (0, 0)) Zd28 hb); have n1_ := Adq (blk_below (g := g172) (o := .cells #[.int .i64 a1_0, .int .i64 a1_1] 27 (0, 0)) Zd29 hb); have n2_ := Adq (blk_below (g := g173) (o := .cells #[.int .i64 a2_0, .int .i64 a2_1] 27 (0, 0)) Zd30 hb); have n3_ := Adq (blk_below (g := g174) (o := .cells #[.int .i64 a3_0, .int .i64 a3_1] 27 (0, 0)) Zd31 hb); have n4_ := Adq (below_step Zd16 hb); clear BK171; clear BK172; clear BK173; clear BK174; clear HB; have BK171 := n0_; have BK172 := n1_; have BK173 := n2_; have BK174 := n3_; have HB := n4_; clear n0_ n1_ n2_ n3_ n4_; (try clear hb)))
     go_meet
     case rel => exact ⟨_, (true), Zd38, H', ⟨by first | omega | exact Nat.le_refl _⟩, ⟨by (with_reducible repeat (first | refine blk_drewN ?_ _ | refine blk_drew ?_ | refine blk_alloc ?_ _)); exact BK171.out⟩, ⟨by (with_reducible repeat (first | refine blk_drewN ?_ _ | refine blk_drew ?_ | refine blk_alloc ?_ _)); exact BK172.out⟩, ⟨by (with_reducible repeat (first | refine blk_drewN ?_ _ | refine blk_drew ?_ | refine blk_alloc ?_ _)); exact BK173.out⟩, ⟨by (with_reducible repeat (first | refine blk_drewN ?_ _ | refine blk_drew ?_ | refine blk_alloc ?_ _)); exact BK174.out⟩, ⟨by repeat (first | (with_reducible first | exact HB.out | apply below_alloc | apply pw_below_drewN | apply below_drew1 | refine below_set ?_ GE171.out | refine below_set ?_ GE172.out | refine below_set ?_ GE173.out | refine below_set ?_ GE174.out) | exact HB.out)⟩⟩
   ·
    replace c13 := Bool.eq_false_iff.mpr c13
    subst c13
    have H1 : (spec_AllPairsApart.j0 k true a0_0 a0_1 a1_0 a1_1 a2_0 a2_1 a3_0 a3_1) = some (r1, r2) := by rw [if_neg (show ¬ (false = true) by decide)] at H; exact H
    clear H
    have H := H1
    clear H1
    have H' := Adq H
    clear H
    have hnb43 := NB171_172.out
    have hnc43 := NB172_171.out
    have hnb44 := NB171_173.out
    have hnc44 := NB173_171.out
    have hnb45 := NB171_174.out
    have hnc45 := NB174_171.out
    have hcz46_0 : w9.cell? ⟨g171, 0, none⟩ = some (.int .i64 a0_0) := (blk_cell BK171.out 0).trans rfl
    have hcz46_1 : w9.cell? ⟨g171, 1, none⟩ = some (.int .i64 a0_1) := (blk_cell BK171.out 1).trans rfl
    have hfz46_0 := blk_frozen BK171.out 0
    have hfz46_1 := blk_frozen BK171.out 1
    go_wp2_with (first | ((with_reducible refine gate_callee (f := 10) rfl ?_); refine goesL_ (some 23) rfl rfl Try.func10 (by kernel_rfl) rfl #[.agg #[.int .i64 a0_0, .int .i64 a0_1]] rfl Zd27 ?_; (with_reducible refine (spec_ncCell.calls a0_0 a0_1 true _ A10.out).mono ?_); rintro e w47 ⟨rfl, hb⟩; refine ⟨_, rfl, ?_⟩; have n0_ := Adq (blk_below (g := g171) (o := .cells #[.int .i64 a0_0, .int .i64 a0_1] 27 (0, 0)) Zd28 hb); have n1_ := Adq (blk_below (g := g172) (o := .cells #[.int .i64 a1_0, .int .i64 a1_1] 27 (0, 0)) Zd29 hb); have n2_ := Adq (blk_below (g := g173) (o := .cells #[.int .i64 a2_0, .int .i64 a2_1] 27 (0, 0)) Zd30 hb); have n3_ := Adq (blk_below (g := g174) (o := .cells #[.int .i64 a3_0, .int .i64 a3_1] 27 (0, 0)) Zd31 hb); have n4_ := Adq (below_step Zd16 hb); clear BK171; clear BK172; clear BK173; clear BK174; clear HB; have BK171 := n0_; have BK172 := n1_; have BK173 := n2_; have BK174 := n3_; have HB := n4_; clear n0_ n1_ n2_ n3_ n4_; (try clear hb); have hnb48 := NB172_173.out; have hnc48 := NB173_172.out; have hnb49 := NB172_174.out; have hnc49 := NB174_172.out; have hcz50_0 : w47.cell? ⟨g172, 0, none⟩ = some (.int .i64 a1_0) := (blk_cell BK172.out 0).trans rfl; have hcz50_1 : w47.cell? ⟨g172, 1, none⟩ = some (.int .i64 a1_1) := (blk_cell BK172.out 1).trans rfl; have hfz50_0 := blk_frozen BK172.out 0; have hfz50_1 := blk_frozen BK172.out 1) | (go_at_call 10; (with_reducible refine (spec_ncCell.calls a1_0 a1_1 false _ A12.out).mono ?_); rintro e w51 ⟨rfl, hb⟩; have n0_ := Adq (blk_below (g := g171) (o := .cells #[.int .i64 a0_0, .int .i64 a0_1] 27 (0, 0)) Zd28 hb); have n1_ := Adq (blk_below (g := g172) (o := .cells #[.int .i64 a1_0, .int .i64 a1_1] 27 (0, 0)) Zd29 hb); have n2_ := Adq (blk_below (g := g173) (o := .cells #[.int .i64 a2_0, .int .i64 a2_1] 27 (0, 0)) Zd30 hb); have n3_ := Adq (blk_below (g := g174) (o := .cells #[.int .i64 a3_0, .int .i64 a3_1] 27 (0, 0)) Zd31 hb); have n4_ := Adq (below_step Zd16 hb); clear BK171; clear BK172; clear BK173; clear BK174; clear HB; have BK171 := n0_; have BK172 := n1_; have BK173 := n2_; have BK174 := n3_; have HB := n4_; clear n0_ n1_ n2_ n3_ n4_; (try clear hb)))
    go_meet
    case rel => exact ⟨_, (true), Zd38, H', ⟨by first | omega | exact Nat.le_refl _⟩, ⟨by (with_reducible repeat (first | refine blk_drewN ?_ _ | refine blk_drew ?_ | refine blk_alloc ?_ _)); exact BK171.out⟩, ⟨by (with_reducible repeat (first | refine blk_drewN ?_ _ | refine blk_drew ?_ | refine blk_alloc ?_ _)); exact BK172.out⟩, ⟨by (with_reducible repeat (first | refine blk_drewN ?_ _ | refine blk_drew ?_ | refine blk_alloc ?_ _)); exact BK173.out⟩, ⟨by (with_reducible repeat (first | refine blk_drewN ?_ _ | refine blk_drew ?_ | refine blk_alloc ?_ _)); exact BK174.out⟩, ⟨by repeat (first | (with_reducible first | exact HB.out | apply below_alloc | apply pw_below_drewN | apply below_drew1 | refine below_set ?_ GE171.out | refine below_set ?_ GE172.out | refine below_set ?_ GE173.out | refine below_set ?_ GE174.out) | exact HB.out)⟩⟩
  ·
   replace c11 := Bool.eq_false_iff.mpr c11
   subst c11
   have H1 : (spec_AllPairsApart.j0 k true a0_0 a0_1 a1_0 a1_1 a2_0 a2_1 a3_0 a3_1) = some (r1, r2) := by rw [if_neg (show ¬ (false = true) by decide)] at H; exact H
   clear H
   have H := H1
   clear H1
   have H' := Adq H
   clear H
   have hnb52 := NB171_172.out
   have hnc52 := NB172_171.out
   have hnb53 := NB171_173.out
   have hnc53 := NB173_171.out
   have hnb54 := NB171_174.out
   have hnc54 := NB174_171.out
   have hcz55_0 : w9.cell? ⟨g171, 0, none⟩ = some (.int .i64 a0_0) := (blk_cell BK171.out 0).trans rfl
   have hcz55_1 : w9.cell? ⟨g171, 1, none⟩ = some (.int .i64 a0_1) := (blk_cell BK171.out 1).trans rfl
   have hfz55_0 := blk_frozen BK171.out 0
   have hfz55_1 := blk_frozen BK171.out 1
   go_wp2_with (first | ((with_reducible refine gate_callee (f := 10) rfl ?_); refine goesL_ (some 23) rfl rfl Try.func10 (by kernel_rfl) rfl #[.agg #[.int .i64 a0_0, .int .i64 a0_1]] rfl Zd27 ?_; (with_reducible refine (spec_ncCell.calls a0_0 a0_1 false _ A10.out).mono ?_); rintro e w56 ⟨rfl, hb⟩; refine ⟨_, rfl, ?_⟩; have n0_ := Adq (blk_below (g := g171) (o := .cells #[.int .i64 a0_0, .int .i64 a0_1] 27 (0, 0)) Zd28 hb); have n1_ := Adq (blk_below (g := g172) (o := .cells #[.int .i64 a1_0, .int .i64 a1_1] 27 (0, 0)) Zd29 hb); have n2_ := Adq (blk_below (g := g173) (o := .cells #[.int .i64 a2_0, .int .i64 a2_1] 27 (0, 0)) Zd30 hb); have n3_ := Adq (blk_below (g := g174) (o := .cells #[.int .i64 a3_0, .int .i64 a3_1] 27 (0, 0)) Zd31 hb); have n4_ := Adq (below_step Zd16 hb); clear BK171; clear BK172; clear BK173; clear BK174; clear HB; have BK171 := n0_; have BK172 := n1_; have BK173 := n2_; have BK174 := n3_; have HB := n4_; clear n0_ n1_ n2_ n3_ n4_; (try clear hb)))
   go_meet
   case rel => exact ⟨_, (true), Zd38, H', ⟨by first | omega | exact Nat.le_refl _⟩, ⟨by (with_reducible repeat (first | refine blk_drewN ?_ _ | refine blk_drew ?_ | refine blk_alloc ?_ _)); exact BK171.out⟩, ⟨by (with_reducible repeat (first | refine blk_drewN ?_ _ | refine blk_drew ?_ | refine blk_alloc ?_ _)); exact BK172.out⟩, ⟨by (with_reducible repeat (first | refine blk_drewN ?_ _ | refine blk_drew ?_ | refine blk_alloc ?_ _)); exact BK173.out⟩, ⟨by (with_reducible repeat (first | refine blk_drewN ?_ _ | refine blk_drew ?_ | refine blk_alloc ?_ _)); exact BK174.out⟩, ⟨by repeat (first | (with_reducible first | exact HB.out | apply below_alloc | apply pw_below_drewN | apply below_drew1 | refine below_set ?_ GE171.out | refine below_set ?_ GE172.out | refine below_set ?_ GE173.out | refine below_set ?_ GE174.out) | exact HB.out)⟩⟩
 case rest =>
  clear HC5
  try clear c1
  try clear c2
  try clear p2
  try clear c3
  try clear c4
  try clear c5
  try clear c10
  try clear c11
  try clear c13
  try clear c15
  try clear c17
  try clear c18
  try clear c19
  try clear c22
  try clear c23
  try clear c26
  try clear c31
  try clear c32
  try clear c33
  try clear c36
  try clear c37
  try clear c40
  try clear c43
  try clear c44
  try clear c45
  try clear c48
  try clear c49
  try clear c52
  try clear c53
  try clear c54
  try clear hcz20_0
  try clear hcz20_1
  try clear hcz24_0
  try clear hcz24_1
  try clear hcz27_0
  try clear hcz27_1
  try clear hcz29_0
  try clear hcz29_1
  try clear hcz34_0
  try clear hcz34_1
  try clear hcz38_0
  try clear hcz38_1
  try clear hcz41_0
  try clear hcz41_1
  try clear hcz46_0
  try clear hcz46_1
  try clear hcz50_0
  try clear hcz50_1
  try clear hcz55_0
  try clear hcz55_1
  try clear hfz20_0
  try clear hfz20_1
  try clear hfz24_0
  try clear hfz24_1
  try clear hfz27_0
  try clear hfz27_1
  try clear hfz29_0
  try clear hfz29_1
  try clear hfz34_0
  try clear hfz34_1
  try clear hfz38_0
  try clear hfz38_1
  try clear hfz41_0
  try clear hfz41_1
  try clear hfz46_0
  try clear hfz46_1
  try clear hfz50_0
  try clear hfz50_1
  try clear hfz55_0
  try clear hfz55_1
  obtain ⟨kq, x39_4, rfl, HA, HJ4, BK171, BK172, BK173, BK174, HB⟩ := hcut
  cases kq with
  | zero => exact absurd HA.out (by simp [spec_AllPairsApart.j0])
  | succ kj4 =>
   have H := HA.out
   clear HA
   simp only [spec_AllPairsApart.j0] at H
   by_cases c57 : x39_4 = true
   ·
    subst c57
    have H1 : (some (([] : List (List (S37))), false)) = some (r1, r2) := by rw [if_pos rfl] at H; exact H
    clear H
    have H := H1
    clear H1
    simp only [Option.some.injEq, Prod.mk.injEq] at H
    obtain ⟨rfl, rfl⟩ := H
    go_wp2
    go_ret2
    exact ⟨_, Zrd, by first | exact Kd.S_nil _ _ _ _ _ | exact Kd.N_nil _ _ _ _ _ | exact Kd.V_nil _ _ _ _ _ | exact Kd.Q_nil _ _ _ _ _ | exact Kd.R_nil _ _ _ _ _, by repeat (first | (with_reducible first | exact HB.out | apply below_alloc | apply pw_below_drewN | apply below_drew1 | refine below_set ?_ GE171.out | refine below_set ?_ GE172.out | refine below_set ?_ GE173.out | refine below_set ?_ GE174.out) | exact HB.out)⟩
   ·
    replace c57 := Bool.eq_false_iff.mpr c57
    subst c57
    have H1 : ((spec_ncAll.f kj4 a0_0 a0_1 a2_0 a2_1).bind fun bt179 => ((spec_ncAll.f kj4 a1_0 a1_1 a3_0 a3_1).bind fun bt183 => (if bt179.2 = true then (spec_AllPairsApart.j1 kj4 bt179.1 bt183.1 (!bt183.2)) else (spec_AllPairsApart.j1 kj4 bt179.1 bt183.1 true)))) = some (r1, r2) := by rw [if_neg (show ¬ (false = true) by decide)] at H; exact H
    clear H
    have H := H1
    clear H1
    replace H := Option.bind_eq_some_iff.mp H
    obtain ⟨⟨t179, t182⟩, A580, H⟩ := H
    replace H : ((spec_ncAll.f kj4 a1_0 a1_1 a3_0 a3_1).bind fun bt183 => (if t182 = true then (spec_AllPairsApart.j1 kj4 t179 bt183.1 (!bt183.2)) else (spec_AllPairsApart.j1 kj4 t179 bt183.1 true))) = some (r1, r2) := H
    have A58 := Adq A580
    clear A580
    replace H := Option.bind_eq_some_iff.mp H
    obtain ⟨⟨t183, t186⟩, A590, H⟩ := H
    replace H : (if t182 = true then (spec_AllPairsApart.j1 kj4 t179 t183 (!t186)) else (spec_AllPairsApart.j1 kj4 t179 t183 true)) = some (r1, r2) := H
    have A59 := Adq A590
    clear A590
    have HC60 := Adq H
    clear H
    have hnb61 := NB171_172.out
    have hnc61 := NB172_171.out
    have hnb62 := NB171_173.out
    have hnc62 := NB173_171.out
    have hnb63 := NB171_174.out
    have hnc63 := NB174_171.out
    have hcz64_0 : wc.cell? ⟨g171, 0, none⟩ = some (.int .i64 a0_0) := (blk_cell BK171.out 0).trans rfl
    have hcz64_1 : wc.cell? ⟨g171, 1, none⟩ = some (.int .i64 a0_1) := (blk_cell BK171.out 1).trans rfl
    have hfz64_0 := blk_frozen BK171.out 0
    have hfz64_1 := blk_frozen BK171.out 1
    have hnb65 := NB173_172.out
    have hnc65 := NB172_173.out
    have hnb66 := NB173_174.out
    have hnc66 := NB174_173.out
    have hcz67_0 : wc.cell? ⟨g173, 0, none⟩ = some (.int .i64 a2_0) := (blk_cell BK173.out 0).trans rfl
    have hcz67_1 : wc.cell? ⟨g173, 1, none⟩ = some (.int .i64 a2_1) := (blk_cell BK173.out 1).trans rfl
    have hfz67_0 := blk_frozen BK173.out 0
    have hfz67_1 := blk_frozen BK173.out 1
    go_upto_region 5 with (first | ((with_reducible refine gate_callee (f := 11) rfl ?_); refine goesL_ (some 43) rfl rfl Try.func11 (by kernel_rfl) rfl #[.agg #[.int .i64 a0_0, .int .i64 a0_1], .agg #[.int .i64 a2_0, .int .i64 a2_1]] rfl Zd27 ?_; (with_reducible refine (spec_ncAll.calls kj4 a0_0 a0_1 a2_0 a2_1 t179 t182 _ A58.out).mono ?_); rintro e w68 ⟨v180, rfl, ho0, hb⟩; refine ⟨_, rfl, ?_⟩; have n0_ := Adq (Kd.R_lower ho0 (below_size Zd16)); have n1_ := Adq (blk_below (g := g171) (o := .cells #[.int .i64 a0_0, .int .i64 a0_1] 27 (0, 0)) Zd28 hb); have n2_ := Adq (blk_below (g := g172) (o := .cells #[.int .i64 a1_0, .int .i64 a1_1] 27 (0, 0)) Zd29 hb); have n3_ := Adq (blk_below (g := g173) (o := .cells #[.int .i64 a2_0, .int .i64 a2_1] 27 (0, 0)) Zd30 hb); have n4_ := Adq (blk_below (g := g174) (o := .cells #[.int .i64 a3_0, .int .i64 a3_1] 27 (0, 0)) Zd31 hb); have n5_ := Adq (below_step Zd16 hb); clear BK171; clear BK172; clear BK173; clear BK174; clear HB; have HO181 := n0_; have BK171 := n1_; have BK172 := n2_; have BK173 := n3_; have BK174 := n4_; have HB := n5_; clear n0_ n1_ n2_ n3_ n4_ n5_; (try clear hb); (try clear ho0); have hnb69 := NB172_174.out; have hnc69 := NB174_172.out; have hcz70_0 : w68.cell? ⟨g172, 0, none⟩ = some (.int .i64 a1_0) := (blk_cell BK172.out 0).trans rfl; have hcz70_1 : w68.cell? ⟨g172, 1, none⟩ = some (.int .i64 a1_1) := (blk_cell BK172.out 1).trans rfl; have hfz70_0 := blk_frozen BK172.out 0; have hfz70_1 := blk_frozen BK172.out 1; have hcz71_0 : w68.cell? ⟨g174, 0, none⟩ = some (.int .i64 a3_0) := (blk_cell BK174.out 0).trans rfl; have hcz71_1 : w68.cell? ⟨g174, 1, none⟩ = some (.int .i64 a3_1) := (blk_cell BK174.out 1).trans rfl; have hfz71_0 := blk_frozen BK174.out 0; have hfz71_1 := blk_frozen BK174.out 1) | ((with_reducible refine gate_callee (f := 11) rfl ?_); refine goesL_ (some 49) rfl rfl Try.func11 (by kernel_rfl) rfl #[.agg #[.int .i64 a1_0, .int .i64 a1_1], .agg #[.int .i64 a3_0, .int .i64 a3_1]] rfl Zd27 ?_; (with_reducible refine (spec_ncAll.calls kj4 a1_0 a1_1 a3_0 a3_1 t183 t186 _ A59.out).mono ?_); rintro e w72 ⟨v184, rfl, ho0, hb⟩; refine ⟨_, rfl, ?_⟩; have n0_ := Adq (Kd.R_elder' (by (with_reducible repeat (first | apply Kd.R_alloc | apply Kd.R_drewN | apply Kd.R_drew)); exact HO181.out) (Kd.R_base ho0) hb); have n1_ := Adq (Kd.R_lower (Kd.R_new' ho0 (Kd.R_lt (by (with_reducible repeat (first | apply Kd.R_alloc | apply Kd.R_drewN | apply Kd.R_drew)); exact HO181.out))) (below_size Zd16)); have n2_ := Adq (blk_below (g := g171) (o := .cells #[.int .i64 a0_0, .int .i64 a0_1] 27 (0, 0)) Zd28 hb); have n3_ := Adq (blk_below (g := g172) (o := .cells #[.int .i64 a1_0, .int .i64 a1_1] 27 (0, 0)) Zd29 hb); have n4_ := Adq (blk_below (g := g173) (o := .cells #[.int .i64 a2_0, .int .i64 a2_1] 27 (0, 0)) Zd30 hb); have n5_ := Adq (blk_below (g := g174) (o := .cells #[.int .i64 a3_0, .int .i64 a3_1] 27 (0, 0)) Zd31 hb); have n6_ := Adq (below_step Zd16 hb); clear HO181; clear BK171; clear BK172; clear BK173; clear BK174; clear HB; have HO181 := n0_; have HO185 := n1_; have BK171 := n2_; have BK172 := n3_; have BK173 := n4_; have BK174 := n5_; have HB := n6_; clear n0_ n1_ n2_ n3_ n4_ n5_ n6_; (try clear hb); (try clear ho0)))
    (try simp only [Act.put, y1d, y2d, y3d])
    go_cut [57] (fun v57 wc => ∃ (kq : Nat) (x57_59 : Bool), v57 = .bool x57_59 ∧ Aside0 (spec_AllPairsApart.j1 kq t179 t183 x57_59 = some (r1, r2)) ∧ Aside0 (kq ≤ kj4) ∧ Aside0 (Kd.R k37 37 wc w.heap.size (fun k_ => some k_ ≠ (v184 : Value).ownBlock) v180 t179) ∧ Aside0 (Kd.R k37 37 wc w.heap.size (fun k_ => some k_ ≠ (v180 : Value).ownBlock) v184 t183) ∧ Aside0 (wc.heap[g171]? = some (.cells #[.int .i64 a0_0, .int .i64 a0_1] 27 (0, 0))) ∧ Aside0 (wc.heap[g172]? = some (.cells #[.int .i64 a1_0, .int .i64 a1_1] 27 (0, 0))) ∧ Aside0 (wc.heap[g173]? = some (.cells #[.int .i64 a2_0, .int .i64 a2_1] 27 (0, 0))) ∧ Aside0 (wc.heap[g174]? = some (.cells #[.int .i64 a3_0, .int .i64 a3_1] 27 (0, 0))) ∧ Aside0 (Below w.heap.size w wc))
    case first =>
     have H := HC60.out
     clear HC60
     by_cases c73 : t182 = true
     ·
      subst c73
      have H1 : (spec_AllPairsApart.j1 kj4 t179 t183 (!t186)) = some (r1, r2) := by rw [if_pos rfl] at H; exact H
      clear H
      have H := H1
      clear H1
      have H' := Adq H
      clear H
      go_wp2
      go_meet
      case rel => exact ⟨_, (!t186), Zd38, H', ⟨by have := HJ4.out; first | omega | exact Nat.le_refl _⟩, ⟨by (with_reducible repeat (first | apply Kd.R_alloc | apply Kd.R_drewN | apply Kd.R_drew)); exact Kd.R_mono HO181.out (fun _ hk => hk.2)⟩, ⟨by (with_reducible repeat (first | apply Kd.R_alloc | apply Kd.R_drewN | apply Kd.R_drew)); exact Kd.R_mono HO185.out (fun _ hk => hk.2)⟩, ⟨by (with_reducible repeat (first | refine blk_drewN ?_ _ | refine blk_drew ?_ | refine blk_alloc ?_ _)); exact BK171.out⟩, ⟨by (with_reducible repeat (first | refine blk_drewN ?_ _ | refine blk_drew ?_ | refine blk_alloc ?_ _)); exact BK172.out⟩, ⟨by (with_reducible repeat (first | refine blk_drewN ?_ _ | refine blk_drew ?_ | refine blk_alloc ?_ _)); exact BK173.out⟩, ⟨by (with_reducible repeat (first | refine blk_drewN ?_ _ | refine blk_drew ?_ | refine blk_alloc ?_ _)); exact BK174.out⟩, ⟨by repeat (first | (with_reducible first | exact HB.out | apply below_alloc | apply pw_below_drewN | apply below_drew1 | refine below_set ?_ GE171.out | refine below_set ?_ GE172.out | refine below_set ?_ GE173.out | refine below_set ?_ GE174.out) | exact HB.out)⟩⟩
     ·
      replace c73 := Bool.eq_false_iff.mpr c73
      subst c73
      have H1 : (spec_AllPairsApart.j1 kj4 t179 t183 true) = some (r1, r2) := by rw [if_neg (show ¬ (false = true) by decide)] at H; exact H
      clear H
      have H := H1
      clear H1
      have H' := Adq H
      clear H
      go_wp2
      go_meet
      case rel => exact ⟨_, (true), Zd38, H', ⟨by have := HJ4.out; first | omega | exact Nat.le_refl _⟩, ⟨by (with_reducible repeat (first | apply Kd.R_alloc | apply Kd.R_drewN | apply Kd.R_drew)); exact Kd.R_mono HO181.out (fun _ hk => hk.2)⟩, ⟨by (with_reducible repeat (first | apply Kd.R_alloc | apply Kd.R_drewN | apply Kd.R_drew)); exact Kd.R_mono HO185.out (fun _ hk => hk.2)⟩, ⟨by (with_reducible repeat (first | refine blk_drewN ?_ _ | refine blk_drew ?_ | refine blk_alloc ?_ _)); exact BK171.out⟩, ⟨by (with_reducible repeat (first | refine blk_drewN ?_ _ | refine blk_drew ?_ | refine blk_alloc ?_ _)); exact BK172.out⟩, ⟨by (with_reducible repeat (first | refine blk_drewN ?_ _ | refine blk_drew ?_ | refine blk_alloc ?_ _)); exact BK173.out⟩, ⟨by (with_reducible repeat (first | refine blk_drewN ?_ _ | refine blk_drew ?_ | refine blk_alloc ?_ _)); exact BK174.out⟩, ⟨by repeat (first | (with_reducible first | exact HB.out | apply below_alloc | apply pw_below_drewN | apply below_drew1 | refine below_set ?_ GE171.out | refine below_set ?_ GE172.out | refine below_set ?_ GE173.out | refine below_set ?_ GE174.out) | exact HB.out)⟩⟩
    case rest =>
     clear HC60
     try clear c1
     try clear c2
     try clear p2
     try clear c3
     try clear c4
     try clear c5
     try clear c6
     try clear c7
     try clear c10
     try clear c11
     try clear c13
     try clear c15
     try clear c17
     try clear c18
     try clear c19
     try clear c22
     try clear c23
     try clear c26
     try clear c31
     try clear c32
     try clear c33
     try clear c36
     try clear c37
     try clear c40
     try clear c43
     try clear c44
     try clear c45
     try clear c48
     try clear c49
     try clear c52
     try clear c53
     try clear c54
     try clear c57
     try clear c61
     try clear c62
     try clear c63
     try clear c65
     try clear c66
     try clear c69
     try clear c73
     try clear hcz20_0
     try clear hcz20_1
     try clear hcz24_0
     try clear hcz24_1
     try clear hcz27_0
     try clear hcz27_1
     try clear hcz29_0
     try clear hcz29_1
     try clear hcz34_0
     try clear hcz34_1
     try clear hcz38_0
     try clear hcz38_1
     try clear hcz41_0
     try clear hcz41_1
     try clear hcz46_0
     try clear hcz46_1
     try clear hcz50_0
     try clear hcz50_1
     try clear hcz55_0
     try clear hcz55_1
     try clear hcz64_0
     try clear hcz64_1
     try clear hcz67_0
     try clear hcz67_1
     try clear hcz70_0
     try clear hcz70_1
     try clear hcz71_0
     try clear hcz71_1
     try clear hfz20_0
     try clear hfz20_1
     try clear hfz24_0
     try clear hfz24_1
     try clear hfz27_0
     try clear hfz27_1
     try clear hfz29_0
     try clear hfz29_1
     try clear hfz34_0
     try clear hfz34_1
     try clear hfz38_0
     try clear hfz38_1
     try clear hfz41_0
     try clear hfz41_1
     try clear hfz46_0
     try clear hfz46_1
     try clear hfz50_0
     try clear hfz50_1
     try clear hfz55_0
     try clear hfz55_1
     try clear hfz64_0
     try clear hfz64_1
     try clear hfz67_0
     try clear hfz67_1
     try clear hfz70_0
     try clear hfz70_1
     try clear hfz71_0
     try clear hfz71_1
     try clear p2
     obtain ⟨kq, x57_59, rfl, HA, HJ59, HO_10, HO_12, BK171, BK172, BK173, BK174, HB⟩ := hcut
     cases kq with
     | zero => exact absurd HA.out (by simp [spec_AllPairsApart.j1])
     | succ kj59 =>
      have H := HA.out
      clear HA
      simp only [spec_AllPairsApart.j1] at H
      by_cases c74 : x57_59 = true
      ·
       subst c74
       have H1 : (some (([] : List (List (S37))), false)) = some (r1, r2) := by rw [if_pos rfl] at H; exact H
       clear H
       have H := H1
       clear H1
       simp only [Option.some.injEq, Prod.mk.injEq] at H
       obtain ⟨rfl, rfl⟩ := H
       go_wp2
       go_ret2
       exact ⟨_, Zrd, by first | exact Kd.S_nil _ _ _ _ _ | exact Kd.N_nil _ _ _ _ _ | exact Kd.V_nil _ _ _ _ _ | exact Kd.Q_nil _ _ _ _ _ | exact Kd.R_nil _ _ _ _ _, by repeat (first | (with_reducible first | exact HB.out | apply below_alloc | apply pw_below_drewN | apply below_drew1 | refine below_set ?_ GE171.out | refine below_set ?_ GE172.out | refine below_set ?_ GE173.out | refine below_set ?_ GE174.out) | exact HB.out)⟩
      ·
       replace c74 := Bool.eq_false_iff.mpr c74
       subst c74
       have H1 : (spec_AllPairsApart.l0 kj59 t183 ([] : List (List (S37))) t179 (t179.length : Int) 0) = some (r1, r2) := by rw [if_neg (show ¬ (false = true) by decide)] at H; exact H
       clear H
       have H := H1
       clear H1
       have H' := Adq H
       clear H
       obtain ⟨Ao75, co75, eo75⟩ := Kd.R_slice HO_10.out
       subst eo75
       go_wp2
       go_loopg [14, 60] kj59 (fun kq v14 v60 w' => ∃ (x14_3 : List (List (S37))) (x60_3 : Int), v60 = .int .i64 x60_3 ∧ Aside0 (spec_AllPairsApart.l0 kq t183 x14_3 t179 (t179.length : Int) x60_3 = some (r1, r2)) ∧ Aside0 (kq ≤ kj59) ∧ Aside0 (Kd.R k37 37 w' w.heap.size (fun k_ => some k_ ≠ ((.slice Ao75 t179.length co75) : Value).ownBlock) v184 t183) ∧ Aside0 (Kd.S (Kd.slice 37 k37) 33 w' w.heap.size (fun k_ => some k_ ≠ (v184 : Value).ownBlock ∧ some k_ ≠ ((.slice Ao75 t179.length co75) : Value).ownBlock) v14 x14_3) ∧ Aside0 (Kd.R k37 37 w' w.heap.size (fun k_ => some k_ ≠ (v184 : Value).ownBlock) (.slice Ao75 t179.length co75) t179) ∧ Aside0 (w'.heap[g171]? = some (.cells #[.int .i64 a0_0, .int .i64 a0_1] 27 (0, 0))) ∧ Aside0 (w'.heap[g172]? = some (.cells #[.int .i64 a1_0, .int .i64 a1_1] 27 (0, 0))) ∧ Aside0 (w'.heap[g173]? = some (.cells #[.int .i64 a2_0, .int .i64 a2_1] 27 (0, 0))) ∧ Aside0 (w'.heap[g174]? = some (.cells #[.int .i64 a3_0, .int .i64 a3_1] 27 (0, 0))) ∧ Aside0 (Below w.heap.size w w'))
       case atStart => exact ⟨(([] : List (List (S37)))), (0), Zd38, H', ⟨Nat.le_refl _⟩, ⟨by (with_reducible repeat (first | apply Kd.R_alloc | apply Kd.R_drewN | apply Kd.R_drew)); exact HO_12.out⟩, ⟨by first | exact Kd.S_nil _ _ _ _ _ | exact Kd.N_nil _ _ _ _ _ | exact Kd.V_nil _ _ _ _ _ | exact Kd.Q_nil _ _ _ _ _ | exact Kd.R_nil _ _ _ _ _⟩, ⟨by (with_reducible repeat (first | apply Kd.R_alloc | apply Kd.R_drewN | apply Kd.R_drew)); exact HO_10.out⟩, ⟨by (with_reducible repeat (first | refine blk_drewN ?_ _ | refine blk_drew ?_ | refine blk_alloc ?_ _)); exact BK171.out⟩, ⟨by (with_reducible repeat (first | refine blk_drewN ?_ _ | refine blk_drew ?_ | refine blk_alloc ?_ _)); exact BK172.out⟩, ⟨by (with_reducible repeat (first | refine blk_drewN ?_ _ | refine blk_drew ?_ | refine blk_alloc ?_ _)); exact BK173.out⟩, ⟨by (with_reducible repeat (first | refine blk_drewN ?_ _ | refine blk_drew ?_ | refine blk_alloc ?_ _)); exact BK174.out⟩, ⟨by repeat (first | (with_reducible first | exact HB.out | apply below_alloc | apply pw_below_drewN | apply below_drew1 | refine below_set ?_ GE171.out | refine below_set ?_ GE172.out | refine below_set ?_ GE173.out | refine below_set ?_ GE174.out) | exact HB.out)⟩⟩
       case round =>
        clear H'
        try clear c1
        try clear c2
        try clear p2
        try clear c3
        try clear c4
        try clear c5
        try clear c6
        try clear c7
        try clear c10
        try clear c11
        try clear c13
        try clear c15
        try clear c17
        try clear c18
        try clear c19
        try clear c22
        try clear c23
        try clear c26
        try clear c31
        try clear c32
        try clear c33
        try clear c36
        try clear c37
        try clear c40
        try clear c43
        try clear c44
        try clear c45
        try clear c48
        try clear c49
        try clear c52
        try clear c53
        try clear c54
        try clear c57
        try clear c61
        try clear c62
        try clear c63
        try clear c65
        try clear c66
        try clear c69
        try clear c73
        try clear c74
        try clear hcz20_0
        try clear hcz20_1
        try clear hcz24_0
        try clear hcz24_1
        try clear hcz27_0
        try clear hcz27_1
        try clear hcz29_0
        try clear hcz29_1
        try clear hcz34_0
        try clear hcz34_1
        try clear hcz38_0
        try clear hcz38_1
        try clear hcz41_0
        try clear hcz41_1
        try clear hcz46_0
        try clear hcz46_1
        try clear hcz50_0
        try clear hcz50_1
        try clear hcz55_0
        try clear hcz55_1
        try clear hcz64_0
        try clear hcz64_1
        try clear hcz67_0
        try clear hcz67_1
        try clear hcz70_0
        try clear hcz70_1
        try clear hcz71_0
        try clear hcz71_1
        try clear hfz20_0
        try clear hfz20_1
        try clear hfz24_0
        try clear hfz24_1
        try clear hfz27_0
        try clear hfz27_1
        try clear hfz29_0
        try clear hfz29_1
        try clear hfz34_0
        try clear hfz34_1
        try clear hfz38_0
        try clear hfz38_1
        try clear hfz41_0
        try clear hfz41_1
        try clear hfz46_0
        try clear hfz46_1
        try clear hfz50_0
        try clear hfz50_1
        try clear hfz55_0
        try clear hfz55_1
        try clear hfz64_0
        try clear hfz64_1
        try clear hfz67_0
        try clear hfz67_1
        try clear hfz70_0
        try clear hfz70_1
        try clear hfz71_0
        try clear hfz71_1
        try clear p2
        obtain ⟨x14_3, x60_3, rfl, HA, HK3, HO_12, HO_14, HO_58, BK171, BK172, BK173, BK174, HB⟩ := hrel
        cases gk with
        | zero => exact absurd HA.out (by simp [spec_AllPairsApart.l0])
        | succ k3 =>
         have H := HA.out
         clear HA
         simp only [spec_AllPairsApart.l0] at H
         by_cases c76 : x60_3 < (t179.length : Int)
         ·
          rw [if_pos c76] at H
          have c76b0 : decide (x60_3 < (t179.length : Int)) = true := decide_eq_true c76
          clear c76
          by_cases c77 : 0 ≤ x60_3
          ·
           rw [if_pos c77] at H
           have c77b0 : decide (0 ≤ x60_3) = true := decide_eq_true c77
           clear c77
           by_cases c78 : x60_3 < (t179.length : Int)
           ·
            rw [if_pos c78] at H
            have c78b0 : decide (x60_3 < (t179.length : Int)) = true := decide_eq_true c78
            clear c78
            have H' := Adq H
            clear H
            have p187 : 0 ≤ (x60_3 : Int) := of_decide_eq_true (by first | (with_reducible assumption) | assumption)
            have q187 : x60_3 < (t179.length : Int) := of_decide_eq_true (by first | (with_reducible assumption) | assumption)
            obtain ⟨ad187, e187, hx187_0, hx187_1, hx187_2⟩ := at_T37 (Kd.R_reads' HO_58.out).2.2 x60_3 p187 q187
            cases e187
            replace p187 := eq_true p187
            replace q187 := eq_true q187
            go_wp2_with (first | ((with_reducible refine gate_dst (N := 16) rfl ?_); refine box_event ?hg (N := 16) ?hd (cs := #[.int .i64 0, .int .i64 0, .string (⟨#[]⟩ : ByteArray)]) (t := 37) ?hr ?_; (case hd => rfl); (case hg => rfl); (case hr => first | (go_simp; done) | (go_simp; rfl)); intro g188 hg w79 hbox hb; have n0_ := Adq (Kd.R_below (Kd.R_elderB Zd34 g188 (Nat.le_of_eq hg.symm)) hb); have n1_ := Adq (Kd.S_below (Kd.S_elderB Zd35 g188 (Nat.le_of_eq hg.symm)) hb); have n2_ := Adq (Kd.R_below (Kd.R_elderB Zd36 g188 (Nat.le_of_eq hg.symm)) hb); have n3_ := Adq (blk_below (g := g171) (o := .cells #[.int .i64 a0_0, .int .i64 a0_1] 27 (0, 0)) Zd28 hb); have n4_ := Adq (blk_below (g := g172) (o := .cells #[.int .i64 a1_0, .int .i64 a1_1] 27 (0, 0)) Zd29 hb); have n5_ := Adq (blk_below (g := g173) (o := .cells #[.int .i64 a2_0, .int .i64 a2_1] 27 (0, 0)) Zd30 hb); have n6_ := Adq (blk_below (g := g174) (o := .cells #[.int .i64 a3_0, .int .i64 a3_1] 27 (0, 0)) Zd31 hb); have n7_ := Adq (below_step Zd16 hb); have n8_ := Adq (hbox); have n9_ := Adq ((by rw [hg]; exact (below_size Zd16) : w.heap.size ≤ g188)); have n10_ := Adq ((by rw [hg]; exact (below_size Zd16) : w.heap.size ≤ g188)); have n11_ := Adq ((by rw [hg]; exact Nat.ne_of_lt (blk_lt (g := g171) (o := .cells #[.int .i64 a0_0, .int .i64 a0_1] 27 (0, 0)) Zd28) : g171 ≠ g188)); have n12_ := Adq ((by rw [hg]; exact Nat.ne_of_gt (blk_lt (g := g171) (o := .cells #[.int .i64 a0_0, .int .i64 a0_1] 27 (0, 0)) Zd28) : g188 ≠ g171)); have n13_ := Adq ((by rw [hg]; exact Nat.ne_of_lt (blk_lt (g := g172) (o := .cells #[.int .i64 a1_0, .int .i64 a1_1] 27 (0, 0)) Zd29) : g172 ≠ g188)); have n14_ := Adq ((by rw [hg]; exact Nat.ne_of_gt (blk_lt (g := g172) (o := .cells #[.int .i64 a1_0, .int .i64 a1_1] 27 (0, 0)) Zd29) : g188 ≠ g172)); have n15_ := Adq ((by rw [hg]; exact Nat.ne_of_lt (blk_lt (g := g173) (o := .cells #[.int .i64 a2_0, .int .i64 a2_1] 27 (0, 0)) Zd30) : g173 ≠ g188)); have n16_ := Adq ((by rw [hg]; exact Nat.ne_of_gt (blk_lt (g := g173) (o := .cells #[.int .i64 a2_0, .int .i64 a2_1] 27 (0, 0)) Zd30) : g188 ≠ g173)); have n17_ := Adq ((by rw [hg]; exact Nat.ne_of_lt (blk_lt (g := g174) (o := .cells #[.int .i64 a3_0, .int .i64 a3_1] 27 (0, 0)) Zd31) : g174 ≠ g188)); have n18_ := Adq ((by rw [hg]; exact Nat.ne_of_gt (blk_lt (g := g174) (o := .cells #[.int .i64 a3_0, .int .i64 a3_1] 27 (0, 0)) Zd31) : g188 ≠ g174)); clear HO_12; clear HO_14; clear HO_58; clear BK171; clear BK172; clear BK173; clear BK174; clear HB; have HO_12 := n0_; have HO_14 := n1_; have HO_58 := n2_; have BK171 := n3_; have BK172 := n4_; have BK173 := n5_; have BK174 := n6_; have HB := n7_; have BK188 := n8_; have GW188 := n9_; have GE188 := n10_; have NB171_188 := n11_; have NB188_171 := n12_; have NB172_188 := n13_; have NB188_172 := n14_; have NB173_188 := n15_; have NB188_173 := n16_; have NB174_188 := n17_; have NB188_174 := n18_; clear n0_ n1_ n2_ n3_ n4_ n5_ n6_ n7_ n8_ n9_ n10_ n11_ n12_ n13_ n14_ n15_ n16_ n17_ n18_; clear hb hbox hg; have hnb80 := NB188_171.out; have hnc80 := NB171_188.out; have hnb81 := NB188_172.out; have hnc81 := NB172_188.out; have hnb82 := NB188_173.out; have hnc82 := NB173_188.out; have hnb83 := NB188_174.out; have hnc83 := NB174_188.out; have hcz84_0 : w79.cell? ⟨g188, 0, none⟩ = some (.int .i64 0) := (blk_cell BK188.out 0).trans rfl; have hcz84_1 : w79.cell? ⟨g188, 1, none⟩ = some (.int .i64 0) := (blk_cell BK188.out 1).trans rfl; have hcz84_2 : w79.cell? ⟨g188, 2, none⟩ = some (.string (⟨#[]⟩ : ByteArray)) := (blk_cell BK188.out 2).trans rfl; have hfz84_0 := blk_frozen BK188.out 0; have hfz84_1 := blk_frozen BK188.out 1; have hfz84_2 := blk_frozen BK188.out 2; obtain ⟨Ao85, co85, eo85⟩ := Kd.R_slice HO_12.out; subst eo85))
            go_loopg [14, 66] k3 (fun kq v14 v66 w' => ∃ (x14_4 : List (List (S37))) (x66_4 : Int), v66 = .int .i64 x66_4 ∧ Aside0 (spec_AllPairsApart.l1 kq t183 x14_4 t179 (t179.length : Int) x60_3 t183 (t183.length : Int) x66_4 ((rd_T37 t179 x60_3).f0.f0) ((rd_T37 t179 x60_3).f0.f1) ((rd_T37 t179 x60_3).f1) = some (r1, r2)) ∧ Aside0 (kq ≤ k3) ∧ Aside0 (Kd.R k37 37 w' w.heap.size (fun k_ => some k_ ≠ ((.slice (some ad187) t179.length co75) : Value).ownBlock ∧ k_ ≠ g188) (.slice Ao85 t183.length co85) t183) ∧ Aside0 (Kd.S (Kd.slice 37 k37) 33 w' w.heap.size (fun k_ => some k_ ≠ ((.slice Ao85 t183.length co85) : Value).ownBlock ∧ some k_ ≠ ((.slice (some ad187) t179.length co75) : Value).ownBlock ∧ some k_ ≠ ((.slice Ao85 t183.length co85) : Value).ownBlock ∧ k_ ≠ g188) v14 x14_4) ∧ Aside0 (Kd.R k37 37 w' w.heap.size (fun k_ => some k_ ≠ ((.slice Ao85 t183.length co85) : Value).ownBlock ∧ some k_ ≠ ((.slice Ao85 t183.length co85) : Value).ownBlock ∧ k_ ≠ g188) (.slice (some ad187) t179.length co75) t179) ∧ Aside0 (Kd.R k37 37 w' w.heap.size (fun k_ => some k_ ≠ ((.slice (some ad187) t179.length co75) : Value).ownBlock ∧ k_ ≠ g188) (.slice Ao85 t183.length co85) t183) ∧ Aside0 (w'.heap[g171]? = some (.cells #[.int .i64 a0_0, .int .i64 a0_1] 27 (0, 0))) ∧ Aside0 (w'.heap[g172]? = some (.cells #[.int .i64 a1_0, .int .i64 a1_1] 27 (0, 0))) ∧ Aside0 (w'.heap[g173]? = some (.cells #[.int .i64 a2_0, .int .i64 a2_1] 27 (0, 0))) ∧ Aside0 (w'.heap[g174]? = some (.cells #[.int .i64 a3_0, .int .i64 a3_1] 27 (0, 0))) ∧ Aside0 (w'.heap[g188]? = some (.cells #[.int .i64 ((rd_T37 t179 x60_3).f0.f0), .int .i64 ((rd_T37 t179 x60_3).f0.f1), .string ((rd_T37 t179 x60_3).f1)] 37 (0, 0))) ∧ Aside0 (Below w.heap.size w w'))
            case atStart => exact ⟨(x14_3), (0), Zd38, H', ⟨Nat.le_refl _⟩, ⟨by (with_reducible repeat (first | apply Kd.R_alloc | apply Kd.R_drewN | apply Kd.R_drew)); exact Kd.R_mono (Kd.R_far (p := ⟨g188, 2, none⟩) (Kd.R_far (p := ⟨g188, 1, none⟩) (Kd.R_far (p := ⟨g188, 0, none⟩) (Kd.R_mono HO_12.out (fun k_ hk => (⟨hk, hk.2⟩ : _ ∧ k_ ≠ g188))) (fun _ hk => hk.2) (.int .i64 ((rd_T37 t179 x60_3).f0.f0))) (fun _ hk => hk.2) (.int .i64 ((rd_T37 t179 x60_3).f0.f1))) (fun _ hk => hk.2) (.string ((rd_T37 t179 x60_3).f1))) (fun _ hk => ⟨hk.1.1, hk.1.2⟩)⟩, ⟨by (with_reducible repeat (first | apply Kd.S_alloc | apply Kd.S_drewN | apply Kd.S_drew)); exact Kd.S_mono (Kd.S_far (p := ⟨g188, 2, none⟩) (Kd.S_far (p := ⟨g188, 1, none⟩) (Kd.S_far (p := ⟨g188, 0, none⟩) (Kd.S_mono HO_14.out (fun k_ hk => (⟨hk, hk.2⟩ : _ ∧ k_ ≠ g188))) (fun _ hk => hk.2) (.int .i64 ((rd_T37 t179 x60_3).f0.f0))) (fun _ hk => hk.2) (.int .i64 ((rd_T37 t179 x60_3).f0.f1))) (fun _ hk => hk.2) (.string ((rd_T37 t179 x60_3).f1))) (fun _ hk => ⟨hk.1.1.1, ⟨hk.1.1.2, ⟨hk.1.1.1, hk.1.2⟩⟩⟩)⟩, ⟨by (with_reducible repeat (first | apply Kd.R_alloc | apply Kd.R_drewN | apply Kd.R_drew)); exact Kd.R_mono (Kd.R_far (p := ⟨g188, 2, none⟩) (Kd.R_far (p := ⟨g188, 1, none⟩) (Kd.R_far (p := ⟨g188, 0, none⟩) (Kd.R_mono HO_58.out (fun k_ hk => (⟨hk, hk.2⟩ : _ ∧ k_ ≠ g188))) (fun _ hk => hk.2) (.int .i64 ((rd_T37 t179 x60_3).f0.f0))) (fun _ hk => hk.2) (.int .i64 ((rd_T37 t179 x60_3).f0.f1))) (fun _ hk => hk.2) (.string ((rd_T37 t179 x60_3).f1))) (fun _ hk => ⟨hk.1.1, ⟨hk.1.1, hk.1.2⟩⟩)⟩, ⟨by (with_reducible repeat (first | apply Kd.R_alloc | apply Kd.R_drewN | apply Kd.R_drew)); exact Kd.R_mono (Kd.R_far (p := ⟨g188, 2, none⟩) (Kd.R_far (p := ⟨g188, 1, none⟩) (Kd.R_far (p := ⟨g188, 0, none⟩) (Kd.R_mono HO_12.out (fun k_ hk => (⟨hk, hk.2⟩ : _ ∧ k_ ≠ g188))) (fun _ hk => hk.2) (.int .i64 ((rd_T37 t179 x60_3).f0.f0))) (fun _ hk => hk.2) (.int .i64 ((rd_T37 t179 x60_3).f0.f1))) (fun _ hk => hk.2) (.string ((rd_T37 t179 x60_3).f1))) (fun _ hk => ⟨hk.1.1, hk.1.2⟩)⟩, ⟨by (with_reducible repeat (first | refine blk_drewN ?_ _ | refine blk_drew ?_ | refine blk_alloc ?_ _)); refine blk_far ?_ NB171_188.out _; (with_reducible repeat (first | refine blk_drewN ?_ _ | refine blk_drew ?_ | refine blk_alloc ?_ _)); refine blk_far ?_ NB171_188.out _; (with_reducible repeat (first | refine blk_drewN ?_ _ | refine blk_drew ?_ | refine blk_alloc ?_ _)); refine blk_far ?_ NB171_188.out _; (with_reducible repeat (first | refine blk_drewN ?_ _ | refine blk_drew ?_ | refine blk_alloc ?_ _)); exact BK171.out⟩, ⟨by (with_reducible repeat (first | refine blk_drewN ?_ _ | refine blk_drew ?_ | refine blk_alloc ?_ _)); refine blk_far ?_ NB172_188.out _; (with_reducible repeat (first | refine blk_drewN ?_ _ | refine blk_drew ?_ | refine blk_alloc ?_ _)); refine blk_far ?_ NB172_188.out _; (with_reducible repeat (first | refine blk_drewN ?_ _ | refine blk_drew ?_ | refine blk_alloc ?_ _)); refine blk_far ?_ NB172_188.out _; (with_reducible repeat (first | refine blk_drewN ?_ _ | refine blk_drew ?_ | refine blk_alloc ?_ _)); exact BK172.out⟩, ⟨by (with_reducible repeat (first | refine blk_drewN ?_ _ | refine blk_drew ?_ | refine blk_alloc ?_ _)); refine blk_far ?_ NB173_188.out _; (with_reducible repeat (first | refine blk_drewN ?_ _ | refine blk_drew ?_ | refine blk_alloc ?_ _)); refine blk_far ?_ NB173_188.out _; (with_reducible repeat (first | refine blk_drewN ?_ _ | refine blk_drew ?_ | refine blk_alloc ?_ _)); refine blk_far ?_ NB173_188.out _; (with_reducible repeat (first | refine blk_drewN ?_ _ | refine blk_drew ?_ | refine blk_alloc ?_ _)); exact BK173.out⟩, ⟨by (with_reducible repeat (first | refine blk_drewN ?_ _ | refine blk_drew ?_ | refine blk_alloc ?_ _)); refine blk_far ?_ NB174_188.out _; (with_reducible repeat (first | refine blk_drewN ?_ _ | refine blk_drew ?_ | refine blk_alloc ?_ _)); refine blk_far ?_ NB174_188.out _; (with_reducible repeat (first | refine blk_drewN ?_ _ | refine blk_drew ?_ | refine blk_alloc ?_ _)); refine blk_far ?_ NB174_188.out _; (with_reducible repeat (first | refine blk_drewN ?_ _ | refine blk_drew ?_ | refine blk_alloc ?_ _)); exact BK174.out⟩, ⟨by (with_reducible repeat (first | refine blk_drewN ?_ _ | refine blk_drew ?_ | refine blk_alloc ?_ _)); refine blk_put (cs := #[.int .i64 ((rd_T37 t179 x60_3).f0.f0), .int .i64 ((rd_T37 t179 x60_3).f0.f1), .string (⟨#[]⟩ : ByteArray)]) ?_ 2 _ rfl; (with_reducible repeat (first | refine blk_drewN ?_ _ | refine blk_drew ?_ | refine blk_alloc ?_ _)); refine blk_put (cs := #[.int .i64 ((rd_T37 t179 x60_3).f0.f0), .int .i64 0, .string (⟨#[]⟩ : ByteArray)]) ?_ 1 _ rfl; (with_reducible repeat (first | refine blk_drewN ?_ _ | refine blk_drew ?_ | refine blk_alloc ?_ _)); refine blk_put (cs := #[.int .i64 0, .int .i64 0, .string (⟨#[]⟩ : ByteArray)]) ?_ 0 _ rfl; (with_reducible repeat (first | refine blk_drewN ?_ _ | refine blk_drew ?_ | refine blk_alloc ?_ _)); exact BK188.out⟩, ⟨by repeat (first | (with_reducible first | exact HB.out | apply below_alloc | apply pw_below_drewN | apply below_drew1 | refine below_set ?_ GE171.out | refine below_set ?_ GE172.out | refine below_set ?_ GE173.out | refine below_set ?_ GE174.out | refine below_set ?_ GE188.out) | exact HB.out)⟩⟩
            case round =>
             clear H'
             try clear c1
             try clear p1
             try clear q1
             try clear hx1
             try clear c2
             try clear p2
             try clear c3
             try clear c4
             try clear c5
             try clear c6
             try clear c7
             try clear c8
             try clear c10
             try clear c11
             try clear c13
             try clear c15
             try clear c17
             try clear c18
             try clear p18
             try clear q18
             try clear hx18
             try clear c19
             try clear c22
             try clear c23
             try clear c26
             try clear c31
             try clear c32
             try clear c33
             try clear c36
             try clear c37
             try clear c40
             try clear c43
             try clear c44
             try clear c45
             try clear c48
             try clear c49
             try clear c52
             try clear c53
             try clear c54
             try clear c57
             try clear c61
             try clear c62
             try clear c63
             try clear c65
             try clear c66
             try clear c69
             try clear c73
             try clear c74
             try clear c76
             try clear c76b0
             try clear c77
             try clear c77b0
             try clear c78
             try clear c78b0
             try clear c80
             try clear c81
             try clear c82
             try clear c83
             try clear hcz20_0
             try clear hcz20_1
             try clear hcz24_0
             try clear hcz24_1
             try clear hcz27_0
             try clear hcz27_1
             try clear hcz29_0
             try clear hcz29_1
             try clear hcz34_0
             try clear hcz34_1
             try clear hcz38_0
             try clear hcz38_1
             try clear hcz41_0
             try clear hcz41_1
             try clear hcz46_0
             try clear hcz46_1
             try clear hcz50_0
             try clear hcz50_1
             try clear hcz55_0
             try clear hcz55_1
             try clear hcz64_0
             try clear hcz64_1
             try clear hcz67_0
             try clear hcz67_1
             try clear hcz70_0
             try clear hcz70_1
             try clear hcz71_0
             try clear hcz71_1
             try clear hcz84_0
             try clear hcz84_1
             try clear hcz84_2
             try clear hfz20_0
             try clear hfz20_1
             try clear hfz24_0
             try clear hfz24_1
             try clear hfz27_0
             try clear hfz27_1
             try clear hfz29_0
             try clear hfz29_1
             try clear hfz34_0
             try clear hfz34_1
             try clear hfz38_0
             try clear hfz38_1
             try clear hfz41_0
             try clear hfz41_1
             try clear hfz46_0
             try clear hfz46_1
             try clear hfz50_0
             try clear hfz50_1
             try clear hfz55_0
             try clear hfz55_1
             try clear hfz64_0
             try clear hfz64_1
             try clear hfz67_0
             try clear hfz67_1
             try clear hfz70_0
             try clear hfz70_1
             try clear hfz71_0
             try clear hfz71_1
             try clear hfz84_0
             try clear hfz84_1
             try clear hfz84_2
             try clear hx187_0
             try clear hx187_1
             try clear hx187_2
             try clear p187
             try clear p2
             try clear q187
             obtain ⟨x14_4, x66_4, rfl, HA, HK4, HO_12, HO_14, HO_58, HO_64, BK171, BK172, BK173, BK174, BK188, HB⟩ := hrel
             cases gk with
             | zero => exact absurd HA.out (by simp [spec_AllPairsApart.l1])
             | succ k4 =>
              have H := HA.out
              clear HA
              simp only [spec_AllPairsApart.l1] at H
              by_cases c86 : x66_4 < (t183.length : Int)
              ·
               rw [if_pos c86] at H
               have c86b0 : decide (x66_4 < (t183.length : Int)) = true := decide_eq_true c86
               clear c86
               by_cases c87 : 0 ≤ x66_4
               ·
                rw [if_pos c87] at H
                have c87b0 : decide (0 ≤ x66_4) = true := decide_eq_true c87
                clear c87
                by_cases c88 : x66_4 < (t183.length : Int)
                ·
                 rw [if_pos c88] at H
                 have c88b0 : decide (x66_4 < (t183.length : Int)) = true := decide_eq_true c88
                 clear c88
                 replace H := Option.bind_eq_some_iff.mp H
                 obtain ⟨⟨t191, t192, t193⟩, A890, H⟩ := H
                 replace H : (if t193 = true then (spec_AllPairsApart.l1 k4 t183 x14_4 t179 (t179.length : Int) x60_3 t183 (t183.length : Int) (wrap64 (x66_4 + 1)) ((rd_T37 t179 x60_3).f0.f0) ((rd_T37 t179 x60_3).f0.f1) ((rd_T37 t179 x60_3).f1)) else (if x14_4.length < 5864062014805 then ((some (x14_4 ++ [(([(⟨(⟨((rd_T37 t179 x60_3).f0.f0), ((rd_T37 t179 x60_3).f0.f1)⟩ : S27), ((rd_T37 t179 x60_3).f1)⟩ : S37), (⟨(⟨(rd_T37 t183 x66_4).f0.f0, (rd_T37 t183 x66_4).f0.f1⟩ : S27), (rd_T37 t183 x66_4).f1⟩ : S37)] : List (S37)))] : List (List (S37)))).bind fun y197 => (if (y197.length : Int) > 200 then (some (([] : List (List (S37))), false)) else (spec_AllPairsApart.l1 k4 t183 y197 t179 (t179.length : Int) x60_3 t183 (t183.length : Int) (wrap64 (x66_4 + 1)) ((rd_T37 t179 x60_3).f0.f0) ((rd_T37 t179 x60_3).f0.f1) ((rd_T37 t179 x60_3).f1)))) else (none))) = some (r1, r2) := H
                 have A89 := Adq A890
                 clear A890
                 by_cases c90 : t193 = true
                 ·
                  subst c90
                  have H1 : (spec_AllPairsApart.l1 k4 t183 x14_4 t179 (t179.length : Int) x60_3 t183 (t183.length : Int) (wrap64 (x66_4 + 1)) ((rd_T37 t179 x60_3).f0.f0) ((rd_T37 t179 x60_3).f0.f1) ((rd_T37 t179 x60_3).f1)) = some (r1, r2) := by rw [if_pos rfl] at H; exact H
                  clear H
                  have H := H1
                  clear H1
                  have H' := Adq H
                  clear H
                  have p189 : 0 ≤ (x66_4 : Int) := of_decide_eq_true (by first | (with_reducible assumption) | assumption)
                  have q189 : x66_4 < (t183.length : Int) := of_decide_eq_true (by first | (with_reducible assumption) | assumption)
                  obtain ⟨ad189, e189, hx189_0, hx189_1, hx189_2⟩ := at_T37 (Kd.R_reads' HO_64.out).2.2 x66_4 p189 q189
                  cases e189
                  replace p189 := eq_true p189
                  replace q189 := eq_true q189
                  go_wp2_with (first | ((with_reducible refine gate_dst (N := 18) rfl ?_); refine box_event ?hg (N := 18) ?hd (cs := #[.int .i64 0, .int .i64 0, .string (⟨#[]⟩ : ByteArray)]) (t := 37) ?hr ?_; (case hd => rfl); (case hg => rfl); (case hr => first | (go_simp; done) | (go_simp; rfl)); intro g190 hg w91 hbox hb; have n0_ := Adq (Kd.R_below (Kd.R_elderB Zd34 g190 (Nat.le_of_eq hg.symm)) hb); have n1_ := Adq (Kd.S_below (Kd.S_elderB Zd35 g190 (Nat.le_of_eq hg.symm)) hb); have n2_ := Adq (Kd.R_below (Kd.R_elderB Zd36 g190 (Nat.le_of_eq hg.symm)) hb); have n3_ := Adq (Kd.R_below (Kd.R_elderB Zd37 g190 (Nat.le_of_eq hg.symm)) hb); have n4_ := Adq (blk_below (g := g171) (o := .cells #[.int .i64 a0_0, .int .i64 a0_1] 27 (0, 0)) Zd28 hb); have n5_ := Adq (blk_below (g := g172) (o := .cells #[.int .i64 a1_0, .int .i64 a1_1] 27 (0, 0)) Zd29 hb); have n6_ := Adq (blk_below (g := g173) (o := .cells #[.int .i64 a2_0, .int .i64 a2_1] 27 (0, 0)) Zd30 hb); have n7_ := Adq (blk_below (g := g174) (o := .cells #[.int .i64 a3_0, .int .i64 a3_1] 27 (0, 0)) Zd31 hb); have n8_ := Adq (blk_below (g := g188) (o := .cells #[.int .i64 ((rd_T37 t179 x60_3).f0.f0), .int .i64 ((rd_T37 t179 x60_3).f0.f1), .string ((rd_T37 t179 x60_3).f1)] 37 (0, 0)) Zd32 hb); have n9_ := Adq (below_step Zd15 hb); have n10_ := Adq (hbox); have n11_ := Adq ((Zd11 : w.heap.size ≤ g190)); have n12_ := Adq ((Zd11 : w.heap.size ≤ g190)); have n13_ := Adq ((Zd17 : g171 ≠ g190)); have n14_ := Adq ((Zd18 : g190 ≠ g171)); have n15_ := Adq ((Zd19 : g172 ≠ g190)); have n16_ := Adq ((Zd20 : g190 ≠ g172)); have n17_ := Adq ((Zd21 : g173 ≠ g190)); have n18_ := Adq ((Zd22 : g190 ≠ g173)); have n19_ := Adq ((Zd23 : g174 ≠ g190)); have n20_ := Adq ((Zd24 : g190 ≠ g174)); have n21_ := Adq ((Zd12 : g188 ≠ g190)); have n22_ := Adq ((Zd13 : g190 ≠ g188)); clear HO_12; clear HO_14; clear HO_58; clear HO_64; clear BK171; clear BK172; clear BK173; clear BK174; clear BK188; clear HB; have HO_12 := n0_; have HO_14 := n1_; have HO_58 := n2_; have HO_64 := n3_; have BK171 := n4_; have BK172 := n5_; have BK173 := n6_; have BK174 := n7_; have BK188 := n8_; have HB := n9_; have BK190 := n10_; have GW190 := n11_; have GE190 := n12_; have NB171_190 := n13_; have NB190_171 := n14_; have NB172_190 := n15_; have NB190_172 := n16_; have NB173_190 := n17_; have NB190_173 := n18_; have NB174_190 := n19_; have NB190_174 := n20_; have NB188_190 := n21_; have NB190_188 := n22_; clear n0_ n1_ n2_ n3_ n4_ n5_ n6_ n7_ n8_ n9_ n10_ n11_ n12_ n13_ n14_ n15_ n16_ n17_ n18_ n19_ n20_ n21_ n22_; clear hb hbox hg; have hnb92 := NB190_171.out; have hnc92 := NB171_190.out; have hnb93 := NB190_172.out; have hnc93 := NB172_190.out; have hnb94 := NB190_173.out; have hnc94 := NB173_190.out; have hnb95 := NB190_174.out; have hnc95 := NB174_190.out; have hnb96 := NB190_188.out; have hnc96 := NB188_190.out; have hcz97_0 : w91.cell? ⟨g190, 0, none⟩ = some (.int .i64 0) := (blk_cell BK190.out 0).trans rfl; have hcz97_1 : w91.cell? ⟨g190, 1, none⟩ = some (.int .i64 0) := (blk_cell BK190.out 1).trans rfl; have hcz97_2 : w91.cell? ⟨g190, 2, none⟩ = some (.string (⟨#[]⟩ : ByteArray)) := (blk_cell BK190.out 2).trans rfl; have hfz97_0 := blk_frozen BK190.out 0; have hfz97_1 := blk_frozen BK190.out 1; have hfz97_2 := blk_frozen BK190.out 2; have hnb98 := NB188_171.out; have hnc98 := NB171_188.out; have hnb99 := NB188_172.out; have hnc99 := NB172_188.out; have hnb100 := NB188_173.out; have hnc100 := NB173_188.out; have hnb101 := NB188_174.out; have hnc101 := NB174_188.out; have hcz102_0 : w91.cell? ⟨g188, 0, none⟩ = some (.int .i64 ((rd_T37 t179 x60_3).f0.f0)) := (blk_cell BK188.out 0).trans rfl; have hcz102_1 : w91.cell? ⟨g188, 1, none⟩ = some (.int .i64 ((rd_T37 t179 x60_3).f0.f1)) := (blk_cell BK188.out 1).trans rfl; have hcz102_2 : w91.cell? ⟨g188, 2, none⟩ = some (.string ((rd_T37 t179 x60_3).f1)) := (blk_cell BK188.out 2).trans rfl; have hfz102_0 := blk_frozen BK188.out 0; have hfz102_1 := blk_frozen BK188.out 1; have hfz102_2 := blk_frozen BK188.out 2) | ((with_reducible refine gate_callee (f := 12) rfl ?_); refine goesL_ (some 73) rfl rfl Try.func12 (by kernel_rfl) rfl #[.agg #[.int .i64 ((rd_T37 t179 x60_3).f0.f0), .int .i64 ((rd_T37 t179 x60_3).f0.f1), .string ((rd_T37 t179 x60_3).f1)], .agg #[.int .i64 ((rd_T37 t183 x66_4).f0.f0), .int .i64 ((rd_T37 t183 x66_4).f0.f1), .string ((rd_T37 t183 x66_4).f1)]] rfl Zd27 ?_; (with_reducible refine (spec_ncMeet.calls k4 ((rd_T37 t179 x60_3).f0.f0) ((rd_T37 t179 x60_3).f0.f1) ((rd_T37 t179 x60_3).f1) ((rd_T37 t183 x66_4).f0.f0) ((rd_T37 t183 x66_4).f0.f1) ((rd_T37 t183 x66_4).f1) t191 t192 true _ A89.out).mono ?_); rintro e w103 ⟨rfl, hb⟩; refine ⟨_, rfl, ?_⟩; have n0_ := Adq (Kd.R_below Zd7 hb); have n1_ := Adq (Kd.S_below Zd8 hb); have n2_ := Adq (Kd.R_below Zd9 hb); have n3_ := Adq (Kd.R_below Zd10 hb); have n4_ := Adq (blk_below (g := g171) (o := .cells #[.int .i64 a0_0, .int .i64 a0_1] 27 (0, 0)) Zd2 hb); have n5_ := Adq (blk_below (g := g172) (o := .cells #[.int .i64 a1_0, .int .i64 a1_1] 27 (0, 0)) Zd3 hb); have n6_ := Adq (blk_below (g := g173) (o := .cells #[.int .i64 a2_0, .int .i64 a2_1] 27 (0, 0)) Zd4 hb); have n7_ := Adq (blk_below (g := g174) (o := .cells #[.int .i64 a3_0, .int .i64 a3_1] 27 (0, 0)) Zd5 hb); have n8_ := Adq (blk_below (g := g188) (o := .cells #[.int .i64 ((rd_T37 t179 x60_3).f0.f0), .int .i64 ((rd_T37 t179 x60_3).f0.f1), .string ((rd_T37 t179 x60_3).f1)] 37 (0, 0)) Zd6 hb); have n9_ := Adq (blk_below (g := g190) (o := .cells #[.int .i64 ((rd_T37 t183 x66_4).f0.f0), .int .i64 ((rd_T37 t183 x66_4).f0.f1), .string ((rd_T37 t183 x66_4).f1)] 37 (0, 0)) Zd1 hb); have n10_ := Adq (below_step Zd14 hb); clear HO_12; clear HO_14; clear HO_58; clear HO_64; clear BK171; clear BK172; clear BK173; clear BK174; clear BK188; clear BK190; clear HB; have HO_12 := n0_; have HO_14 := n1_; have HO_58 := n2_; have HO_64 := n3_; have BK171 := n4_; have BK172 := n5_; have BK173 := n6_; have BK174 := n7_; have BK188 := n8_; have BK190 := n9_; have HB := n10_; clear n0_ n1_ n2_ n3_ n4_ n5_ n6_ n7_ n8_ n9_ n10_; (try clear hb)))
                  go_roundg k4
                  case measure => have := HJ4.out; have := HJ59.out; have := HK3.out; have := HK4.out; omega
                  case rel => exact ⟨(x14_4), (wrap64 (x66_4 + 1)), Zd38, H', ⟨by have := HJ4.out; have := HJ59.out; have := HK3.out; have := HK4.out; omega⟩, ⟨by (with_reducible repeat (first | apply Kd.R_alloc | apply Kd.R_drewN | apply Kd.R_drew)); exact Kd.R_mono HO_12.out (fun _ hk => ⟨hk.1.1, hk.1.2⟩)⟩, ⟨by (with_reducible repeat (first | apply Kd.S_alloc | apply Kd.S_drewN | apply Kd.S_drew)); exact Kd.S_mono HO_14.out (fun _ hk => ⟨hk.1.1, ⟨hk.1.2.1, ⟨hk.1.2.2.1, hk.1.2.2.2⟩⟩⟩)⟩, ⟨by (with_reducible repeat (first | apply Kd.R_alloc | apply Kd.R_drewN | apply Kd.R_drew)); exact Kd.R_mono HO_58.out (fun _ hk => ⟨hk.1.1, ⟨hk.1.2.1, hk.1.2.2⟩⟩)⟩, ⟨by (with_reducible repeat (first | apply Kd.R_alloc | apply Kd.R_drewN | apply Kd.R_drew)); exact Kd.R_mono HO_64.out (fun _ hk => ⟨hk.1.1, hk.1.2⟩)⟩, ⟨by (with_reducible repeat (first | refine blk_drewN ?_ _ | refine blk_drew ?_ | refine blk_alloc ?_ _)); exact BK171.out⟩, ⟨by (with_reducible repeat (first | refine blk_drewN ?_ _ | refine blk_drew ?_ | refine blk_alloc ?_ _)); exact BK172.out⟩, ⟨by (with_reducible repeat (first | refine blk_drewN ?_ _ | refine blk_drew ?_ | refine blk_alloc ?_ _)); exact BK173.out⟩, ⟨by (with_reducible repeat (first | refine blk_drewN ?_ _ | refine blk_drew ?_ | refine blk_alloc ?_ _)); exact BK174.out⟩, ⟨by (with_reducible repeat (first | refine blk_drewN ?_ _ | refine blk_drew ?_ | refine blk_alloc ?_ _)); exact BK188.out⟩, ⟨by repeat (first | (with_reducible first | exact HB.out | apply below_alloc | apply pw_below_drewN | apply below_drew1 | refine below_set ?_ GE171.out | refine below_set ?_ GE172.out | refine below_set ?_ GE173.out | refine below_set ?_ GE174.out | refine below_set ?_ GE188.out | refine below_set ?_ GE190.out) | exact HB.out)⟩⟩
                 ·
                  replace c90 := Bool.eq_false_iff.mpr c90
                  subst c90
                  have H1 : (if x14_4.length < 5864062014805 then ((some (x14_4 ++ [(([(⟨(⟨((rd_T37 t179 x60_3).f0.f0), ((rd_T37 t179 x60_3).f0.f1)⟩ : S27), ((rd_T37 t179 x60_3).f1)⟩ : S37), (⟨(⟨(rd_T37 t183 x66_4).f0.f0, (rd_T37 t183 x66_4).f0.f1⟩ : S27), (rd_T37 t183 x66_4).f1⟩ : S37)] : List (S37)))] : List (List (S37)))).bind fun y197 => (if (y197.length : Int) > 200 then (some (([] : List (List (S37))), false)) else (spec_AllPairsApart.l1 k4 t183 y197 t179 (t179.length : Int) x60_3 t183 (t183.length : Int) (wrap64 (x66_4 + 1)) ((rd_T37 t179 x60_3).f0.f0) ((rd_T37 t179 x60_3).f0.f1) ((rd_T37 t179 x60_3).f1)))) else (none)) = some (r1, r2) := by rw [if_neg (show ¬ (false = true) by decide)] at H; exact H
                  clear H
                  have H := H1
                  clear H1
                  obtain ⟨y194, hy194⟩ : ∃ y_ : List (S37), y_ = (([(⟨(⟨((rd_T37 t179 x60_3).f0.f0), ((rd_T37 t179 x60_3).f0.f1)⟩ : S27), ((rd_T37 t179 x60_3).f1)⟩ : S37), (⟨(⟨(rd_T37 t183 x66_4).f0.f0, (rd_T37 t183 x66_4).f0.f1⟩ : S27), (rd_T37 t183 x66_4).f1⟩ : S37)] : List (S37))) := ⟨_, rfl⟩
                  replace H : (if x14_4.length < 5864062014805 then ((some (x14_4 ++ [y194] : List (List (S37)))).bind fun y197 => (if (y197.length : Int) > 200 then (some (([] : List (List (S37))), false)) else (spec_AllPairsApart.l1 k4 t183 y197 t179 (t179.length : Int) x60_3 t183 (t183.length : Int) (wrap64 (x66_4 + 1)) ((rd_T37 t179 x60_3).f0.f0) ((rd_T37 t179 x60_3).f0.f1) ((rd_T37 t179 x60_3).f1)))) else (none)) = some (r1, r2) := by first | (rw [hy194]; with_reducible exact H) | (have H2_ := (Option.bind_some _ _).symm.trans H; rw [hy194]; with_reducible exact H2_) | (have H2_ := (Option.bind_some _ _).symm.trans H; with_reducible exact H2_) | with_reducible exact H | (rw [hy194]; exact H) | exact H
                  have Ny194 := Adq hy194
                  clear hy194
                  by_cases c104 : x14_4.length < 5864062014805
                  ·
                   rw [if_pos c104] at H
                   have LMc104 := Adq c104
                   clear c104
                   obtain ⟨y197, hy197⟩ : ∃ y_ : List (List (S37)), y_ = (x14_4 ++ [y194]) := ⟨_, rfl⟩
                   replace H : (if (y197.length : Int) > 200 then (some (([] : List (List (S37))), false)) else (spec_AllPairsApart.l1 k4 t183 y197 t179 (t179.length : Int) x60_3 t183 (t183.length : Int) (wrap64 (x66_4 + 1)) ((rd_T37 t179 x60_3).f0.f0) ((rd_T37 t179 x60_3).f0.f1) ((rd_T37 t179 x60_3).f1))) = some (r1, r2) := by first | (rw [hy197]; with_reducible exact H) | (have H2_ := (Option.bind_some _ _).symm.trans H; rw [hy197]; with_reducible exact H2_) | (have H2_ := (Option.bind_some _ _).symm.trans H; with_reducible exact H2_) | with_reducible exact H | (rw [hy197]; exact H) | exact H
                   have Ny197 := Adq hy197
                   clear hy197
                   by_cases c105 : (y197.length : Int) > 200
                   ·
                    rw [if_pos c105] at H
                    have c105b0 : decide (200 < (y197.length : Int)) = true := decide_eq_true c105
                    have c105b1 : decide (200 < y197.length) = true := decide_eq_true (by omega)
                    clear c105
                    simp only [Option.some.injEq, Prod.mk.injEq] at H
                    obtain ⟨rfl, rfl⟩ := H
                    have p189 : 0 ≤ (x66_4 : Int) := of_decide_eq_true (by first | (with_reducible assumption) | assumption)
                    have q189 : x66_4 < (t183.length : Int) := of_decide_eq_true (by first | (with_reducible assumption) | assumption)
                    obtain ⟨ad189, e189, hx189_0, hx189_1, hx189_2⟩ := at_T37 (Kd.R_reads' HO_64.out).2.2 x66_4 p189 q189
                    cases e189
                    replace p189 := eq_true p189
                    replace q189 := eq_true q189
                    go_wp2_with (first | ((with_reducible refine gate_dst (N := 18) rfl ?_); refine box_event ?hg (N := 18) ?hd (cs := #[.int .i64 0, .int .i64 0, .string (⟨#[]⟩ : ByteArray)]) (t := 37) ?hr ?_; (case hd => rfl); (case hg => rfl); (case hr => first | (go_simp; done) | (go_simp; rfl)); intro g190 hg w106 hbox hb; have n0_ := Adq (Kd.R_below (Kd.R_elderB Zd34 g190 (Nat.le_of_eq hg.symm)) hb); have n1_ := Adq (Kd.S_below (Kd.S_elderB Zd35 g190 (Nat.le_of_eq hg.symm)) hb); have n2_ := Adq (Kd.R_below (Kd.R_elderB Zd36 g190 (Nat.le_of_eq hg.symm)) hb); have n3_ := Adq (Kd.R_below (Kd.R_elderB Zd37 g190 (Nat.le_of_eq hg.symm)) hb); have n4_ := Adq (blk_below (g := g171) (o := .cells #[.int .i64 a0_0, .int .i64 a0_1] 27 (0, 0)) Zd28 hb); have n5_ := Adq (blk_below (g := g172) (o := .cells #[.int .i64 a1_0, .int .i64 a1_1] 27 (0, 0)) Zd29 hb); have n6_ := Adq (blk_below (g := g173) (o := .cells #[.int .i64 a2_0, .int .i64 a2_1] 27 (0, 0)) Zd30 hb); have n7_ := Adq (blk_below (g := g174) (o := .cells #[.int .i64 a3_0, .int .i64 a3_1] 27 (0, 0)) Zd31 hb); have n8_ := Adq (blk_below (g := g188) (o := .cells #[.int .i64 ((rd_T37 t179 x60_3).f0.f0), .int .i64 ((rd_T37 t179 x60_3).f0.f1), .string ((rd_T37 t179 x60_3).f1)] 37 (0, 0)) Zd32 hb); have n9_ := Adq (below_step Zd15 hb); have n10_ := Adq (hbox); have n11_ := Adq ((Zd11 : w.heap.size ≤ g190)); have n12_ := Adq ((Zd11 : w.heap.size ≤ g190)); have n13_ := Adq ((Zd17 : g171 ≠ g190)); have n14_ := Adq ((Zd18 : g190 ≠ g171)); have n15_ := Adq ((Zd19 : g172 ≠ g190)); have n16_ := Adq ((Zd20 : g190 ≠ g172)); have n17_ := Adq ((Zd21 : g173 ≠ g190)); have n18_ := Adq ((Zd22 : g190 ≠ g173)); have n19_ := Adq ((Zd23 : g174 ≠ g190)); have n20_ := Adq ((Zd24 : g190 ≠ g174)); have n21_ := Adq ((Zd12 : g188 ≠ g190)); have n22_ := Adq ((Zd13 : g190 ≠ g188)); clear HO_12; clear HO_14; clear HO_58; clear HO_64; clear BK171; clear BK172; clear BK173; clear BK174; clear BK188; clear HB; have HO_12 := n0_; have HO_14 := n1_; have HO_58 := n2_; have HO_64 := n3_; have BK171 := n4_; have BK172 := n5_; have BK173 := n6_; have BK174 := n7_; have BK188 := n8_; have HB := n9_; have BK190 := n10_; have GW190 := n11_; have GE190 := n12_; have NB171_190 := n13_; have NB190_171 := n14_; have NB172_190 := n15_; have NB190_172 := n16_; have NB173_190 := n17_; have NB190_173 := n18_; have NB174_190 := n19_; have NB190_174 := n20_; have NB188_190 := n21_; have NB190_188 := n22_; clear n0_ n1_ n2_ n3_ n4_ n5_ n6_ n7_ n8_ n9_ n10_ n11_ n12_ n13_ n14_ n15_ n16_ n17_ n18_ n19_ n20_ n21_ n22_; clear hb hbox hg; have hnb107 := NB190_171.out; have hnc107 := NB171_190.out; have hnb108 := NB190_172.out; have hnc108 := NB172_190.out; have hnb109 := NB190_173.out; have hnc109 := NB173_190.out; have hnb110 := NB190_174.out; have hnc110 := NB174_190.out; have hnb111 := NB190_188.out; have hnc111 := NB188_190.out; have hcz112_0 : w106.cell? ⟨g190, 0, none⟩ = some (.int .i64 0) := (blk_cell BK190.out 0).trans rfl; have hcz112_1 : w106.cell? ⟨g190, 1, none⟩ = some (.int .i64 0) := (blk_cell BK190.out 1).trans rfl; have hcz112_2 : w106.cell? ⟨g190, 2, none⟩ = some (.string (⟨#[]⟩ : ByteArray)) := (blk_cell BK190.out 2).trans rfl; have hfz112_0 := blk_frozen BK190.out 0; have hfz112_1 := blk_frozen BK190.out 1; have hfz112_2 := blk_frozen BK190.out 2; have hnb113 := NB188_171.out; have hnc113 := NB171_188.out; have hnb114 := NB188_172.out; have hnc114 := NB172_188.out; have hnb115 := NB188_173.out; have hnc115 := NB173_188.out; have hnb116 := NB188_174.out; have hnc116 := NB174_188.out; have hcz117_0 : w106.cell? ⟨g188, 0, none⟩ = some (.int .i64 ((rd_T37 t179 x60_3).f0.f0)) := (blk_cell BK188.out 0).trans rfl; have hcz117_1 : w106.cell? ⟨g188, 1, none⟩ = some (.int .i64 ((rd_T37 t179 x60_3).f0.f1)) := (blk_cell BK188.out 1).trans rfl; have hcz117_2 : w106.cell? ⟨g188, 2, none⟩ = some (.string ((rd_T37 t179 x60_3).f1)) := (blk_cell BK188.out 2).trans rfl; have hfz117_0 := blk_frozen BK188.out 0; have hfz117_1 := blk_frozen BK188.out 1; have hfz117_2 := blk_frozen BK188.out 2) | ((with_reducible refine gate_callee (f := 12) rfl ?_); refine goesL_ (some 73) rfl rfl Try.func12 (by kernel_rfl) rfl #[.agg #[.int .i64 ((rd_T37 t179 x60_3).f0.f0), .int .i64 ((rd_T37 t179 x60_3).f0.f1), .string ((rd_T37 t179 x60_3).f1)], .agg #[.int .i64 ((rd_T37 t183 x66_4).f0.f0), .int .i64 ((rd_T37 t183 x66_4).f0.f1), .string ((rd_T37 t183 x66_4).f1)]] rfl Zd27 ?_; (with_reducible refine (spec_ncMeet.calls k4 ((rd_T37 t179 x60_3).f0.f0) ((rd_T37 t179 x60_3).f0.f1) ((rd_T37 t179 x60_3).f1) ((rd_T37 t183 x66_4).f0.f0) ((rd_T37 t183 x66_4).f0.f1) ((rd_T37 t183 x66_4).f1) t191 t192 false _ A89.out).mono ?_); rintro e w118 ⟨rfl, hb⟩; refine ⟨_, rfl, ?_⟩; have n0_ := Adq (Kd.R_below Zd7 hb); have n1_ := Adq (Kd.S_below Zd8 hb); have n2_ := Adq (Kd.R_below Zd9 hb); have n3_ := Adq (Kd.R_below Zd10 hb); have n4_ := Adq (blk_below (g := g171) (o := .cells #[.int .i64 a0_0, .int .i64 a0_1] 27 (0, 0)) Zd2 hb); have n5_ := Adq (blk_below (g := g172) (o := .cells #[.int .i64 a1_0, .int .i64 a1_1] 27 (0, 0)) Zd3 hb); have n6_ := Adq (blk_below (g := g173) (o := .cells #[.int .i64 a2_0, .int .i64 a2_1] 27 (0, 0)) Zd4 hb); have n7_ := Adq (blk_below (g := g174) (o := .cells #[.int .i64 a3_0, .int .i64 a3_1] 27 (0, 0)) Zd5 hb); have n8_ := Adq (blk_below (g := g188) (o := .cells #[.int .i64 ((rd_T37 t179 x60_3).f0.f0), .int .i64 ((rd_T37 t179 x60_3).f0.f1), .string ((rd_T37 t179 x60_3).f1)] 37 (0, 0)) Zd6 hb); have n9_ := Adq (blk_below (g := g190) (o := .cells #[.int .i64 ((rd_T37 t183 x66_4).f0.f0), .int .i64 ((rd_T37 t183 x66_4).f0.f1), .string ((rd_T37 t183 x66_4).f1)] 37 (0, 0)) Zd1 hb); have n10_ := Adq (below_step Zd14 hb); clear HO_12; clear HO_14; clear HO_58; clear HO_64; clear BK171; clear BK172; clear BK173; clear BK174; clear BK188; clear BK190; clear HB; have HO_12 := n0_; have HO_14 := n1_; have HO_58 := n2_; have HO_64 := n3_; have BK171 := n4_; have BK172 := n5_; have BK173 := n6_; have BK174 := n7_; have BK188 := n8_; have BK190 := n9_; have HB := n10_; clear n0_ n1_ n2_ n3_ n4_ n5_ n6_ n7_ n8_ n9_ n10_; (try clear hb); have hcz119_0 : w118.cell? ⟨g188, 0, none⟩ = some (.int .i64 ((rd_T37 t179 x60_3).f0.f0)) := (blk_cell BK188.out 0).trans rfl; have hcz119_1 : w118.cell? ⟨g188, 1, none⟩ = some (.int .i64 ((rd_T37 t179 x60_3).f0.f1)) := (blk_cell BK188.out 1).trans rfl; have hcz119_2 : w118.cell? ⟨g188, 2, none⟩ = some (.string ((rd_T37 t179 x60_3).f1)) := (blk_cell BK188.out 2).trans rfl; have hfz119_0 := blk_frozen BK188.out 0; have hfz119_1 := blk_frozen BK188.out 1; have hfz119_2 := blk_frozen BK188.out 2; have hcz120_0 : w118.cell? ⟨g190, 0, none⟩ = some (.int .i64 ((rd_T37 t183 x66_4).f0.f0)) := (blk_cell BK190.out 0).trans rfl; have hcz120_1 : w118.cell? ⟨g190, 1, none⟩ = some (.int .i64 ((rd_T37 t183 x66_4).f0.f1)) := (blk_cell BK190.out 1).trans rfl; have hcz120_2 : w118.cell? ⟨g190, 2, none⟩ = some (.string ((rd_T37 t183 x66_4).f1)) := (blk_cell BK190.out 2).trans rfl; have hfz120_0 := blk_frozen BK190.out 0; have hfz120_1 := blk_frozen BK190.out 1; have hfz120_2 := blk_frozen BK190.out 2) | ((with_reducible refine gate_dst (N := 81) rfl ?_); refine Kd.R_lit k37 _ 37 ?hg (N := 81) ?hd (xs := ([(⟨(⟨((rd_T37 t179 x60_3).f0.f0), ((rd_T37 t179 x60_3).f0.f1)⟩ : S27), ((rd_T37 t179 x60_3).f1)⟩ : S37), (⟨(⟨(rd_T37 t183 x66_4).f0.f0, (rd_T37 t183 x66_4).f0.f1⟩ : S27), (rd_T37 t183 x66_4).f1⟩ : S37)] : List (S37))) (inner := [.int .i64 ((rd_T37 t179 x60_3).f0.f0), .int .i64 ((rd_T37 t179 x60_3).f0.f1), .string ((rd_T37 t179 x60_3).f1), .int .i64 ((rd_T37 t183 x66_4).f0.f0), .int .i64 ((rd_T37 t183 x66_4).f0.f1), .string ((rd_T37 t183 x66_4).f1)]) (ok := fun _ => True) (okp := fun _ => True) ?hr ?hp (fun _ hk => hk) trivial (Below.refl _ _) (Nat.le_refl _) (by simp) ?_; (case hd => rfl); (case hg => rfl); (case hr => first | (go_simp; done) | (go_simp; rfl)); (case hp => exact (Reps.c3 (show Kd.M k37 _ _ _ (⟨(⟨((rd_T37 t179 x60_3).f0.f0), ((rd_T37 t179 x60_3).f0.f1)⟩ : S27), ((rd_T37 t179 x60_3).f1)⟩ : S37) [.int .i64 ((rd_T37 t179 x60_3).f0.f0), .int .i64 ((rd_T37 t179 x60_3).f0.f1), .string ((rd_T37 t179 x60_3).f1)] from (k37_mkM _ _ _ (⟨(⟨((rd_T37 t179 x60_3).f0.f0), ((rd_T37 t179 x60_3).f0.f1)⟩ : S27), ((rd_T37 t179 x60_3).f1)⟩ : S37) )) (Reps.c3 (show Kd.M k37 _ _ _ (⟨(⟨(rd_T37 t183 x66_4).f0.f0, (rd_T37 t183 x66_4).f0.f1⟩ : S27), (rd_T37 t183 x66_4).f1⟩ : S37) [.int .i64 ((rd_T37 t183 x66_4).f0.f0), .int .i64 ((rd_T37 t183 x66_4).f0.f1), .string ((rd_T37 t183 x66_4).f1)] from (k37_mkM _ _ _ (⟨(⟨(rd_T37 t183 x66_4).f0.f0, (rd_T37 t183 x66_4).f0.f1⟩ : S27), (rd_T37 t183 x66_4).f1⟩ : S37) )) (Reps.none _ _)))); intro v195 w121 ho122 hb hg_ hnew_; clear hg_ hnew_; (first | rw [← Ny194.out] at ho122 | (simp only [Int.reduceToNat] at ho122; rw [← Ny194.out] at ho122)); have n0_ := Adq (Kd.R_elder' Zd34 (Kd.R_base ho122) hb); have n1_ := Adq (Kd.S_elder' Zd35 (Kd.R_base ho122) hb); have n2_ := Adq (Kd.R_elder' Zd36 (Kd.R_base ho122) hb); have n3_ := Adq (Kd.R_elder' Zd37 (Kd.R_base ho122) hb); have n4_ := Adq (Kd.R_lower (Kd.R_newB (Kd.R_newB (Kd.R_new' (Kd.R_new' (Kd.R_new' ho122 (Kd.R_lt Zd34)) (Kd.R_lt Zd36)) (Kd.R_lt Zd37)) (g := g188) (o := .cells #[.int .i64 ((rd_T37 t179 x60_3).f0.f0), .int .i64 ((rd_T37 t179 x60_3).f0.f1), .string ((rd_T37 t179 x60_3).f1)] 37 (0, 0)) Zd32) (g := g190) (o := .cells #[.int .i64 ((rd_T37 t183 x66_4).f0.f0), .int .i64 ((rd_T37 t183 x66_4).f0.f1), .string ((rd_T37 t183 x66_4).f1)] 37 (0, 0)) Zd33) (below_size Zd14)); have n5_ := Adq (blk_below (g := g171) (o := .cells #[.int .i64 a0_0, .int .i64 a0_1] 27 (0, 0)) Zd28 hb); have n6_ := Adq (blk_below (g := g172) (o := .cells #[.int .i64 a1_0, .int .i64 a1_1] 27 (0, 0)) Zd29 hb); have n7_ := Adq (blk_below (g := g173) (o := .cells #[.int .i64 a2_0, .int .i64 a2_1] 27 (0, 0)) Zd30 hb); have n8_ := Adq (blk_below (g := g174) (o := .cells #[.int .i64 a3_0, .int .i64 a3_1] 27 (0, 0)) Zd31 hb); have n9_ := Adq (blk_below (g := g188) (o := .cells #[.int .i64 ((rd_T37 t179 x60_3).f0.f0), .int .i64 ((rd_T37 t179 x60_3).f0.f1), .string ((rd_T37 t179 x60_3).f1)] 37 (0, 0)) Zd32 hb); have n10_ := Adq (blk_below (g := g190) (o := .cells #[.int .i64 ((rd_T37 t183 x66_4).f0.f0), .int .i64 ((rd_T37 t183 x66_4).f0.f1), .string ((rd_T37 t183 x66_4).f1)] 37 (0, 0)) Zd33 hb); have n11_ := Adq (below_step Zd14 hb); clear HO_12; clear HO_14; clear HO_58; clear HO_64; clear BK171; clear BK172; clear BK173; clear BK174; clear BK188; clear BK190; clear HB; have HO_12 := n0_; have HO_14 := n1_; have HO_58 := n2_; have HO_64 := n3_; have HO196 := n4_; have BK171 := n5_; have BK172 := n6_; have BK173 := n7_; have BK174 := n8_; have BK188 := n9_; have BK190 := n10_; have HB := n11_; clear n0_ n1_ n2_ n3_ n4_ n5_ n6_ n7_ n8_ n9_ n10_ n11_; clear hb ho122; obtain ⟨Ao124, co124, eo124⟩ := Kd.R_slice HO196.out; subst eo124) | ((with_reducible refine gate_builtin (b := .append) (xs := #[.tmp 78, .tmp 82]) rfl ?_); at_builtin; refine Kd.S_append (Kd.slice 37 k37) (w0 := w) w.heap.size rfl (.tmp 78) (.tmp 82) 24 33 (.slice none 0 0) 24 rfl Try.underlying24 info33 rfl (by decide) (by omega) u14 x14_4 y194 [.slice Ao124 y194.length co124] (fun k_ => some k_ ≠ (.slice (some ad189) t183.length co85 : Value).ownBlock ∧ some k_ ≠ (.slice (some ad187) t179.length co75 : Value).ownBlock ∧ some k_ ≠ (.slice (some ad189) t183.length co85 : Value).ownBlock ∧ k_ ≠ g188 ∧ k_ ≠ g190) (fun k_ => some k_ = (.slice Ao124 y194.length co124 : Value).ownBlock) rfl rfl ?aP (fun k_ hk_ => ((Kd.R_mono (ok' := fun k_ => ((fun k_ => some k_ ≠ (.slice (some ad189) t183.length co85 : Value).ownBlock ∧ some k_ ≠ (.slice (some ad187) t179.length co75 : Value).ownBlock ∧ some k_ ≠ (.slice (some ad189) t183.length co85 : Value).ownBlock ∧ k_ ≠ g188 ∧ k_ ≠ g190)) k_ ∧ some k_ ≠ (u14 : Value).ownBlock) (Kd.R_apart' (HO196.out) (Kd.S_typed HO_14.out) (by decide)) (fun k_ hk => ⟨⟨hk.1.1.1.1.1.2, ⟨hk.1.1.1.1.2, ⟨hk.1.1.1.2, ⟨hk.1.1.2, hk.1.2⟩⟩⟩⟩, hk.2⟩))).1 k_ hk_.symm) ?aF ?aO ?aB ?aS ?aL ?_; (case aP => exact Kd.M_row (Kd.R_mono (Kd.R_tight rfl (Kd.R_mono (ok' := fun k_ => ((fun k_ => some k_ ≠ (.slice (some ad189) t183.length co85 : Value).ownBlock ∧ some k_ ≠ (.slice (some ad187) t179.length co75 : Value).ownBlock ∧ some k_ ≠ (.slice (some ad189) t183.length co85 : Value).ownBlock ∧ k_ ≠ g188 ∧ k_ ≠ g190)) k_ ∧ some k_ ≠ (u14 : Value).ownBlock) (Kd.R_apart' (HO196.out) (Kd.S_typed HO_14.out) (by decide)) (fun k_ hk => ⟨⟨hk.1.1.1.1.1.2, ⟨hk.1.1.1.1.2, ⟨hk.1.1.1.2, ⟨hk.1.1.2, hk.1.2⟩⟩⟩⟩, hk.2⟩))) (fun _ h_ => h_))); (case aB => exact Zd14); (case aF => exact (fun k_ hk => ⟨Kd.fresh' (Kd.R_lt Zd34) k_ hk, Kd.fresh' (Kd.R_lt Zd36) k_ hk, Kd.fresh' (Kd.R_lt Zd37) k_ hk, Kd.freshB (g := g188) (o := .cells #[.int .i64 ((rd_T37 t179 x60_3).f0.f0), .int .i64 ((rd_T37 t179 x60_3).f0.f1), .string ((rd_T37 t179 x60_3).f1)] 37 (0, 0)) Zd32 k_ hk, Kd.freshB (g := g190) (o := .cells #[.int .i64 ((rd_T37 t183 x66_4).f0.f0), .int .i64 ((rd_T37 t183 x66_4).f0.f1), .string ((rd_T37 t183 x66_4).f1)] 37 (0, 0)) Zd33 k_ hk⟩)); (case aO => exact (by (with_reducible repeat (first | apply Kd.S_alloc | apply Kd.S_drewN | apply Kd.S_drew)); exact Kd.S_mono HO_14.out (fun k_ hk => ⟨⟨hk.1.1.1, ⟨hk.1.1.2.1, ⟨hk.1.1.2.2.1, ⟨hk.1.1.2.2.2, hk.1.2⟩⟩⟩⟩, fun e_ => hk.2 e_⟩))); (case aS => exact (below_size Zd14)); (case aL => have := LMc104.out; omega); intro v198 w123 ho hb hg hat; rw [← Ny197.out] at ho; have n0_ := Adq (Kd.R_over' Zd34 (Kd.S_typed Zd35) (by decide) hg); have n1_ := Adq (Kd.R_over' Zd36 (Kd.S_typed Zd35) (by decide) hg); have n2_ := Adq (Kd.R_over' Zd37 (Kd.S_typed Zd35) (by decide) hg); have n3_ := Adq (blk_grown (g := g171) (o := .cells #[.int .i64 a0_0, .int .i64 a0_1] 27 (0, 0)) Zd28 hg (Kd.S_ne HO_14.out BK171.out (by decide))); have n4_ := Adq (blk_grown (g := g172) (o := .cells #[.int .i64 a1_0, .int .i64 a1_1] 27 (0, 0)) Zd29 hg (Kd.S_ne HO_14.out BK172.out (by decide))); have n5_ := Adq (blk_grown (g := g173) (o := .cells #[.int .i64 a2_0, .int .i64 a2_1] 27 (0, 0)) Zd30 hg (Kd.S_ne HO_14.out BK173.out (by decide))); have n6_ := Adq (blk_grown (g := g174) (o := .cells #[.int .i64 a3_0, .int .i64 a3_1] 27 (0, 0)) Zd31 hg (Kd.S_ne HO_14.out BK174.out (by decide))); have n7_ := Adq (blk_grown (g := g188) (o := .cells #[.int .i64 ((rd_T37 t179 x60_3).f0.f0), .int .i64 ((rd_T37 t179 x60_3).f0.f1), .string ((rd_T37 t179 x60_3).f1)] 37 (0, 0)) Zd32 hg (Kd.S_ne HO_14.out BK188.out (by decide))); have n8_ := Adq (blk_grown (g := g190) (o := .cells #[.int .i64 ((rd_T37 t183 x66_4).f0.f0), .int .i64 ((rd_T37 t183 x66_4).f0.f1), .string ((rd_T37 t183 x66_4).f1)] 37 (0, 0)) Zd33 hg (Kd.S_ne HO_14.out BK190.out (by decide))); have n9_ := Adq (hb); have n10_ := Adq (ho); clear HO_12; clear HO_58; clear HO_64; clear BK171; clear BK172; clear BK173; clear BK174; clear BK188; clear BK190; clear HB; clear HO_14; clear HO196; have HO_12 := n0_; have HO_58 := n1_; have HO_64 := n2_; have BK171 := n3_; have BK172 := n4_; have BK173 := n5_; have BK174 := n6_; have BK188 := n7_; have BK190 := n8_; have HB := n9_; have HO199 := n10_; clear n0_ n1_ n2_ n3_ n4_ n5_ n6_ n7_ n8_ n9_ n10_; clear ho hb hg hat; obtain ⟨Ao125, co125, eo125⟩ := Kd.S_slice HO199.out; subst eo125))
                    go_ret2
                    exact ⟨_, Zrd, by first | exact Kd.S_nil _ _ _ _ _ | exact Kd.N_nil _ _ _ _ _ | exact Kd.V_nil _ _ _ _ _ | exact Kd.Q_nil _ _ _ _ _ | exact Kd.R_nil _ _ _ _ _, by repeat (first | (with_reducible first | exact HB.out | apply below_alloc | apply pw_below_drewN | apply below_drew1 | refine below_set ?_ GE171.out | refine below_set ?_ GE172.out | refine below_set ?_ GE173.out | refine below_set ?_ GE174.out | refine below_set ?_ GE188.out | refine below_set ?_ GE190.out) | exact HB.out)⟩
                   ·
                    rw [if_neg c105] at H
                    have c105b0 : decide (200 < (y197.length : Int)) = false := decide_eq_false c105
                    have c105b1 : decide (200 < y197.length) = false := decide_eq_false (by omega)
                    clear c105
                    have H' := Adq H
                    clear H
                    have p189 : 0 ≤ (x66_4 : Int) := of_decide_eq_true (by first | (with_reducible assumption) | assumption)
                    have q189 : x66_4 < (t183.length : Int) := of_decide_eq_true (by first | (with_reducible assumption) | assumption)
                    obtain ⟨ad189, e189, hx189_0, hx189_1, hx189_2⟩ := at_T37 (Kd.R_reads' HO_64.out).2.2 x66_4 p189 q189
                    cases e189
                    replace p189 := eq_true p189
                    replace q189 := eq_true q189
                    go_wp2_with (first | ((with_reducible refine gate_dst (N := 18) rfl ?_); refine box_event ?hg (N := 18) ?hd (cs := #[.int .i64 0, .int .i64 0, .string (⟨#[]⟩ : ByteArray)]) (t := 37) ?hr ?_; (case hd => rfl); (case hg => rfl); (case hr => first | (go_simp; done) | (go_simp; rfl)); intro g190 hg w126 hbox hb; have n0_ := Adq (Kd.R_below (Kd.R_elderB Zd34 g190 (Nat.le_of_eq hg.symm)) hb); have n1_ := Adq (Kd.S_below (Kd.S_elderB Zd35 g190 (Nat.le_of_eq hg.symm)) hb); have n2_ := Adq (Kd.R_below (Kd.R_elderB Zd36 g190 (Nat.le_of_eq hg.symm)) hb); have n3_ := Adq (Kd.R_below (Kd.R_elderB Zd37 g190 (Nat.le_of_eq hg.symm)) hb); have n4_ := Adq (blk_below (g := g171) (o := .cells #[.int .i64 a0_0, .int .i64 a0_1] 27 (0, 0)) Zd28 hb); have n5_ := Adq (blk_below (g := g172) (o := .cells #[.int .i64 a1_0, .int .i64 a1_1] 27 (0, 0)) Zd29 hb); have n6_ := Adq (blk_below (g := g173) (o := .cells #[.int .i64 a2_0, .int .i64 a2_1] 27 (0, 0)) Zd30 hb); have n7_ := Adq (blk_below (g := g174) (o := .cells #[.int .i64 a3_0, .int .i64 a3_1] 27 (0, 0)) Zd31 hb); have n8_ := Adq (blk_below (g := g188) (o := .cells #[.int .i64 ((rd_T37 t179 x60_3).f0.f0), .int .i64 ((rd_T37 t179 x60_3).f0.f1), .string ((rd_T37 t179 x60_3).f1)] 37 (0, 0)) Zd32 hb); have n9_ := Adq (below_step Zd15 hb); have n10_ := Adq (hbox); have n11_ := Adq ((Zd11 : w.heap.size ≤ g190)); have n12_ := Adq ((Zd11 : w.heap.size ≤ g190)); have n13_ := Adq ((Zd17 : g171 ≠ g190)); have n14_ := Adq ((Zd18 : g190 ≠ g171)); have n15_ := Adq ((Zd19 : g172 ≠ g190)); have n16_ := Adq ((Zd20 : g190 ≠ g172)); have n17_ := Adq ((Zd21 : g173 ≠ g190)); have n18_ := Adq ((Zd22 : g190 ≠ g173)); have n19_ := Adq ((Zd23 : g174 ≠ g190)); have n20_ := Adq ((Zd24 : g190 ≠ g174)); have n21_ := Adq ((Zd12 : g188 ≠ g190)); have n22_ := Adq ((Zd13 : g190 ≠ g188)); clear HO_12; clear HO_14; clear HO_58; clear HO_64; clear BK171; clear BK172; clear BK173; clear BK174; clear BK188; clear HB; have HO_12 := n0_; have HO_14 := n1_; have HO_58 := n2_; have HO_64 := n3_; have BK171 := n4_; have BK172 := n5_; have BK173 := n6_; have BK174 := n7_; have BK188 := n8_; have HB := n9_; have BK190 := n10_; have GW190 := n11_; have GE190 := n12_; have NB171_190 := n13_; have NB190_171 := n14_; have NB172_190 := n15_; have NB190_172 := n16_; have NB173_190 := n17_; have NB190_173 := n18_; have NB174_190 := n19_; have NB190_174 := n20_; have NB188_190 := n21_; have NB190_188 := n22_; clear n0_ n1_ n2_ n3_ n4_ n5_ n6_ n7_ n8_ n9_ n10_ n11_ n12_ n13_ n14_ n15_ n16_ n17_ n18_ n19_ n20_ n21_ n22_; clear hb hbox hg; have hnb127 := NB190_171.out; have hnc127 := NB171_190.out; have hnb128 := NB190_172.out; have hnc128 := NB172_190.out; have hnb129 := NB190_173.out; have hnc129 := NB173_190.out; have hnb130 := NB190_174.out; have hnc130 := NB174_190.out; have hnb131 := NB190_188.out; have hnc131 := NB188_190.out; have hcz132_0 : w126.cell? ⟨g190, 0, none⟩ = some (.int .i64 0) := (blk_cell BK190.out 0).trans rfl; have hcz132_1 : w126.cell? ⟨g190, 1, none⟩ = some (.int .i64 0) := (blk_cell BK190.out 1).trans rfl; have hcz132_2 : w126.cell? ⟨g190, 2, none⟩ = some (.string (⟨#[]⟩ : ByteArray)) := (blk_cell BK190.out 2).trans rfl; have hfz132_0 := blk_frozen BK190.out 0; have hfz132_1 := blk_frozen BK190.out 1; have hfz132_2 := blk_frozen BK190.out 2; have hnb133 := NB188_171.out; have hnc133 := NB171_188.out; have hnb134 := NB188_172.out; have hnc134 := NB172_188.out; have hnb135 := NB188_173.out; have hnc135 := NB173_188.out; have hnb136 := NB188_174.out; have hnc136 := NB174_188.out; have hcz137_0 : w126.cell? ⟨g188, 0, none⟩ = some (.int .i64 ((rd_T37 t179 x60_3).f0.f0)) := (blk_cell BK188.out 0).trans rfl; have hcz137_1 : w126.cell? ⟨g188, 1, none⟩ = some (.int .i64 ((rd_T37 t179 x60_3).f0.f1)) := (blk_cell BK188.out 1).trans rfl; have hcz137_2 : w126.cell? ⟨g188, 2, none⟩ = some (.string ((rd_T37 t179 x60_3).f1)) := (blk_cell BK188.out 2).trans rfl; have hfz137_0 := blk_frozen BK188.out 0; have hfz137_1 := blk_frozen BK188.out 1; have hfz137_2 := blk_frozen BK188.out 2) | ((with_reducible refine gate_callee (f := 12) rfl ?_); refine goesL_ (some 73) rfl rfl Try.func12 (by kernel_rfl) rfl #[.agg #[.int .i64 ((rd_T37 t179 x60_3).f0.f0), .int .i64 ((rd_T37 t179 x60_3).f0.f1), .string ((rd_T37 t179 x60_3).f1)], .agg #[.int .i64 ((rd_T37 t183 x66_4).f0.f0), .int .i64 ((rd_T37 t183 x66_4).f0.f1), .string ((rd_T37 t183 x66_4).f1)]] rfl Zd27 ?_; (with_reducible refine (spec_ncMeet.calls k4 ((rd_T37 t179 x60_3).f0.f0) ((rd_T37 t179 x60_3).f0.f1) ((rd_T37 t179 x60_3).f1) ((rd_T37 t183 x66_4).f0.f0) ((rd_T37 t183 x66_4).f0.f1) ((rd_T37 t183 x66_4).f1) t191 t192 false _ A89.out).mono ?_); rintro e w138 ⟨rfl, hb⟩; refine ⟨_, rfl, ?_⟩; have n0_ := Adq (Kd.R_below Zd7 hb); have n1_ := Adq (Kd.S_below Zd8 hb); have n2_ := Adq (Kd.R_below Zd9 hb); have n3_ := Adq (Kd.R_below Zd10 hb); have n4_ := Adq (blk_below (g := g171) (o := .cells #[.int .i64 a0_0, .int .i64 a0_1] 27 (0, 0)) Zd2 hb); have n5_ := Adq (blk_below (g := g172) (o := .cells #[.int .i64 a1_0, .int .i64 a1_1] 27 (0, 0)) Zd3 hb); have n6_ := Adq (blk_below (g := g173) (o := .cells #[.int .i64 a2_0, .int .i64 a2_1] 27 (0, 0)) Zd4 hb); have n7_ := Adq (blk_below (g := g174) (o := .cells #[.int .i64 a3_0, .int .i64 a3_1] 27 (0, 0)) Zd5 hb); have n8_ := Adq (blk_below (g := g188) (o := .cells #[.int .i64 ((rd_T37 t179 x60_3).f0.f0), .int .i64 ((rd_T37 t179 x60_3).f0.f1), .string ((rd_T37 t179 x60_3).f1)] 37 (0, 0)) Zd6 hb); have n9_ := Adq (blk_below (g := g190) (o := .cells #[.int .i64 ((rd_T37 t183 x66_4).f0.f0), .int .i64 ((rd_T37 t183 x66_4).f0.f1), .string ((rd_T37 t183 x66_4).f1)] 37 (0, 0)) Zd1 hb); have n10_ := Adq (below_step Zd14 hb); clear HO_12; clear HO_14; clear HO_58; clear HO_64; clear BK171; clear BK172; clear BK173; clear BK174; clear BK188; clear BK190; clear HB; have HO_12 := n0_; have HO_14 := n1_; have HO_58 := n2_; have HO_64 := n3_; have BK171 := n4_; have BK172 := n5_; have BK173 := n6_; have BK174 := n7_; have BK188 := n8_; have BK190 := n9_; have HB := n10_; clear n0_ n1_ n2_ n3_ n4_ n5_ n6_ n7_ n8_ n9_ n10_; (try clear hb); have hcz139_0 : w138.cell? ⟨g188, 0, none⟩ = some (.int .i64 ((rd_T37 t179 x60_3).f0.f0)) := (blk_cell BK188.out 0).trans rfl; have hcz139_1 : w138.cell? ⟨g188, 1, none⟩ = some (.int .i64 ((rd_T37 t179 x60_3).f0.f1)) := (blk_cell BK188.out 1).trans rfl; have hcz139_2 : w138.cell? ⟨g188, 2, none⟩ = some (.string ((rd_T37 t179 x60_3).f1)) := (blk_cell BK188.out 2).trans rfl; have hfz139_0 := blk_frozen BK188.out 0; have hfz139_1 := blk_frozen BK188.out 1; have hfz139_2 := blk_frozen BK188.out 2; have hcz140_0 : w138.cell? ⟨g190, 0, none⟩ = some (.int .i64 ((rd_T37 t183 x66_4).f0.f0)) := (blk_cell BK190.out 0).trans rfl; have hcz140_1 : w138.cell? ⟨g190, 1, none⟩ = some (.int .i64 ((rd_T37 t183 x66_4).f0.f1)) := (blk_cell BK190.out 1).trans rfl; have hcz140_2 : w138.cell? ⟨g190, 2, none⟩ = some (.string ((rd_T37 t183 x66_4).f1)) := (blk_cell BK190.out 2).trans rfl; have hfz140_0 := blk_frozen BK190.out 0; have hfz140_1 := blk_frozen BK190.out 1; have hfz140_2 := blk_frozen BK190.out 2) | ((with_reducible refine gate_dst (N := 81) rfl ?_); refine Kd.R_lit k37 _ 37 ?hg (N := 81) ?hd (xs := ([(⟨(⟨((rd_T37 t179 x60_3).f0.f0), ((rd_T37 t179 x60_3).f0.f1)⟩ : S27), ((rd_T37 t179 x60_3).f1)⟩ : S37), (⟨(⟨(rd_T37 t183 x66_4).f0.f0, (rd_T37 t183 x66_4).f0.f1⟩ : S27), (rd_T37 t183 x66_4).f1⟩ : S37)] : List (S37))) (inner := [.int .i64 ((rd_T37 t179 x60_3).f0.f0), .int .i64 ((rd_T37 t179 x60_3).f0.f1), .string ((rd_T37 t179 x60_3).f1), .int .i64 ((rd_T37 t183 x66_4).f0.f0), .int .i64 ((rd_T37 t183 x66_4).f0.f1), .string ((rd_T37 t183 x66_4).f1)]) (ok := fun _ => True) (okp := fun _ => True) ?hr ?hp (fun _ hk => hk) trivial (Below.refl _ _) (Nat.le_refl _) (by simp) ?_; (case hd => rfl); (case hg => rfl); (case hr => first | (go_simp; done) | (go_simp; rfl)); (case hp => exact (Reps.c3 (show Kd.M k37 _ _ _ (⟨(⟨((rd_T37 t179 x60_3).f0.f0), ((rd_T37 t179 x60_3).f0.f1)⟩ : S27), ((rd_T37 t179 x60_3).f1)⟩ : S37) [.int .i64 ((rd_T37 t179 x60_3).f0.f0), .int .i64 ((rd_T37 t179 x60_3).f0.f1), .string ((rd_T37 t179 x60_3).f1)] from (k37_mkM _ _ _ (⟨(⟨((rd_T37 t179 x60_3).f0.f0), ((rd_T37 t179 x60_3).f0.f1)⟩ : S27), ((rd_T37 t179 x60_3).f1)⟩ : S37) )) (Reps.c3 (show Kd.M k37 _ _ _ (⟨(⟨(rd_T37 t183 x66_4).f0.f0, (rd_T37 t183 x66_4).f0.f1⟩ : S27), (rd_T37 t183 x66_4).f1⟩ : S37) [.int .i64 ((rd_T37 t183 x66_4).f0.f0), .int .i64 ((rd_T37 t183 x66_4).f0.f1), .string ((rd_T37 t183 x66_4).f1)] from (k37_mkM _ _ _ (⟨(⟨(rd_T37 t183 x66_4).f0.f0, (rd_T37 t183 x66_4).f0.f1⟩ : S27), (rd_T37 t183 x66_4).f1⟩ : S37) )) (Reps.none _ _)))); intro v195 w141 ho142 hb hg_ hnew_; clear hg_ hnew_; (first | rw [← Ny194.out] at ho142 | (simp only [Int.reduceToNat] at ho142; rw [← Ny194.out] at ho142)); have n0_ := Adq (Kd.R_elder' Zd34 (Kd.R_base ho142) hb); have n1_ := Adq (Kd.S_elder' Zd35 (Kd.R_base ho142) hb); have n2_ := Adq (Kd.R_elder' Zd36 (Kd.R_base ho142) hb); have n3_ := Adq (Kd.R_elder' Zd37 (Kd.R_base ho142) hb); have n4_ := Adq (Kd.R_lower (Kd.R_newB (Kd.R_newB (Kd.R_new' (Kd.R_new' (Kd.R_new' ho142 (Kd.R_lt Zd34)) (Kd.R_lt Zd36)) (Kd.R_lt Zd37)) (g := g188) (o := .cells #[.int .i64 ((rd_T37 t179 x60_3).f0.f0), .int .i64 ((rd_T37 t179 x60_3).f0.f1), .string ((rd_T37 t179 x60_3).f1)] 37 (0, 0)) Zd32) (g := g190) (o := .cells #[.int .i64 ((rd_T37 t183 x66_4).f0.f0), .int .i64 ((rd_T37 t183 x66_4).f0.f1), .string ((rd_T37 t183 x66_4).f1)] 37 (0, 0)) Zd33) (below_size Zd14)); have n5_ := Adq (blk_below (g := g171) (o := .cells #[.int .i64 a0_0, .int .i64 a0_1] 27 (0, 0)) Zd28 hb); have n6_ := Adq (blk_below (g := g172) (o := .cells #[.int .i64 a1_0, .int .i64 a1_1] 27 (0, 0)) Zd29 hb); have n7_ := Adq (blk_below (g := g173) (o := .cells #[.int .i64 a2_0, .int .i64 a2_1] 27 (0, 0)) Zd30 hb); have n8_ := Adq (blk_below (g := g174) (o := .cells #[.int .i64 a3_0, .int .i64 a3_1] 27 (0, 0)) Zd31 hb); have n9_ := Adq (blk_below (g := g188) (o := .cells #[.int .i64 ((rd_T37 t179 x60_3).f0.f0), .int .i64 ((rd_T37 t179 x60_3).f0.f1), .string ((rd_T37 t179 x60_3).f1)] 37 (0, 0)) Zd32 hb); have n10_ := Adq (blk_below (g := g190) (o := .cells #[.int .i64 ((rd_T37 t183 x66_4).f0.f0), .int .i64 ((rd_T37 t183 x66_4).f0.f1), .string ((rd_T37 t183 x66_4).f1)] 37 (0, 0)) Zd33 hb); have n11_ := Adq (below_step Zd14 hb); clear HO_12; clear HO_14; clear HO_58; clear HO_64; clear BK171; clear BK172; clear BK173; clear BK174; clear BK188; clear BK190; clear HB; have HO_12 := n0_; have HO_14 := n1_; have HO_58 := n2_; have HO_64 := n3_; have HO196 := n4_; have BK171 := n5_; have BK172 := n6_; have BK173 := n7_; have BK174 := n8_; have BK188 := n9_; have BK190 := n10_; have HB := n11_; clear n0_ n1_ n2_ n3_ n4_ n5_ n6_ n7_ n8_ n9_ n10_ n11_; clear hb ho142; obtain ⟨Ao144, co144, eo144⟩ := Kd.R_slice HO196.out; subst eo144) | ((with_reducible refine gate_builtin (b := .append) (xs := #[.tmp 78, .tmp 82]) rfl ?_); at_builtin; refine Kd.S_append (Kd.slice 37 k37) (w0 := w) w.heap.size rfl (.tmp 78) (.tmp 82) 24 33 (.slice none 0 0) 24 rfl Try.underlying24 info33 rfl (by decide) (by omega) u14 x14_4 y194 [.slice Ao144 y194.length co144] (fun k_ => some k_ ≠ (.slice (some ad189) t183.length co85 : Value).ownBlock ∧ some k_ ≠ (.slice (some ad187) t179.length co75 : Value).ownBlock ∧ some k_ ≠ (.slice (some ad189) t183.length co85 : Value).ownBlock ∧ k_ ≠ g188 ∧ k_ ≠ g190) (fun k_ => some k_ = (.slice Ao144 y194.length co144 : Value).ownBlock) rfl rfl ?aP (fun k_ hk_ => ((Kd.R_mono (ok' := fun k_ => ((fun k_ => some k_ ≠ (.slice (some ad189) t183.length co85 : Value).ownBlock ∧ some k_ ≠ (.slice (some ad187) t179.length co75 : Value).ownBlock ∧ some k_ ≠ (.slice (some ad189) t183.length co85 : Value).ownBlock ∧ k_ ≠ g188 ∧ k_ ≠ g190)) k_ ∧ some k_ ≠ (u14 : Value).ownBlock) (Kd.R_apart' (HO196.out) (Kd.S_typed HO_14.out) (by decide)) (fun k_ hk => ⟨⟨hk.1.1.1.1.1.2, ⟨hk.1.1.1.1.2, ⟨hk.1.1.1.2, ⟨hk.1.1.2, hk.1.2⟩⟩⟩⟩, hk.2⟩))).1 k_ hk_.symm) ?aF ?aO ?aB ?aS ?aL ?_; (case aP => exact Kd.M_row (Kd.R_mono (Kd.R_tight rfl (Kd.R_mono (ok' := fun k_ => ((fun k_ => some k_ ≠ (.slice (some ad189) t183.length co85 : Value).ownBlock ∧ some k_ ≠ (.slice (some ad187) t179.length co75 : Value).ownBlock ∧ some k_ ≠ (.slice (some ad189) t183.length co85 : Value).ownBlock ∧ k_ ≠ g188 ∧ k_ ≠ g190)) k_ ∧ some k_ ≠ (u14 : Value).ownBlock) (Kd.R_apart' (HO196.out) (Kd.S_typed HO_14.out) (by decide)) (fun k_ hk => ⟨⟨hk.1.1.1.1.1.2, ⟨hk.1.1.1.1.2, ⟨hk.1.1.1.2, ⟨hk.1.1.2, hk.1.2⟩⟩⟩⟩, hk.2⟩))) (fun _ h_ => h_))); (case aB => exact Zd14); (case aF => exact (fun k_ hk => ⟨Kd.fresh' (Kd.R_lt Zd34) k_ hk, Kd.fresh' (Kd.R_lt Zd36) k_ hk, Kd.fresh' (Kd.R_lt Zd37) k_ hk, Kd.freshB (g := g188) (o := .cells #[.int .i64 ((rd_T37 t179 x60_3).f0.f0), .int .i64 ((rd_T37 t179 x60_3).f0.f1), .string ((rd_T37 t179 x60_3).f1)] 37 (0, 0)) Zd32 k_ hk, Kd.freshB (g := g190) (o := .cells #[.int .i64 ((rd_T37 t183 x66_4).f0.f0), .int .i64 ((rd_T37 t183 x66_4).f0.f1), .string ((rd_T37 t183 x66_4).f1)] 37 (0, 0)) Zd33 k_ hk⟩)); (case aO => exact (by (with_reducible repeat (first | apply Kd.S_alloc | apply Kd.S_drewN | apply Kd.S_drew)); exact Kd.S_mono HO_14.out (fun k_ hk => ⟨⟨hk.1.1.1, ⟨hk.1.1.2.1, ⟨hk.1.1.2.2.1, ⟨hk.1.1.2.2.2, hk.1.2⟩⟩⟩⟩, fun e_ => hk.2 e_⟩))); (case aS => exact (below_size Zd14)); (case aL => have := LMc104.out; omega); intro v198 w143 ho hb hg hat; rw [← Ny197.out] at ho; have n0_ := Adq (Kd.R_over' Zd34 (Kd.S_typed Zd35) (by decide) hg); have n1_ := Adq (Kd.R_over' Zd36 (Kd.S_typed Zd35) (by decide) hg); have n2_ := Adq (Kd.R_over' Zd37 (Kd.S_typed Zd35) (by decide) hg); have n3_ := Adq (blk_grown (g := g171) (o := .cells #[.int .i64 a0_0, .int .i64 a0_1] 27 (0, 0)) Zd28 hg (Kd.S_ne HO_14.out BK171.out (by decide))); have n4_ := Adq (blk_grown (g := g172) (o := .cells #[.int .i64 a1_0, .int .i64 a1_1] 27 (0, 0)) Zd29 hg (Kd.S_ne HO_14.out BK172.out (by decide))); have n5_ := Adq (blk_grown (g := g173) (o := .cells #[.int .i64 a2_0, .int .i64 a2_1] 27 (0, 0)) Zd30 hg (Kd.S_ne HO_14.out BK173.out (by decide))); have n6_ := Adq (blk_grown (g := g174) (o := .cells #[.int .i64 a3_0, .int .i64 a3_1] 27 (0, 0)) Zd31 hg (Kd.S_ne HO_14.out BK174.out (by decide))); have n7_ := Adq (blk_grown (g := g188) (o := .cells #[.int .i64 ((rd_T37 t179 x60_3).f0.f0), .int .i64 ((rd_T37 t179 x60_3).f0.f1), .string ((rd_T37 t179 x60_3).f1)] 37 (0, 0)) Zd32 hg (Kd.S_ne HO_14.out BK188.out (by decide))); have n8_ := Adq (blk_grown (g := g190) (o := .cells #[.int .i64 ((rd_T37 t183 x66_4).f0.f0), .int .i64 ((rd_T37 t183 x66_4).f0.f1), .string ((rd_T37 t183 x66_4).f1)] 37 (0, 0)) Zd33 hg (Kd.S_ne HO_14.out BK190.out (by decide))); have n9_ := Adq (hb); have n10_ := Adq (ho); clear HO_12; clear HO_58; clear HO_64; clear BK171; clear BK172; clear BK173; clear BK174; clear BK188; clear BK190; clear HB; clear HO_14; clear HO196; have HO_12 := n0_; have HO_58 := n1_; have HO_64 := n2_; have BK171 := n3_; have BK172 := n4_; have BK173 := n5_; have BK174 := n6_; have BK188 := n7_; have BK190 := n8_; have HB := n9_; have HO199 := n10_; clear n0_ n1_ n2_ n3_ n4_ n5_ n6_ n7_ n8_ n9_ n10_; clear ho hb hg hat; obtain ⟨Ao145, co145, eo145⟩ := Kd.S_slice HO199.out; subst eo145))
                    go_roundg k4
                    case measure => have := HJ4.out; have := HJ59.out; have := HK3.out; have := HK4.out; omega
                    case rel => exact ⟨(y197), (wrap64 (x66_4 + 1)), Zd38, H', ⟨by have := HJ4.out; have := HJ59.out; have := HK3.out; have := HK4.out; omega⟩, ⟨by (with_reducible repeat (first | apply Kd.R_alloc | apply Kd.R_drewN | apply Kd.R_drew)); exact Kd.R_mono HO_12.out (fun _ hk => ⟨hk.1.1.1, hk.1.1.2⟩)⟩, ⟨by (with_reducible repeat (first | apply Kd.S_alloc | apply Kd.S_drewN | apply Kd.S_drew)); exact Kd.S_mono HO199.out (fun _ hk => ⟨hk.1, ⟨hk.2.1, ⟨hk.2.2.1, hk.2.2.2.1⟩⟩⟩)⟩, ⟨by (with_reducible repeat (first | apply Kd.R_alloc | apply Kd.R_drewN | apply Kd.R_drew)); exact Kd.R_mono HO_58.out (fun _ hk => ⟨hk.1.1.1, ⟨hk.1.1.2.1, hk.1.1.2.2⟩⟩)⟩, ⟨by (with_reducible repeat (first | apply Kd.R_alloc | apply Kd.R_drewN | apply Kd.R_drew)); exact Kd.R_mono HO_64.out (fun _ hk => ⟨hk.1.1.1, hk.1.1.2⟩)⟩, ⟨by (with_reducible repeat (first | refine blk_drewN ?_ _ | refine blk_drew ?_ | refine blk_alloc ?_ _)); exact BK171.out⟩, ⟨by (with_reducible repeat (first | refine blk_drewN ?_ _ | refine blk_drew ?_ | refine blk_alloc ?_ _)); exact BK172.out⟩, ⟨by (with_reducible repeat (first | refine blk_drewN ?_ _ | refine blk_drew ?_ | refine blk_alloc ?_ _)); exact BK173.out⟩, ⟨by (with_reducible repeat (first | refine blk_drewN ?_ _ | refine blk_drew ?_ | refine blk_alloc ?_ _)); exact BK174.out⟩, ⟨by (with_reducible repeat (first | refine blk_drewN ?_ _ | refine blk_drew ?_ | refine blk_alloc ?_ _)); exact BK188.out⟩, ⟨by repeat (first | (with_reducible first | exact HB.out | apply below_alloc | apply pw_below_drewN | apply below_drew1 | refine below_set ?_ GE171.out | refine below_set ?_ GE172.out | refine below_set ?_ GE173.out | refine below_set ?_ GE174.out | refine below_set ?_ GE188.out | refine below_set ?_ GE190.out) | exact HB.out)⟩⟩
                  ·
                   rw [if_neg c104] at H
                   exact absurd H (by simp)
                ·
                 rw [if_neg c88] at H
                 exact absurd H (by simp)
               ·
                rw [if_neg c87] at H
                exact absurd H (by simp)
              ·
               rw [if_neg c86] at H
               have c86b0 : decide (x66_4 < (t183.length : Int)) = false := decide_eq_false c86
               clear c86
               have H' := Adq H
               clear H
               go_wp2
               go_roundg k4
               case measure => have := HJ4.out; have := HJ59.out; have := HK3.out; have := HK4.out; omega
               case rel => exact ⟨(x14_4), (wrap64 (x60_3 + 1)), Zd38, H', ⟨by have := HJ4.out; have := HJ59.out; have := HK3.out; have := HK4.out; omega⟩, ⟨by (with_reducible repeat (first | apply Kd.R_alloc | apply Kd.R_drewN | apply Kd.R_drew)); exact Kd.R_mono HO_12.out (fun _ hk => hk.1)⟩, ⟨by (with_reducible repeat (first | apply Kd.S_alloc | apply Kd.S_drewN | apply Kd.S_drew)); exact Kd.S_mono HO_14.out (fun _ hk => ⟨hk.1, hk.2.1⟩)⟩, ⟨by (with_reducible repeat (first | apply Kd.R_alloc | apply Kd.R_drewN | apply Kd.R_drew)); exact Kd.R_mono HO_58.out (fun _ hk => hk.1)⟩, ⟨by (with_reducible repeat (first | refine blk_drewN ?_ _ | refine blk_drew ?_ | refine blk_alloc ?_ _)); exact BK171.out⟩, ⟨by (with_reducible repeat (first | refine blk_drewN ?_ _ | refine blk_drew ?_ | refine blk_alloc ?_ _)); exact BK172.out⟩, ⟨by (with_reducible repeat (first | refine blk_drewN ?_ _ | refine blk_drew ?_ | refine blk_alloc ?_ _)); exact BK173.out⟩, ⟨by (with_reducible repeat (first | refine blk_drewN ?_ _ | refine blk_drew ?_ | refine blk_alloc ?_ _)); exact BK174.out⟩, ⟨by repeat (first | (with_reducible first | exact HB.out | apply below_alloc | apply pw_below_drewN | apply below_drew1 | refine below_set ?_ GE171.out | refine below_set ?_ GE172.out | refine below_set ?_ GE173.out | refine below_set ?_ GE174.out | refine below_set ?_ GE188.out) | exact HB.out)⟩⟩
           ·
            rw [if_neg c78] at H
            exact absurd H (by simp)
          ·
           rw [if_neg c77] at H
           exact absurd H (by simp)
         ·
          rw [if_neg c76] at H
          have c76b0 : decide (x60_3 < (t179.length : Int)) = false := decide_eq_false c76
          clear c76
          simp only [Option.some.injEq, Prod.mk.injEq] at H
          obtain ⟨rfl, rfl⟩ := H
          go_wp2
          go_ret2
          exact ⟨_, Zrd, by (with_reducible repeat (first | apply Kd.S_alloc | apply Kd.S_drewN | apply Kd.S_drew)); exact Kd.S_mono HO_14.out (fun _ hk => trivial), by repeat (first | (with_reducible first | exact HB.out | apply below_alloc | apply pw_below_drewN | apply below_drew1 | refine below_set ?_ GE171.out | refine below_set ?_ GE172.out | refine below_set ?_ GE173.out | refine below_set ?_ GE174.out) | exact HB.out)⟩

end Go.Proofs.Ythlbbngmgioamaa.OFnExactAllPairsApart
