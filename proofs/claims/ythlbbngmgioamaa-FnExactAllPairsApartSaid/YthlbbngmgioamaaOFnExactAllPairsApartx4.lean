/- The functions that 'FnExactAllPairsApart' runs, each as a function over numbers and lists, with the proof that the Go text comes to its answers. No condition. -/
import Derived.Test.YthlbbngmgioamaaOFnExactAllPairsApartx0
import Derived.Test.YthlbbngmgioamaaOFnExactAllPairsApartx1
import Derived.Test.YthlbbngmgioamaaOFnExactAllPairsApartx2
namespace Go.Proofs.Ythlbbngmgioamaa.OFnExactAllPairsApart
open Go.Proofs.Ythlbbngmgioamaa.Stub
open Go.RowKit Go.Proofs.YthlbbngmgioamaaW.PrintWords Go.Proofs.YthlbbngmgioamaaW.PrintLast Go.Proofs.YthlbbngmgioamaaW.PrintMore
attribute [local go_sem] max2_int min2_int max_two min_two max_three min_three max_four min_four   -- for this text's walks alone
set_option linter.unusedVariables false
set_option linter.unusedSimpArgs false

attribute [local go_sem high] eqA27
/-! ### spec_ncCells: function 22 -/
theorem Zrc {p : Prop} (h : p := by first | rfl | (simp [errW_none, errW_some] <;> rfl) | (simp [*, errW_none, errW_some] <;> rfl)) : p := h
theorem y1c {α : Type} (l : List α) (i : Nat) (a : α) : l.toArray.setIfInBounds i a = (l.set i a).toArray := List.setIfInBounds_toArray l i a
theorem y2c {α : Type} {x : α} {xs : List α} {b : α} : (x :: xs).set 0 b = b :: xs := List.set_cons_zero
theorem y3c {α : Type} {x : α} {xs : List α} {n : Nat} {b : α} : (x :: xs).set (n + 1) b = x :: xs.set n b := List.set_cons_succ
theorem Acq {p : Prop} (h : p) : Aside0 p := Aside0.mk h
theorem Zc1 {p : Prop} (h : p := by rw [hg]; exact (below_size (by repeat (first | (with_reducible first | exact HB.out | apply below_alloc | apply pw_below_drewN | apply below_drew1 | refine below_set ?_ GE157.out | refine below_set ?_ GE158.out | refine below_set ?_ GE168.out) | exact HB.out)))) : p := h
theorem Zc2 {p : Prop} (h : p := by (with_reducible repeat (first | refine blk_drewN ?_ _ | refine blk_drew ?_ | refine blk_alloc ?_ _)); refine blk_far ?_ NB143_148.out _; (with_reducible repeat (first | refine blk_drewN ?_ _ | refine blk_drew ?_ | refine blk_alloc ?_ _)); exact BK143.out) : p := h
theorem Zc3 {p : Prop} (h : p := by repeat (first | (with_reducible first | exact HB.out | apply below_alloc | apply pw_below_drewN | apply below_drew1 | refine below_set ?_ GE143.out | refine below_set ?_ GE148.out) | exact HB.out)) : p := h
theorem Zc4 {p : Prop} (h : p := by repeat (first | (with_reducible first | exact HB.out | apply below_alloc | apply pw_below_drewN | apply below_drew1 | refine below_set ?_ GE157.out | refine below_set ?_ GE158.out) | exact HB.out)) : p := h
theorem Zc5 {p : Prop} (h : p := by repeat (first | (with_reducible first | exact HB.out | apply below_alloc | apply pw_below_drewN | apply below_drew1 | refine below_set ?_ GE143.out) | exact HB.out)) : p := h
theorem Zc6 {p : Prop} (h : p := by (try simp only [List.map_toArray, List.map_cons, List.map_nil]); first | done | rfl | (simp only [List.length_drop, List.length_take]; rfl)) : p := h
theorem Zc7 {p : Prop} (h : p := by repeat (first | (with_reducible first | exact HB.out | apply below_alloc | apply pw_below_drewN | apply below_drew1) | exact HB.out)) : p := h
theorem Zc8 {p : Prop} (h : p := by (with_reducible repeat (first | refine blk_drewN ?_ _ | refine blk_drew ?_ | refine blk_alloc ?_ _)); exact BK143.out) : p := h
theorem Zc9 {p : Prop} (h : p := by (with_reducible repeat (first | refine blk_drewN ?_ _ | refine blk_drew ?_ | refine blk_alloc ?_ _)); exact BK157.out) : p := h
theorem Zc10 {p : Prop} (h : p := by (with_reducible repeat (first | refine blk_drewN ?_ _ | refine blk_drew ?_ | refine blk_alloc ?_ _)); exact BK158.out) : p := h
theorem Zc11 {p : Prop} (h : p := by (with_reducible repeat (first | refine blk_drewN ?_ _ | refine blk_drew ?_ | refine blk_alloc ?_ _)); exact BK168.out) : p := h
theorem Zc12 {p : Prop} (h : p := by first | rfl | (simp; done) | (simp [*]; done) | (simp only [i64_w]; done)) : p := h
theorem Zc13 {p : Prop} (h : p := by first | (with_reducible assumption) | assumption) : p := h
mutual
def spec_ncCells.j0 : Nat → Bool → Int → Int → ByteArray → Option ((List (S27)) × Bool)
  | 0, _, _, _, _ => none
  | k + 1, x16, x144000, x144001, x144002 => if x16 = true then (some (([] : List (S27)), false)) else (spec_ncCells.l0 k (([(⟨x144000, x144001⟩ : S27)] : List (S27))) 0 x144000 x144001 x144002 x144000 x144001)
def spec_ncCells.l0 : Nat → List (S27) → Int → Int → Int → ByteArray → Int → Int → Option ((List (S27)) × Bool)
  | 0, _, _, _, _, _, _, _ => none
  | k + 1, x4, x6, x144000, x144001, x144002, x149000, x149001 => if x6 < (x144002.size : Int) then (if 0 ≤ x6 then (if (bt x144002 x6) = 69 then ((spec_ncCell.f (wrap64 (x149000 + 1)) x149001).bind fun t149 => (if t149 = true then (if x4.length < 8796093022208 then (spec_ncCells.l0 k (x4 ++ [(⟨wrap64 (x149000 + 1), x149001⟩ : S27)]) (wrap64 (x6 + 1)) x144000 x144001 x144002 (wrap64 (x149000 + 1)) x149001) else (none)) else (some (([] : List (S27)), false)))) else (if (bt x144002 x6) = 78 then ((spec_ncCell.f x149000 (wrap64 (x149001 + 1))).bind fun t153 => (if t153 = true then (if x4.length < 8796093022208 then (spec_ncCells.l0 k (x4 ++ [(⟨x149000, wrap64 (x149001 + 1)⟩ : S27)]) (wrap64 (x6 + 1)) x144000 x144001 x144002 x149000 (wrap64 (x149001 + 1))) else (none)) else (some (([] : List (S27)), false)))) else (some (([] : List (S27)), false)))) else (none)) else (some (x4, true))
end
def spec_ncCells.f (k : Nat) (a0_0 : Int) (a0_1 : Int) (a0_2 : ByteArray) : Option ((List (S27)) × Bool) := (spec_ncCell.f a0_0 a0_1).bind fun t144 => (if t144 = true then (spec_ncCells.j0 k (decide ((a0_2.size : Int) > 24)) a0_0 a0_1 a0_2) else (spec_ncCells.j0 k true a0_0 a0_1 a0_2))
theorem spec_ncCells.mono_l : ∀ k, (∀ y0 y1 y2 y3, LeO (spec_ncCells.j0 k y0 y1 y2 y3) (spec_ncCells.j0 (k + 1) y0 y1 y2 y3)) ∧ (∀ y0 y1 y2 y3 y4 y5 y6, LeO (spec_ncCells.l0 k y0 y1 y2 y3 y4 y5 y6) (spec_ncCells.l0 (k + 1) y0 y1 y2 y3 y4 y5 y6))
  | 0 => ⟨fun _ _ _ _ r h => by simp [spec_ncCells.j0] at h, fun _ _ _ _ _ _ _ r h => by simp [spec_ncCells.l0] at h⟩
  | k + 1 => by
    obtain ⟨ih0, ih1⟩ := spec_ncCells.mono_l k
    refine ⟨?_, ?_⟩
    · intro y0 y1 y2 y3
      unfold spec_ncCells.j0
      repeat' first
      | (with_reducible exact ih0 _ _ _ _)
      | (with_reducible exact ih1 _ _ _ _ _ _ _)
      | (with_reducible exact LeO.refl _)
      | (with_reducible exact LeO.none _)
      | (with_reducible refine LeO.ite ?_ ?_)
      | (with_reducible refine LeO.bind ?_ (fun _ => ?_))
      | exact ih0 _ _ _ _
      | exact ih1 _ _ _ _ _ _ _
      | exact LeO.none _
      | refine LeO.ite ?_ ?_
      | refine LeO.bind ?_ (fun _ => ?_)
    · intro y0 y1 y2 y3 y4 y5 y6
      unfold spec_ncCells.l0
      repeat' first
      | (with_reducible exact ih0 _ _ _ _)
      | (with_reducible exact ih1 _ _ _ _ _ _ _)
      | (with_reducible exact LeO.refl _)
      | (with_reducible exact LeO.none _)
      | (with_reducible refine LeO.ite ?_ ?_)
      | (with_reducible refine LeO.bind ?_ (fun _ => ?_))
      | exact ih0 _ _ _ _
      | exact ih1 _ _ _ _ _ _ _
      | exact LeO.none _
      | refine LeO.ite ?_ ?_
      | refine LeO.bind ?_ (fun _ => ?_)
theorem spec_ncCells.mono : ∀ a0 a1 a2 k, LeO (spec_ncCells.f k a0 a1 a2) (spec_ncCells.f (k + 1) a0 a1 a2) := by
  intro a0 a1 a2 k
  obtain ⟨ih0, ih1⟩ := spec_ncCells.mono_l k
  unfold spec_ncCells.f
  repeat' first
      | (with_reducible exact ih0 _ _ _ _)
      | (with_reducible exact ih1 _ _ _ _ _ _ _)
      | (with_reducible exact LeO.refl _)
      | (with_reducible exact LeO.none _)
      | (with_reducible refine LeO.ite ?_ ?_)
      | (with_reducible refine LeO.bind ?_ (fun _ => ?_))
      | exact ih0 _ _ _ _
      | exact ih1 _ _ _ _ _ _ _
      | exact LeO.none _
      | refine LeO.ite ?_ ?_
      | refine LeO.bind ?_ (fun _ => ?_)
set_option maxHeartbeats 8000000 in
set_option maxRecDepth 100000 in
theorem spec_ncCells.calls (k : Nat) (a0_0 : Int) (a0_1 : Int) (a0_2 : ByteArray) (r1 : List (S27)) (r2 : Bool) (w : World) (h : spec_ncCells.f k a0_0 a0_1 a0_2 = some (r1, r2)) :
    Calls Try.prog 22 #[.agg #[.int .i64 a0_0, .int .i64 a0_1, .string a0_2]] w fun e w' => ∃ v0_ : Value, e = .returned (.tuple #[v0_, .bool r2]) ∧ Kd.R k27 27 w' w.heap.size (fun _ => True) v0_ r1 ∧ Below w.heap.size w w' := by
 have hu37 := Try.underlying37
 have hu27 := Try.underlying27
 have HB := Acq (Below.refl w.heap.size w)
 have H : ((spec_ncCell.f a0_0 a0_1).bind fun t144 => (if t144 = true then (spec_ncCells.j0 k (decide ((a0_2.size : Int) > 24)) a0_0 a0_1 a0_2) else (spec_ncCells.j0 k true a0_0 a0_1 a0_2))) = some (r1, r2) := h
 clear h
 have HC2 := Acq H
 clear H
 go_enter Try.func22, Try.ntmps22
 go_upto_region 1 with (first | ((with_reducible refine gate_dst (N := 1) rfl ?_); (try (refine gate_guard (by rfl) ?_; dsimp only)); refine box_event ?hg (N := 1) ?hd (cs := #[.int .i64 a0_0, .int .i64 a0_1, .string a0_2]) (t := 37) ?hr ?_; (case hd => rfl); (case hg => rfl); (case hr => first | (go_simp; done) | (go_simp; rfl)); intro g143 hg w3 hbox hb; have n0_ := Acq (below_step Zc7 hb); have n1_ := Acq (hbox); have n2_ := Acq ((by rw [hg]; exact (below_size Zc7) : w.heap.size ≤ g143)); have n3_ := Acq ((by rw [hg]; exact (below_size Zc7) : w.heap.size ≤ g143)); clear HB; have HB := n0_; have BK143 := n1_; have GW143 := n2_; have GE143 := n3_; clear n0_ n1_ n2_ n3_; clear hb hbox hg))
 (try simp only [Act.put, y1c, y2c, y3c])
 go_cut [16] (fun v16 wc => ∃ (kq : Nat) (x16_1 : Bool), v16 = .bool x16_1 ∧ Aside0 (spec_ncCells.j0 kq x16_1 a0_0 a0_1 a0_2 = some (r1, r2)) ∧ Aside0 (kq ≤ k) ∧ Aside0 (wc.heap[g143]? = some (.cells #[.int .i64 a0_0, .int .i64 a0_1, .string a0_2] 37 (0, 0))) ∧ Aside0 (Below w.heap.size w wc))
 case first =>
  have H := HC2.out
  clear HC2
  replace H := Option.bind_eq_some_iff.mp H
  obtain ⟨t144, A40, H⟩ := H
  replace H : (if t144 = true then (spec_ncCells.j0 k (decide ((a0_2.size : Int) > 24)) a0_0 a0_1 a0_2) else (spec_ncCells.j0 k true a0_0 a0_1 a0_2)) = some (r1, r2) := H
  have A4 := Acq A40
  clear A40
  by_cases c5 : t144 = true
  ·
   subst c5
   have H1 : (spec_ncCells.j0 k (decide ((a0_2.size : Int) > 24)) a0_0 a0_1 a0_2) = some (r1, r2) := by rw [if_pos rfl] at H; exact H
   clear H
   have H := H1
   clear H1
   have H' := Acq H
   clear H
   have hcz6_0 : w3.cell? ⟨g143, 0, none⟩ = some (.int .i64 a0_0) := (blk_cell BK143.out 0).trans rfl
   have hcz6_1 : w3.cell? ⟨g143, 1, none⟩ = some (.int .i64 a0_1) := (blk_cell BK143.out 1).trans rfl
   have hcz6_2 : w3.cell? ⟨g143, 2, none⟩ = some (.string a0_2) := (blk_cell BK143.out 2).trans rfl
   have hfz6_0 := blk_frozen BK143.out 0
   have hfz6_1 := blk_frozen BK143.out 1
   have hfz6_2 := blk_frozen BK143.out 2
   go_wp2_with (first | ((with_reducible refine gate_callee (f := 10) rfl ?_); refine goesL_ (some 9) rfl rfl Try.func10 (by kernel_rfl) rfl #[.agg #[.int .i64 a0_0, .int .i64 a0_1]] rfl Zc6 ?_; (with_reducible refine (spec_ncCell.calls a0_0 a0_1 true _ A4.out).mono ?_); rintro e w7 ⟨rfl, hb⟩; refine ⟨_, rfl, ?_⟩; have n0_ := Acq (blk_below (g := g143) (o := .cells #[.int .i64 a0_0, .int .i64 a0_1, .string a0_2] 37 (0, 0)) Zc8 hb); have n1_ := Acq (below_step Zc5 hb); clear BK143; clear HB; have BK143 := n0_; have HB := n1_; clear n0_ n1_; (try clear hb); have hcz8_0 : w7.cell? ⟨g143, 0, none⟩ = some (.int .i64 a0_0) := (blk_cell BK143.out 0).trans rfl; have hcz8_1 : w7.cell? ⟨g143, 1, none⟩ = some (.int .i64 a0_1) := (blk_cell BK143.out 1).trans rfl; have hcz8_2 : w7.cell? ⟨g143, 2, none⟩ = some (.string a0_2) := (blk_cell BK143.out 2).trans rfl; have hfz8_0 := blk_frozen BK143.out 0; have hfz8_1 := blk_frozen BK143.out 1; have hfz8_2 := blk_frozen BK143.out 2))
   go_meet
   case rel => exact ⟨_, (decide ((a0_2.size : Int) > 24)), Zc12, H', ⟨by first | omega | exact Nat.le_refl _⟩, ⟨by (with_reducible repeat (first | refine blk_drewN ?_ _ | refine blk_drew ?_ | refine blk_alloc ?_ _)); exact BK143.out⟩, ⟨by repeat (first | (with_reducible first | exact HB.out | apply below_alloc | apply pw_below_drewN | apply below_drew1 | refine below_set ?_ GE143.out) | exact HB.out)⟩⟩
  ·
   replace c5 := Bool.eq_false_iff.mpr c5
   subst c5
   have H1 : (spec_ncCells.j0 k true a0_0 a0_1 a0_2) = some (r1, r2) := by rw [if_neg (show ¬ (false = true) by decide)] at H; exact H
   clear H
   have H := H1
   clear H1
   have H' := Acq H
   clear H
   have hcz9_0 : w3.cell? ⟨g143, 0, none⟩ = some (.int .i64 a0_0) := (blk_cell BK143.out 0).trans rfl
   have hcz9_1 : w3.cell? ⟨g143, 1, none⟩ = some (.int .i64 a0_1) := (blk_cell BK143.out 1).trans rfl
   have hcz9_2 : w3.cell? ⟨g143, 2, none⟩ = some (.string a0_2) := (blk_cell BK143.out 2).trans rfl
   have hfz9_0 := blk_frozen BK143.out 0
   have hfz9_1 := blk_frozen BK143.out 1
   have hfz9_2 := blk_frozen BK143.out 2
   go_wp2_with (first | ((with_reducible refine gate_callee (f := 10) rfl ?_); refine goesL_ (some 9) rfl rfl Try.func10 (by kernel_rfl) rfl #[.agg #[.int .i64 a0_0, .int .i64 a0_1]] rfl Zc6 ?_; (with_reducible refine (spec_ncCell.calls a0_0 a0_1 false _ A4.out).mono ?_); rintro e w10 ⟨rfl, hb⟩; refine ⟨_, rfl, ?_⟩; have n0_ := Acq (blk_below (g := g143) (o := .cells #[.int .i64 a0_0, .int .i64 a0_1, .string a0_2] 37 (0, 0)) Zc8 hb); have n1_ := Acq (below_step Zc5 hb); clear BK143; clear HB; have BK143 := n0_; have HB := n1_; clear n0_ n1_; (try clear hb)))
   go_meet
   case rel => exact ⟨_, (true), Zc12, H', ⟨by first | omega | exact Nat.le_refl _⟩, ⟨by (with_reducible repeat (first | refine blk_drewN ?_ _ | refine blk_drew ?_ | refine blk_alloc ?_ _)); exact BK143.out⟩, ⟨by repeat (first | (with_reducible first | exact HB.out | apply below_alloc | apply pw_below_drewN | apply below_drew1 | refine below_set ?_ GE143.out) | exact HB.out)⟩⟩
 case rest =>
  clear HC2
  try clear c1
  try clear c2
  try clear p2
  try clear c5
  try clear c10
  try clear hcz6_0
  try clear hcz6_1
  try clear hcz6_2
  try clear hcz8_0
  try clear hcz8_1
  try clear hcz8_2
  try clear hcz9_0
  try clear hcz9_1
  try clear hcz9_2
  try clear hfz6_0
  try clear hfz6_1
  try clear hfz6_2
  try clear hfz8_0
  try clear hfz8_1
  try clear hfz8_2
  try clear hfz9_0
  try clear hfz9_1
  try clear hfz9_2
  obtain ⟨kq, x16_1, rfl, HA, HJ1, BK143, HB⟩ := hcut
  cases kq with
  | zero => exact absurd HA.out (by simp [spec_ncCells.j0])
  | succ kj1 =>
   have H := HA.out
   clear HA
   simp only [spec_ncCells.j0] at H
   by_cases c11 : x16_1 = true
   ·
    subst c11
    have H1 : (some (([] : List (S27)), false)) = some (r1, r2) := by rw [if_pos rfl] at H; exact H
    clear H
    have H := H1
    clear H1
    simp only [Option.some.injEq, Prod.mk.injEq] at H
    obtain ⟨rfl, rfl⟩ := H
    go_wp2
    go_ret2
    exact ⟨_, Zrc, by first | exact Kd.R_nil _ _ _ _ _ | exact Kd.N_nil _ _ _ _ _ | exact Kd.V_nil _ _ _ _ _ | exact Kd.Q_nil _ _ _ _ _ | exact Kd.S_nil _ _ _ _ _, by repeat (first | (with_reducible first | exact HB.out | apply below_alloc | apply pw_below_drewN | apply below_drew1 | refine below_set ?_ GE143.out) | exact HB.out)⟩
   ·
    replace c11 := Bool.eq_false_iff.mpr c11
    subst c11
    have H1 : (spec_ncCells.l0 kj1 (([(⟨a0_0, a0_1⟩ : S27)] : List (S27))) 0 a0_0 a0_1 a0_2 a0_0 a0_1) = some (r1, r2) := by rw [if_neg (show ¬ (false = true) by decide)] at H; exact H
    clear H
    have H := H1
    clear H1
    obtain ⟨y145, hy145⟩ : ∃ y_ : List (S27), y_ = (([(⟨a0_0, a0_1⟩ : S27)] : List (S27))) := ⟨_, rfl⟩
    replace H : (spec_ncCells.l0 kj1 y145 0 a0_0 a0_1 a0_2 a0_0 a0_1) = some (r1, r2) := by first | (rw [hy145]; with_reducible exact H) | (have H2_ := (Option.bind_some _ _).symm.trans H; rw [hy145]; with_reducible exact H2_) | (have H2_ := (Option.bind_some _ _).symm.trans H; with_reducible exact H2_) | with_reducible exact H | (rw [hy145]; exact H) | exact H
    have Ny145 := Acq hy145
    clear hy145
    have H' := Acq H
    clear H
    have hcz12_0 : wc.cell? ⟨g143, 0, none⟩ = some (.int .i64 a0_0) := (blk_cell BK143.out 0).trans rfl
    have hcz12_1 : wc.cell? ⟨g143, 1, none⟩ = some (.int .i64 a0_1) := (blk_cell BK143.out 1).trans rfl
    have hcz12_2 : wc.cell? ⟨g143, 2, none⟩ = some (.string a0_2) := (blk_cell BK143.out 2).trans rfl
    have hfz12_0 := blk_frozen BK143.out 0
    have hfz12_1 := blk_frozen BK143.out 1
    have hfz12_2 := blk_frozen BK143.out 2
    go_wp2_with (first | ((with_reducible refine gate_dst (N := 19) rfl ?_); (try (refine gate_guard (by rfl) ?_; dsimp only)); refine Kd.R_lit k27 _ 27 ?hg (N := 19) ?hd (xs := ([(⟨a0_0, a0_1⟩ : S27)] : List (S27))) (inner := [.int .i64 a0_0, .int .i64 a0_1]) (ok := fun _ => True) (okp := fun _ => True) ?hr ?hp (fun _ hk => hk) trivial (Below.refl _ _) (Nat.le_refl _) (by simp) ?_; (case hd => rfl); (case hg => rfl); (case hr => first | (go_simp; done) | (go_simp; rfl)); (case hp => exact (Reps.c2 (show Kd.M k27 _ _ _ (⟨a0_0, a0_1⟩ : S27) [.int .i64 a0_0, .int .i64 a0_1] from (k27_mkM _ _ _ (⟨a0_0, a0_1⟩ : S27) )) (Reps.none _ _))); intro v146 w13 ho14 hb hg_ hnew_; clear hg_ hnew_; (first | rw [← Ny145.out] at ho14 | (simp only [Int.reduceToNat] at ho14; rw [← Ny145.out] at ho14)); have n0_ := Acq (Kd.R_lower ho14 (below_size Zc5)); have n1_ := Acq (blk_below (g := g143) (o := .cells #[.int .i64 a0_0, .int .i64 a0_1, .string a0_2] 37 (0, 0)) Zc8 hb); have n2_ := Acq (below_step Zc5 hb); clear BK143; clear HB; have HO147 := n0_; have BK143 := n1_; have HB := n2_; clear n0_ n1_ n2_; clear hb ho14; have hcz15_0 : w13.cell? ⟨g143, 0, none⟩ = some (.int .i64 a0_0) := (blk_cell BK143.out 0).trans rfl; have hcz15_1 : w13.cell? ⟨g143, 1, none⟩ = some (.int .i64 a0_1) := (blk_cell BK143.out 1).trans rfl; have hcz15_2 : w13.cell? ⟨g143, 2, none⟩ = some (.string a0_2) := (blk_cell BK143.out 2).trans rfl; have hfz15_0 := blk_frozen BK143.out 0; have hfz15_1 := blk_frozen BK143.out 1; have hfz15_2 := blk_frozen BK143.out 2) | ((with_reducible refine gate_dst (N := 5) rfl ?_); (try (refine gate_guard (by rfl) ?_; dsimp only)); refine box_event ?hg (N := 5) ?hd (cs := #[.int .i64 0, .int .i64 0]) (t := 27) ?hr ?_; (case hd => rfl); (case hg => rfl); (case hr => first | (go_simp; done) | (go_simp; rfl)); intro g148 hg w16 hbox hb; have n0_ := Acq (Kd.R_below (Kd.R_elderB (by (with_reducible repeat (first | apply Kd.R_alloc | apply Kd.R_drewN | apply Kd.R_drew)); exact HO147.out) g148 (Nat.le_of_eq hg.symm)) hb); have n1_ := Acq (blk_below (g := g143) (o := .cells #[.int .i64 a0_0, .int .i64 a0_1, .string a0_2] 37 (0, 0)) Zc8 hb); have n2_ := Acq (below_step Zc5 hb); have n3_ := Acq (hbox); have n4_ := Acq ((by rw [hg]; exact (below_size Zc5) : w.heap.size ≤ g148)); have n5_ := Acq ((by rw [hg]; exact (below_size Zc5) : w.heap.size ≤ g148)); have n6_ := Acq ((by rw [hg]; exact Nat.ne_of_lt (blk_lt (g := g143) (o := .cells #[.int .i64 a0_0, .int .i64 a0_1, .string a0_2] 37 (0, 0)) Zc8) : g143 ≠ g148)); have n7_ := Acq ((by rw [hg]; exact Nat.ne_of_gt (blk_lt (g := g143) (o := .cells #[.int .i64 a0_0, .int .i64 a0_1, .string a0_2] 37 (0, 0)) Zc8) : g148 ≠ g143)); clear HO147; clear BK143; clear HB; have HO147 := n0_; have BK143 := n1_; have HB := n2_; have BK148 := n3_; have GW148 := n4_; have GE148 := n5_; have NB143_148 := n6_; have NB148_143 := n7_; clear n0_ n1_ n2_ n3_ n4_ n5_ n6_ n7_; clear hb hbox hg; have hnb17 := NB148_143.out; have hnc17 := NB143_148.out; have hcz18_0 : w16.cell? ⟨g148, 0, none⟩ = some (.int .i64 0) := (blk_cell BK148.out 0).trans rfl; have hcz18_1 : w16.cell? ⟨g148, 1, none⟩ = some (.int .i64 0) := (blk_cell BK148.out 1).trans rfl; have hfz18_0 := blk_frozen BK148.out 0; have hfz18_1 := blk_frozen BK148.out 1))
    go_loopg [4, 6] kj1 (fun kq v4 v6 w' => ∃ (x4_2 : List (S27)) (x6_2 : Int) (x149000_2 : Int) (x149001_2 : Int), v6 = .int .i64 x6_2 ∧ Aside0 (spec_ncCells.l0 kq x4_2 x6_2 a0_0 a0_1 a0_2 x149000_2 x149001_2 = some (r1, r2)) ∧ Aside0 (kq ≤ kj1) ∧ Aside0 (Kd.R k27 27 w' w.heap.size (fun k_ => k_ ≠ g148) v4 x4_2) ∧ Aside0 (w'.heap[g143]? = some (.cells #[.int .i64 a0_0, .int .i64 a0_1, .string a0_2] 37 (0, 0))) ∧ Aside0 (w'.heap[g148]? = some (.cells #[.int .i64 x149000_2, .int .i64 x149001_2] 27 (0, 0))) ∧ Aside0 (Below w.heap.size w w'))
    case atStart => exact ⟨(y145), (0), (a0_0), (a0_1), Zc12, H', ⟨Nat.le_refl _⟩, ⟨by (with_reducible repeat (first | apply Kd.R_alloc | apply Kd.R_drewN | apply Kd.R_drew)); exact Kd.R_mono (Kd.R_far (p := ⟨g148, 1, none⟩) (Kd.R_far (p := ⟨g148, 0, none⟩) (Kd.R_mono HO147.out (fun k_ hk => (⟨hk, hk.2⟩ : _ ∧ k_ ≠ g148))) (fun _ hk => hk.2) (.int .i64 a0_0)) (fun _ hk => hk.2) (.int .i64 a0_1)) (fun _ hk => hk.1.2)⟩, ⟨by (with_reducible repeat (first | refine blk_drewN ?_ _ | refine blk_drew ?_ | refine blk_alloc ?_ _)); refine blk_far ?_ NB143_148.out _; (with_reducible repeat (first | refine blk_drewN ?_ _ | refine blk_drew ?_ | refine blk_alloc ?_ _)); refine blk_far ?_ NB143_148.out _; (with_reducible repeat (first | refine blk_drewN ?_ _ | refine blk_drew ?_ | refine blk_alloc ?_ _)); exact BK143.out⟩, ⟨by (with_reducible repeat (first | refine blk_drewN ?_ _ | refine blk_drew ?_ | refine blk_alloc ?_ _)); refine blk_put (cs := #[.int .i64 a0_0, .int .i64 0]) ?_ 1 _ rfl; (with_reducible repeat (first | refine blk_drewN ?_ _ | refine blk_drew ?_ | refine blk_alloc ?_ _)); refine blk_put (cs := #[.int .i64 0, .int .i64 0]) ?_ 0 _ rfl; (with_reducible repeat (first | refine blk_drewN ?_ _ | refine blk_drew ?_ | refine blk_alloc ?_ _)); exact BK148.out⟩, ⟨by repeat (first | (with_reducible first | exact HB.out | apply below_alloc | apply pw_below_drewN | apply below_drew1 | refine below_set ?_ GE143.out | refine below_set ?_ GE148.out) | exact HB.out)⟩⟩
    case round =>
     clear H'
     try clear c1
     try clear c2
     try clear p2
     try clear c5
     try clear c10
     try clear c11
     try clear c17
     try clear hcz12_0
     try clear hcz12_1
     try clear hcz12_2
     try clear hcz15_0
     try clear hcz15_1
     try clear hcz15_2
     try clear hcz18_0
     try clear hcz18_1
     try clear hcz6_0
     try clear hcz6_1
     try clear hcz6_2
     try clear hcz8_0
     try clear hcz8_1
     try clear hcz8_2
     try clear hcz9_0
     try clear hcz9_1
     try clear hcz9_2
     try clear hfz12_0
     try clear hfz12_1
     try clear hfz12_2
     try clear hfz15_0
     try clear hfz15_1
     try clear hfz15_2
     try clear hfz18_0
     try clear hfz18_1
     try clear hfz6_0
     try clear hfz6_1
     try clear hfz6_2
     try clear hfz8_0
     try clear hfz8_1
     try clear hfz8_2
     try clear hfz9_0
     try clear hfz9_1
     try clear hfz9_2
     try clear p2
     obtain ⟨x4_2, x6_2, x149000_2, x149001_2, rfl, HA, HK2, HO_4, BK143, BK148, HB⟩ := hrel
     cases gk with
     | zero => exact absurd HA.out (by simp [spec_ncCells.l0])
     | succ k2 =>
      have H := HA.out
      clear HA
      simp only [spec_ncCells.l0] at H
      by_cases c19 : x6_2 < (a0_2.size : Int)
      ·
       rw [if_pos c19] at H
       have c19b0 : decide (x6_2 < (a0_2.size : Int)) = true := decide_eq_true c19
       clear c19
       by_cases c20 : 0 ≤ x6_2
       ·
        rw [if_pos c20] at H
        have c20b0 : decide (0 ≤ x6_2) = true := decide_eq_true c20
        clear c20
        by_cases c22 : (bt a0_2 x6_2) = 69
        ·
         rw [if_pos c22] at H
         have c22b0 : ((bt a0_2 x6_2) == 69) = true := beq_iff_eq.mpr c22
         have c22b1 : ((bt a0_2 x6_2) != 69) = false := bne_eq_false_iff_eq.mpr c22
         clear c22
         replace H := Option.bind_eq_some_iff.mp H
         obtain ⟨t149, A230, H⟩ := H
         replace H : (if t149 = true then (if x4_2.length < 8796093022208 then (spec_ncCells.l0 k2 (x4_2 ++ [(⟨wrap64 (x149000_2 + 1), x149001_2⟩ : S27)]) (wrap64 (x6_2 + 1)) a0_0 a0_1 a0_2 (wrap64 (x149000_2 + 1)) x149001_2) else (none)) else (some (([] : List (S27)), false))) = some (r1, r2) := H
         have A23 := Acq A230
         clear A230
         by_cases c24 : t149 = true
         ·
          subst c24
          have H1 : (if x4_2.length < 8796093022208 then (spec_ncCells.l0 k2 (x4_2 ++ [(⟨wrap64 (x149000_2 + 1), x149001_2⟩ : S27)]) (wrap64 (x6_2 + 1)) a0_0 a0_1 a0_2 (wrap64 (x149000_2 + 1)) x149001_2) else (none)) = some (r1, r2) := by rw [if_pos rfl] at H; exact H
          clear H
          have H := H1
          clear H1
          by_cases c25 : x4_2.length < 8796093022208
          ·
           rw [if_pos c25] at H
           have LMc25 := Acq c25
           clear c25
           obtain ⟨y150, hy150⟩ : ∃ y_ : List (S27), y_ = (x4_2 ++ [(⟨wrap64 (x149000_2 + 1), x149001_2⟩ : S27)]) := ⟨_, rfl⟩
           replace H : (spec_ncCells.l0 k2 y150 (wrap64 (x6_2 + 1)) a0_0 a0_1 a0_2 (wrap64 (x149000_2 + 1)) x149001_2) = some (r1, r2) := by first | (rw [hy150]; with_reducible exact H) | (have H2_ := (Option.bind_some _ _).symm.trans H; rw [hy150]; with_reducible exact H2_) | (have H2_ := (Option.bind_some _ _).symm.trans H; with_reducible exact H2_) | with_reducible exact H | (rw [hy150]; exact H) | exact H
           have Ny150 := Acq hy150
           clear hy150
           have H' := Acq H
           clear H
           have hnb26 := NB143_148.out
           have hnc26 := NB148_143.out
           have hcz27_0 : wr.cell? ⟨g143, 0, none⟩ = some (.int .i64 a0_0) := (blk_cell BK143.out 0).trans rfl
           have hcz27_1 : wr.cell? ⟨g143, 1, none⟩ = some (.int .i64 a0_1) := (blk_cell BK143.out 1).trans rfl
           have hcz27_2 : wr.cell? ⟨g143, 2, none⟩ = some (.string a0_2) := (blk_cell BK143.out 2).trans rfl
           have hfz27_0 := blk_frozen BK143.out 0
           have hfz27_1 := blk_frozen BK143.out 1
           have hfz27_2 := blk_frozen BK143.out 2
           have p21 : 0 ≤ (x6_2 : Int) := of_decide_eq_true Zc13
           have q21 : x6_2 < (a0_2.size : Int) := of_decide_eq_true Zc13
           have hx21 := bt_at a0_2 x6_2
           replace p21 := eq_true p21
           replace q21 := eq_true q21
           have hcz28_0 : wr.cell? ⟨g148, 0, none⟩ = some (.int .i64 x149000_2) := (blk_cell BK148.out 0).trans rfl
           have hcz28_1 : wr.cell? ⟨g148, 1, none⟩ = some (.int .i64 x149001_2) := (blk_cell BK148.out 1).trans rfl
           have hfz28_0 := blk_frozen BK148.out 0
           have hfz28_1 := blk_frozen BK148.out 1
           go_wp2_with (first | ((with_reducible refine gate_callee (f := 10) rfl ?_); refine goesL_ (some 46) rfl rfl Try.func10 (by kernel_rfl) rfl #[.agg #[.int .i64 (wrap64 (x149000_2 + 1)), .int .i64 x149001_2]] rfl Zc6 ?_; (with_reducible refine (spec_ncCell.calls (wrap64 (x149000_2 + 1)) x149001_2 true _ A23.out).mono ?_); rintro e w29 ⟨rfl, hb⟩; refine ⟨_, rfl, ?_⟩; have n0_ := Acq (Kd.R_below (by (with_reducible repeat (first | apply Kd.R_alloc | apply Kd.R_drewN | apply Kd.R_drew)); exact (Kd.R_mono (Kd.R_far (p := ⟨g148, 0, none⟩) (Kd.R_mono HO_4.out (fun k_ hk => (⟨hk, hk⟩ : _ ∧ k_ ≠ g148))) (fun _ hk => hk.2) (.int .i64 (wrap64 (x149000_2 + 1)))) (fun _ h_ => h_.1))) hb); have n1_ := Acq (blk_below (g := g143) (o := .cells #[.int .i64 a0_0, .int .i64 a0_1, .string a0_2] 37 (0, 0)) Zc2 hb); have n2_ := Acq (blk_below (g := g148) (o := .cells #[.int .i64 (wrap64 (x149000_2 + 1)), .int .i64 x149001_2] 27 (0, 0)) (by (with_reducible repeat (first | refine blk_drewN ?_ _ | refine blk_drew ?_ | refine blk_alloc ?_ _)); refine blk_put (cs := #[.int .i64 x149000_2, .int .i64 x149001_2]) ?_ 0 _ rfl; (with_reducible repeat (first | refine blk_drewN ?_ _ | refine blk_drew ?_ | refine blk_alloc ?_ _)); exact BK148.out) hb); have n3_ := Acq (below_step Zc3 hb); clear HO_4; clear BK143; clear BK148; clear HB; have HO_4 := n0_; have BK143 := n1_; have BK148 := n2_; have HB := n3_; clear n0_ n1_ n2_ n3_; (try clear hb); have hcz30_0 : w29.cell? ⟨g148, 0, none⟩ = some (.int .i64 (wrap64 (x149000_2 + 1))) := (blk_cell BK148.out 0).trans rfl; have hcz30_1 : w29.cell? ⟨g148, 1, none⟩ = some (.int .i64 x149001_2) := (blk_cell BK148.out 1).trans rfl; have hfz30_0 := blk_frozen BK148.out 0; have hfz30_1 := blk_frozen BK148.out 1) | ((with_reducible refine gate_builtin (b := .append) (xs := #[.tmp 48, .tmp 50]) rfl ?_); (try (refine gate_guard (by rfl) ?_; dsimp only)); at_builtin; refine Kd.R_append k27 (w0 := w) w.heap.size rfl (.tmp 48) (.tmp 50) 48 27 (.agg #[(.int .i64 0), (.int .i64 0)]) 16 rfl Try.underlying48 info27 rfl (by decide) (by omega) u4 x4_2 (⟨wrap64 (x149000_2 + 1), x149001_2⟩ : S27) [.int .i64 (wrap64 (x149000_2 + 1)), .int .i64 x149001_2] (fun k_ => k_ ≠ g148) (fun _ => False) rfl rfl ?aP (fun _ hk => hk.elim) ?aF ?aO ?aB ?aS ?aL ?_; (case aP => exact k27_mkM _ _ _ (⟨wrap64 (x149000_2 + 1), x149001_2⟩ : S27)); (case aB => exact Zc3); (case aF => exact (fun k_ hk => Kd.freshB (g := g148) (o := .cells #[.int .i64 (wrap64 (x149000_2 + 1)), .int .i64 x149001_2] 27 (0, 0)) (by (with_reducible repeat (first | refine blk_drewN ?_ _ | refine blk_drew ?_ | refine blk_alloc ?_ _)); exact BK148.out) k_ hk)); (case aO => exact (by (with_reducible repeat (first | apply Kd.R_alloc | apply Kd.R_drewN | apply Kd.R_drew)); exact HO_4.out)); (case aS => exact (below_size Zc3)); (case aL => have := LMc25.out; omega); intro v151 w31 ho hb hg hat; rw [← Ny150.out] at ho; have n0_ := Acq (blk_grown (g := g143) (o := .cells #[.int .i64 a0_0, .int .i64 a0_1, .string a0_2] 37 (0, 0)) Zc8 hg (Kd.R_ne HO_4.out BK143.out (by decide))); have n1_ := Acq (blk_grown (g := g148) (o := .cells #[.int .i64 (wrap64 (x149000_2 + 1)), .int .i64 x149001_2] 27 (0, 0)) (by (with_reducible repeat (first | refine blk_drewN ?_ _ | refine blk_drew ?_ | refine blk_alloc ?_ _)); exact BK148.out) hg (Kd.R_away HO_4.out (fun _ hk => hk))); have n2_ := Acq (hb); have n3_ := Acq (ho); clear BK143; clear BK148; clear HB; clear HO_4; have BK143 := n0_; have BK148 := n1_; have HB := n2_; have HO152 := n3_; clear n0_ n1_ n2_ n3_; clear ho hb hg hat))
           go_roundg k2
           case measure => have := HJ1.out; have := HK2.out; omega
           case rel => exact ⟨(y150), (wrap64 (x6_2 + 1)), (wrap64 (x149000_2 + 1)), (x149001_2), Zc12, H', ⟨by have := HJ1.out; have := HK2.out; omega⟩, ⟨by (with_reducible repeat (first | apply Kd.R_alloc | apply Kd.R_drewN | apply Kd.R_drew)); exact HO152.out⟩, ⟨by (with_reducible repeat (first | refine blk_drewN ?_ _ | refine blk_drew ?_ | refine blk_alloc ?_ _)); exact BK143.out⟩, ⟨by (with_reducible repeat (first | refine blk_drewN ?_ _ | refine blk_drew ?_ | refine blk_alloc ?_ _)); exact BK148.out⟩, ⟨by repeat (first | (with_reducible first | exact HB.out | apply below_alloc | apply pw_below_drewN | apply below_drew1 | refine below_set ?_ GE143.out | refine below_set ?_ GE148.out) | exact HB.out)⟩⟩
          ·
           rw [if_neg c25] at H
           exact absurd H (by simp)
         ·
          replace c24 := Bool.eq_false_iff.mpr c24
          subst c24
          have H1 : (some (([] : List (S27)), false)) = some (r1, r2) := by rw [if_neg (show ¬ (false = true) by decide)] at H; exact H
          clear H
          have H := H1
          clear H1
          simp only [Option.some.injEq, Prod.mk.injEq] at H
          obtain ⟨rfl, rfl⟩ := H
          have hnb32 := NB143_148.out
          have hnc32 := NB148_143.out
          have hcz33_0 : wr.cell? ⟨g143, 0, none⟩ = some (.int .i64 a0_0) := (blk_cell BK143.out 0).trans rfl
          have hcz33_1 : wr.cell? ⟨g143, 1, none⟩ = some (.int .i64 a0_1) := (blk_cell BK143.out 1).trans rfl
          have hcz33_2 : wr.cell? ⟨g143, 2, none⟩ = some (.string a0_2) := (blk_cell BK143.out 2).trans rfl
          have hfz33_0 := blk_frozen BK143.out 0
          have hfz33_1 := blk_frozen BK143.out 1
          have hfz33_2 := blk_frozen BK143.out 2
          have p21 : 0 ≤ (x6_2 : Int) := of_decide_eq_true Zc13
          have q21 : x6_2 < (a0_2.size : Int) := of_decide_eq_true Zc13
          have hx21 := bt_at a0_2 x6_2
          replace p21 := eq_true p21
          replace q21 := eq_true q21
          have hcz34_0 : wr.cell? ⟨g148, 0, none⟩ = some (.int .i64 x149000_2) := (blk_cell BK148.out 0).trans rfl
          have hcz34_1 : wr.cell? ⟨g148, 1, none⟩ = some (.int .i64 x149001_2) := (blk_cell BK148.out 1).trans rfl
          have hfz34_0 := blk_frozen BK148.out 0
          have hfz34_1 := blk_frozen BK148.out 1
          go_wp2_with (first | ((with_reducible refine gate_callee (f := 10) rfl ?_); refine goesL_ (some 46) rfl rfl Try.func10 (by kernel_rfl) rfl #[.agg #[.int .i64 (wrap64 (x149000_2 + 1)), .int .i64 x149001_2]] rfl Zc6 ?_; (with_reducible refine (spec_ncCell.calls (wrap64 (x149000_2 + 1)) x149001_2 false _ A23.out).mono ?_); rintro e w35 ⟨rfl, hb⟩; refine ⟨_, rfl, ?_⟩; have n0_ := Acq (Kd.R_below (by (with_reducible repeat (first | apply Kd.R_alloc | apply Kd.R_drewN | apply Kd.R_drew)); exact (Kd.R_mono (Kd.R_far (p := ⟨g148, 0, none⟩) (Kd.R_mono HO_4.out (fun k_ hk => (⟨hk, hk⟩ : _ ∧ k_ ≠ g148))) (fun _ hk => hk.2) (.int .i64 (wrap64 (x149000_2 + 1)))) (fun _ h_ => h_.1))) hb); have n1_ := Acq (blk_below (g := g143) (o := .cells #[.int .i64 a0_0, .int .i64 a0_1, .string a0_2] 37 (0, 0)) Zc2 hb); have n2_ := Acq (blk_below (g := g148) (o := .cells #[.int .i64 (wrap64 (x149000_2 + 1)), .int .i64 x149001_2] 27 (0, 0)) (by (with_reducible repeat (first | refine blk_drewN ?_ _ | refine blk_drew ?_ | refine blk_alloc ?_ _)); refine blk_put (cs := #[.int .i64 x149000_2, .int .i64 x149001_2]) ?_ 0 _ rfl; (with_reducible repeat (first | refine blk_drewN ?_ _ | refine blk_drew ?_ | refine blk_alloc ?_ _)); exact BK148.out) hb); have n3_ := Acq (below_step Zc3 hb); clear HO_4; clear BK143; clear BK148; clear HB; have HO_4 := n0_; have BK143 := n1_; have BK148 := n2_; have HB := n3_; clear n0_ n1_ n2_ n3_; (try clear hb)))
          go_ret2
          exact ⟨_, Zrc, by first | exact Kd.R_nil _ _ _ _ _ | exact Kd.N_nil _ _ _ _ _ | exact Kd.V_nil _ _ _ _ _ | exact Kd.Q_nil _ _ _ _ _ | exact Kd.S_nil _ _ _ _ _, by repeat (first | (with_reducible first | exact HB.out | apply below_alloc | apply pw_below_drewN | apply below_drew1 | refine below_set ?_ GE143.out | refine below_set ?_ GE148.out) | exact HB.out)⟩
        ·
         rw [if_neg c22] at H
         have c22b0 : ((bt a0_2 x6_2) == 69) = false := beq_eq_false_iff_ne.mpr c22
         have c22b1 : ((bt a0_2 x6_2) != 69) = true := bne_iff_ne.mpr c22
         by_cases c36 : (bt a0_2 x6_2) = 78
         ·
          rw [if_pos c36] at H
          have c36b0 : ((bt a0_2 x6_2) == 78) = true := beq_iff_eq.mpr c36
          have c36b1 : ((bt a0_2 x6_2) != 78) = false := bne_eq_false_iff_eq.mpr c36
          clear c36
          replace H := Option.bind_eq_some_iff.mp H
          obtain ⟨t153, A370, H⟩ := H
          replace H : (if t153 = true then (if x4_2.length < 8796093022208 then (spec_ncCells.l0 k2 (x4_2 ++ [(⟨x149000_2, wrap64 (x149001_2 + 1)⟩ : S27)]) (wrap64 (x6_2 + 1)) a0_0 a0_1 a0_2 x149000_2 (wrap64 (x149001_2 + 1))) else (none)) else (some (([] : List (S27)), false))) = some (r1, r2) := H
          have A37 := Acq A370
          clear A370
          by_cases c38 : t153 = true
          ·
           subst c38
           have H1 : (if x4_2.length < 8796093022208 then (spec_ncCells.l0 k2 (x4_2 ++ [(⟨x149000_2, wrap64 (x149001_2 + 1)⟩ : S27)]) (wrap64 (x6_2 + 1)) a0_0 a0_1 a0_2 x149000_2 (wrap64 (x149001_2 + 1))) else (none)) = some (r1, r2) := by rw [if_pos rfl] at H; exact H
           clear H
           have H := H1
           clear H1
           by_cases c39 : x4_2.length < 8796093022208
           ·
            rw [if_pos c39] at H
            have LMc39 := Acq c39
            clear c39
            obtain ⟨y154, hy154⟩ : ∃ y_ : List (S27), y_ = (x4_2 ++ [(⟨x149000_2, wrap64 (x149001_2 + 1)⟩ : S27)]) := ⟨_, rfl⟩
            replace H : (spec_ncCells.l0 k2 y154 (wrap64 (x6_2 + 1)) a0_0 a0_1 a0_2 x149000_2 (wrap64 (x149001_2 + 1))) = some (r1, r2) := by first | (rw [hy154]; with_reducible exact H) | (have H2_ := (Option.bind_some _ _).symm.trans H; rw [hy154]; with_reducible exact H2_) | (have H2_ := (Option.bind_some _ _).symm.trans H; with_reducible exact H2_) | with_reducible exact H | (rw [hy154]; exact H) | exact H
            have Ny154 := Acq hy154
            clear hy154
            have H' := Acq H
            clear H
            have hnb40 := NB143_148.out
            have hnc40 := NB148_143.out
            have hcz41_0 : wr.cell? ⟨g143, 0, none⟩ = some (.int .i64 a0_0) := (blk_cell BK143.out 0).trans rfl
            have hcz41_1 : wr.cell? ⟨g143, 1, none⟩ = some (.int .i64 a0_1) := (blk_cell BK143.out 1).trans rfl
            have hcz41_2 : wr.cell? ⟨g143, 2, none⟩ = some (.string a0_2) := (blk_cell BK143.out 2).trans rfl
            have hfz41_0 := blk_frozen BK143.out 0
            have hfz41_1 := blk_frozen BK143.out 1
            have hfz41_2 := blk_frozen BK143.out 2
            have p21 : 0 ≤ (x6_2 : Int) := of_decide_eq_true Zc13
            have q21 : x6_2 < (a0_2.size : Int) := of_decide_eq_true Zc13
            have hx21 := bt_at a0_2 x6_2
            replace p21 := eq_true p21
            replace q21 := eq_true q21
            have hcz42_0 : wr.cell? ⟨g148, 0, none⟩ = some (.int .i64 x149000_2) := (blk_cell BK148.out 0).trans rfl
            have hcz42_1 : wr.cell? ⟨g148, 1, none⟩ = some (.int .i64 x149001_2) := (blk_cell BK148.out 1).trans rfl
            have hfz42_0 := blk_frozen BK148.out 0
            have hfz42_1 := blk_frozen BK148.out 1
            go_wp2_with (first | ((with_reducible refine gate_callee (f := 10) rfl ?_); refine goesL_ (some 46) rfl rfl Try.func10 (by kernel_rfl) rfl #[.agg #[.int .i64 x149000_2, .int .i64 (wrap64 (x149001_2 + 1))]] rfl Zc6 ?_; (with_reducible refine (spec_ncCell.calls x149000_2 (wrap64 (x149001_2 + 1)) true _ A37.out).mono ?_); rintro e w43 ⟨rfl, hb⟩; refine ⟨_, rfl, ?_⟩; have n0_ := Acq (Kd.R_below (by (with_reducible repeat (first | apply Kd.R_alloc | apply Kd.R_drewN | apply Kd.R_drew)); exact (Kd.R_mono (Kd.R_far (p := ⟨g148, 1, none⟩) (Kd.R_mono HO_4.out (fun k_ hk => (⟨hk, hk⟩ : _ ∧ k_ ≠ g148))) (fun _ hk => hk.2) (.int .i64 (wrap64 (x149001_2 + 1)))) (fun _ h_ => h_.1))) hb); have n1_ := Acq (blk_below (g := g143) (o := .cells #[.int .i64 a0_0, .int .i64 a0_1, .string a0_2] 37 (0, 0)) Zc2 hb); have n2_ := Acq (blk_below (g := g148) (o := .cells #[.int .i64 x149000_2, .int .i64 (wrap64 (x149001_2 + 1))] 27 (0, 0)) (by (with_reducible repeat (first | refine blk_drewN ?_ _ | refine blk_drew ?_ | refine blk_alloc ?_ _)); refine blk_put (cs := #[.int .i64 x149000_2, .int .i64 x149001_2]) ?_ 1 _ rfl; (with_reducible repeat (first | refine blk_drewN ?_ _ | refine blk_drew ?_ | refine blk_alloc ?_ _)); exact BK148.out) hb); have n3_ := Acq (below_step Zc3 hb); clear HO_4; clear BK143; clear BK148; clear HB; have HO_4 := n0_; have BK143 := n1_; have BK148 := n2_; have HB := n3_; clear n0_ n1_ n2_ n3_; (try clear hb); have hcz44_0 : w43.cell? ⟨g148, 0, none⟩ = some (.int .i64 x149000_2) := (blk_cell BK148.out 0).trans rfl; have hcz44_1 : w43.cell? ⟨g148, 1, none⟩ = some (.int .i64 (wrap64 (x149001_2 + 1))) := (blk_cell BK148.out 1).trans rfl; have hfz44_0 := blk_frozen BK148.out 0; have hfz44_1 := blk_frozen BK148.out 1) | ((with_reducible refine gate_builtin (b := .append) (xs := #[.tmp 48, .tmp 50]) rfl ?_); (try (refine gate_guard (by rfl) ?_; dsimp only)); at_builtin; refine Kd.R_append k27 (w0 := w) w.heap.size rfl (.tmp 48) (.tmp 50) 48 27 (.agg #[(.int .i64 0), (.int .i64 0)]) 16 rfl Try.underlying48 info27 rfl (by decide) (by omega) u4 x4_2 (⟨x149000_2, wrap64 (x149001_2 + 1)⟩ : S27) [.int .i64 x149000_2, .int .i64 (wrap64 (x149001_2 + 1))] (fun k_ => k_ ≠ g148) (fun _ => False) rfl rfl ?aP (fun _ hk => hk.elim) ?aF ?aO ?aB ?aS ?aL ?_; (case aP => exact k27_mkM _ _ _ (⟨x149000_2, wrap64 (x149001_2 + 1)⟩ : S27)); (case aB => exact Zc3); (case aF => exact (fun k_ hk => Kd.freshB (g := g148) (o := .cells #[.int .i64 x149000_2, .int .i64 (wrap64 (x149001_2 + 1))] 27 (0, 0)) (by (with_reducible repeat (first | refine blk_drewN ?_ _ | refine blk_drew ?_ | refine blk_alloc ?_ _)); exact BK148.out) k_ hk)); (case aO => exact (by (with_reducible repeat (first | apply Kd.R_alloc | apply Kd.R_drewN | apply Kd.R_drew)); exact HO_4.out)); (case aS => exact (below_size Zc3)); (case aL => have := LMc39.out; omega); intro v155 w45 ho hb hg hat; rw [← Ny154.out] at ho; have n0_ := Acq (blk_grown (g := g143) (o := .cells #[.int .i64 a0_0, .int .i64 a0_1, .string a0_2] 37 (0, 0)) Zc8 hg (Kd.R_ne HO_4.out BK143.out (by decide))); have n1_ := Acq (blk_grown (g := g148) (o := .cells #[.int .i64 x149000_2, .int .i64 (wrap64 (x149001_2 + 1))] 27 (0, 0)) (by (with_reducible repeat (first | refine blk_drewN ?_ _ | refine blk_drew ?_ | refine blk_alloc ?_ _)); exact BK148.out) hg (Kd.R_away HO_4.out (fun _ hk => hk))); have n2_ := Acq (hb); have n3_ := Acq (ho); clear BK143; clear BK148; clear HB; clear HO_4; have BK143 := n0_; have BK148 := n1_; have HB := n2_; have HO156 := n3_; clear n0_ n1_ n2_ n3_; clear ho hb hg hat))
            go_roundg k2
            case measure => have := HJ1.out; have := HK2.out; omega
            case rel => exact ⟨(y154), (wrap64 (x6_2 + 1)), (x149000_2), (wrap64 (x149001_2 + 1)), Zc12, H', ⟨by have := HJ1.out; have := HK2.out; omega⟩, ⟨by (with_reducible repeat (first | apply Kd.R_alloc | apply Kd.R_drewN | apply Kd.R_drew)); exact HO156.out⟩, ⟨by (with_reducible repeat (first | refine blk_drewN ?_ _ | refine blk_drew ?_ | refine blk_alloc ?_ _)); exact BK143.out⟩, ⟨by (with_reducible repeat (first | refine blk_drewN ?_ _ | refine blk_drew ?_ | refine blk_alloc ?_ _)); exact BK148.out⟩, ⟨by repeat (first | (with_reducible first | exact HB.out | apply below_alloc | apply pw_below_drewN | apply below_drew1 | refine below_set ?_ GE143.out | refine below_set ?_ GE148.out) | exact HB.out)⟩⟩
           ·
            rw [if_neg c39] at H
            exact absurd H (by simp)
          ·
           replace c38 := Bool.eq_false_iff.mpr c38
           subst c38
           have H1 : (some (([] : List (S27)), false)) = some (r1, r2) := by rw [if_neg (show ¬ (false = true) by decide)] at H; exact H
           clear H
           have H := H1
           clear H1
           simp only [Option.some.injEq, Prod.mk.injEq] at H
           obtain ⟨rfl, rfl⟩ := H
           have hnb46 := NB143_148.out
           have hnc46 := NB148_143.out
           have hcz47_0 : wr.cell? ⟨g143, 0, none⟩ = some (.int .i64 a0_0) := (blk_cell BK143.out 0).trans rfl
           have hcz47_1 : wr.cell? ⟨g143, 1, none⟩ = some (.int .i64 a0_1) := (blk_cell BK143.out 1).trans rfl
           have hcz47_2 : wr.cell? ⟨g143, 2, none⟩ = some (.string a0_2) := (blk_cell BK143.out 2).trans rfl
           have hfz47_0 := blk_frozen BK143.out 0
           have hfz47_1 := blk_frozen BK143.out 1
           have hfz47_2 := blk_frozen BK143.out 2
           have p21 : 0 ≤ (x6_2 : Int) := of_decide_eq_true Zc13
           have q21 : x6_2 < (a0_2.size : Int) := of_decide_eq_true Zc13
           have hx21 := bt_at a0_2 x6_2
           replace p21 := eq_true p21
           replace q21 := eq_true q21
           have hcz48_0 : wr.cell? ⟨g148, 0, none⟩ = some (.int .i64 x149000_2) := (blk_cell BK148.out 0).trans rfl
           have hcz48_1 : wr.cell? ⟨g148, 1, none⟩ = some (.int .i64 x149001_2) := (blk_cell BK148.out 1).trans rfl
           have hfz48_0 := blk_frozen BK148.out 0
           have hfz48_1 := blk_frozen BK148.out 1
           go_wp2_with (first | ((with_reducible refine gate_callee (f := 10) rfl ?_); refine goesL_ (some 46) rfl rfl Try.func10 (by kernel_rfl) rfl #[.agg #[.int .i64 x149000_2, .int .i64 (wrap64 (x149001_2 + 1))]] rfl Zc6 ?_; (with_reducible refine (spec_ncCell.calls x149000_2 (wrap64 (x149001_2 + 1)) false _ A37.out).mono ?_); rintro e w49 ⟨rfl, hb⟩; refine ⟨_, rfl, ?_⟩; have n0_ := Acq (Kd.R_below (by (with_reducible repeat (first | apply Kd.R_alloc | apply Kd.R_drewN | apply Kd.R_drew)); exact (Kd.R_mono (Kd.R_far (p := ⟨g148, 1, none⟩) (Kd.R_mono HO_4.out (fun k_ hk => (⟨hk, hk⟩ : _ ∧ k_ ≠ g148))) (fun _ hk => hk.2) (.int .i64 (wrap64 (x149001_2 + 1)))) (fun _ h_ => h_.1))) hb); have n1_ := Acq (blk_below (g := g143) (o := .cells #[.int .i64 a0_0, .int .i64 a0_1, .string a0_2] 37 (0, 0)) Zc2 hb); have n2_ := Acq (blk_below (g := g148) (o := .cells #[.int .i64 x149000_2, .int .i64 (wrap64 (x149001_2 + 1))] 27 (0, 0)) (by (with_reducible repeat (first | refine blk_drewN ?_ _ | refine blk_drew ?_ | refine blk_alloc ?_ _)); refine blk_put (cs := #[.int .i64 x149000_2, .int .i64 x149001_2]) ?_ 1 _ rfl; (with_reducible repeat (first | refine blk_drewN ?_ _ | refine blk_drew ?_ | refine blk_alloc ?_ _)); exact BK148.out) hb); have n3_ := Acq (below_step Zc3 hb); clear HO_4; clear BK143; clear BK148; clear HB; have HO_4 := n0_; have BK143 := n1_; have BK148 := n2_; have HB := n3_; clear n0_ n1_ n2_ n3_; (try clear hb)))
           go_ret2
           exact ⟨_, Zrc, by first | exact Kd.R_nil _ _ _ _ _ | exact Kd.N_nil _ _ _ _ _ | exact Kd.V_nil _ _ _ _ _ | exact Kd.Q_nil _ _ _ _ _ | exact Kd.S_nil _ _ _ _ _, by repeat (first | (with_reducible first | exact HB.out | apply below_alloc | apply pw_below_drewN | apply below_drew1 | refine below_set ?_ GE143.out | refine below_set ?_ GE148.out) | exact HB.out)⟩
         ·
          rw [if_neg c36] at H
          have c36b0 : ((bt a0_2 x6_2) == 78) = false := beq_eq_false_iff_ne.mpr c36
          have c36b1 : ((bt a0_2 x6_2) != 78) = true := bne_iff_ne.mpr c36
          simp only [Option.some.injEq, Prod.mk.injEq] at H
          obtain ⟨rfl, rfl⟩ := H
          have hnb50 := NB143_148.out
          have hnc50 := NB148_143.out
          have hcz51_0 : wr.cell? ⟨g143, 0, none⟩ = some (.int .i64 a0_0) := (blk_cell BK143.out 0).trans rfl
          have hcz51_1 : wr.cell? ⟨g143, 1, none⟩ = some (.int .i64 a0_1) := (blk_cell BK143.out 1).trans rfl
          have hcz51_2 : wr.cell? ⟨g143, 2, none⟩ = some (.string a0_2) := (blk_cell BK143.out 2).trans rfl
          have hfz51_0 := blk_frozen BK143.out 0
          have hfz51_1 := blk_frozen BK143.out 1
          have hfz51_2 := blk_frozen BK143.out 2
          have p21 : 0 ≤ (x6_2 : Int) := of_decide_eq_true Zc13
          have q21 : x6_2 < (a0_2.size : Int) := of_decide_eq_true Zc13
          have hx21 := bt_at a0_2 x6_2
          replace p21 := eq_true p21
          replace q21 := eq_true q21
          go_wp2
          go_ret2
          exact ⟨_, Zrc, by first | exact Kd.R_nil _ _ _ _ _ | exact Kd.N_nil _ _ _ _ _ | exact Kd.V_nil _ _ _ _ _ | exact Kd.Q_nil _ _ _ _ _ | exact Kd.S_nil _ _ _ _ _, by repeat (first | (with_reducible first | exact HB.out | apply below_alloc | apply pw_below_drewN | apply below_drew1 | refine below_set ?_ GE143.out | refine below_set ?_ GE148.out) | exact HB.out)⟩
       ·
        rw [if_neg c20] at H
        exact absurd H (by simp)
      ·
       rw [if_neg c19] at H
       have c19b0 : decide (x6_2 < (a0_2.size : Int)) = false := decide_eq_false c19
       clear c19
       simp only [Option.some.injEq, Prod.mk.injEq] at H
       obtain ⟨rfl, rfl⟩ := H
       have hnb52 := NB143_148.out
       have hnc52 := NB148_143.out
       have hcz53_0 : wr.cell? ⟨g143, 0, none⟩ = some (.int .i64 a0_0) := (blk_cell BK143.out 0).trans rfl
       have hcz53_1 : wr.cell? ⟨g143, 1, none⟩ = some (.int .i64 a0_1) := (blk_cell BK143.out 1).trans rfl
       have hcz53_2 : wr.cell? ⟨g143, 2, none⟩ = some (.string a0_2) := (blk_cell BK143.out 2).trans rfl
       have hfz53_0 := blk_frozen BK143.out 0
       have hfz53_1 := blk_frozen BK143.out 1
       have hfz53_2 := blk_frozen BK143.out 2
       go_wp2
       go_ret2
       exact ⟨_, Zrc, by (with_reducible repeat (first | apply Kd.R_alloc | apply Kd.R_drewN | apply Kd.R_drew)); exact Kd.R_mono HO_4.out (fun _ hk => trivial), by repeat (first | (with_reducible first | exact HB.out | apply below_alloc | apply pw_below_drewN | apply below_drew1 | refine below_set ?_ GE143.out | refine below_set ?_ GE148.out) | exact HB.out)⟩

/-! ### spec_ncMeet: function 12 -/
mutual
def spec_ncMeet.l0 : Nat → List (S27) → List (S27) → Int → Int → Option (Int × Int × Bool)
  | 0, _, _, _, _ => none
  | k + 1, x9, x25, x26, x27 => if x27 < x26 then (if 0 ≤ x27 then (if x27 < (x25.length : Int) then (spec_ncMeet.l1 k x9 x27 x25 x26 x27 x9 (x9.length : Int) 0 ((rd_T27 x25 x27).f0) ((rd_T27 x25 x27).f1)) else (none)) else (none)) else (some (0, 0, false))
def spec_ncMeet.l1 : Nat → List (S27) → Int → List (S27) → Int → Int → List (S27) → Int → Int → Int → Int → Option (Int × Int × Bool)
  | 0, _, _, _, _, _, _, _, _, _, _ => none
  | k + 1, x9, x11, x25, x26, x27, x32, x33, x34, x169000, x169001 => if x34 < x33 then (if 0 ≤ x34 then (if x34 < (x32.length : Int) then (if (x169000 == ((rd_T27 x32 x34).f0) && (x169001 == ((rd_T27 x32 x34).f1))) = true then (some (x11, x34, true)) else (spec_ncMeet.l1 k x9 x11 x25 x26 x27 x32 x33 (wrap64 (x34 + 1)) x169000 x169001)) else (none)) else (none)) else (spec_ncMeet.l0 k x9 x25 x26 (wrap64 (x27 + 1)))
end
def spec_ncMeet.f (k : Nat) (a0_0 : Int) (a0_1 : Int) (a0_2 : ByteArray) (a1_0 : Int) (a1_1 : Int) (a1_2 : ByteArray) : Option (Int × Int × Bool) := (spec_ncCells.f k a0_0 a0_1 a0_2).bind fun bt159 => ((spec_ncCells.f k a1_0 a1_1 a1_2).bind fun bt163 => (spec_ncMeet.l0 k bt163.1 bt159.1 (bt159.1.length : Int) 0))
theorem spec_ncMeet.mono_l : ∀ k, (∀ y0 y1 y2 y3, LeO (spec_ncMeet.l0 k y0 y1 y2 y3) (spec_ncMeet.l0 (k + 1) y0 y1 y2 y3)) ∧ (∀ y0 y1 y2 y3 y4 y5 y6 y7 y8 y9, LeO (spec_ncMeet.l1 k y0 y1 y2 y3 y4 y5 y6 y7 y8 y9) (spec_ncMeet.l1 (k + 1) y0 y1 y2 y3 y4 y5 y6 y7 y8 y9))
  | 0 => ⟨fun _ _ _ _ r h => by simp [spec_ncMeet.l0] at h, fun _ _ _ _ _ _ _ _ _ _ r h => by simp [spec_ncMeet.l1] at h⟩
  | k + 1 => by
    obtain ⟨ih0, ih1⟩ := spec_ncMeet.mono_l k
    refine ⟨?_, ?_⟩
    · intro y0 y1 y2 y3
      unfold spec_ncMeet.l0
      repeat' first
      | (with_reducible exact ih0 _ _ _ _)
      | (with_reducible exact ih1 _ _ _ _ _ _ _ _ _ _)
      | (with_reducible exact spec_ncCells.mono _ _ _ _)
      | (with_reducible exact LeO.refl _)
      | (with_reducible exact LeO.none _)
      | (with_reducible refine LeO.ite ?_ ?_)
      | (with_reducible refine LeO.bind ?_ (fun _ => ?_))
      | exact ih0 _ _ _ _
      | exact ih1 _ _ _ _ _ _ _ _ _ _
      | exact spec_ncCells.mono _ _ _ _
      | exact LeO.none _
      | refine LeO.ite ?_ ?_
      | refine LeO.bind ?_ (fun _ => ?_)
    · intro y0 y1 y2 y3 y4 y5 y6 y7 y8 y9
      unfold spec_ncMeet.l1
      repeat' first
      | (with_reducible exact ih0 _ _ _ _)
      | (with_reducible exact ih1 _ _ _ _ _ _ _ _ _ _)
      | (with_reducible exact spec_ncCells.mono _ _ _ _)
      | (with_reducible exact LeO.refl _)
      | (with_reducible exact LeO.none _)
      | (with_reducible refine LeO.ite ?_ ?_)
      | (with_reducible refine LeO.bind ?_ (fun _ => ?_))
      | exact ih0 _ _ _ _
      | exact ih1 _ _ _ _ _ _ _ _ _ _
      | exact spec_ncCells.mono _ _ _ _
      | exact LeO.none _
      | refine LeO.ite ?_ ?_
      | refine LeO.bind ?_ (fun _ => ?_)
theorem spec_ncMeet.mono : ∀ a0 a1 a2 a3 a4 a5 k, LeO (spec_ncMeet.f k a0 a1 a2 a3 a4 a5) (spec_ncMeet.f (k + 1) a0 a1 a2 a3 a4 a5) := by
  intro a0 a1 a2 a3 a4 a5 k
  obtain ⟨ih0, ih1⟩ := spec_ncMeet.mono_l k
  unfold spec_ncMeet.f
  repeat' first
      | (with_reducible exact ih0 _ _ _ _)
      | (with_reducible exact ih1 _ _ _ _ _ _ _ _ _ _)
      | (with_reducible exact spec_ncCells.mono _ _ _ _)
      | (with_reducible exact LeO.refl _)
      | (with_reducible exact LeO.none _)
      | (with_reducible refine LeO.ite ?_ ?_)
      | (with_reducible refine LeO.bind ?_ (fun _ => ?_))
      | exact ih0 _ _ _ _
      | exact ih1 _ _ _ _ _ _ _ _ _ _
      | exact spec_ncCells.mono _ _ _ _
      | exact LeO.none _
      | refine LeO.ite ?_ ?_
      | refine LeO.bind ?_ (fun _ => ?_)
set_option maxHeartbeats 8000000 in
set_option maxRecDepth 100000 in
theorem spec_ncMeet.calls (k : Nat) (a0_0 : Int) (a0_1 : Int) (a0_2 : ByteArray) (a1_0 : Int) (a1_1 : Int) (a1_2 : ByteArray) (r1 : Int) (r2 : Int) (r3 : Bool) (w : World) (h : spec_ncMeet.f k a0_0 a0_1 a0_2 a1_0 a1_1 a1_2 = some (r1, r2, r3)) :
    Calls Try.prog 12 #[.agg #[.int .i64 a0_0, .int .i64 a0_1, .string a0_2], .agg #[.int .i64 a1_0, .int .i64 a1_1, .string a1_2]] w fun e w' => e = .returned (.tuple #[.int .i64 r1, .int .i64 r2, .bool r3]) ∧ Below w.heap.size w w' := by
 have hu37 := Try.underlying37
 have hu27 := Try.underlying27
 have HB := Acq (Below.refl w.heap.size w)
 have H : ((spec_ncCells.f k a0_0 a0_1 a0_2).bind fun bt159 => ((spec_ncCells.f k a1_0 a1_1 a1_2).bind fun bt163 => (spec_ncMeet.l0 k bt163.1 bt159.1 (bt159.1.length : Int) 0))) = some (r1, r2, r3) := h
 clear h
 replace H := Option.bind_eq_some_iff.mp H
 obtain ⟨⟨t159, t162⟩, A30, H⟩ := H
 replace H : ((spec_ncCells.f k a1_0 a1_1 a1_2).bind fun bt163 => (spec_ncMeet.l0 k bt163.1 t159 (t159.length : Int) 0)) = some (r1, r2, r3) := H
 have A3 := Acq A30
 clear A30
 replace H := Option.bind_eq_some_iff.mp H
 obtain ⟨⟨t163, t166⟩, A40, H⟩ := H
 replace H : (spec_ncMeet.l0 k t163 t159 (t159.length : Int) 0) = some (r1, r2, r3) := H
 have A4 := Acq A40
 clear A40
 have H' := Acq H
 clear H
 go_enter Try.func12, Try.ntmps12
 go_wp2_with (first | ((with_reducible refine gate_dst (N := 2) rfl ?_); refine box_event ?hg (N := 2) ?hd (cs := #[.int .i64 a0_0, .int .i64 a0_1, .string a0_2]) (t := 37) ?hr ?_; (case hd => rfl); (case hg => rfl); (case hr => first | (go_simp; done) | (go_simp; rfl)); intro g157 hg w5 hbox hb; have n0_ := Acq (below_step Zc7 hb); have n1_ := Acq (hbox); have n2_ := Acq ((by rw [hg]; exact (below_size Zc7) : w.heap.size ≤ g157)); have n3_ := Acq ((by rw [hg]; exact (below_size Zc7) : w.heap.size ≤ g157)); clear HB; have HB := n0_; have BK157 := n1_; have GW157 := n2_; have GE157 := n3_; clear n0_ n1_ n2_ n3_; clear hb hbox hg) | ((with_reducible refine gate_dst (N := 3) rfl ?_); refine box_event ?hg (N := 3) ?hd (cs := #[.int .i64 a1_0, .int .i64 a1_1, .string a1_2]) (t := 37) ?hr ?_; (case hd => rfl); (case hg => rfl); (case hr => first | (go_simp; done) | (go_simp; rfl)); intro g158 hg w6 hbox hb; have n0_ := Acq (blk_below (g := g157) (o := .cells #[.int .i64 a0_0, .int .i64 a0_1, .string a0_2] 37 (0, 0)) Zc9 hb); have n1_ := Acq (below_step (by repeat (first | (with_reducible first | exact HB.out | apply below_alloc | apply pw_below_drewN | apply below_drew1 | refine below_set ?_ GE157.out) | exact HB.out)) hb); have n2_ := Acq (hbox); have n3_ := Acq ((by rw [hg]; exact (below_size (by repeat (first | (with_reducible first | exact HB.out | apply below_alloc | apply pw_below_drewN | apply below_drew1 | refine below_set ?_ GE157.out) | exact HB.out))) : w.heap.size ≤ g158)); have n4_ := Acq ((by rw [hg]; exact (below_size (by repeat (first | (with_reducible first | exact HB.out | apply below_alloc | apply pw_below_drewN | apply below_drew1 | refine below_set ?_ GE157.out) | exact HB.out))) : w.heap.size ≤ g158)); have n5_ := Acq ((by rw [hg]; exact Nat.ne_of_lt (blk_lt (g := g157) (o := .cells #[.int .i64 a0_0, .int .i64 a0_1, .string a0_2] 37 (0, 0)) Zc9) : g157 ≠ g158)); have n6_ := Acq ((by rw [hg]; exact Nat.ne_of_gt (blk_lt (g := g157) (o := .cells #[.int .i64 a0_0, .int .i64 a0_1, .string a0_2] 37 (0, 0)) Zc9) : g158 ≠ g157)); clear BK157; clear HB; have BK157 := n0_; have HB := n1_; have BK158 := n2_; have GW158 := n3_; have GE158 := n4_; have NB157_158 := n5_; have NB158_157 := n6_; clear n0_ n1_ n2_ n3_ n4_ n5_ n6_; clear hb hbox hg; have hnb7 := NB157_158.out; have hnc7 := NB158_157.out; have hcz8_0 : w6.cell? ⟨g157, 0, none⟩ = some (.int .i64 a0_0) := (blk_cell BK157.out 0).trans rfl; have hcz8_1 : w6.cell? ⟨g157, 1, none⟩ = some (.int .i64 a0_1) := (blk_cell BK157.out 1).trans rfl; have hcz8_2 : w6.cell? ⟨g157, 2, none⟩ = some (.string a0_2) := (blk_cell BK157.out 2).trans rfl; have hfz8_0 := blk_frozen BK157.out 0; have hfz8_1 := blk_frozen BK157.out 1; have hfz8_2 := blk_frozen BK157.out 2) | ((with_reducible refine gate_callee (f := 22) rfl ?_); refine goesL_ (some 17) rfl rfl Try.func22 (by kernel_rfl) rfl #[.agg #[.int .i64 a0_0, .int .i64 a0_1, .string a0_2]] rfl Zc6 ?_; (with_reducible refine (spec_ncCells.calls k a0_0 a0_1 a0_2 t159 t162 _ A3.out).mono ?_); rintro e w9 ⟨v160, rfl, ho0, hb⟩; refine ⟨_, rfl, ?_⟩; have n0_ := Acq (Kd.R_lower ho0 (below_size Zc4)); have n1_ := Acq (blk_below (g := g157) (o := .cells #[.int .i64 a0_0, .int .i64 a0_1, .string a0_2] 37 (0, 0)) Zc9 hb); have n2_ := Acq (blk_below (g := g158) (o := .cells #[.int .i64 a1_0, .int .i64 a1_1, .string a1_2] 37 (0, 0)) Zc10 hb); have n3_ := Acq (below_step Zc4 hb); clear BK157; clear BK158; clear HB; have HO161 := n0_; have BK157 := n1_; have BK158 := n2_; have HB := n3_; clear n0_ n1_ n2_ n3_; (try clear hb); (try clear ho0); have hcz10_0 : w9.cell? ⟨g158, 0, none⟩ = some (.int .i64 a1_0) := (blk_cell BK158.out 0).trans rfl; have hcz10_1 : w9.cell? ⟨g158, 1, none⟩ = some (.int .i64 a1_1) := (blk_cell BK158.out 1).trans rfl; have hcz10_2 : w9.cell? ⟨g158, 2, none⟩ = some (.string a1_2) := (blk_cell BK158.out 2).trans rfl; have hfz10_0 := blk_frozen BK158.out 0; have hfz10_1 := blk_frozen BK158.out 1; have hfz10_2 := blk_frozen BK158.out 2) | ((with_reducible refine gate_callee (f := 22) rfl ?_); refine goesL_ (some 22) rfl rfl Try.func22 (by kernel_rfl) rfl #[.agg #[.int .i64 a1_0, .int .i64 a1_1, .string a1_2]] rfl Zc6 ?_; (with_reducible refine (spec_ncCells.calls k a1_0 a1_1 a1_2 t163 t166 _ A4.out).mono ?_); rintro e w11 ⟨v164, rfl, ho0, hb⟩; refine ⟨_, rfl, ?_⟩; have n0_ := Acq (Kd.R_elder' (by (with_reducible repeat (first | apply Kd.R_alloc | apply Kd.R_drewN | apply Kd.R_drew)); exact HO161.out) (Kd.R_base ho0) hb); have n1_ := Acq (Kd.R_lower (Kd.R_new' ho0 (Kd.R_lt (by (with_reducible repeat (first | apply Kd.R_alloc | apply Kd.R_drewN | apply Kd.R_drew)); exact HO161.out))) (below_size Zc4)); have n2_ := Acq (blk_below (g := g157) (o := .cells #[.int .i64 a0_0, .int .i64 a0_1, .string a0_2] 37 (0, 0)) Zc9 hb); have n3_ := Acq (blk_below (g := g158) (o := .cells #[.int .i64 a1_0, .int .i64 a1_1, .string a1_2] 37 (0, 0)) Zc10 hb); have n4_ := Acq (below_step Zc4 hb); clear HO161; clear BK157; clear BK158; clear HB; have HO161 := n0_; have HO165 := n1_; have BK157 := n2_; have BK158 := n3_; have HB := n4_; clear n0_ n1_ n2_ n3_ n4_; (try clear hb); (try clear ho0); obtain ⟨Ao12, co12, eo12⟩ := Kd.R_slice HO161.out; subst eo12))
 go_loopg [27] k (fun kq v27 w' => ∃ (x27_1 : Int), v27 = .int .i64 x27_1 ∧ Aside0 (spec_ncMeet.l0 kq t163 t159 (t159.length : Int) x27_1 = some (r1, r2, r3)) ∧ Aside0 (kq ≤ k) ∧ Aside0 (Kd.R k27 27 w' w.heap.size (fun k_ => some k_ ≠ ((.slice Ao12 t159.length co12) : Value).ownBlock) v164 t163) ∧ Aside0 (Kd.R k27 27 w' w.heap.size (fun k_ => some k_ ≠ (v164 : Value).ownBlock) (.slice Ao12 t159.length co12) t159) ∧ Aside0 (w'.heap[g157]? = some (.cells #[.int .i64 a0_0, .int .i64 a0_1, .string a0_2] 37 (0, 0))) ∧ Aside0 (w'.heap[g158]? = some (.cells #[.int .i64 a1_0, .int .i64 a1_1, .string a1_2] 37 (0, 0))) ∧ Aside0 (Below w.heap.size w w'))
 case atStart => exact ⟨(0), Zc12, H', ⟨Nat.le_refl _⟩, ⟨by (with_reducible repeat (first | apply Kd.R_alloc | apply Kd.R_drewN | apply Kd.R_drew)); exact Kd.R_mono HO165.out (fun _ hk => hk.2)⟩, ⟨by (with_reducible repeat (first | apply Kd.R_alloc | apply Kd.R_drewN | apply Kd.R_drew)); exact Kd.R_mono HO161.out (fun _ hk => hk.2)⟩, ⟨by (with_reducible repeat (first | refine blk_drewN ?_ _ | refine blk_drew ?_ | refine blk_alloc ?_ _)); exact BK157.out⟩, ⟨by (with_reducible repeat (first | refine blk_drewN ?_ _ | refine blk_drew ?_ | refine blk_alloc ?_ _)); exact BK158.out⟩, ⟨by repeat (first | (with_reducible first | exact HB.out | apply below_alloc | apply pw_below_drewN | apply below_drew1 | refine below_set ?_ GE157.out | refine below_set ?_ GE158.out) | exact HB.out)⟩⟩
 case round =>
  clear H'
  try clear c1
  try clear c2
  try clear p2
  try clear c7
  try clear c12
  try clear hcz10_0
  try clear hcz10_1
  try clear hcz10_2
  try clear hcz8_0
  try clear hcz8_1
  try clear hcz8_2
  try clear hfz10_0
  try clear hfz10_1
  try clear hfz10_2
  try clear hfz8_0
  try clear hfz8_1
  try clear hfz8_2
  obtain ⟨x27_1, rfl, HA, HK1, HO_9, HO_25, BK157, BK158, HB⟩ := hrel
  cases gk with
  | zero => exact absurd HA.out (by simp [spec_ncMeet.l0])
  | succ k1 =>
   have H := HA.out
   clear HA
   simp only [spec_ncMeet.l0] at H
   by_cases c13 : x27_1 < (t159.length : Int)
   ·
    rw [if_pos c13] at H
    have c13b0 : decide (x27_1 < (t159.length : Int)) = true := decide_eq_true c13
    clear c13
    by_cases c14 : 0 ≤ x27_1
    ·
     rw [if_pos c14] at H
     have c14b0 : decide (0 ≤ x27_1) = true := decide_eq_true c14
     clear c14
     by_cases c15 : x27_1 < (t159.length : Int)
     ·
      rw [if_pos c15] at H
      have c15b0 : decide (x27_1 < (t159.length : Int)) = true := decide_eq_true c15
      clear c15
      have H' := Acq H
      clear H
      have p167 : 0 ≤ (x27_1 : Int) := of_decide_eq_true Zc13
      have q167 : x27_1 < (t159.length : Int) := of_decide_eq_true Zc13
      obtain ⟨ad167, e167, hx167_0, hx167_1⟩ := at_T27 (Kd.R_reads' HO_25.out).2.2 x27_1 p167 q167
      cases e167
      replace p167 := eq_true p167
      replace q167 := eq_true q167
      go_wp2_with (first | ((with_reducible refine gate_dst (N := 12) rfl ?_); refine box_event ?hg (N := 12) ?hd (cs := #[.int .i64 0, .int .i64 0]) (t := 27) ?hr ?_; (case hd => rfl); (case hg => rfl); (case hr => first | (go_simp; done) | (go_simp; rfl)); intro g168 hg w16 hbox hb; have n0_ := Acq (Kd.R_below (Kd.R_elderB (by (with_reducible repeat (first | apply Kd.R_alloc | apply Kd.R_drewN | apply Kd.R_drew)); exact HO_9.out) g168 (Nat.le_of_eq hg.symm)) hb); have n1_ := Acq (Kd.R_below (Kd.R_elderB (by (with_reducible repeat (first | apply Kd.R_alloc | apply Kd.R_drewN | apply Kd.R_drew)); exact HO_25.out) g168 (Nat.le_of_eq hg.symm)) hb); have n2_ := Acq (blk_below (g := g157) (o := .cells #[.int .i64 a0_0, .int .i64 a0_1, .string a0_2] 37 (0, 0)) Zc9 hb); have n3_ := Acq (blk_below (g := g158) (o := .cells #[.int .i64 a1_0, .int .i64 a1_1, .string a1_2] 37 (0, 0)) Zc10 hb); have n4_ := Acq (below_step Zc4 hb); have n5_ := Acq (hbox); have n6_ := Acq ((by rw [hg]; exact (below_size Zc4) : w.heap.size ≤ g168)); have n7_ := Acq ((by rw [hg]; exact (below_size Zc4) : w.heap.size ≤ g168)); have n8_ := Acq ((by rw [hg]; exact Nat.ne_of_lt (blk_lt (g := g157) (o := .cells #[.int .i64 a0_0, .int .i64 a0_1, .string a0_2] 37 (0, 0)) Zc9) : g157 ≠ g168)); have n9_ := Acq ((by rw [hg]; exact Nat.ne_of_gt (blk_lt (g := g157) (o := .cells #[.int .i64 a0_0, .int .i64 a0_1, .string a0_2] 37 (0, 0)) Zc9) : g168 ≠ g157)); have n10_ := Acq ((by rw [hg]; exact Nat.ne_of_lt (blk_lt (g := g158) (o := .cells #[.int .i64 a1_0, .int .i64 a1_1, .string a1_2] 37 (0, 0)) Zc10) : g158 ≠ g168)); have n11_ := Acq ((by rw [hg]; exact Nat.ne_of_gt (blk_lt (g := g158) (o := .cells #[.int .i64 a1_0, .int .i64 a1_1, .string a1_2] 37 (0, 0)) Zc10) : g168 ≠ g158)); clear HO_9; clear HO_25; clear BK157; clear BK158; clear HB; have HO_9 := n0_; have HO_25 := n1_; have BK157 := n2_; have BK158 := n3_; have HB := n4_; have BK168 := n5_; have GW168 := n6_; have GE168 := n7_; have NB157_168 := n8_; have NB168_157 := n9_; have NB158_168 := n10_; have NB168_158 := n11_; clear n0_ n1_ n2_ n3_ n4_ n5_ n6_ n7_ n8_ n9_ n10_ n11_; clear hb hbox hg; have hnb17 := NB168_157.out; have hnc17 := NB157_168.out; have hnb18 := NB168_158.out; have hnc18 := NB158_168.out; have hcz19_0 : w16.cell? ⟨g168, 0, none⟩ = some (.int .i64 0) := (blk_cell BK168.out 0).trans rfl; have hcz19_1 : w16.cell? ⟨g168, 1, none⟩ = some (.int .i64 0) := (blk_cell BK168.out 1).trans rfl; have hfz19_0 := blk_frozen BK168.out 0; have hfz19_1 := blk_frozen BK168.out 1; obtain ⟨Ao20, co20, eo20⟩ := Kd.R_slice HO_9.out; subst eo20))
      go_loopg [34] k1 (fun kq v34 w' => ∃ (x34_2 : Int), v34 = .int .i64 x34_2 ∧ Aside0 (spec_ncMeet.l1 kq t163 x27_1 t159 (t159.length : Int) x27_1 t163 (t163.length : Int) x34_2 ((rd_T27 t159 x27_1).f0) ((rd_T27 t159 x27_1).f1) = some (r1, r2, r3)) ∧ Aside0 (kq ≤ k1) ∧ Aside0 (Kd.R k27 27 w' w.heap.size (fun k_ => some k_ ≠ ((.slice (some ad167) t159.length co12) : Value).ownBlock ∧ k_ ≠ g168) (.slice Ao20 t163.length co20) t163) ∧ Aside0 (Kd.R k27 27 w' w.heap.size (fun k_ => some k_ ≠ ((.slice Ao20 t163.length co20) : Value).ownBlock ∧ some k_ ≠ ((.slice Ao20 t163.length co20) : Value).ownBlock ∧ k_ ≠ g168) (.slice (some ad167) t159.length co12) t159) ∧ Aside0 (Kd.R k27 27 w' w.heap.size (fun k_ => some k_ ≠ ((.slice (some ad167) t159.length co12) : Value).ownBlock ∧ k_ ≠ g168) (.slice Ao20 t163.length co20) t163) ∧ Aside0 (w'.heap[g157]? = some (.cells #[.int .i64 a0_0, .int .i64 a0_1, .string a0_2] 37 (0, 0))) ∧ Aside0 (w'.heap[g158]? = some (.cells #[.int .i64 a1_0, .int .i64 a1_1, .string a1_2] 37 (0, 0))) ∧ Aside0 (w'.heap[g168]? = some (.cells #[.int .i64 ((rd_T27 t159 x27_1).f0), .int .i64 ((rd_T27 t159 x27_1).f1)] 27 (0, 0))) ∧ Aside0 (Below w.heap.size w w'))
      case atStart => exact ⟨(0), Zc12, H', ⟨Nat.le_refl _⟩, ⟨by (with_reducible repeat (first | apply Kd.R_alloc | apply Kd.R_drewN | apply Kd.R_drew)); exact Kd.R_mono (Kd.R_far (p := ⟨g168, 1, none⟩) (Kd.R_far (p := ⟨g168, 0, none⟩) (Kd.R_mono HO_9.out (fun k_ hk => (⟨hk, hk.2⟩ : _ ∧ k_ ≠ g168))) (fun _ hk => hk.2) (.int .i64 ((rd_T27 t159 x27_1).f0))) (fun _ hk => hk.2) (.int .i64 ((rd_T27 t159 x27_1).f1))) (fun _ hk => ⟨hk.1.1, hk.1.2⟩)⟩, ⟨by (with_reducible repeat (first | apply Kd.R_alloc | apply Kd.R_drewN | apply Kd.R_drew)); exact Kd.R_mono (Kd.R_far (p := ⟨g168, 1, none⟩) (Kd.R_far (p := ⟨g168, 0, none⟩) (Kd.R_mono HO_25.out (fun k_ hk => (⟨hk, hk.2⟩ : _ ∧ k_ ≠ g168))) (fun _ hk => hk.2) (.int .i64 ((rd_T27 t159 x27_1).f0))) (fun _ hk => hk.2) (.int .i64 ((rd_T27 t159 x27_1).f1))) (fun _ hk => ⟨hk.1.1, ⟨hk.1.1, hk.1.2⟩⟩)⟩, ⟨by (with_reducible repeat (first | apply Kd.R_alloc | apply Kd.R_drewN | apply Kd.R_drew)); exact Kd.R_mono (Kd.R_far (p := ⟨g168, 1, none⟩) (Kd.R_far (p := ⟨g168, 0, none⟩) (Kd.R_mono HO_9.out (fun k_ hk => (⟨hk, hk.2⟩ : _ ∧ k_ ≠ g168))) (fun _ hk => hk.2) (.int .i64 ((rd_T27 t159 x27_1).f0))) (fun _ hk => hk.2) (.int .i64 ((rd_T27 t159 x27_1).f1))) (fun _ hk => ⟨hk.1.1, hk.1.2⟩)⟩, ⟨by (with_reducible repeat (first | refine blk_drewN ?_ _ | refine blk_drew ?_ | refine blk_alloc ?_ _)); refine blk_far ?_ NB157_168.out _; (with_reducible repeat (first | refine blk_drewN ?_ _ | refine blk_drew ?_ | refine blk_alloc ?_ _)); refine blk_far ?_ NB157_168.out _; (with_reducible repeat (first | refine blk_drewN ?_ _ | refine blk_drew ?_ | refine blk_alloc ?_ _)); exact BK157.out⟩, ⟨by (with_reducible repeat (first | refine blk_drewN ?_ _ | refine blk_drew ?_ | refine blk_alloc ?_ _)); refine blk_far ?_ NB158_168.out _; (with_reducible repeat (first | refine blk_drewN ?_ _ | refine blk_drew ?_ | refine blk_alloc ?_ _)); refine blk_far ?_ NB158_168.out _; (with_reducible repeat (first | refine blk_drewN ?_ _ | refine blk_drew ?_ | refine blk_alloc ?_ _)); exact BK158.out⟩, ⟨by (with_reducible repeat (first | refine blk_drewN ?_ _ | refine blk_drew ?_ | refine blk_alloc ?_ _)); refine blk_put (cs := #[.int .i64 ((rd_T27 t159 x27_1).f0), .int .i64 0]) ?_ 1 _ rfl; (with_reducible repeat (first | refine blk_drewN ?_ _ | refine blk_drew ?_ | refine blk_alloc ?_ _)); refine blk_put (cs := #[.int .i64 0, .int .i64 0]) ?_ 0 _ rfl; (with_reducible repeat (first | refine blk_drewN ?_ _ | refine blk_drew ?_ | refine blk_alloc ?_ _)); exact BK168.out⟩, ⟨by repeat (first | (with_reducible first | exact HB.out | apply below_alloc | apply pw_below_drewN | apply below_drew1 | refine below_set ?_ GE157.out | refine below_set ?_ GE158.out | refine below_set ?_ GE168.out) | exact HB.out)⟩⟩
      case round =>
       clear H'
       try clear c1
       try clear p1
       try clear q1
       try clear hx1
       try clear c2
       try clear p2
       try clear c7
       try clear c12
       try clear c13
       try clear c13b0
       try clear c14
       try clear c14b0
       try clear c15
       try clear c15b0
       try clear p16
       try clear q16
       try clear hx16
       try clear c17
       try clear c18
       try clear hcz10_0
       try clear hcz10_1
       try clear hcz10_2
       try clear hcz19_0
       try clear hcz19_1
       try clear hcz8_0
       try clear hcz8_1
       try clear hcz8_2
       try clear hfz10_0
       try clear hfz10_1
       try clear hfz10_2
       try clear hfz19_0
       try clear hfz19_1
       try clear hfz8_0
       try clear hfz8_1
       try clear hfz8_2
       try clear hx167_0
       try clear hx167_1
       try clear p167
       try clear p2
       try clear q167
       obtain ⟨x34_2, rfl, HA, HK2, HO_9, HO_25, HO_32, BK157, BK158, BK168, HB⟩ := hrel
       cases gk with
       | zero => exact absurd HA.out (by simp [spec_ncMeet.l1])
       | succ k2 =>
        have H := HA.out
        clear HA
        simp only [spec_ncMeet.l1] at H
        by_cases c21 : x34_2 < (t163.length : Int)
        ·
         rw [if_pos c21] at H
         have c21b0 : decide (x34_2 < (t163.length : Int)) = true := decide_eq_true c21
         clear c21
         by_cases c22 : 0 ≤ x34_2
         ·
          rw [if_pos c22] at H
          have c22b0 : decide (0 ≤ x34_2) = true := decide_eq_true c22
          clear c22
          by_cases c23 : x34_2 < (t163.length : Int)
          ·
           rw [if_pos c23] at H
           have c23b0 : decide (x34_2 < (t163.length : Int)) = true := decide_eq_true c23
           clear c23
           by_cases c24 : (((rd_T27 t159 x27_1).f0) == ((rd_T27 t163 x34_2).f0) && (((rd_T27 t159 x27_1).f1) == ((rd_T27 t163 x34_2).f1))) = true
           ·
            rw [if_pos c24] at H
            have c24b0 : (((rd_T27 t159 x27_1).f0) == ((rd_T27 t163 x34_2).f0) && (((rd_T27 t159 x27_1).f1) == ((rd_T27 t163 x34_2).f1))) = true := c24
            (try (have c24b1 : decide (((rd_T27 t159 x27_1).f0) = ((rd_T27 t163 x34_2).f0) && (((rd_T27 t159 x27_1).f1) == ((rd_T27 t163 x34_2).f1))) = true := by simpa using c24))
            (try (have c24b2 : (((rd_T27 t159 x27_1).f0) == ((rd_T27 t163 x34_2).f0) && (((rd_T27 t159 x27_1).f1) == ((rd_T27 t163 x34_2).f1))) = true := by simpa using c24))
            clear c24
            simp only [Option.some.injEq, Prod.mk.injEq] at H
            obtain ⟨rfl, rfl, rfl⟩ := H
            have p169 : 0 ≤ (x34_2 : Int) := of_decide_eq_true Zc13
            have q169 : x34_2 < (t163.length : Int) := of_decide_eq_true Zc13
            obtain ⟨ad169, e169, hx169_0, hx169_1⟩ := at_T27 (Kd.R_reads' HO_32.out).2.2 x34_2 p169 q169
            cases e169
            replace p169 := eq_true p169
            replace q169 := eq_true q169
            go_wp2_with (first | ((with_reducible refine gate_dst (N := 14) rfl ?_); refine box_event ?hg (N := 14) ?hd (cs := #[.int .i64 0, .int .i64 0]) (t := 27) ?hr ?_; (case hd => rfl); (case hg => rfl); (case hr => first | (go_simp; done) | (go_simp; rfl)); intro g170 hg w25 hbox hb; have n0_ := Acq (Kd.R_below (Kd.R_elderB (by (with_reducible repeat (first | apply Kd.R_alloc | apply Kd.R_drewN | apply Kd.R_drew)); exact HO_9.out) g170 (Nat.le_of_eq hg.symm)) hb); have n1_ := Acq (Kd.R_below (Kd.R_elderB (by (with_reducible repeat (first | apply Kd.R_alloc | apply Kd.R_drewN | apply Kd.R_drew)); exact HO_25.out) g170 (Nat.le_of_eq hg.symm)) hb); have n2_ := Acq (Kd.R_below (Kd.R_elderB (by (with_reducible repeat (first | apply Kd.R_alloc | apply Kd.R_drewN | apply Kd.R_drew)); exact HO_32.out) g170 (Nat.le_of_eq hg.symm)) hb); have n3_ := Acq (blk_below (g := g157) (o := .cells #[.int .i64 a0_0, .int .i64 a0_1, .string a0_2] 37 (0, 0)) Zc9 hb); have n4_ := Acq (blk_below (g := g158) (o := .cells #[.int .i64 a1_0, .int .i64 a1_1, .string a1_2] 37 (0, 0)) Zc10 hb); have n5_ := Acq (blk_below (g := g168) (o := .cells #[.int .i64 ((rd_T27 t159 x27_1).f0), .int .i64 ((rd_T27 t159 x27_1).f1)] 27 (0, 0)) Zc11 hb); have n6_ := Acq (below_step (by repeat (first | (with_reducible first | exact HB.out | apply below_alloc | apply pw_below_drewN | apply below_drew1 | refine below_set ?_ GE157.out | refine below_set ?_ GE158.out | refine below_set ?_ GE168.out) | exact HB.out)) hb); have n7_ := Acq (hbox); have n8_ := Acq ((Zc1 : w.heap.size ≤ g170)); have n9_ := Acq ((Zc1 : w.heap.size ≤ g170)); have n10_ := Acq ((by rw [hg]; exact Nat.ne_of_lt (blk_lt (g := g157) (o := .cells #[.int .i64 a0_0, .int .i64 a0_1, .string a0_2] 37 (0, 0)) Zc9) : g157 ≠ g170)); have n11_ := Acq ((by rw [hg]; exact Nat.ne_of_gt (blk_lt (g := g157) (o := .cells #[.int .i64 a0_0, .int .i64 a0_1, .string a0_2] 37 (0, 0)) Zc9) : g170 ≠ g157)); have n12_ := Acq ((by rw [hg]; exact Nat.ne_of_lt (blk_lt (g := g158) (o := .cells #[.int .i64 a1_0, .int .i64 a1_1, .string a1_2] 37 (0, 0)) Zc10) : g158 ≠ g170)); have n13_ := Acq ((by rw [hg]; exact Nat.ne_of_gt (blk_lt (g := g158) (o := .cells #[.int .i64 a1_0, .int .i64 a1_1, .string a1_2] 37 (0, 0)) Zc10) : g170 ≠ g158)); have n14_ := Acq ((by rw [hg]; exact Nat.ne_of_lt (blk_lt (g := g168) (o := .cells #[.int .i64 ((rd_T27 t159 x27_1).f0), .int .i64 ((rd_T27 t159 x27_1).f1)] 27 (0, 0)) Zc11) : g168 ≠ g170)); have n15_ := Acq ((by rw [hg]; exact Nat.ne_of_gt (blk_lt (g := g168) (o := .cells #[.int .i64 ((rd_T27 t159 x27_1).f0), .int .i64 ((rd_T27 t159 x27_1).f1)] 27 (0, 0)) Zc11) : g170 ≠ g168)); clear HO_9; clear HO_25; clear HO_32; clear BK157; clear BK158; clear BK168; clear HB; have HO_9 := n0_; have HO_25 := n1_; have HO_32 := n2_; have BK157 := n3_; have BK158 := n4_; have BK168 := n5_; have HB := n6_; have BK170 := n7_; have GW170 := n8_; have GE170 := n9_; have NB157_170 := n10_; have NB170_157 := n11_; have NB158_170 := n12_; have NB170_158 := n13_; have NB168_170 := n14_; have NB170_168 := n15_; clear n0_ n1_ n2_ n3_ n4_ n5_ n6_ n7_ n8_ n9_ n10_ n11_ n12_ n13_ n14_ n15_; clear hb hbox hg; have hnb26 := NB170_157.out; have hnc26 := NB157_170.out; have hnb27 := NB170_158.out; have hnc27 := NB158_170.out; have hnb28 := NB170_168.out; have hnc28 := NB168_170.out; have hcz29_0 : w25.cell? ⟨g170, 0, none⟩ = some (.int .i64 0) := (blk_cell BK170.out 0).trans rfl; have hcz29_1 : w25.cell? ⟨g170, 1, none⟩ = some (.int .i64 0) := (blk_cell BK170.out 1).trans rfl; have hfz29_0 := blk_frozen BK170.out 0; have hfz29_1 := blk_frozen BK170.out 1; have hnb30 := NB168_157.out; have hnc30 := NB157_168.out; have hnb31 := NB168_158.out; have hnc31 := NB158_168.out; have hcz32_0 : w25.cell? ⟨g168, 0, none⟩ = some (.int .i64 ((rd_T27 t159 x27_1).f0)) := (blk_cell BK168.out 0).trans rfl; have hcz32_1 : w25.cell? ⟨g168, 1, none⟩ = some (.int .i64 ((rd_T27 t159 x27_1).f1)) := (blk_cell BK168.out 1).trans rfl; have hfz32_0 := blk_frozen BK168.out 0; have hfz32_1 := blk_frozen BK168.out 1))
            go_ret3
            exact ⟨Zrc, by repeat (first | (with_reducible first | exact HB.out | apply below_alloc | apply pw_below_drewN | apply below_drew1 | refine below_set ?_ GE157.out | refine below_set ?_ GE158.out | refine below_set ?_ GE168.out | refine below_set ?_ GE170.out) | exact HB.out)⟩
           ·
            rw [if_neg c24] at H
            have c24b0 : (((rd_T27 t159 x27_1).f0) == ((rd_T27 t163 x34_2).f0) && (((rd_T27 t159 x27_1).f1) == ((rd_T27 t163 x34_2).f1))) = false := by simpa using c24
            (try (have c24b1 : decide (((rd_T27 t159 x27_1).f0) = ((rd_T27 t163 x34_2).f0) && (((rd_T27 t159 x27_1).f1) == ((rd_T27 t163 x34_2).f1))) = false := by simpa using c24))
            (try (have c24b2 : (((rd_T27 t159 x27_1).f0) == ((rd_T27 t163 x34_2).f0) && (((rd_T27 t159 x27_1).f1) == ((rd_T27 t163 x34_2).f1))) = false := by simpa using c24))
            (try (have c24b3 : ¬ (((rd_T27 t159 x27_1).f0) = ((rd_T27 t163 x34_2).f0) && (((rd_T27 t159 x27_1).f1) == ((rd_T27 t163 x34_2).f1))) := by simpa using c24))
            clear c24
            have H' := Acq H
            clear H
            have p169 : 0 ≤ (x34_2 : Int) := of_decide_eq_true Zc13
            have q169 : x34_2 < (t163.length : Int) := of_decide_eq_true Zc13
            obtain ⟨ad169, e169, hx169_0, hx169_1⟩ := at_T27 (Kd.R_reads' HO_32.out).2.2 x34_2 p169 q169
            cases e169
            replace p169 := eq_true p169
            replace q169 := eq_true q169
            go_wp2_with (first | ((with_reducible refine gate_dst (N := 14) rfl ?_); refine box_event ?hg (N := 14) ?hd (cs := #[.int .i64 0, .int .i64 0]) (t := 27) ?hr ?_; (case hd => rfl); (case hg => rfl); (case hr => first | (go_simp; done) | (go_simp; rfl)); intro g170 hg w33 hbox hb; have n0_ := Acq (Kd.R_below (Kd.R_elderB (by (with_reducible repeat (first | apply Kd.R_alloc | apply Kd.R_drewN | apply Kd.R_drew)); exact HO_9.out) g170 (Nat.le_of_eq hg.symm)) hb); have n1_ := Acq (Kd.R_below (Kd.R_elderB (by (with_reducible repeat (first | apply Kd.R_alloc | apply Kd.R_drewN | apply Kd.R_drew)); exact HO_25.out) g170 (Nat.le_of_eq hg.symm)) hb); have n2_ := Acq (Kd.R_below (Kd.R_elderB (by (with_reducible repeat (first | apply Kd.R_alloc | apply Kd.R_drewN | apply Kd.R_drew)); exact HO_32.out) g170 (Nat.le_of_eq hg.symm)) hb); have n3_ := Acq (blk_below (g := g157) (o := .cells #[.int .i64 a0_0, .int .i64 a0_1, .string a0_2] 37 (0, 0)) Zc9 hb); have n4_ := Acq (blk_below (g := g158) (o := .cells #[.int .i64 a1_0, .int .i64 a1_1, .string a1_2] 37 (0, 0)) Zc10 hb); have n5_ := Acq (blk_below (g := g168) (o := .cells #[.int .i64 ((rd_T27 t159 x27_1).f0), .int .i64 ((rd_T27 t159 x27_1).f1)] 27 (0, 0)) Zc11 hb); have n6_ := Acq (below_step (by repeat (first | (with_reducible first | exact HB.out | apply below_alloc | apply pw_below_drewN | apply below_drew1 | refine below_set ?_ GE157.out | refine below_set ?_ GE158.out | refine below_set ?_ GE168.out) | exact HB.out)) hb); have n7_ := Acq (hbox); have n8_ := Acq ((Zc1 : w.heap.size ≤ g170)); have n9_ := Acq ((Zc1 : w.heap.size ≤ g170)); have n10_ := Acq ((by rw [hg]; exact Nat.ne_of_lt (blk_lt (g := g157) (o := .cells #[.int .i64 a0_0, .int .i64 a0_1, .string a0_2] 37 (0, 0)) Zc9) : g157 ≠ g170)); have n11_ := Acq ((by rw [hg]; exact Nat.ne_of_gt (blk_lt (g := g157) (o := .cells #[.int .i64 a0_0, .int .i64 a0_1, .string a0_2] 37 (0, 0)) Zc9) : g170 ≠ g157)); have n12_ := Acq ((by rw [hg]; exact Nat.ne_of_lt (blk_lt (g := g158) (o := .cells #[.int .i64 a1_0, .int .i64 a1_1, .string a1_2] 37 (0, 0)) Zc10) : g158 ≠ g170)); have n13_ := Acq ((by rw [hg]; exact Nat.ne_of_gt (blk_lt (g := g158) (o := .cells #[.int .i64 a1_0, .int .i64 a1_1, .string a1_2] 37 (0, 0)) Zc10) : g170 ≠ g158)); have n14_ := Acq ((by rw [hg]; exact Nat.ne_of_lt (blk_lt (g := g168) (o := .cells #[.int .i64 ((rd_T27 t159 x27_1).f0), .int .i64 ((rd_T27 t159 x27_1).f1)] 27 (0, 0)) Zc11) : g168 ≠ g170)); have n15_ := Acq ((by rw [hg]; exact Nat.ne_of_gt (blk_lt (g := g168) (o := .cells #[.int .i64 ((rd_T27 t159 x27_1).f0), .int .i64 ((rd_T27 t159 x27_1).f1)] 27 (0, 0)) Zc11) : g170 ≠ g168)); clear HO_9; clear HO_25; clear HO_32; clear BK157; clear BK158; clear BK168; clear HB; have HO_9 := n0_; have HO_25 := n1_; have HO_32 := n2_; have BK157 := n3_; have BK158 := n4_; have BK168 := n5_; have HB := n6_; have BK170 := n7_; have GW170 := n8_; have GE170 := n9_; have NB157_170 := n10_; have NB170_157 := n11_; have NB158_170 := n12_; have NB170_158 := n13_; have NB168_170 := n14_; have NB170_168 := n15_; clear n0_ n1_ n2_ n3_ n4_ n5_ n6_ n7_ n8_ n9_ n10_ n11_ n12_ n13_ n14_ n15_; clear hb hbox hg; have hnb34 := NB170_157.out; have hnc34 := NB157_170.out; have hnb35 := NB170_158.out; have hnc35 := NB158_170.out; have hnb36 := NB170_168.out; have hnc36 := NB168_170.out; have hcz37_0 : w33.cell? ⟨g170, 0, none⟩ = some (.int .i64 0) := (blk_cell BK170.out 0).trans rfl; have hcz37_1 : w33.cell? ⟨g170, 1, none⟩ = some (.int .i64 0) := (blk_cell BK170.out 1).trans rfl; have hfz37_0 := blk_frozen BK170.out 0; have hfz37_1 := blk_frozen BK170.out 1; have hnb38 := NB168_157.out; have hnc38 := NB157_168.out; have hnb39 := NB168_158.out; have hnc39 := NB158_168.out; have hcz40_0 : w33.cell? ⟨g168, 0, none⟩ = some (.int .i64 ((rd_T27 t159 x27_1).f0)) := (blk_cell BK168.out 0).trans rfl; have hcz40_1 : w33.cell? ⟨g168, 1, none⟩ = some (.int .i64 ((rd_T27 t159 x27_1).f1)) := (blk_cell BK168.out 1).trans rfl; have hfz40_0 := blk_frozen BK168.out 0; have hfz40_1 := blk_frozen BK168.out 1))
            go_roundg k2
            case measure => have := HK1.out; have := HK2.out; omega
            case rel => exact ⟨(wrap64 (x34_2 + 1)), Zc12, H', ⟨by have := HK1.out; have := HK2.out; omega⟩, ⟨by (with_reducible repeat (first | apply Kd.R_alloc | apply Kd.R_drewN | apply Kd.R_drew)); exact Kd.R_mono (Kd.R_far (p := ⟨g170, 1, none⟩) (Kd.R_far (p := ⟨g170, 0, none⟩) (Kd.R_mono HO_9.out (fun k_ hk => (⟨hk, hk.2⟩ : _ ∧ k_ ≠ g170))) (fun _ hk => hk.2) (.int .i64 ((rd_T27 t163 x34_2).f0))) (fun _ hk => hk.2) (.int .i64 ((rd_T27 t163 x34_2).f1))) (fun _ hk => ⟨hk.1.1.1, hk.1.1.2⟩)⟩, ⟨by (with_reducible repeat (first | apply Kd.R_alloc | apply Kd.R_drewN | apply Kd.R_drew)); exact Kd.R_mono (Kd.R_far (p := ⟨g170, 1, none⟩) (Kd.R_far (p := ⟨g170, 0, none⟩) (Kd.R_mono HO_25.out (fun k_ hk => (⟨hk, hk.2⟩ : _ ∧ k_ ≠ g170))) (fun _ hk => hk.2) (.int .i64 ((rd_T27 t163 x34_2).f0))) (fun _ hk => hk.2) (.int .i64 ((rd_T27 t163 x34_2).f1))) (fun _ hk => ⟨hk.1.1.1, ⟨hk.1.1.2.1, hk.1.1.2.2⟩⟩)⟩, ⟨by (with_reducible repeat (first | apply Kd.R_alloc | apply Kd.R_drewN | apply Kd.R_drew)); exact Kd.R_mono (Kd.R_far (p := ⟨g170, 1, none⟩) (Kd.R_far (p := ⟨g170, 0, none⟩) (Kd.R_mono HO_32.out (fun k_ hk => (⟨hk, hk.2⟩ : _ ∧ k_ ≠ g170))) (fun _ hk => hk.2) (.int .i64 ((rd_T27 t163 x34_2).f0))) (fun _ hk => hk.2) (.int .i64 ((rd_T27 t163 x34_2).f1))) (fun _ hk => ⟨hk.1.1.1, hk.1.1.2⟩)⟩, ⟨by (with_reducible repeat (first | refine blk_drewN ?_ _ | refine blk_drew ?_ | refine blk_alloc ?_ _)); refine blk_far ?_ NB157_170.out _; (with_reducible repeat (first | refine blk_drewN ?_ _ | refine blk_drew ?_ | refine blk_alloc ?_ _)); refine blk_far ?_ NB157_170.out _; (with_reducible repeat (first | refine blk_drewN ?_ _ | refine blk_drew ?_ | refine blk_alloc ?_ _)); exact BK157.out⟩, ⟨by (with_reducible repeat (first | refine blk_drewN ?_ _ | refine blk_drew ?_ | refine blk_alloc ?_ _)); refine blk_far ?_ NB158_170.out _; (with_reducible repeat (first | refine blk_drewN ?_ _ | refine blk_drew ?_ | refine blk_alloc ?_ _)); refine blk_far ?_ NB158_170.out _; (with_reducible repeat (first | refine blk_drewN ?_ _ | refine blk_drew ?_ | refine blk_alloc ?_ _)); exact BK158.out⟩, ⟨by (with_reducible repeat (first | refine blk_drewN ?_ _ | refine blk_drew ?_ | refine blk_alloc ?_ _)); refine blk_far ?_ NB168_170.out _; (with_reducible repeat (first | refine blk_drewN ?_ _ | refine blk_drew ?_ | refine blk_alloc ?_ _)); refine blk_far ?_ NB168_170.out _; (with_reducible repeat (first | refine blk_drewN ?_ _ | refine blk_drew ?_ | refine blk_alloc ?_ _)); exact BK168.out⟩, ⟨by repeat (first | (with_reducible first | exact HB.out | apply below_alloc | apply pw_below_drewN | apply below_drew1 | refine below_set ?_ GE157.out | refine below_set ?_ GE158.out | refine below_set ?_ GE168.out | refine below_set ?_ GE170.out) | exact HB.out)⟩⟩
          ·
           rw [if_neg c23] at H
           exact absurd H (by simp)
         ·
          rw [if_neg c22] at H
          exact absurd H (by simp)
        ·
         rw [if_neg c21] at H
         have c21b0 : decide (x34_2 < (t163.length : Int)) = false := decide_eq_false c21
         clear c21
         have H' := Acq H
         clear H
         go_wp2
         go_roundg k2
         case measure => have := HK1.out; have := HK2.out; omega
         case rel => exact ⟨(wrap64 (x27_1 + 1)), Zc12, H', ⟨by have := HK1.out; have := HK2.out; omega⟩, ⟨by (with_reducible repeat (first | apply Kd.R_alloc | apply Kd.R_drewN | apply Kd.R_drew)); exact Kd.R_mono HO_9.out (fun _ hk => hk.1)⟩, ⟨by (with_reducible repeat (first | apply Kd.R_alloc | apply Kd.R_drewN | apply Kd.R_drew)); exact Kd.R_mono HO_25.out (fun _ hk => hk.1)⟩, ⟨by (with_reducible repeat (first | refine blk_drewN ?_ _ | refine blk_drew ?_ | refine blk_alloc ?_ _)); exact BK157.out⟩, ⟨by (with_reducible repeat (first | refine blk_drewN ?_ _ | refine blk_drew ?_ | refine blk_alloc ?_ _)); exact BK158.out⟩, ⟨by repeat (first | (with_reducible first | exact HB.out | apply below_alloc | apply pw_below_drewN | apply below_drew1 | refine below_set ?_ GE157.out | refine below_set ?_ GE158.out | refine below_set ?_ GE168.out) | exact HB.out)⟩⟩
     ·
      rw [if_neg c15] at H
      exact absurd H (by simp)
    ·
     rw [if_neg c14] at H
     exact absurd H (by simp)
   ·
    rw [if_neg c13] at H
    have c13b0 : decide (x27_1 < (t159.length : Int)) = false := decide_eq_false c13
    clear c13
    simp only [Option.some.injEq, Prod.mk.injEq] at H
    obtain ⟨rfl, rfl, rfl⟩ := H
    go_wp2
    go_ret3
    exact ⟨Zrc, by repeat (first | (with_reducible first | exact HB.out | apply below_alloc | apply pw_below_drewN | apply below_drew1 | refine below_set ?_ GE157.out | refine below_set ?_ GE158.out) | exact HB.out)⟩

end Go.Proofs.Ythlbbngmgioamaa.OFnExactAllPairsApart
