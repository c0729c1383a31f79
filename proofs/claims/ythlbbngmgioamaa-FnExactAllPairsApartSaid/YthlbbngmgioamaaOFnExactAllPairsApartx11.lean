/- The functions that 'FnExactAllPairsApart' runs, each as a function over numbers and lists, with the proof that the Go text comes to its answers. No condition. -/
import Derived.Test.YthlbbngmgioamaaOFnExactAllPairsApartx0
import Derived.Test.YthlbbngmgioamaaOFnExactAllPairsApartx5
import Derived.Test.YthlbbngmgioamaaOFnExactAllPairsApartx6
import Derived.Test.YthlbbngmgioamaaOFnExactAllPairsApartx8
import Derived.Test.YthlbbngmgioamaaOFnExactAllPairsApartx9
import Derived.Test.YthlbbngmgioamaaOFnExactAllPairsApartx10
namespace Go.Proofs.Ythlbbngmgioamaa.OFnExactAllPairsApart
open Go.Proofs.Ythlbbngmgioamaa.Stub
open Go.RowKit Go.Proofs.YthlbbngmgioamaaW.PrintWords Go.Proofs.YthlbbngmgioamaaW.PrintLast Go.Proofs.YthlbbngmgioamaaW.PrintMore
attribute [local go_sem] max2_int min2_int max_two min_two max_three min_three max_four min_four   -- for this text's walks alone
set_option linter.unusedVariables false
set_option linter.unusedSimpArgs false

theorem Zbj {p : Prop} (h : p := by repeat (first | (with_reducible first | exact HB.out | apply below_alloc | apply pw_below_drewN | apply below_drew1) | exact HB.out)) : p := h
theorem Zsj {p : Prop} (h : p := by first | rfl | (simp; done) | (simp [*]; done)) : p := h
theorem y1j {α : Type} (l : List α) (i : Nat) (a : α) : l.toArray.setIfInBounds i a = (l.set i a).toArray := List.setIfInBounds_toArray l i a
theorem y2j {α : Type} {x : α} {xs : List α} {b : α} : (x :: xs).set 0 b = b :: xs := List.set_cons_zero
theorem y3j {α : Type} {x : α} {xs : List α} {n : Nat} {b : α} : (x :: xs).set (n + 1) b = x :: xs.set n b := List.set_cons_succ
theorem Ajq {p : Prop} (h : p) : Aside0 p := Aside0.mk h
theorem Zj1 {p : Prop} (h : p := by repeat (first | (with_reducible first | exact HB.out | apply below_alloc | apply pw_below_drewN | apply below_drew1 | refine below_set ?_ GE314.out | refine below_set ?_ GE315.out | refine below_set ?_ GE316.out | refine below_set ?_ GE317.out) | exact HB.out)) : p := h
theorem Zj2 {p : Prop} (h : p := by repeat (first | (with_reducible first | exact HB.out | apply below_alloc | apply pw_below_drewN | apply below_drew1 | refine below_set ?_ GE314.out | refine below_set ?_ GE315.out | refine below_set ?_ GE316.out) | exact HB.out)) : p := h
theorem Zj3 {p : Prop} (h : p := by repeat (first | (with_reducible first | exact HB.out | apply below_alloc | apply pw_below_drewN | apply below_drew1 | refine below_set ?_ GE314.out | refine below_set ?_ GE315.out) | exact HB.out)) : p := h
theorem Zj4 {p : Prop} (h : p := by (try simp only [List.map_toArray, List.map_cons, List.map_nil]); first | done | rfl | (simp only [List.length_drop, List.length_take]; rfl)) : p := h
theorem Zj5 {p : Prop} (h : p := by (with_reducible repeat (first | refine blk_drewN ?_ _ | refine blk_drew ?_ | refine blk_alloc ?_ _)); exact BK314.out) : p := h
theorem Zj6 {p : Prop} (h : p := by (with_reducible repeat (first | refine blk_drewN ?_ _ | refine blk_drew ?_ | refine blk_alloc ?_ _)); exact BK315.out) : p := h
theorem Zj7 {p : Prop} (h : p := by (with_reducible repeat (first | refine blk_drewN ?_ _ | refine blk_drew ?_ | refine blk_alloc ?_ _)); exact BK316.out) : p := h
theorem Zj8 {p : Prop} (h : p := by (with_reducible repeat (first | refine blk_drewN ?_ _ | refine blk_drew ?_ | refine blk_alloc ?_ _)); exact BK317.out) : p := h
theorem Zj9 {p : Prop} (h : p := by (with_reducible repeat (first | apply Kd.S_alloc | apply Kd.S_drewN | apply Kd.S_drew)); exact HO328.out) : p := h
theorem Zj10 {p : Prop} (h : p := by (with_reducible repeat (first | apply Kd.S_alloc | apply Kd.S_drewN | apply Kd.S_drew)); exact HO_11.out) : p := h
theorem Zj11 {p : Prop} (h : p := by (with_reducible repeat (first | apply Kd.S_alloc | apply Kd.S_drewN | apply Kd.S_drew)); exact HO_9.out) : p := h
theorem Zj12 {p : Prop} (h : p := by kernel_rfl) : p := h
theorem S_split {α β : Type} {d : Kd α} {d' : Kd β} {e e' base base' : Nat} {ok okv : Nat → Prop} {W w1 : World} {u v : Value} {xs : List α} {ys : List β} (h : Kd.S d e W base ok u xs) (ho : Kd.S d' e' w1 W.heap.size okv v ys) (hb : Below W.heap.size W w1) (hl : base' ≤ W.heap.size) :
    ∃ N, N = W.heap.size ∧ Kd.S d e w1 base (fun k => k < N) u xs ∧ Kd.S d' e' w1 base' (fun k => N ≤ k) v ys :=
  ⟨_, rfl, Kd.S_mono (Kd.S_old h hb) (fun _ hk => hk.2), Kd.S_lower (Kd.S_mono (Kd.S_bound ho) (fun _ hk => hk.2.1)) hl⟩
/-! ### laws_FnExactAllPairsApart: function 3 -/
mutual
def laws_FnExactAllPairsApart.j0 : Nat → List (List (S37)) → Bool → List (List (S37)) → Bool → Int → Int → Int → Int → Int → Int → Int → Int → Option (Bool)
  | 0, _, _, _, _, _, _, _, _, _, _, _, _ => none
  | k + 1, x9, x10, x11, x49, x315000, x315001, x316000, x316001, x317000, x317001, x318000, x318001 => if x49 = true then (none) else ((laws_markWaySS.f k x11 1).bind fun bt343 => ((laws_heldWaySS.f k bt343.2 1).bind fun t345 => (if t345 < 0 then (none) else (if t345 = bt343.1 then ((laws_toCell.f x315000 x315001).bind fun bt346 => ((laws_toCell.f x316000 x316001).bind fun bt348 => ((laws_toCell.f x317000 x317001).bind fun bt350 => ((laws_toCell.f x318000 x318001).bind fun bt352 => ((impl_AllPairsApart.f k bt346.1 bt346.2 bt348.1 bt348.2 bt350.1 bt350.2 bt352.1 bt352.2).bind fun bt354 => ((laws_eqWaySS.f k bt354.1 x9).bind fun t358 => (if t358 = true then (laws_FnExactAllPairsApart.j1 k bt343.2 bt343.1 (bt354.2 != x10)) else (laws_FnExactAllPairsApart.j1 k bt343.2 bt343.1 true)))))))) else (none)))))
def laws_FnExactAllPairsApart.j1 : Nat → List (List (S37)) → Int → Bool → Option (Bool)
  | 0, _, _, _ => none
  | k + 1, x11, x13, x81 => if x81 = true then (none) else ((laws_heldWaySS.f k x11 1).bind fun t359 => (if t359 < 0 then (none) else (if t359 = x13 then (some true) else (none))))
end
def laws_FnExactAllPairsApart.f (k : Nat) (a0_0 : Int) (a0_1 : Int) (a1_0 : Int) (a1_1 : Int) (a2_0 : Int) (a2_1 : Int) (a3_0 : Int) (a3_1 : Int) : Option (Bool) := (laws_toCell.f a0_0 a0_1).bind fun bt318 => ((laws_toCell.f a1_0 a1_1).bind fun bt320 => ((laws_toCell.f a2_0 a2_1).bind fun bt322 => ((laws_toCell.f a3_0 a3_1).bind fun bt324 => ((spec_AllPairsApart.f k bt318.1 bt318.2 bt320.1 bt320.2 bt322.1 bt322.2 bt324.1 bt324.2).bind fun bt326 => ((laws_toCell.f a0_0 a0_1).bind fun bt330 => ((laws_toCell.f a1_0 a1_1).bind fun bt332 => ((laws_toCell.f a2_0 a2_1).bind fun bt334 => ((laws_toCell.f a3_0 a3_1).bind fun bt336 => ((impl_AllPairsApart.f k bt330.1 bt330.2 bt332.1 bt332.2 bt334.1 bt334.2 bt336.1 bt336.2).bind fun bt338 => ((laws_eqWaySS.f k bt338.1 bt326.1).bind fun t342 => (if t342 = true then (laws_FnExactAllPairsApart.j0 k bt326.1 bt326.2 bt338.1 (bt338.2 != bt326.2) a0_0 a0_1 a1_0 a1_1 a2_0 a2_1 a3_0 a3_1) else (laws_FnExactAllPairsApart.j0 k bt326.1 bt326.2 bt338.1 true a0_0 a0_1 a1_0 a1_1 a2_0 a2_1 a3_0 a3_1))))))))))))
theorem laws_FnExactAllPairsApart.mono_l : ∀ k, (∀ y0 y1 y2 y3 y4 y5 y6 y7 y8 y9 y10 y11, LeO (laws_FnExactAllPairsApart.j0 k y0 y1 y2 y3 y4 y5 y6 y7 y8 y9 y10 y11) (laws_FnExactAllPairsApart.j0 (k + 1) y0 y1 y2 y3 y4 y5 y6 y7 y8 y9 y10 y11)) ∧ (∀ y0 y1 y2, LeO (laws_FnExactAllPairsApart.j1 k y0 y1 y2) (laws_FnExactAllPairsApart.j1 (k + 1) y0 y1 y2))
  | 0 => ⟨fun _ _ _ _ _ _ _ _ _ _ _ _ r h => by simp [laws_FnExactAllPairsApart.j0] at h, fun _ _ _ r h => by simp [laws_FnExactAllPairsApart.j1] at h⟩
  | k + 1 => by
    obtain ⟨ih0, ih1⟩ := laws_FnExactAllPairsApart.mono_l k
    refine ⟨?_, ?_⟩
    · intro y0 y1 y2 y3 y4 y5 y6 y7 y8 y9 y10 y11
      unfold laws_FnExactAllPairsApart.j0
      repeat' first
      | (with_reducible exact ih0 _ _ _ _ _ _ _ _ _ _ _ _)
      | (with_reducible exact ih1 _ _ _)
      | (with_reducible exact impl_AllPairsApart.mono _ _ _ _ _ _ _ _ _)
      | (with_reducible exact laws_eqWaySS.mono _ _ _)
      | (with_reducible exact laws_heldWaySS.mono _ _ _)
      | (with_reducible exact laws_markWaySS.mono _ _ _)
      | (with_reducible exact spec_AllPairsApart.mono _ _ _ _ _ _ _ _ _)
      | (with_reducible exact LeO.refl _)
      | (with_reducible exact LeO.none _)
      | (with_reducible refine LeO.ite ?_ ?_)
      | (with_reducible refine LeO.bind ?_ (fun _ => ?_))
      | exact ih0 _ _ _ _ _ _ _ _ _ _ _ _
      | exact ih1 _ _ _
      | exact impl_AllPairsApart.mono _ _ _ _ _ _ _ _ _
      | exact laws_eqWaySS.mono _ _ _
      | exact laws_heldWaySS.mono _ _ _
      | exact laws_markWaySS.mono _ _ _
      | exact spec_AllPairsApart.mono _ _ _ _ _ _ _ _ _
      | exact LeO.none _
      | refine LeO.ite ?_ ?_
      | refine LeO.bind ?_ (fun _ => ?_)
    · intro y0 y1 y2
      unfold laws_FnExactAllPairsApart.j1
      repeat' first
      | (with_reducible exact ih0 _ _ _ _ _ _ _ _ _ _ _ _)
      | (with_reducible exact ih1 _ _ _)
      | (with_reducible exact impl_AllPairsApart.mono _ _ _ _ _ _ _ _ _)
      | (with_reducible exact laws_eqWaySS.mono _ _ _)
      | (with_reducible exact laws_heldWaySS.mono _ _ _)
      | (with_reducible exact laws_markWaySS.mono _ _ _)
      | (with_reducible exact spec_AllPairsApart.mono _ _ _ _ _ _ _ _ _)
      | (with_reducible exact LeO.refl _)
      | (with_reducible exact LeO.none _)
      | (with_reducible refine LeO.ite ?_ ?_)
      | (with_reducible refine LeO.bind ?_ (fun _ => ?_))
      | exact ih0 _ _ _ _ _ _ _ _ _ _ _ _
      | exact ih1 _ _ _
      | exact impl_AllPairsApart.mono _ _ _ _ _ _ _ _ _
      | exact laws_eqWaySS.mono _ _ _
      | exact laws_heldWaySS.mono _ _ _
      | exact laws_markWaySS.mono _ _ _
      | exact spec_AllPairsApart.mono _ _ _ _ _ _ _ _ _
      | exact LeO.none _
      | refine LeO.ite ?_ ?_
      | refine LeO.bind ?_ (fun _ => ?_)
theorem laws_FnExactAllPairsApart.mono : ∀ a0 a1 a2 a3 a4 a5 a6 a7 k, LeO (laws_FnExactAllPairsApart.f k a0 a1 a2 a3 a4 a5 a6 a7) (laws_FnExactAllPairsApart.f (k + 1) a0 a1 a2 a3 a4 a5 a6 a7) := by
  intro a0 a1 a2 a3 a4 a5 a6 a7 k
  obtain ⟨ih0, ih1⟩ := laws_FnExactAllPairsApart.mono_l k
  unfold laws_FnExactAllPairsApart.f
  repeat' first
      | (with_reducible exact ih0 _ _ _ _ _ _ _ _ _ _ _ _)
      | (with_reducible exact ih1 _ _ _)
      | (with_reducible exact impl_AllPairsApart.mono _ _ _ _ _ _ _ _ _)
      | (with_reducible exact laws_eqWaySS.mono _ _ _)
      | (with_reducible exact laws_heldWaySS.mono _ _ _)
      | (with_reducible exact laws_markWaySS.mono _ _ _)
      | (with_reducible exact spec_AllPairsApart.mono _ _ _ _ _ _ _ _ _)
      | (with_reducible exact LeO.refl _)
      | (with_reducible exact LeO.none _)
      | (with_reducible refine LeO.ite ?_ ?_)
      | (with_reducible refine LeO.bind ?_ (fun _ => ?_))
      | exact ih0 _ _ _ _ _ _ _ _ _ _ _ _
      | exact ih1 _ _ _
      | exact impl_AllPairsApart.mono _ _ _ _ _ _ _ _ _
      | exact laws_eqWaySS.mono _ _ _
      | exact laws_heldWaySS.mono _ _ _
      | exact laws_markWaySS.mono _ _ _
      | exact spec_AllPairsApart.mono _ _ _ _ _ _ _ _ _
      | exact LeO.none _
      | refine LeO.ite ?_ ?_
      | refine LeO.bind ?_ (fun _ => ?_)
def laws_FnExactAllPairsApart.T1 : Bool × List (List Nat × List Nat) := (true, [([], []), ([0], [0]), ([], []), ([2, 1], [2]), ([], []), ([4, 3], [4]), ([], []), ([6, 5], [6]), ([1, 3, 5, 7, 7], [1, 3, 5, 7]), ([8], [8]), ([9], [9]), ([9], [9]), ([10, 8, 0, 1, 2, 3, 4, 5, 6, 7, 8, 9, 10], [10]), ([11, 12, 0, 1, 2, 3, 4, 5, 6, 7, 8, 9, 10, 11, 12], [11])])
def laws_FnExactAllPairsApart.B1 : List Nat := [0, 1, 0, 7, 0, 31, 0, 127, 255, 511, 1023, 1023, 2047, 8191]
theorem laws_FnExactAllPairsApart.tab1 : rtab .any (opsOf Try.f3 1) = laws_FnExactAllPairsApart.T1 := by kernel_rfl
theorem laws_FnExactAllPairsApart.bits1 : waitsOk laws_FnExactAllPairsApart.T1.2 laws_FnExactAllPairsApart.B1 = true := by kernel_rfl
def laws_FnExactAllPairsApart.T2 : Bool × List (List Nat × List Nat) := (true, [([], []), ([0], [0]), ([], []), ([2, 1], [2]), ([], []), ([4, 3], [4]), ([], []), ([6, 5], [6]), ([1, 3, 5, 7, 7], [1, 3, 5, 7]), ([8], [8]), ([9], [9]), ([9], [9]), ([10, 8, 0, 1, 2, 3, 4, 5, 6, 7, 8, 9, 10], [10]), ([11, 12, 0, 1, 2, 3, 4, 5, 6, 7, 8, 9, 10, 11, 12], [11])])
def laws_FnExactAllPairsApart.B2 : List Nat := [0, 1, 0, 7, 0, 31, 0, 127, 255, 511, 1023, 1023, 2047, 8191]
theorem laws_FnExactAllPairsApart.tab2 : rtab .any (opsOf Try.f3 2) = laws_FnExactAllPairsApart.T2 := by kernel_rfl
theorem laws_FnExactAllPairsApart.bits2 : waitsOk laws_FnExactAllPairsApart.T2.2 laws_FnExactAllPairsApart.B2 = true := by kernel_rfl
def laws_FnExactAllPairsApart.T13 : Bool × List (List Nat × List Nat) := (true, [([], []), ([0], [0]), ([], []), ([2, 1], [2]), ([], []), ([4, 3], [4]), ([], []), ([6, 5], [6]), ([1, 3, 5, 7, 7], [1, 3, 5, 7]), ([8], [8]), ([9], [9]), ([9], [9]), ([10, 8, 0, 1, 2, 3, 4, 5, 6, 7, 8, 9, 10], [10]), ([11, 12, 0, 1, 2, 3, 4, 5, 6, 7, 8, 9, 10, 11, 12], [11])])
def laws_FnExactAllPairsApart.B13 : List Nat := [0, 1, 0, 7, 0, 31, 0, 127, 255, 511, 1023, 1023, 2047, 8191]
theorem laws_FnExactAllPairsApart.tab13 : rtab .any (opsOf Try.f3 13) = laws_FnExactAllPairsApart.T13 := by kernel_rfl
theorem laws_FnExactAllPairsApart.bits13 : waitsOk laws_FnExactAllPairsApart.T13.2 laws_FnExactAllPairsApart.B13 = true := by kernel_rfl
set_option maxHeartbeats 8000000 in
set_option maxRecDepth 100000 in
theorem laws_FnExactAllPairsApart.calls (k : Nat) (a0_0 : Int) (a0_1 : Int) (a1_0 : Int) (a1_1 : Int) (a2_0 : Int) (a2_1 : Int) (a3_0 : Int) (a3_1 : Int) (r : Bool) (w : World) (h : laws_FnExactAllPairsApart.f k a0_0 a0_1 a1_0 a1_1 a2_0 a2_1 a3_0 a3_1 = some r) :
    Calls Try.prog 3 #[.agg #[.int .i64 a0_0, .int .i64 a0_1], .agg #[.int .i64 a1_0, .int .i64 a1_1], .agg #[.int .i64 a2_0, .int .i64 a2_1], .agg #[.int .i64 a3_0, .int .i64 a3_1]] w fun e w' => e = .returned (.bool r) ∧ Below w.heap.size w w' := by
 have hu23 := Try.underlying23
 have HB := Ajq (Below.refl w.heap.size w)
 have H : ((laws_toCell.f a0_0 a0_1).bind fun bt318 => ((laws_toCell.f a1_0 a1_1).bind fun bt320 => ((laws_toCell.f a2_0 a2_1).bind fun bt322 => ((laws_toCell.f a3_0 a3_1).bind fun bt324 => ((spec_AllPairsApart.f k bt318.1 bt318.2 bt320.1 bt320.2 bt322.1 bt322.2 bt324.1 bt324.2).bind fun bt326 => ((laws_toCell.f a0_0 a0_1).bind fun bt330 => ((laws_toCell.f a1_0 a1_1).bind fun bt332 => ((laws_toCell.f a2_0 a2_1).bind fun bt334 => ((laws_toCell.f a3_0 a3_1).bind fun bt336 => ((impl_AllPairsApart.f k bt330.1 bt330.2 bt332.1 bt332.2 bt334.1 bt334.2 bt336.1 bt336.2).bind fun bt338 => ((laws_eqWaySS.f k bt338.1 bt326.1).bind fun t342 => (if t342 = true then (laws_FnExactAllPairsApart.j0 k bt326.1 bt326.2 bt338.1 (bt338.2 != bt326.2) a0_0 a0_1 a1_0 a1_1 a2_0 a2_1 a3_0 a3_1) else (laws_FnExactAllPairsApart.j0 k bt326.1 bt326.2 bt338.1 true a0_0 a0_1 a1_0 a1_1 a2_0 a2_1 a3_0 a3_1))))))))))))) = some r := h
 clear h
 replace H := Option.bind_eq_some_iff.mp H
 obtain ⟨⟨t318, t319⟩, A50, H⟩ := H
 replace H : ((laws_toCell.f a1_0 a1_1).bind fun bt320 => ((laws_toCell.f a2_0 a2_1).bind fun bt322 => ((laws_toCell.f a3_0 a3_1).bind fun bt324 => ((spec_AllPairsApart.f k t318 t319 bt320.1 bt320.2 bt322.1 bt322.2 bt324.1 bt324.2).bind fun bt326 => ((laws_toCell.f a0_0 a0_1).bind fun bt330 => ((laws_toCell.f a1_0 a1_1).bind fun bt332 => ((laws_toCell.f a2_0 a2_1).bind fun bt334 => ((laws_toCell.f a3_0 a3_1).bind fun bt336 => ((impl_AllPairsApart.f k bt330.1 bt330.2 bt332.1 bt332.2 bt334.1 bt334.2 bt336.1 bt336.2).bind fun bt338 => ((laws_eqWaySS.f k bt338.1 bt326.1).bind fun t342 => (if t342 = true then (laws_FnExactAllPairsApart.j0 k bt326.1 bt326.2 bt338.1 (bt338.2 != bt326.2) a0_0 a0_1 a1_0 a1_1 a2_0 a2_1 a3_0 a3_1) else (laws_FnExactAllPairsApart.j0 k bt326.1 bt326.2 bt338.1 true a0_0 a0_1 a1_0 a1_1 a2_0 a2_1 a3_0 a3_1)))))))))))) = some r := H
 have A5 := Ajq A50
 clear A50
 replace H := Option.bind_eq_some_iff.mp H
 obtain ⟨⟨t320, t321⟩, A60, H⟩ := H
 replace H : ((laws_toCell.f a2_0 a2_1).bind fun bt322 => ((laws_toCell.f a3_0 a3_1).bind fun bt324 => ((spec_AllPairsApart.f k t318 t319 t320 t321 bt322.1 bt322.2 bt324.1 bt324.2).bind fun bt326 => ((laws_toCell.f a0_0 a0_1).bind fun bt330 => ((laws_toCell.f a1_0 a1_1).bind fun bt332 => ((laws_toCell.f a2_0 a2_1).bind fun bt334 => ((laws_toCell.f a3_0 a3_1).bind fun bt336 => ((impl_AllPairsApart.f k bt330.1 bt330.2 bt332.1 bt332.2 bt334.1 bt334.2 bt336.1 bt336.2).bind fun bt338 => ((laws_eqWaySS.f k bt338.1 bt326.1).bind fun t342 => (if t342 = true then (laws_FnExactAllPairsApart.j0 k bt326.1 bt326.2 bt338.1 (bt338.2 != bt326.2) a0_0 a0_1 a1_0 a1_1 a2_0 a2_1 a3_0 a3_1) else (laws_FnExactAllPairsApart.j0 k bt326.1 bt326.2 bt338.1 true a0_0 a0_1 a1_0 a1_1 a2_0 a2_1 a3_0 a3_1))))))))))) = some r := H
 have A6 := Ajq A60
 clear A60
 replace H := Option.bind_eq_some_iff.mp H
 obtain ⟨⟨t322, t323⟩, A70, H⟩ := H
 replace H : ((laws_toCell.f a3_0 a3_1).bind fun bt324 => ((spec_AllPairsApart.f k t318 t319 t320 t321 t322 t323 bt324.1 bt324.2).bind fun bt326 => ((laws_toCell.f a0_0 a0_1).bind fun bt330 => ((laws_toCell.f a1_0 a1_1).bind fun bt332 => ((laws_toCell.f a2_0 a2_1).bind fun bt334 => ((laws_toCell.f a3_0 a3_1).bind fun bt336 => ((impl_AllPairsApart.f k bt330.1 bt330.2 bt332.1 bt332.2 bt334.1 bt334.2 bt336.1 bt336.2).bind fun bt338 => ((laws_eqWaySS.f k bt338.1 bt326.1).bind fun t342 => (if t342 = true then (laws_FnExactAllPairsApart.j0 k bt326.1 bt326.2 bt338.1 (bt338.2 != bt326.2) a0_0 a0_1 a1_0 a1_1 a2_0 a2_1 a3_0 a3_1) else (laws_FnExactAllPairsApart.j0 k bt326.1 bt326.2 bt338.1 true a0_0 a0_1 a1_0 a1_1 a2_0 a2_1 a3_0 a3_1)))))))))) = some r := H
 have A7 := Ajq A70
 clear A70
 replace H := Option.bind_eq_some_iff.mp H
 obtain ⟨⟨t324, t325⟩, A80, H⟩ := H
 replace H : ((spec_AllPairsApart.f k t318 t319 t320 t321 t322 t323 t324 t325).bind fun bt326 => ((laws_toCell.f a0_0 a0_1).bind fun bt330 => ((laws_toCell.f a1_0 a1_1).bind fun bt332 => ((laws_toCell.f a2_0 a2_1).bind fun bt334 => ((laws_toCell.f a3_0 a3_1).bind fun bt336 => ((impl_AllPairsApart.f k bt330.1 bt330.2 bt332.1 bt332.2 bt334.1 bt334.2 bt336.1 bt336.2).bind fun bt338 => ((laws_eqWaySS.f k bt338.1 bt326.1).bind fun t342 => (if t342 = true then (laws_FnExactAllPairsApart.j0 k bt326.1 bt326.2 bt338.1 (bt338.2 != bt326.2) a0_0 a0_1 a1_0 a1_1 a2_0 a2_1 a3_0 a3_1) else (laws_FnExactAllPairsApart.j0 k bt326.1 bt326.2 bt338.1 true a0_0 a0_1 a1_0 a1_1 a2_0 a2_1 a3_0 a3_1))))))))) = some r := H
 have A8 := Ajq A80
 clear A80
 replace H := Option.bind_eq_some_iff.mp H
 obtain ⟨⟨t326, t329⟩, A90, H⟩ := H
 replace H : ((laws_toCell.f a0_0 a0_1).bind fun bt330 => ((laws_toCell.f a1_0 a1_1).bind fun bt332 => ((laws_toCell.f a2_0 a2_1).bind fun bt334 => ((laws_toCell.f a3_0 a3_1).bind fun bt336 => ((impl_AllPairsApart.f k bt330.1 bt330.2 bt332.1 bt332.2 bt334.1 bt334.2 bt336.1 bt336.2).bind fun bt338 => ((laws_eqWaySS.f k bt338.1 t326).bind fun t342 => (if t342 = true then (laws_FnExactAllPairsApart.j0 k t326 t329 bt338.1 (bt338.2 != t329) a0_0 a0_1 a1_0 a1_1 a2_0 a2_1 a3_0 a3_1) else (laws_FnExactAllPairsApart.j0 k t326 t329 bt338.1 true a0_0 a0_1 a1_0 a1_1 a2_0 a2_1 a3_0 a3_1)))))))) = some r := H
 have A9 := Ajq A90
 clear A90
 replace H := Option.bind_eq_some_iff.mp H
 obtain ⟨⟨t330, t331⟩, A100, H⟩ := H
 replace H : ((laws_toCell.f a1_0 a1_1).bind fun bt332 => ((laws_toCell.f a2_0 a2_1).bind fun bt334 => ((laws_toCell.f a3_0 a3_1).bind fun bt336 => ((impl_AllPairsApart.f k t330 t331 bt332.1 bt332.2 bt334.1 bt334.2 bt336.1 bt336.2).bind fun bt338 => ((laws_eqWaySS.f k bt338.1 t326).bind fun t342 => (if t342 = true then (laws_FnExactAllPairsApart.j0 k t326 t329 bt338.1 (bt338.2 != t329) a0_0 a0_1 a1_0 a1_1 a2_0 a2_1 a3_0 a3_1) else (laws_FnExactAllPairsApart.j0 k t326 t329 bt338.1 true a0_0 a0_1 a1_0 a1_1 a2_0 a2_1 a3_0 a3_1))))))) = some r := H
 have A10 := Ajq A100
 clear A100
 replace H := Option.bind_eq_some_iff.mp H
 obtain ⟨⟨t332, t333⟩, A110, H⟩ := H
 replace H : ((laws_toCell.f a2_0 a2_1).bind fun bt334 => ((laws_toCell.f a3_0 a3_1).bind fun bt336 => ((impl_AllPairsApart.f k t330 t331 t332 t333 bt334.1 bt334.2 bt336.1 bt336.2).bind fun bt338 => ((laws_eqWaySS.f k bt338.1 t326).bind fun t342 => (if t342 = true then (laws_FnExactAllPairsApart.j0 k t326 t329 bt338.1 (bt338.2 != t329) a0_0 a0_1 a1_0 a1_1 a2_0 a2_1 a3_0 a3_1) else (laws_FnExactAllPairsApart.j0 k t326 t329 bt338.1 true a0_0 a0_1 a1_0 a1_1 a2_0 a2_1 a3_0 a3_1)))))) = some r := H
 have A11 := Ajq A110
 clear A110
 replace H := Option.bind_eq_some_iff.mp H
 obtain ⟨⟨t334, t335⟩, A120, H⟩ := H
 replace H : ((laws_toCell.f a3_0 a3_1).bind fun bt336 => ((impl_AllPairsApart.f k t330 t331 t332 t333 t334 t335 bt336.1 bt336.2).bind fun bt338 => ((laws_eqWaySS.f k bt338.1 t326).bind fun t342 => (if t342 = true then (laws_FnExactAllPairsApart.j0 k t326 t329 bt338.1 (bt338.2 != t329) a0_0 a0_1 a1_0 a1_1 a2_0 a2_1 a3_0 a3_1) else (laws_FnExactAllPairsApart.j0 k t326 t329 bt338.1 true a0_0 a0_1 a1_0 a1_1 a2_0 a2_1 a3_0 a3_1))))) = some r := H
 have A12 := Ajq A120
 clear A120
 replace H := Option.bind_eq_some_iff.mp H
 obtain ⟨⟨t336, t337⟩, A130, H⟩ := H
 replace H : ((impl_AllPairsApart.f k t330 t331 t332 t333 t334 t335 t336 t337).bind fun bt338 => ((laws_eqWaySS.f k bt338.1 t326).bind fun t342 => (if t342 = true then (laws_FnExactAllPairsApart.j0 k t326 t329 bt338.1 (bt338.2 != t329) a0_0 a0_1 a1_0 a1_1 a2_0 a2_1 a3_0 a3_1) else (laws_FnExactAllPairsApart.j0 k t326 t329 bt338.1 true a0_0 a0_1 a1_0 a1_1 a2_0 a2_1 a3_0 a3_1)))) = some r := H
 have A13 := Ajq A130
 clear A130
 replace H := Option.bind_eq_some_iff.mp H
 obtain ⟨⟨t338, t341⟩, A140, H⟩ := H
 replace H : ((laws_eqWaySS.f k t338 t326).bind fun t342 => (if t342 = true then (laws_FnExactAllPairsApart.j0 k t326 t329 t338 (t341 != t329) a0_0 a0_1 a1_0 a1_1 a2_0 a2_1 a3_0 a3_1) else (laws_FnExactAllPairsApart.j0 k t326 t329 t338 true a0_0 a0_1 a1_0 a1_1 a2_0 a2_1 a3_0 a3_1))) = some r := H
 have A14 := Ajq A140
 clear A140
 have HC15 := Ajq H
 clear H
 go_enter Try.func3, Try.ntmps3
 try go_wp2_with (first | ((with_reducible refine gate_dst (N := 4) rfl ?_); refine box_event ?hg (N := 4) ?hd (cs := #[.int .i64 a0_0, .int .i64 a0_1]) (t := 23) ?hr ?_; (case hd => rfl); (case hg => rfl); (case hr => first | (go_simp; done) | (go_simp; rfl)); intro g314 hg w16 hbox hb; have n0_ := Ajq (below_step (Zbj) hb); have n1_ := Ajq (hbox); have n2_ := Ajq ((by rw [hg]; exact (below_size (Zbj)) : w.heap.size ≤ g314)); have n3_ := Ajq ((by rw [hg]; exact (below_size (Zbj)) : w.heap.size ≤ g314)); clear HB; have HB := n0_; have BK314 := n1_; have GW314 := n2_; have GE314 := n3_; clear n0_ n1_ n2_ n3_; clear hb hbox hg) | ((with_reducible refine gate_dst (N := 5) rfl ?_); refine box_event ?hg (N := 5) ?hd (cs := #[.int .i64 a1_0, .int .i64 a1_1]) (t := 23) ?hr ?_; (case hd => rfl); (case hg => rfl); (case hr => first | (go_simp; done) | (go_simp; rfl)); intro g315 hg w17 hbox hb; have n0_ := Ajq (blk_below (g := g314) (o := .cells #[.int .i64 a0_0, .int .i64 a0_1] 23 (0, 0)) Zj5 hb); have n1_ := Ajq (below_step (by repeat (first | (with_reducible first | exact HB.out | apply below_alloc | apply pw_below_drewN | apply below_drew1 | refine below_set ?_ GE314.out) | exact HB.out)) hb); have n2_ := Ajq (hbox); have n3_ := Ajq ((by rw [hg]; exact (below_size (by repeat (first | (with_reducible first | exact HB.out | apply below_alloc | apply pw_below_drewN | apply below_drew1 | refine below_set ?_ GE314.out) | exact HB.out))) : w.heap.size ≤ g315)); have n4_ := Ajq ((by rw [hg]; exact (below_size (by repeat (first | (with_reducible first | exact HB.out | apply below_alloc | apply pw_below_drewN | apply below_drew1 | refine below_set ?_ GE314.out) | exact HB.out))) : w.heap.size ≤ g315)); have n5_ := Ajq ((by rw [hg]; exact Nat.ne_of_lt (blk_lt (g := g314) (o := .cells #[.int .i64 a0_0, .int .i64 a0_1] 23 (0, 0)) Zj5) : g314 ≠ g315)); have n6_ := Ajq ((by rw [hg]; exact Nat.ne_of_gt (blk_lt (g := g314) (o := .cells #[.int .i64 a0_0, .int .i64 a0_1] 23 (0, 0)) Zj5) : g315 ≠ g314)); clear BK314; clear HB; have BK314 := n0_; have HB := n1_; have BK315 := n2_; have GW315 := n3_; have GE315 := n4_; have NB314_315 := n5_; have NB315_314 := n6_; clear n0_ n1_ n2_ n3_ n4_ n5_ n6_; clear hb hbox hg) | ((with_reducible refine gate_dst (N := 6) rfl ?_); refine box_event ?hg (N := 6) ?hd (cs := #[.int .i64 a2_0, .int .i64 a2_1]) (t := 23) ?hr ?_; (case hd => rfl); (case hg => rfl); (case hr => first | (go_simp; done) | (go_simp; rfl)); intro g316 hg w18 hbox hb; have n0_ := Ajq (blk_below (g := g314) (o := .cells #[.int .i64 a0_0, .int .i64 a0_1] 23 (0, 0)) Zj5 hb); have n1_ := Ajq (blk_below (g := g315) (o := .cells #[.int .i64 a1_0, .int .i64 a1_1] 23 (0, 0)) Zj6 hb); have n2_ := Ajq (below_step Zj3 hb); have n3_ := Ajq (hbox); have n4_ := Ajq ((by rw [hg]; exact (below_size Zj3) : w.heap.size ≤ g316)); have n5_ := Ajq ((by rw [hg]; exact (below_size Zj3) : w.heap.size ≤ g316)); have n6_ := Ajq ((by rw [hg]; exact Nat.ne_of_lt (blk_lt (g := g314) (o := .cells #[.int .i64 a0_0, .int .i64 a0_1] 23 (0, 0)) Zj5) : g314 ≠ g316)); have n7_ := Ajq ((by rw [hg]; exact Nat.ne_of_gt (blk_lt (g := g314) (o := .cells #[.int .i64 a0_0, .int .i64 a0_1] 23 (0, 0)) Zj5) : g316 ≠ g314)); have n8_ := Ajq ((by rw [hg]; exact Nat.ne_of_lt (blk_lt (g := g315) (o := .cells #[.int .i64 a1_0, .int .i64 a1_1] 23 (0, 0)) Zj6) : g315 ≠ g316)); have n9_ := Ajq ((by rw [hg]; exact Nat.ne_of_gt (blk_lt (g := g315) (o := .cells #[.int .i64 a1_0, .int .i64 a1_1] 23 (0, 0)) Zj6) : g316 ≠ g315)); clear BK314; clear BK315; clear HB; have BK314 := n0_; have BK315 := n1_; have HB := n2_; have BK316 := n3_; have GW316 := n4_; have GE316 := n5_; have NB314_316 := n6_; have NB316_314 := n7_; have NB315_316 := n8_; have NB316_315 := n9_; clear n0_ n1_ n2_ n3_ n4_ n5_ n6_ n7_ n8_ n9_; clear hb hbox hg) | ((with_reducible refine gate_dst (N := 7) rfl ?_); refine box_event ?hg (N := 7) ?hd (cs := #[.int .i64 a3_0, .int .i64 a3_1]) (t := 23) ?hr ?_; (case hd => rfl); (case hg => rfl); (case hr => first | (go_simp; done) | (go_simp; rfl)); intro g317 hg w19 hbox hb; have n0_ := Ajq (blk_below (g := g314) (o := .cells #[.int .i64 a0_0, .int .i64 a0_1] 23 (0, 0)) Zj5 hb); have n1_ := Ajq (blk_below (g := g315) (o := .cells #[.int .i64 a1_0, .int .i64 a1_1] 23 (0, 0)) Zj6 hb); have n2_ := Ajq (blk_below (g := g316) (o := .cells #[.int .i64 a2_0, .int .i64 a2_1] 23 (0, 0)) Zj7 hb); have n3_ := Ajq (below_step Zj2 hb); have n4_ := Ajq (hbox); have n5_ := Ajq ((by rw [hg]; exact (below_size Zj2) : w.heap.size ≤ g317)); have n6_ := Ajq ((by rw [hg]; exact (below_size Zj2) : w.heap.size ≤ g317)); have n7_ := Ajq ((by rw [hg]; exact Nat.ne_of_lt (blk_lt (g := g314) (o := .cells #[.int .i64 a0_0, .int .i64 a0_1] 23 (0, 0)) Zj5) : g314 ≠ g317)); have n8_ := Ajq ((by rw [hg]; exact Nat.ne_of_gt (blk_lt (g := g314) (o := .cells #[.int .i64 a0_0, .int .i64 a0_1] 23 (0, 0)) Zj5) : g317 ≠ g314)); have n9_ := Ajq ((by rw [hg]; exact Nat.ne_of_lt (blk_lt (g := g315) (o := .cells #[.int .i64 a1_0, .int .i64 a1_1] 23 (0, 0)) Zj6) : g315 ≠ g317)); have n10_ := Ajq ((by rw [hg]; exact Nat.ne_of_gt (blk_lt (g := g315) (o := .cells #[.int .i64 a1_0, .int .i64 a1_1] 23 (0, 0)) Zj6) : g317 ≠ g315)); have n11_ := Ajq ((by rw [hg]; exact Nat.ne_of_lt (blk_lt (g := g316) (o := .cells #[.int .i64 a2_0, .int .i64 a2_1] 23 (0, 0)) Zj7) : g316 ≠ g317)); have n12_ := Ajq ((by rw [hg]; exact Nat.ne_of_gt (blk_lt (g := g316) (o := .cells #[.int .i64 a2_0, .int .i64 a2_1] 23 (0, 0)) Zj7) : g317 ≠ g316)); clear BK314; clear BK315; clear BK316; clear HB; have BK314 := n0_; have BK315 := n1_; have BK316 := n2_; have HB := n3_; have BK317 := n4_; have GW317 := n5_; have GE317 := n6_; have NB314_317 := n7_; have NB317_314 := n8_; have NB315_317 := n9_; have NB317_315 := n10_; have NB316_317 := n11_; have NB317_316 := n12_; clear n0_ n1_ n2_ n3_ n4_ n5_ n6_ n7_ n8_ n9_ n10_ n11_ n12_; clear hb hbox hg))
 have n0_ := Ajq (blk_drew BK314.out)
 have n1_ := Ajq (blk_drew BK315.out)
 have n2_ := Ajq (blk_drew BK316.out)
 have n3_ := Ajq (blk_drew BK317.out)
 have n4_ := Ajq (below_drew1 HB.out)
 clear BK314 BK315 BK316 BK317 HB
 have BK314 := n0_
 have BK315 := n1_
 have BK316 := n2_
 have BK317 := n3_
 have HB := n4_
 clear n0_ n1_ n2_ n3_ n4_
 refine start_ (n := 14) (S := fun w' => w'.cell? ⟨g314, 0, none⟩ = some (.int .i64 a0_0) ∧ w'.cell? ⟨g314, 1, none⟩ = some (.int .i64 a0_1) ∧ w'.cell? ⟨g315, 0, none⟩ = some (.int .i64 a1_0) ∧ w'.cell? ⟨g315, 1, none⟩ = some (.int .i64 a1_1) ∧ w'.cell? ⟨g316, 0, none⟩ = some (.int .i64 a2_0) ∧ w'.cell? ⟨g316, 1, none⟩ = some (.int .i64 a2_1) ∧ w'.cell? ⟨g317, 0, none⟩ = some (.int .i64 a3_0) ∧ w'.cell? ⟨g317, 1, none⟩ = some (.int .i64 a3_1)) (ds := []) #[false, false, false, false, false, false, false, false, false, false, false, false, false, false] Zj12 rfl rfl ⟨(blk_cell BK314.out 0).trans rfl, (blk_cell BK314.out 1).trans rfl, (blk_cell BK315.out 0).trans rfl, (blk_cell BK315.out 1).trans rfl, (blk_cell BK316.out 0).trans rfl, (blk_cell BK316.out 1).trans rfl, (blk_cell BK317.out 0).trans rfl, (blk_cell BK317.out 1).trans rfl⟩ (fun hHeld => ?_); refine with_tabW laws_FnExactAllPairsApart.tab1 laws_FnExactAllPairsApart.bits1 (fun HT_ HW_ => ?_)
 generalize w19.drew = w20 at BK314 BK315 BK316 BK317 HB hHeld ⊢
 refine take_ (i := 0) (N := some 18) (v := ?_) (a' := ?_) #[true, false, false, false, false, false, false, false, false, false, false, false, false, false] rfl rfl (take_ofW HT_.out HW_.out Zj12) (fun _ _ _ h => h) (Or.inl ⟨by rfl, ?_⟩) hHeld ?_ ?_
 rotate_left
 ·
  rintro w' ⟨s0, s1, s2, s3, s4, s5, s6, s7⟩
  go_simp
  with_reducible rfl
 rotate_left
 ·
  simp only [Act.put, y1j, y2j, y3j, i64_w, i32_w]
  rfl
 refine take_ (i := 2) (N := some 20) (v := ?_) (a' := ?_) #[true, false, true, false, false, false, false, false, false, false, false, false, false, false] rfl rfl (take_ofW HT_.out HW_.out Zj12) (fun _ _ _ h => h) (Or.inl ⟨by rfl, ?_⟩) hHeld ?_ ?_
 rotate_left
 ·
  rintro w' ⟨s0, s1, s2, s3, s4, s5, s6, s7⟩
  go_simp
  with_reducible rfl
 rotate_left
 ·
  simp only [Act.put, y1j, y2j, y3j, i64_w, i32_w]
  rfl
 refine take_ (i := 4) (N := some 22) (v := ?_) (a' := ?_) #[true, false, true, false, true, false, false, false, false, false, false, false, false, false] rfl rfl (take_ofW HT_.out HW_.out Zj12) (fun _ _ _ h => h) (Or.inl ⟨by rfl, ?_⟩) hHeld ?_ ?_
 rotate_left
 ·
  rintro w' ⟨s0, s1, s2, s3, s4, s5, s6, s7⟩
  go_simp
  with_reducible rfl
 rotate_left
 ·
  simp only [Act.put, y1j, y2j, y3j, i64_w, i32_w]
  rfl
 refine take_ (i := 6) (N := some 24) (v := ?_) (a' := ?_) #[true, false, true, false, true, false, true, false, false, false, false, false, false, false] rfl rfl (take_ofW HT_.out HW_.out Zj12) (fun _ _ _ h => h) (Or.inl ⟨by rfl, ?_⟩) hHeld ?_ ?_
 rotate_left
 ·
  rintro w' ⟨s0, s1, s2, s3, s4, s5, s6, s7⟩
  go_simp
  with_reducible rfl
 rotate_left
 ·
  simp only [Act.put, y1j, y2j, y3j, i64_w, i32_w]
  rfl
 refine one_ (i := 1) (N := some 19) #[true, true, true, false, true, false, true, false, false, false, false, false, false, false] rfl rfl (one_of HT_.out Zj12) (by decide) (fun K hK => ?_)
 refine goes_ Try.func5 Zj12 rfl #[.agg #[.int .i64 a0_0, .int .i64 a0_1]] (by rfl) rfl rfl Zj4 ?_
 with_reducible refine (laws_toCell.calls a0_0 a0_1 t318 t319 _ A5.out).mono ?_
 rintro e w21 ⟨rfl, hb⟩
 refine ⟨_, rfl, ?_⟩
 have n0_ := Ajq (blk_below (g := g314) (o := .cells #[.int .i64 a0_0, .int .i64 a0_1] 23 (0, 0)) Zj5 hb)
 have n1_ := Ajq (blk_below (g := g315) (o := .cells #[.int .i64 a1_0, .int .i64 a1_1] 23 (0, 0)) Zj6 hb)
 have n2_ := Ajq (blk_below (g := g316) (o := .cells #[.int .i64 a2_0, .int .i64 a2_1] 23 (0, 0)) Zj7 hb)
 have n3_ := Ajq (blk_below (g := g317) (o := .cells #[.int .i64 a3_0, .int .i64 a3_1] 23 (0, 0)) Zj8 hb)
 have n4_ := Ajq (below_step Zj1 hb)
 clear BK314 BK315 BK316 BK317 HB
 have BK314 := n0_
 have BK315 := n1_
 have BK316 := n2_
 have BK317 := n3_
 have HB := n4_
 clear n0_ n1_ n2_ n3_ n4_
 (try clear hb)
 refine hK.out _ _ ⟨(blk_cell BK314.out 0).trans rfl, (blk_cell BK314.out 1).trans rfl, (blk_cell BK315.out 0).trans rfl, (blk_cell BK315.out 1).trans rfl, (blk_cell BK316.out 0).trans rfl, (blk_cell BK316.out 1).trans rfl, (blk_cell BK317.out 0).trans rfl, (blk_cell BK317.out 1).trans rfl⟩ (fun hHeld => ?_)
 clear hK K
 refine norm_ (a' := ?_) ?_ ?_
 rotate_left
 ·
  show Act.put _ (some 19) _ = _
  simp only [Act.put, y1j, y2j, y3j, i64_w, i32_w]
  rfl
 refine one_ (i := 3) (N := some 21) #[true, true, true, true, true, false, true, false, false, false, false, false, false, false] rfl rfl (one_of HT_.out Zj12) (by decide) (fun K hK => ?_)
 refine goes_ Try.func5 Zj12 rfl #[.agg #[.int .i64 a1_0, .int .i64 a1_1]] (by rfl) rfl rfl Zj4 ?_
 with_reducible refine (laws_toCell.calls a1_0 a1_1 t320 t321 _ A6.out).mono ?_
 rintro e w22 ⟨rfl, hb⟩
 refine ⟨_, rfl, ?_⟩
 have n0_ := Ajq (blk_below (g := g314) (o := .cells #[.int .i64 a0_0, .int .i64 a0_1] 23 (0, 0)) Zj5 hb)
 have n1_ := Ajq (blk_below (g := g315) (o := .cells #[.int .i64 a1_0, .int .i64 a1_1] 23 (0, 0)) Zj6 hb)
 have n2_ := Ajq (blk_below (g := g316) (o := .cells #[.int .i64 a2_0, .int .i64 a2_1] 23 (0, 0)) Zj7 hb)
 have n3_ := Ajq (blk_below (g := g317) (o := .cells #[.int .i64 a3_0, .int .i64 a3_1] 23 (0, 0)) Zj8 hb)
 have n4_ := Ajq (below_step Zj1 hb)
 clear BK314 BK315 BK316 BK317 HB
 have BK314 := n0_
 have BK315 := n1_
 have BK316 := n2_
 have BK317 := n3_
 have HB := n4_
 clear n0_ n1_ n2_ n3_ n4_
 (try clear hb)
 refine hK.out _ _ ⟨(blk_cell BK314.out 0).trans rfl, (blk_cell BK314.out 1).trans rfl, (blk_cell BK315.out 0).trans rfl, (blk_cell BK315.out 1).trans rfl, (blk_cell BK316.out 0).trans rfl, (blk_cell BK316.out 1).trans rfl, (blk_cell BK317.out 0).trans rfl, (blk_cell BK317.out 1).trans rfl⟩ (fun hHeld => ?_)
 clear hK K
 refine norm_ (a' := ?_) ?_ ?_
 rotate_left
 ·
  show Act.put _ (some 21) _ = _
  simp only [Act.put, y1j, y2j, y3j, i64_w, i32_w]
  rfl
 refine one_ (i := 5) (N := some 23) #[true, true, true, true, true, true, true, false, false, false, false, false, false, false] rfl rfl (one_of HT_.out Zj12) (by decide) (fun K hK => ?_)
 refine goes_ Try.func5 Zj12 rfl #[.agg #[.int .i64 a2_0, .int .i64 a2_1]] (by rfl) rfl rfl Zj4 ?_
 with_reducible refine (laws_toCell.calls a2_0 a2_1 t322 t323 _ A7.out).mono ?_
 rintro e w23 ⟨rfl, hb⟩
 refine ⟨_, rfl, ?_⟩
 have n0_ := Ajq (blk_below (g := g314) (o := .cells #[.int .i64 a0_0, .int .i64 a0_1] 23 (0, 0)) Zj5 hb)
 have n1_ := Ajq (blk_below (g := g315) (o := .cells #[.int .i64 a1_0, .int .i64 a1_1] 23 (0, 0)) Zj6 hb)
 have n2_ := Ajq (blk_below (g := g316) (o := .cells #[.int .i64 a2_0, .int .i64 a2_1] 23 (0, 0)) Zj7 hb)
 have n3_ := Ajq (blk_below (g := g317) (o := .cells #[.int .i64 a3_0, .int .i64 a3_1] 23 (0, 0)) Zj8 hb)
 have n4_ := Ajq (below_step Zj1 hb)
 clear BK314 BK315 BK316 BK317 HB
 have BK314 := n0_
 have BK315 := n1_
 have BK316 := n2_
 have BK317 := n3_
 have HB := n4_
 clear n0_ n1_ n2_ n3_ n4_
 (try clear hb)
 refine hK.out _ _ ⟨(blk_cell BK314.out 0).trans rfl, (blk_cell BK314.out 1).trans rfl, (blk_cell BK315.out 0).trans rfl, (blk_cell BK315.out 1).trans rfl, (blk_cell BK316.out 0).trans rfl, (blk_cell BK316.out 1).trans rfl, (blk_cell BK317.out 0).trans rfl, (blk_cell BK317.out 1).trans rfl⟩ (fun hHeld => ?_)
 clear hK K
 refine norm_ (a' := ?_) ?_ ?_
 rotate_left
 ·
  show Act.put _ (some 23) _ = _
  simp only [Act.put, y1j, y2j, y3j, i64_w, i32_w]
  rfl
 refine one_ (i := 7) (N := some 25) #[true, true, true, true, true, true, true, true, false, false, false, false, false, false] rfl rfl (one_of HT_.out Zj12) (by decide) (fun K hK => ?_)
 refine goes_ Try.func5 Zj12 rfl #[.agg #[.int .i64 a3_0, .int .i64 a3_1]] (by rfl) rfl rfl Zj4 ?_
 with_reducible refine (laws_toCell.calls a3_0 a3_1 t324 t325 _ A8.out).mono ?_
 rintro e w24 ⟨rfl, hb⟩
 refine ⟨_, rfl, ?_⟩
 have n0_ := Ajq (blk_below (g := g314) (o := .cells #[.int .i64 a0_0, .int .i64 a0_1] 23 (0, 0)) Zj5 hb)
 have n1_ := Ajq (blk_below (g := g315) (o := .cells #[.int .i64 a1_0, .int .i64 a1_1] 23 (0, 0)) Zj6 hb)
 have n2_ := Ajq (blk_below (g := g316) (o := .cells #[.int .i64 a2_0, .int .i64 a2_1] 23 (0, 0)) Zj7 hb)
 have n3_ := Ajq (blk_below (g := g317) (o := .cells #[.int .i64 a3_0, .int .i64 a3_1] 23 (0, 0)) Zj8 hb)
 have n4_ := Ajq (below_step Zj1 hb)
 clear BK314 BK315 BK316 BK317 HB
 have BK314 := n0_
 have BK315 := n1_
 have BK316 := n2_
 have BK317 := n3_
 have HB := n4_
 clear n0_ n1_ n2_ n3_ n4_
 (try clear hb)
 refine hK.out _ _ ⟨(blk_cell BK314.out 0).trans rfl, (blk_cell BK314.out 1).trans rfl, (blk_cell BK315.out 0).trans rfl, (blk_cell BK315.out 1).trans rfl, (blk_cell BK316.out 0).trans rfl, (blk_cell BK316.out 1).trans rfl, (blk_cell BK317.out 0).trans rfl, (blk_cell BK317.out 1).trans rfl⟩ (fun hHeld => ?_)
 clear hK K
 refine norm_ (a' := ?_) ?_ ?_
 rotate_left
 ·
  show Act.put _ (some 25) _ = _
  simp only [Act.put, y1j, y2j, y3j, i64_w, i32_w]
  rfl
 refine one_ (i := 8) (N := some 26) #[true, true, true, true, true, true, true, true, true, false, false, false, false, false] rfl rfl (one_of HT_.out Zj12) (by decide) (fun K hK => ?_)
 refine goes_ Try.func4 Zj12 rfl #[.agg #[.int .i64 t318, .int .i64 t319], .agg #[.int .i64 t320, .int .i64 t321], .agg #[.int .i64 t322, .int .i64 t323], .agg #[.int .i64 t324, .int .i64 t325]] (by rfl) rfl rfl Zj4 ?_
 with_reducible refine (spec_AllPairsApart.calls k t318 t319 t320 t321 t322 t323 t324 t325 t326 t329 _ A9.out).mono ?_
 rintro e w25 ⟨v327, rfl, ho0, hb⟩
 refine ⟨_, rfl, ?_⟩
 have n0_ := Ajq (Kd.S_lower ho0 (below_size Zj1))
 have n1_ := Ajq (blk_below (g := g314) (o := .cells #[.int .i64 a0_0, .int .i64 a0_1] 23 (0, 0)) Zj5 hb)
 have n2_ := Ajq (blk_below (g := g315) (o := .cells #[.int .i64 a1_0, .int .i64 a1_1] 23 (0, 0)) Zj6 hb)
 have n3_ := Ajq (blk_below (g := g316) (o := .cells #[.int .i64 a2_0, .int .i64 a2_1] 23 (0, 0)) Zj7 hb)
 have n4_ := Ajq (blk_below (g := g317) (o := .cells #[.int .i64 a3_0, .int .i64 a3_1] 23 (0, 0)) Zj8 hb)
 have n5_ := Ajq (below_step Zj1 hb)
 clear BK314 BK315 BK316 BK317 HB
 have HO328 := n0_
 have BK314 := n1_
 have BK315 := n2_
 have BK316 := n3_
 have BK317 := n4_
 have HB := n5_
 clear n0_ n1_ n2_ n3_ n4_ n5_
 (try clear hb)
 (try clear ho0)
 refine hK.out _ _ ⟨(blk_cell BK314.out 0).trans rfl, (blk_cell BK314.out 1).trans rfl, (blk_cell BK315.out 0).trans rfl, (blk_cell BK315.out 1).trans rfl, (blk_cell BK316.out 0).trans rfl, (blk_cell BK316.out 1).trans rfl, (blk_cell BK317.out 0).trans rfl, (blk_cell BK317.out 1).trans rfl⟩ (fun hHeld => ?_)
 clear hK K
 refine norm_ (a' := ?_) ?_ ?_
 rotate_left
 ·
  show Act.put _ (some 26) _ = _
  simp only [Act.put, y1j, y2j, y3j, i64_w, i32_w]
  rfl
 refine pure_ (i := 9) (N := some 17) (v := ?_) (a' := ?_) #[true, true, true, true, true, true, true, true, true, true, false, false, false, false] rfl rfl (any_of HT_.out Zj12) (fun _ _ _ h => h) (Or.inl ⟨by rfl, ?_⟩) ?_ ?_
 rotate_left
 ·
  intro w'
  go_simp
  with_reducible rfl
 rotate_left
 ·
  simp only [Act.put, y1j, y2j, y3j, i64_w, i32_w]
  rfl
 refine pure_ (i := 10) (N := some 27) (v := ?_) (a' := ?_) #[true, true, true, true, true, true, true, true, true, true, true, false, false, false] rfl rfl (any_of HT_.out Zj12) (fun _ _ _ h => h) (Or.inl ⟨by rfl, ?_⟩) ?_ ?_
 rotate_left
 ·
  intro w'
  go_simp
  with_reducible rfl
 rotate_left
 ·
  simp only [Act.put, y1j, y2j, y3j, i64_w, i32_w]
  rfl
 refine pure_ (i := 11) (N := some 28) (v := ?_) (a' := ?_) #[true, true, true, true, true, true, true, true, true, true, true, true, false, false] rfl rfl (any_of HT_.out Zj12) (fun _ _ _ h => h) (Or.inl ⟨by rfl, ?_⟩) ?_ ?_
 rotate_left
 ·
  intro w'
  go_simp
  with_reducible rfl
 rotate_left
 ·
  simp only [Act.put, y1j, y2j, y3j, i64_w, i32_w]
  rfl
 refine pure_ (i := 12) (N := some 9) (v := ?_) (a' := ?_) #[true, true, true, true, true, true, true, true, true, true, true, true, true, false] rfl rfl (any_of HT_.out Zj12) (fun _ _ _ h => h) (Or.inl ⟨by rfl, ?_⟩) ?_ ?_
 rotate_left
 ·
  intro w'
  go_simp
  with_reducible rfl
 rotate_left
 ·
  simp only [Act.put, y1j, y2j, y3j, i64_w, i32_w]
  rfl
 refine pure_ (i := 13) (N := some 10) (v := ?_) (a' := ?_) #[true, true, true, true, true, true, true, true, true, true, true, true, true, true] rfl rfl (any_of HT_.out Zj12) (fun _ _ _ h => h) (Or.inl ⟨by rfl, ?_⟩) ?_ ?_
 rotate_left
 ·
  intro w'
  go_simp
  with_reducible rfl
 rotate_left
 ·
  simp only [Act.put, y1j, y2j, y3j, i64_w, i32_w]
  rfl
 refine done_ (done_of HT_.out Zj12) ?_
 try go_wp2
 have n0_ := Ajq (Kd.S_drew HO328.out)
 have n1_ := Ajq (blk_drew BK314.out)
 have n2_ := Ajq (blk_drew BK315.out)
 have n3_ := Ajq (blk_drew BK316.out)
 have n4_ := Ajq (blk_drew BK317.out)
 have n5_ := Ajq (below_drew1 HB.out)
 clear HO328 BK314 BK315 BK316 BK317 HB
 have HO328 := n0_
 have BK314 := n1_
 have BK315 := n2_
 have BK316 := n3_
 have BK317 := n4_
 have HB := n5_
 clear n0_ n1_ n2_ n3_ n4_ n5_
 refine start_ (n := 14) (S := fun w' => w'.cell? ⟨g314, 0, none⟩ = some (.int .i64 a0_0) ∧ w'.cell? ⟨g314, 1, none⟩ = some (.int .i64 a0_1) ∧ w'.cell? ⟨g315, 0, none⟩ = some (.int .i64 a1_0) ∧ w'.cell? ⟨g315, 1, none⟩ = some (.int .i64 a1_1) ∧ w'.cell? ⟨g316, 0, none⟩ = some (.int .i64 a2_0) ∧ w'.cell? ⟨g316, 1, none⟩ = some (.int .i64 a2_1) ∧ w'.cell? ⟨g317, 0, none⟩ = some (.int .i64 a3_0) ∧ w'.cell? ⟨g317, 1, none⟩ = some (.int .i64 a3_1)) (ds := []) #[false, false, false, false, false, false, false, false, false, false, false, false, false, false] Zj12 rfl rfl ⟨(blk_cell BK314.out 0).trans rfl, (blk_cell BK314.out 1).trans rfl, (blk_cell BK315.out 0).trans rfl, (blk_cell BK315.out 1).trans rfl, (blk_cell BK316.out 0).trans rfl, (blk_cell BK316.out 1).trans rfl, (blk_cell BK317.out 0).trans rfl, (blk_cell BK317.out 1).trans rfl⟩ (fun hHeld => ?_); refine with_tabW laws_FnExactAllPairsApart.tab2 laws_FnExactAllPairsApart.bits2 (fun HT_ HW_ => ?_)
 generalize w25.drew = w26 at HO328 BK314 BK315 BK316 BK317 HB hHeld ⊢
 refine take_ (i := 0) (N := some 30) (v := ?_) (a' := ?_) #[true, false, false, false, false, false, false, false, false, false, false, false, false, false] rfl rfl (take_ofW HT_.out HW_.out Zj12) (fun _ _ _ h => h) (Or.inl ⟨by rfl, ?_⟩) hHeld ?_ ?_
 rotate_left
 ·
  rintro w' ⟨s0, s1, s2, s3, s4, s5, s6, s7⟩
  go_simp
  with_reducible rfl
 rotate_left
 ·
  simp only [Act.put, y1j, y2j, y3j, i64_w, i32_w]
  rfl
 refine take_ (i := 2) (N := some 32) (v := ?_) (a' := ?_) #[true, false, true, false, false, false, false, false, false, false, false, false, false, false] rfl rfl (take_ofW HT_.out HW_.out Zj12) (fun _ _ _ h => h) (Or.inl ⟨by rfl, ?_⟩) hHeld ?_ ?_
 rotate_left
 ·
  rintro w' ⟨s0, s1, s2, s3, s4, s5, s6, s7⟩
  go_simp
  with_reducible rfl
 rotate_left
 ·
  simp only [Act.put, y1j, y2j, y3j, i64_w, i32_w]
  rfl
 refine take_ (i := 4) (N := some 34) (v := ?_) (a' := ?_) #[true, false, true, false, true, false, false, false, false, false, false, false, false, false] rfl rfl (take_ofW HT_.out HW_.out Zj12) (fun _ _ _ h => h) (Or.inl ⟨by rfl, ?_⟩) hHeld ?_ ?_
 rotate_left
 ·
  rintro w' ⟨s0, s1, s2, s3, s4, s5, s6, s7⟩
  go_simp
  with_reducible rfl
 rotate_left
 ·
  simp only [Act.put, y1j, y2j, y3j, i64_w, i32_w]
  rfl
 refine take_ (i := 6) (N := some 36) (v := ?_) (a' := ?_) #[true, false, true, false, true, false, true, false, false, false, false, false, false, false] rfl rfl (take_ofW HT_.out HW_.out Zj12) (fun _ _ _ h => h) (Or.inl ⟨by rfl, ?_⟩) hHeld ?_ ?_
 rotate_left
 ·
  rintro w' ⟨s0, s1, s2, s3, s4, s5, s6, s7⟩
  go_simp
  with_reducible rfl
 rotate_left
 ·
  simp only [Act.put, y1j, y2j, y3j, i64_w, i32_w]
  rfl
 refine one_ (i := 1) (N := some 31) #[true, true, true, false, true, false, true, false, false, false, false, false, false, false] rfl rfl (one_of HT_.out Zj12) (by decide) (fun K hK => ?_)
 refine goes_ Try.func5 Zj12 rfl #[.agg #[.int .i64 a0_0, .int .i64 a0_1]] (by rfl) rfl rfl Zj4 ?_
 with_reducible refine (laws_toCell.calls a0_0 a0_1 t330 t331 _ A10.out).mono ?_
 rintro e w27 ⟨rfl, hb⟩
 refine ⟨_, rfl, ?_⟩
 have n0_ := Ajq (Kd.S_below Zj9 hb)
 have n1_ := Ajq (blk_below (g := g314) (o := .cells #[.int .i64 a0_0, .int .i64 a0_1] 23 (0, 0)) Zj5 hb)
 have n2_ := Ajq (blk_below (g := g315) (o := .cells #[.int .i64 a1_0, .int .i64 a1_1] 23 (0, 0)) Zj6 hb)
 have n3_ := Ajq (blk_below (g := g316) (o := .cells #[.int .i64 a2_0, .int .i64 a2_1] 23 (0, 0)) Zj7 hb)
 have n4_ := Ajq (blk_below (g := g317) (o := .cells #[.int .i64 a3_0, .int .i64 a3_1] 23 (0, 0)) Zj8 hb)
 have n5_ := Ajq (below_step Zj1 hb)
 clear HO328 BK314 BK315 BK316 BK317 HB
 have HO328 := n0_
 have BK314 := n1_
 have BK315 := n2_
 have BK316 := n3_
 have BK317 := n4_
 have HB := n5_
 clear n0_ n1_ n2_ n3_ n4_ n5_
 (try clear hb)
 refine hK.out _ _ ⟨(blk_cell BK314.out 0).trans rfl, (blk_cell BK314.out 1).trans rfl, (blk_cell BK315.out 0).trans rfl, (blk_cell BK315.out 1).trans rfl, (blk_cell BK316.out 0).trans rfl, (blk_cell BK316.out 1).trans rfl, (blk_cell BK317.out 0).trans rfl, (blk_cell BK317.out 1).trans rfl⟩ (fun hHeld => ?_)
 clear hK K
 refine norm_ (a' := ?_) ?_ ?_
 rotate_left
 ·
  show Act.put _ (some 31) _ = _
  simp only [Act.put, y1j, y2j, y3j, i64_w, i32_w]
  rfl
 refine one_ (i := 3) (N := some 33) #[true, true, true, true, true, false, true, false, false, false, false, false, false, false] rfl rfl (one_of HT_.out Zj12) (by decide) (fun K hK => ?_)
 refine goes_ Try.func5 Zj12 rfl #[.agg #[.int .i64 a1_0, .int .i64 a1_1]] (by rfl) rfl rfl Zj4 ?_
 with_reducible refine (laws_toCell.calls a1_0 a1_1 t332 t333 _ A11.out).mono ?_
 rintro e w28 ⟨rfl, hb⟩
 refine ⟨_, rfl, ?_⟩
 have n0_ := Ajq (Kd.S_below Zj9 hb)
 have n1_ := Ajq (blk_below (g := g314) (o := .cells #[.int .i64 a0_0, .int .i64 a0_1] 23 (0, 0)) Zj5 hb)
 have n2_ := Ajq (blk_below (g := g315) (o := .cells #[.int .i64 a1_0, .int .i64 a1_1] 23 (0, 0)) Zj6 hb)
 have n3_ := Ajq (blk_below (g := g316) (o := .cells #[.int .i64 a2_0, .int .i64 a2_1] 23 (0, 0)) Zj7 hb)
 have n4_ := Ajq (blk_below (g := g317) (o := .cells #[.int .i64 a3_0, .int .i64 a3_1] 23 (0, 0)) Zj8 hb)
 have n5_ := Ajq (below_step Zj1 hb)
 clear HO328 BK314 BK315 BK316 BK317 HB
 have HO328 := n0_
 have BK314 := n1_
 have BK315 := n2_
 have BK316 := n3_
 have BK317 := n4_
 have HB := n5_
 clear n0_ n1_ n2_ n3_ n4_ n5_
 (try clear hb)
 refine hK.out _ _ ⟨(blk_cell BK314.out 0).trans rfl, (blk_cell BK314.out 1).trans rfl, (blk_cell BK315.out 0).trans rfl, (blk_cell BK315.out 1).trans rfl, (blk_cell BK316.out 0).trans rfl, (blk_cell BK316.out 1).trans rfl, (blk_cell BK317.out 0).trans rfl, (blk_cell BK317.out 1).trans rfl⟩ (fun hHeld => ?_)
 clear hK K
 refine norm_ (a' := ?_) ?_ ?_
 rotate_left
 ·
  show Act.put _ (some 33) _ = _
  simp only [Act.put, y1j, y2j, y3j, i64_w, i32_w]
  rfl
 refine one_ (i := 5) (N := some 35) #[true, true, true, true, true, true, true, false, false, false, false, false, false, false] rfl rfl (one_of HT_.out Zj12) (by decide) (fun K hK => ?_)
 refine goes_ Try.func5 Zj12 rfl #[.agg #[.int .i64 a2_0, .int .i64 a2_1]] (by rfl) rfl rfl Zj4 ?_
 with_reducible refine (laws_toCell.calls a2_0 a2_1 t334 t335 _ A12.out).mono ?_
 rintro e w29 ⟨rfl, hb⟩
 refine ⟨_, rfl, ?_⟩
 have n0_ := Ajq (Kd.S_below Zj9 hb)
 have n1_ := Ajq (blk_below (g := g314) (o := .cells #[.int .i64 a0_0, .int .i64 a0_1] 23 (0, 0)) Zj5 hb)
 have n2_ := Ajq (blk_below (g := g315) (o := .cells #[.int .i64 a1_0, .int .i64 a1_1] 23 (0, 0)) Zj6 hb)
 have n3_ := Ajq (blk_below (g := g316) (o := .cells #[.int .i64 a2_0, .int .i64 a2_1] 23 (0, 0)) Zj7 hb)
 have n4_ := Ajq (blk_below (g := g317) (o := .cells #[.int .i64 a3_0, .int .i64 a3_1] 23 (0, 0)) Zj8 hb)
 have n5_ := Ajq (below_step Zj1 hb)
 clear HO328 BK314 BK315 BK316 BK317 HB
 have HO328 := n0_
 have BK314 := n1_
 have BK315 := n2_
 have BK316 := n3_
 have BK317 := n4_
 have HB := n5_
 clear n0_ n1_ n2_ n3_ n4_ n5_
 (try clear hb)
 refine hK.out _ _ ⟨(blk_cell BK314.out 0).trans rfl, (blk_cell BK314.out 1).trans rfl, (blk_cell BK315.out 0).trans rfl, (blk_cell BK315.out 1).trans rfl, (blk_cell BK316.out 0).trans rfl, (blk_cell BK316.out 1).trans rfl, (blk_cell BK317.out 0).trans rfl, (blk_cell BK317.out 1).trans rfl⟩ (fun hHeld => ?_)
 clear hK K
 refine norm_ (a' := ?_) ?_ ?_
 rotate_left
 ·
  show Act.put _ (some 35) _ = _
  simp only [Act.put, y1j, y2j, y3j, i64_w, i32_w]
  rfl
 refine one_ (i := 7) (N := some 37) #[true, true, true, true, true, true, true, true, false, false, false, false, false, false] rfl rfl (one_of HT_.out Zj12) (by decide) (fun K hK => ?_)
 refine goes_ Try.func5 Zj12 rfl #[.agg #[.int .i64 a3_0, .int .i64 a3_1]] (by rfl) rfl rfl Zj4 ?_
 with_reducible refine (laws_toCell.calls a3_0 a3_1 t336 t337 _ A13.out).mono ?_
 rintro e w30 ⟨rfl, hb⟩
 refine ⟨_, rfl, ?_⟩
 have n0_ := Ajq (Kd.S_below Zj9 hb)
 have n1_ := Ajq (blk_below (g := g314) (o := .cells #[.int .i64 a0_0, .int .i64 a0_1] 23 (0, 0)) Zj5 hb)
 have n2_ := Ajq (blk_below (g := g315) (o := .cells #[.int .i64 a1_0, .int .i64 a1_1] 23 (0, 0)) Zj6 hb)
 have n3_ := Ajq (blk_below (g := g316) (o := .cells #[.int .i64 a2_0, .int .i64 a2_1] 23 (0, 0)) Zj7 hb)
 have n4_ := Ajq (blk_below (g := g317) (o := .cells #[.int .i64 a3_0, .int .i64 a3_1] 23 (0, 0)) Zj8 hb)
 have n5_ := Ajq (below_step Zj1 hb)
 clear HO328 BK314 BK315 BK316 BK317 HB
 have HO328 := n0_
 have BK314 := n1_
 have BK315 := n2_
 have BK316 := n3_
 have BK317 := n4_
 have HB := n5_
 clear n0_ n1_ n2_ n3_ n4_ n5_
 (try clear hb)
 refine hK.out _ _ ⟨(blk_cell BK314.out 0).trans rfl, (blk_cell BK314.out 1).trans rfl, (blk_cell BK315.out 0).trans rfl, (blk_cell BK315.out 1).trans rfl, (blk_cell BK316.out 0).trans rfl, (blk_cell BK316.out 1).trans rfl, (blk_cell BK317.out 0).trans rfl, (blk_cell BK317.out 1).trans rfl⟩ (fun hHeld => ?_)
 clear hK K
 refine norm_ (a' := ?_) ?_ ?_
 rotate_left
 ·
  show Act.put _ (some 37) _ = _
  simp only [Act.put, y1j, y2j, y3j, i64_w, i32_w]
  rfl
 refine one_ (i := 8) (N := some 38) #[true, true, true, true, true, true, true, true, true, false, false, false, false, false] rfl rfl (one_of HT_.out Zj12) (by decide) (fun K hK => ?_)
 refine goes_ Try.func6 Zj12 rfl #[.agg #[.int .i64 t330, .int .i64 t331], .agg #[.int .i64 t332, .int .i64 t333], .agg #[.int .i64 t334, .int .i64 t335], .agg #[.int .i64 t336, .int .i64 t337]] (by rfl) rfl rfl Zj4 ?_
 with_reducible refine (impl_AllPairsApart.calls k t330 t331 t332 t333 t334 t335 t336 t337 t338 t341 _ A14.out).mono ?_
 rintro e w31 ⟨v339, rfl, ho0, hb⟩
 refine ⟨_, rfl, ?_⟩
 obtain ⟨N, hN, q0_, q1_⟩ := S_split Zj9 ho0 hb (below_size Zj1)
 have n0_ := Ajq q0_
 have n1_ := Ajq q1_
 clear q0_ q1_
 have LT314 := Ajq (show g314 < N by rw [hN]; exact blk_lt (g := g314) (o := .cells #[.int .i64 a0_0, .int .i64 a0_1] 23 (0, 0)) Zj5)
 have LT315 := Ajq (show g315 < N by rw [hN]; exact blk_lt (g := g315) (o := .cells #[.int .i64 a1_0, .int .i64 a1_1] 23 (0, 0)) Zj6)
 have LT316 := Ajq (show g316 < N by rw [hN]; exact blk_lt (g := g316) (o := .cells #[.int .i64 a2_0, .int .i64 a2_1] 23 (0, 0)) Zj7)
 have LT317 := Ajq (show g317 < N by rw [hN]; exact blk_lt (g := g317) (o := .cells #[.int .i64 a3_0, .int .i64 a3_1] 23 (0, 0)) Zj8)
 clear hN
 have n2_ := Ajq (blk_below (g := g314) (o := .cells #[.int .i64 a0_0, .int .i64 a0_1] 23 (0, 0)) Zj5 hb)
 have n3_ := Ajq (blk_below (g := g315) (o := .cells #[.int .i64 a1_0, .int .i64 a1_1] 23 (0, 0)) Zj6 hb)
 have n4_ := Ajq (blk_below (g := g316) (o := .cells #[.int .i64 a2_0, .int .i64 a2_1] 23 (0, 0)) Zj7 hb)
 have n5_ := Ajq (blk_below (g := g317) (o := .cells #[.int .i64 a3_0, .int .i64 a3_1] 23 (0, 0)) Zj8 hb)
 have n6_ := Ajq (below_step Zj1 hb)
 clear HO328 BK314 BK315 BK316 BK317 HB
 have HO328 := n0_
 have HO340 := n1_
 have BK314 := n2_
 have BK315 := n3_
 have BK316 := n4_
 have BK317 := n5_
 have HB := n6_
 clear n0_ n1_ n2_ n3_ n4_ n5_ n6_
 (try clear hb)
 (try clear ho0)
 refine hK.out _ _ ⟨(blk_cell BK314.out 0).trans rfl, (blk_cell BK314.out 1).trans rfl, (blk_cell BK315.out 0).trans rfl, (blk_cell BK315.out 1).trans rfl, (blk_cell BK316.out 0).trans rfl, (blk_cell BK316.out 1).trans rfl, (blk_cell BK317.out 0).trans rfl, (blk_cell BK317.out 1).trans rfl⟩ (fun hHeld => ?_)
 clear hK K
 refine norm_ (a' := ?_) ?_ ?_
 rotate_left
 ·
  show Act.put _ (some 38) _ = _
  simp only [Act.put, y1j, y2j, y3j, i64_w, i32_w]
  rfl
 refine pure_ (i := 9) (N := some 29) (v := ?_) (a' := ?_) #[true, true, true, true, true, true, true, true, true, true, false, false, false, false] rfl rfl (any_of HT_.out Zj12) (fun _ _ _ h => h) (Or.inl ⟨by rfl, ?_⟩) ?_ ?_
 rotate_left
 ·
  intro w'
  go_simp
  with_reducible rfl
 rotate_left
 ·
  simp only [Act.put, y1j, y2j, y3j, i64_w, i32_w]
  rfl
 refine pure_ (i := 10) (N := some 39) (v := ?_) (a' := ?_) #[true, true, true, true, true, true, true, true, true, true, true, false, false, false] rfl rfl (any_of HT_.out Zj12) (fun _ _ _ h => h) (Or.inl ⟨by rfl, ?_⟩) ?_ ?_
 rotate_left
 ·
  intro w'
  go_simp
  with_reducible rfl
 rotate_left
 ·
  simp only [Act.put, y1j, y2j, y3j, i64_w, i32_w]
  rfl
 refine pure_ (i := 11) (N := some 40) (v := ?_) (a' := ?_) #[true, true, true, true, true, true, true, true, true, true, true, true, false, false] rfl rfl (any_of HT_.out Zj12) (fun _ _ _ h => h) (Or.inl ⟨by rfl, ?_⟩) ?_ ?_
 rotate_left
 ·
  intro w'
  go_simp
  with_reducible rfl
 rotate_left
 ·
  simp only [Act.put, y1j, y2j, y3j, i64_w, i32_w]
  rfl
 refine pure_ (i := 12) (N := some 11) (v := ?_) (a' := ?_) #[true, true, true, true, true, true, true, true, true, true, true, true, true, false] rfl rfl (any_of HT_.out Zj12) (fun _ _ _ h => h) (Or.inl ⟨by rfl, ?_⟩) ?_ ?_
 rotate_left
 ·
  intro w'
  go_simp
  with_reducible rfl
 rotate_left
 ·
  simp only [Act.put, y1j, y2j, y3j, i64_w, i32_w]
  rfl
 refine pure_ (i := 13) (N := some 12) (v := ?_) (a' := ?_) #[true, true, true, true, true, true, true, true, true, true, true, true, true, true] rfl rfl (any_of HT_.out Zj12) (fun _ _ _ h => h) (Or.inl ⟨by rfl, ?_⟩) ?_ ?_
 rotate_left
 ·
  intro w'
  go_simp
  with_reducible rfl
 rotate_left
 ·
  simp only [Act.put, y1j, y2j, y3j, i64_w, i32_w]
  rfl
 refine done_ (done_of HT_.out Zj12) ?_
 go_upto_region 3 with (fail)
 go_cut [49] (fun v49 wc => ∃ (kq : Nat) (x49_14 : Bool), v49 = .bool x49_14 ∧ Aside0 (laws_FnExactAllPairsApart.j0 kq t326 t329 t338 x49_14 a0_0 a0_1 a1_0 a1_1 a2_0 a2_1 a3_0 a3_1 = some r) ∧ Aside0 (kq ≤ k) ∧ Aside0 (Kd.S (Kd.slice 37 k37) 33 wc w.heap.size (fun k_ => k_ < N) v327 t326) ∧ Aside0 (Kd.S (Kd.slice 37 k37) 33 wc w.heap.size (fun k_ => N ≤ k_) v339 t338) ∧ Aside0 (wc.heap[g314]? = some (.cells #[.int .i64 a0_0, .int .i64 a0_1] 23 (0, 0))) ∧ Aside0 (wc.heap[g315]? = some (.cells #[.int .i64 a1_0, .int .i64 a1_1] 23 (0, 0))) ∧ Aside0 (wc.heap[g316]? = some (.cells #[.int .i64 a2_0, .int .i64 a2_1] 23 (0, 0))) ∧ Aside0 (wc.heap[g317]? = some (.cells #[.int .i64 a3_0, .int .i64 a3_1] 23 (0, 0))) ∧ Aside0 (Below w.heap.size w wc))
 case first =>
  have H := HC15.out
  clear HC15
  replace H := Option.bind_eq_some_iff.mp H
  obtain ⟨t342, A320, H⟩ := H
  replace H : (if t342 = true then (laws_FnExactAllPairsApart.j0 k t326 t329 t338 (t341 != t329) a0_0 a0_1 a1_0 a1_1 a2_0 a2_1 a3_0 a3_1) else (laws_FnExactAllPairsApart.j0 k t326 t329 t338 true a0_0 a0_1 a1_0 a1_1 a2_0 a2_1 a3_0 a3_1)) = some r := H
  have A32 := Ajq A320
  clear A320
  by_cases c33 : t342 = true
  ·
   subst c33
   have H1 : (laws_FnExactAllPairsApart.j0 k t326 t329 t338 (t341 != t329) a0_0 a0_1 a1_0 a1_1 a2_0 a2_1 a3_0 a3_1) = some r := by rw [if_pos rfl] at H; exact H
   clear H
   have H := H1
   clear H1
   have H' := Ajq H
   clear H
   obtain ⟨Ao34, co34, eo34⟩ := Kd.S_slice HO340.out
   subst eo34
   obtain ⟨Ao35, co35, eo35⟩ := Kd.S_slice HO328.out
   subst eo35
   go_wp2_with (first | ((with_reducible refine gate_callee (f := 7) rfl ?_); refine goesL_ (some 43) rfl rfl Try.func7 Zj12 rfl #[.slice Ao34 t338.length co34, .slice Ao35 t326.length co35] rfl Zj4 ?_; (with_reducible refine (laws_eqWaySS.calls k _ _ t338 _ _ t326 true _ ?side1 ?side2 ?side3 ?side4 A32.out).mono ?_); (case side1 => repeat (first | exact (Kd.S_reads' HO340.out).2.2 | (with_reducible refine Kd.C_alloc ?_ _) | (with_reducible refine Kd.C_drewN ?_ _) | (with_reducible refine Kd.C_drew ?_))); (case side2 => exact (Kd.S_reads' HO340.out).2.1); (case side3 => repeat (first | exact (Kd.S_reads' HO328.out).2.2 | (with_reducible refine Kd.C_alloc ?_ _) | (with_reducible refine Kd.C_drewN ?_ _) | (with_reducible refine Kd.C_drew ?_))); (case side4 => exact (Kd.S_reads' HO328.out).2.1); rintro e w36 ⟨rfl, hb⟩; refine ⟨_, rfl, ?_⟩; have n0_ := Ajq (Kd.S_below Zj9 hb); have n1_ := Ajq (Kd.S_below (by (with_reducible repeat (first | apply Kd.S_alloc | apply Kd.S_drewN | apply Kd.S_drew)); exact HO340.out) hb); have n2_ := Ajq (blk_below (g := g314) (o := .cells #[.int .i64 a0_0, .int .i64 a0_1] 23 (0, 0)) Zj5 hb); have n3_ := Ajq (blk_below (g := g315) (o := .cells #[.int .i64 a1_0, .int .i64 a1_1] 23 (0, 0)) Zj6 hb); have n4_ := Ajq (blk_below (g := g316) (o := .cells #[.int .i64 a2_0, .int .i64 a2_1] 23 (0, 0)) Zj7 hb); have n5_ := Ajq (blk_below (g := g317) (o := .cells #[.int .i64 a3_0, .int .i64 a3_1] 23 (0, 0)) Zj8 hb); have n6_ := Ajq (below_step Zj1 hb); clear HO328; clear HO340; clear BK314; clear BK315; clear BK316; clear BK317; clear HB; have HO328 := n0_; have HO340 := n1_; have BK314 := n2_; have BK315 := n3_; have BK316 := n4_; have BK317 := n5_; have HB := n6_; clear n0_ n1_ n2_ n3_ n4_ n5_ n6_; (try clear hb)))
   go_meet
   case rel => exact ⟨_, ((t341 != t329)), (by first | rfl | (simp; done) | (simp [*]; done) | (simp only [i64_w]; done)), H', ⟨by first | omega | exact Nat.le_refl _⟩, ⟨by (with_reducible repeat (first | apply Kd.S_alloc | apply Kd.S_drewN | apply Kd.S_drew)); exact HO328.out⟩, ⟨by (with_reducible repeat (first | apply Kd.S_alloc | apply Kd.S_drewN | apply Kd.S_drew)); exact HO340.out⟩, ⟨by (with_reducible repeat (first | refine blk_drewN ?_ _ | refine blk_drew ?_ | refine blk_alloc ?_ _)); exact BK314.out⟩, ⟨by (with_reducible repeat (first | refine blk_drewN ?_ _ | refine blk_drew ?_ | refine blk_alloc ?_ _)); exact BK315.out⟩, ⟨by (with_reducible repeat (first | refine blk_drewN ?_ _ | refine blk_drew ?_ | refine blk_alloc ?_ _)); exact BK316.out⟩, ⟨by (with_reducible repeat (first | refine blk_drewN ?_ _ | refine blk_drew ?_ | refine blk_alloc ?_ _)); exact BK317.out⟩, ⟨by repeat (first | (with_reducible first | exact HB.out | apply below_alloc | apply pw_below_drewN | apply below_drew1 | refine below_set ?_ GE314.out | refine below_set ?_ GE315.out | refine below_set ?_ GE316.out | refine below_set ?_ GE317.out) | exact HB.out)⟩⟩
  ·
   replace c33 := Bool.eq_false_iff.mpr c33
   subst c33
   have H1 : (laws_FnExactAllPairsApart.j0 k t326 t329 t338 true a0_0 a0_1 a1_0 a1_1 a2_0 a2_1 a3_0 a3_1) = some r := by rw [if_neg (show ¬ (false = true) by decide)] at H; exact H
   clear H
   have H := H1
   clear H1
   have H' := Ajq H
   clear H
   obtain ⟨Ao37, co37, eo37⟩ := Kd.S_slice HO340.out
   subst eo37
   obtain ⟨Ao38, co38, eo38⟩ := Kd.S_slice HO328.out
   subst eo38
   go_wp2_with (first | ((with_reducible refine gate_callee (f := 7) rfl ?_); refine goesL_ (some 43) rfl rfl Try.func7 Zj12 rfl #[.slice Ao37 t338.length co37, .slice Ao38 t326.length co38] rfl Zj4 ?_; (with_reducible refine (laws_eqWaySS.calls k _ _ t338 _ _ t326 false _ ?side1 ?side2 ?side3 ?side4 A32.out).mono ?_); (case side1 => repeat (first | exact (Kd.S_reads' HO340.out).2.2 | (with_reducible refine Kd.C_alloc ?_ _) | (with_reducible refine Kd.C_drewN ?_ _) | (with_reducible refine Kd.C_drew ?_))); (case side2 => exact (Kd.S_reads' HO340.out).2.1); (case side3 => repeat (first | exact (Kd.S_reads' HO328.out).2.2 | (with_reducible refine Kd.C_alloc ?_ _) | (with_reducible refine Kd.C_drewN ?_ _) | (with_reducible refine Kd.C_drew ?_))); (case side4 => exact (Kd.S_reads' HO328.out).2.1); rintro e w39 ⟨rfl, hb⟩; refine ⟨_, rfl, ?_⟩; have n0_ := Ajq (Kd.S_below Zj9 hb); have n1_ := Ajq (Kd.S_below (by (with_reducible repeat (first | apply Kd.S_alloc | apply Kd.S_drewN | apply Kd.S_drew)); exact HO340.out) hb); have n2_ := Ajq (blk_below (g := g314) (o := .cells #[.int .i64 a0_0, .int .i64 a0_1] 23 (0, 0)) Zj5 hb); have n3_ := Ajq (blk_below (g := g315) (o := .cells #[.int .i64 a1_0, .int .i64 a1_1] 23 (0, 0)) Zj6 hb); have n4_ := Ajq (blk_below (g := g316) (o := .cells #[.int .i64 a2_0, .int .i64 a2_1] 23 (0, 0)) Zj7 hb); have n5_ := Ajq (blk_below (g := g317) (o := .cells #[.int .i64 a3_0, .int .i64 a3_1] 23 (0, 0)) Zj8 hb); have n6_ := Ajq (below_step Zj1 hb); clear HO328; clear HO340; clear BK314; clear BK315; clear BK316; clear BK317; clear HB; have HO328 := n0_; have HO340 := n1_; have BK314 := n2_; have BK315 := n3_; have BK316 := n4_; have BK317 := n5_; have HB := n6_; clear n0_ n1_ n2_ n3_ n4_ n5_ n6_; (try clear hb)))
   go_meet
   case rel => exact ⟨_, (true), (by first | rfl | (simp; done) | (simp [*]; done) | (simp only [i64_w]; done)), H', ⟨by first | omega | exact Nat.le_refl _⟩, ⟨by (with_reducible repeat (first | apply Kd.S_alloc | apply Kd.S_drewN | apply Kd.S_drew)); exact HO328.out⟩, ⟨by (with_reducible repeat (first | apply Kd.S_alloc | apply Kd.S_drewN | apply Kd.S_drew)); exact HO340.out⟩, ⟨by (with_reducible repeat (first | refine blk_drewN ?_ _ | refine blk_drew ?_ | refine blk_alloc ?_ _)); exact BK314.out⟩, ⟨by (with_reducible repeat (first | refine blk_drewN ?_ _ | refine blk_drew ?_ | refine blk_alloc ?_ _)); exact BK315.out⟩, ⟨by (with_reducible repeat (first | refine blk_drewN ?_ _ | refine blk_drew ?_ | refine blk_alloc ?_ _)); exact BK316.out⟩, ⟨by (with_reducible repeat (first | refine blk_drewN ?_ _ | refine blk_drew ?_ | refine blk_alloc ?_ _)); exact BK317.out⟩, ⟨by repeat (first | (with_reducible first | exact HB.out | apply below_alloc | apply pw_below_drewN | apply below_drew1 | refine below_set ?_ GE314.out | refine below_set ?_ GE315.out | refine below_set ?_ GE316.out | refine below_set ?_ GE317.out) | exact HB.out)⟩⟩
 case rest =>
  clear HC15
  try clear p2
  try clear c3
  try clear c4
  try clear c5
  try clear c6
  try clear c7
  try clear c33
  obtain ⟨kq, x49_14, rfl, HA, HJ14, HO_9, HO_11, BK314, BK315, BK316, BK317, HB⟩ := hcut
  cases kq with
  | zero => exact absurd HA.out (by simp [laws_FnExactAllPairsApart.j0])
  | succ kj14 =>
   have H := HA.out
   clear HA
   simp only [laws_FnExactAllPairsApart.j0] at H
   by_cases c40 : x49_14 = true
   ·
    subst c40
    have H1 : (none) = some r := by rw [if_pos rfl] at H; exact H
    clear H
    have H := H1
    clear H1
    exact absurd H (by simp)
   ·
    replace c40 := Bool.eq_false_iff.mpr c40
    subst c40
    have H1 : ((laws_markWaySS.f kj14 t338 1).bind fun bt343 => ((laws_heldWaySS.f kj14 bt343.2 1).bind fun t345 => (if t345 < 0 then (none) else (if t345 = bt343.1 then ((laws_toCell.f a0_0 a0_1).bind fun bt346 => ((laws_toCell.f a1_0 a1_1).bind fun bt348 => ((laws_toCell.f a2_0 a2_1).bind fun bt350 => ((laws_toCell.f a3_0 a3_1).bind fun bt352 => ((impl_AllPairsApart.f kj14 bt346.1 bt346.2 bt348.1 bt348.2 bt350.1 bt350.2 bt352.1 bt352.2).bind fun bt354 => ((laws_eqWaySS.f kj14 bt354.1 t326).bind fun t358 => (if t358 = true then (laws_FnExactAllPairsApart.j1 kj14 bt343.2 bt343.1 (bt354.2 != t329)) else (laws_FnExactAllPairsApart.j1 kj14 bt343.2 bt343.1 true)))))))) else (none))))) = some r := by rw [if_neg (show ¬ (false = true) by decide)] at H; exact H
    clear H
    have H := H1
    clear H1
    replace H := Option.bind_eq_some_iff.mp H
    obtain ⟨⟨t343, t344⟩, A410, H⟩ := H
    replace H : ((laws_heldWaySS.f kj14 t344 1).bind fun t345 => (if t345 < 0 then (none) else (if t345 = t343 then ((laws_toCell.f a0_0 a0_1).bind fun bt346 => ((laws_toCell.f a1_0 a1_1).bind fun bt348 => ((laws_toCell.f a2_0 a2_1).bind fun bt350 => ((laws_toCell.f a3_0 a3_1).bind fun bt352 => ((impl_AllPairsApart.f kj14 bt346.1 bt346.2 bt348.1 bt348.2 bt350.1 bt350.2 bt352.1 bt352.2).bind fun bt354 => ((laws_eqWaySS.f kj14 bt354.1 t326).bind fun t358 => (if t358 = true then (laws_FnExactAllPairsApart.j1 kj14 t344 t343 (bt354.2 != t329)) else (laws_FnExactAllPairsApart.j1 kj14 t344 t343 true)))))))) else (none)))) = some r := H
    have A41 := Ajq A410
    clear A410
    replace H := Option.bind_eq_some_iff.mp H
    obtain ⟨t345, A420, H⟩ := H
    replace H : (if t345 < 0 then (none) else (if t345 = t343 then ((laws_toCell.f a0_0 a0_1).bind fun bt346 => ((laws_toCell.f a1_0 a1_1).bind fun bt348 => ((laws_toCell.f a2_0 a2_1).bind fun bt350 => ((laws_toCell.f a3_0 a3_1).bind fun bt352 => ((impl_AllPairsApart.f kj14 bt346.1 bt346.2 bt348.1 bt348.2 bt350.1 bt350.2 bt352.1 bt352.2).bind fun bt354 => ((laws_eqWaySS.f kj14 bt354.1 t326).bind fun t358 => (if t358 = true then (laws_FnExactAllPairsApart.j1 kj14 t344 t343 (bt354.2 != t329)) else (laws_FnExactAllPairsApart.j1 kj14 t344 t343 true)))))))) else (none))) = some r := H
    have A42 := Ajq A420
    clear A420
    by_cases c43 : t345 < 0
    ·
     rw [if_pos c43] at H
     exact absurd H (by simp)
    ·
     rw [if_neg c43] at H
     have c43b0 : decide (t345 < 0) = false := decide_eq_false c43
     clear c43
     by_cases c44 : t345 = t343
     ·
      rw [if_pos c44] at H
      have c44b0 : (t345 == t343) = true := beq_iff_eq.mpr c44
      have c44b1 : (t345 != t343) = false := bne_eq_false_iff_eq.mpr c44
      clear c44
      replace H := Option.bind_eq_some_iff.mp H
      obtain ⟨⟨t346, t347⟩, A450, H⟩ := H
      replace H : ((laws_toCell.f a1_0 a1_1).bind fun bt348 => ((laws_toCell.f a2_0 a2_1).bind fun bt350 => ((laws_toCell.f a3_0 a3_1).bind fun bt352 => ((impl_AllPairsApart.f kj14 t346 t347 bt348.1 bt348.2 bt350.1 bt350.2 bt352.1 bt352.2).bind fun bt354 => ((laws_eqWaySS.f kj14 bt354.1 t326).bind fun t358 => (if t358 = true then (laws_FnExactAllPairsApart.j1 kj14 t344 t343 (bt354.2 != t329)) else (laws_FnExactAllPairsApart.j1 kj14 t344 t343 true))))))) = some r := H
      have A45 := Ajq A450
      clear A450
      replace H := Option.bind_eq_some_iff.mp H
      obtain ⟨⟨t348, t349⟩, A460, H⟩ := H
      replace H : ((laws_toCell.f a2_0 a2_1).bind fun bt350 => ((laws_toCell.f a3_0 a3_1).bind fun bt352 => ((impl_AllPairsApart.f kj14 t346 t347 t348 t349 bt350.1 bt350.2 bt352.1 bt352.2).bind fun bt354 => ((laws_eqWaySS.f kj14 bt354.1 t326).bind fun t358 => (if t358 = true then (laws_FnExactAllPairsApart.j1 kj14 t344 t343 (bt354.2 != t329)) else (laws_FnExactAllPairsApart.j1 kj14 t344 t343 true)))))) = some r := H
      have A46 := Ajq A460
      clear A460
      replace H := Option.bind_eq_some_iff.mp H
      obtain ⟨⟨t350, t351⟩, A470, H⟩ := H
      replace H : ((laws_toCell.f a3_0 a3_1).bind fun bt352 => ((impl_AllPairsApart.f kj14 t346 t347 t348 t349 t350 t351 bt352.1 bt352.2).bind fun bt354 => ((laws_eqWaySS.f kj14 bt354.1 t326).bind fun t358 => (if t358 = true then (laws_FnExactAllPairsApart.j1 kj14 t344 t343 (bt354.2 != t329)) else (laws_FnExactAllPairsApart.j1 kj14 t344 t343 true))))) = some r := H
      have A47 := Ajq A470
      clear A470
      replace H := Option.bind_eq_some_iff.mp H
      obtain ⟨⟨t352, t353⟩, A480, H⟩ := H
      replace H : ((impl_AllPairsApart.f kj14 t346 t347 t348 t349 t350 t351 t352 t353).bind fun bt354 => ((laws_eqWaySS.f kj14 bt354.1 t326).bind fun t358 => (if t358 = true then (laws_FnExactAllPairsApart.j1 kj14 t344 t343 (bt354.2 != t329)) else (laws_FnExactAllPairsApart.j1 kj14 t344 t343 true)))) = some r := H
      have A48 := Ajq A480
      clear A480
      replace H := Option.bind_eq_some_iff.mp H
      obtain ⟨⟨t354, t357⟩, A490, H⟩ := H
      replace H : ((laws_eqWaySS.f kj14 t354 t326).bind fun t358 => (if t358 = true then (laws_FnExactAllPairsApart.j1 kj14 t344 t343 (t357 != t329)) else (laws_FnExactAllPairsApart.j1 kj14 t344 t343 true))) = some r := H
      have A49 := Ajq A490
      clear A490
      have HC50 := Ajq H
      clear H
      obtain ⟨Ao51, co51, eo51⟩ := Kd.S_slice HO_11.out
      subst eo51
      try go_wp2_with (first | ((with_reducible refine gate_callee (f := 8) rfl ?_); refine goesL_ (some 52) rfl rfl Try.func8 Zj12 rfl #[.slice Ao51 t338.length co51, .int .i64 1] rfl Zj4 ?_; (with_reducible refine (laws_markWaySS.calls kj14 (fun k_ => N ≤ k_) (.slice Ao51 t338.length co51) t338 1 t343 t344 w _ ?side1 ?side2 A41.out).mono ?_); (case side1 => repeat (first | (with_reducible first | exact HB.out | apply below_alloc | apply pw_below_drewN | apply below_drew1 | refine below_set ?_ GE314.out | refine below_set ?_ GE315.out | refine below_set ?_ GE316.out | refine below_set ?_ GE317.out) | exact HB.out)); (case side2 => exact HO_11.out); rintro e w52 ⟨rfl, hy0, hb, hkp⟩; refine ⟨_, rfl, ?_⟩; have n0_ := Ajq (Kd.S_kept HO_9.out hkp (fun k_ hk_ hs_ => absurd hk_ (Nat.not_lt.mpr hs_))); have n1_ := Ajq hy0; have n2_ := Ajq (blk_kept Zj5 hkp (fun hs_ => absurd LT314.out (Nat.not_lt.mpr hs_))); have n3_ := Ajq (blk_kept Zj6 hkp (fun hs_ => absurd LT315.out (Nat.not_lt.mpr hs_))); have n4_ := Ajq (blk_kept Zj7 hkp (fun hs_ => absurd LT316.out (Nat.not_lt.mpr hs_))); have n5_ := Ajq (blk_kept Zj8 hkp (fun hs_ => absurd LT317.out (Nat.not_lt.mpr hs_))); have n6_ := Ajq (hb); clear HO_9; clear HO_11; clear BK314; clear BK315; clear BK316; clear BK317; clear HB; have HO_9 := n0_; have HO_11 := n1_; have BK314 := n2_; have BK315 := n3_; have BK316 := n4_; have BK317 := n5_; have HB := n6_; clear n0_ n1_ n2_ n3_ n4_ n5_ n6_; (try clear hb); (try clear hkp); (try clear hy0)) | ((with_reducible refine gate_callee (f := 9) rfl ?_); refine goesL_ (some 55) rfl rfl Try.func9 Zj12 rfl #[.slice Ao51 t344.length co51, .int .i64 1] rfl (by (try simp only [List.map_toArray, List.map_cons, List.map_nil]); first | done | (rw [show t344.length = t338.length from (Kd.S_reads' HO_11.out).1.symm] <;> rfl) | rfl | (simp only [List.length_drop, List.length_take]; rfl)) ?_; (with_reducible refine (laws_heldWaySS.calls kj14 _ _ t344 1 t345 _ ?side1 ?side2 A42.out).mono ?_); (case side1 => repeat (first | exact (Kd.S_reads' HO_11.out).2.2 | (with_reducible refine Kd.C_alloc ?_ _) | (with_reducible refine Kd.C_drewN ?_ _) | (with_reducible refine Kd.C_drew ?_))); (case side2 => rw [show t344.length = t338.length from (Kd.S_reads' HO_11.out).1.symm]; exact (Kd.S_reads' HO_11.out).2.1); rintro e w53 ⟨rfl, hb⟩; refine ⟨_, rfl, ?_⟩; have n0_ := Ajq (Kd.S_below Zj11 hb); have n1_ := Ajq (Kd.S_below Zj10 hb); have n2_ := Ajq (blk_below (g := g314) (o := .cells #[.int .i64 a0_0, .int .i64 a0_1] 23 (0, 0)) Zj5 hb); have n3_ := Ajq (blk_below (g := g315) (o := .cells #[.int .i64 a1_0, .int .i64 a1_1] 23 (0, 0)) Zj6 hb); have n4_ := Ajq (blk_below (g := g316) (o := .cells #[.int .i64 a2_0, .int .i64 a2_1] 23 (0, 0)) Zj7 hb); have n5_ := Ajq (blk_below (g := g317) (o := .cells #[.int .i64 a3_0, .int .i64 a3_1] 23 (0, 0)) Zj8 hb); have n6_ := Ajq (below_step Zj1 hb); clear HO_9; clear HO_11; clear BK314; clear BK315; clear BK316; clear BK317; clear HB; have HO_9 := n0_; have HO_11 := n1_; have BK314 := n2_; have BK315 := n3_; have BK316 := n4_; have BK317 := n5_; have HB := n6_; clear n0_ n1_ n2_ n3_ n4_ n5_ n6_; (try clear hb)))
      have n0_ := Ajq (Kd.S_drew HO_9.out)
      have n1_ := Ajq (Kd.S_drew HO_11.out)
      have n2_ := Ajq (blk_drew BK314.out)
      have n3_ := Ajq (blk_drew BK315.out)
      have n4_ := Ajq (blk_drew BK316.out)
      have n5_ := Ajq (blk_drew BK317.out)
      have n6_ := Ajq (below_drew1 HB.out)
      clear HO_9 HO_11 BK314 BK315 BK316 BK317 HB
      have HO_9 := n0_
      have HO_11 := n1_
      have BK314 := n2_
      have BK315 := n3_
      have BK316 := n4_
      have BK317 := n5_
      have HB := n6_
      clear n0_ n1_ n2_ n3_ n4_ n5_ n6_
      refine start_ (n := 14) (S := fun w' => w'.cell? ⟨g314, 0, none⟩ = some (.int .i64 a0_0) ∧ w'.cell? ⟨g314, 1, none⟩ = some (.int .i64 a0_1) ∧ w'.cell? ⟨g315, 0, none⟩ = some (.int .i64 a1_0) ∧ w'.cell? ⟨g315, 1, none⟩ = some (.int .i64 a1_1) ∧ w'.cell? ⟨g316, 0, none⟩ = some (.int .i64 a2_0) ∧ w'.cell? ⟨g316, 1, none⟩ = some (.int .i64 a2_1) ∧ w'.cell? ⟨g317, 0, none⟩ = some (.int .i64 a3_0) ∧ w'.cell? ⟨g317, 1, none⟩ = some (.int .i64 a3_1)) (ds := []) #[false, false, false, false, false, false, false, false, false, false, false, false, false, false] Zj12 rfl rfl ⟨(blk_cell BK314.out 0).trans rfl, (blk_cell BK314.out 1).trans rfl, (blk_cell BK315.out 0).trans rfl, (blk_cell BK315.out 1).trans rfl, (blk_cell BK316.out 0).trans rfl, (blk_cell BK316.out 1).trans rfl, (blk_cell BK317.out 0).trans rfl, (blk_cell BK317.out 1).trans rfl⟩ (fun hHeld => ?_); refine with_tabW laws_FnExactAllPairsApart.tab13 laws_FnExactAllPairsApart.bits13 (fun HT_ HW_ => ?_)
      generalize w53.drew = w54 at HO_9 HO_11 BK314 BK315 BK316 BK317 HB hHeld ⊢
      refine take_ (i := 0) (N := some 62) (v := ?_) (a' := ?_) #[true, false, false, false, false, false, false, false, false, false, false, false, false, false] rfl rfl (take_ofW HT_.out HW_.out Zj12) (fun _ _ _ h => h) (Or.inl ⟨by rfl, ?_⟩) hHeld ?_ ?_
      rotate_left
      ·
       rintro w' ⟨s0, s1, s2, s3, s4, s5, s6, s7⟩
       go_simp
       with_reducible rfl
      rotate_left
      ·
       simp only [Act.put, y1j, y2j, y3j, i64_w, i32_w]
       rfl
      refine take_ (i := 2) (N := some 64) (v := ?_) (a' := ?_) #[true, false, true, false, false, false, false, false, false, false, false, false, false, false] rfl rfl (take_ofW HT_.out HW_.out Zj12) (fun _ _ _ h => h) (Or.inl ⟨by rfl, ?_⟩) hHeld ?_ ?_
      rotate_left
      ·
       rintro w' ⟨s0, s1, s2, s3, s4, s5, s6, s7⟩
       go_simp
       with_reducible rfl
      rotate_left
      ·
       simp only [Act.put, y1j, y2j, y3j, i64_w, i32_w]
       rfl
      refine take_ (i := 4) (N := some 66) (v := ?_) (a' := ?_) #[true, false, true, false, true, false, false, false, false, false, false, false, false, false] rfl rfl (take_ofW HT_.out HW_.out Zj12) (fun _ _ _ h => h) (Or.inl ⟨by rfl, ?_⟩) hHeld ?_ ?_
      rotate_left
      ·
       rintro w' ⟨s0, s1, s2, s3, s4, s5, s6, s7⟩
       go_simp
       with_reducible rfl
      rotate_left
      ·
       simp only [Act.put, y1j, y2j, y3j, i64_w, i32_w]
       rfl
      refine take_ (i := 6) (N := some 68) (v := ?_) (a' := ?_) #[true, false, true, false, true, false, true, false, false, false, false, false, false, false] rfl rfl (take_ofW HT_.out HW_.out Zj12) (fun _ _ _ h => h) (Or.inl ⟨by rfl, ?_⟩) hHeld ?_ ?_
      rotate_left
      ·
       rintro w' ⟨s0, s1, s2, s3, s4, s5, s6, s7⟩
       go_simp
       with_reducible rfl
      rotate_left
      ·
       simp only [Act.put, y1j, y2j, y3j, i64_w, i32_w]
       rfl
      refine one_ (i := 1) (N := some 63) #[true, true, true, false, true, false, true, false, false, false, false, false, false, false] rfl rfl (one_of HT_.out Zj12) (by decide) (fun K hK => ?_)
      refine goes_ Try.func5 Zj12 rfl #[.agg #[.int .i64 a0_0, .int .i64 a0_1]] (by rfl) rfl rfl Zj4 ?_
      with_reducible refine (laws_toCell.calls a0_0 a0_1 t346 t347 _ A45.out).mono ?_
      rintro e w55 ⟨rfl, hb⟩
      refine ⟨_, rfl, ?_⟩
      have n0_ := Ajq (Kd.S_below Zj11 hb)
      have n1_ := Ajq (Kd.S_below Zj10 hb)
      have n2_ := Ajq (blk_below (g := g314) (o := .cells #[.int .i64 a0_0, .int .i64 a0_1] 23 (0, 0)) Zj5 hb)
      have n3_ := Ajq (blk_below (g := g315) (o := .cells #[.int .i64 a1_0, .int .i64 a1_1] 23 (0, 0)) Zj6 hb)
      have n4_ := Ajq (blk_below (g := g316) (o := .cells #[.int .i64 a2_0, .int .i64 a2_1] 23 (0, 0)) Zj7 hb)
      have n5_ := Ajq (blk_below (g := g317) (o := .cells #[.int .i64 a3_0, .int .i64 a3_1] 23 (0, 0)) Zj8 hb)
      have n6_ := Ajq (below_step Zj1 hb)
      clear HO_9 HO_11 BK314 BK315 BK316 BK317 HB
      have HO_9 := n0_
      have HO_11 := n1_
      have BK314 := n2_
      have BK315 := n3_
      have BK316 := n4_
      have BK317 := n5_
      have HB := n6_
      clear n0_ n1_ n2_ n3_ n4_ n5_ n6_
      (try clear hb)
      refine hK.out _ _ ⟨(blk_cell BK314.out 0).trans rfl, (blk_cell BK314.out 1).trans rfl, (blk_cell BK315.out 0).trans rfl, (blk_cell BK315.out 1).trans rfl, (blk_cell BK316.out 0).trans rfl, (blk_cell BK316.out 1).trans rfl, (blk_cell BK317.out 0).trans rfl, (blk_cell BK317.out 1).trans rfl⟩ (fun hHeld => ?_)
      clear hK K
      refine norm_ (a' := ?_) ?_ ?_
      rotate_left
      ·
       show Act.put _ (some 63) _ = _
       simp only [Act.put, y1j, y2j, y3j, i64_w, i32_w]
       rfl
      refine one_ (i := 3) (N := some 65) #[true, true, true, true, true, false, true, false, false, false, false, false, false, false] rfl rfl (one_of HT_.out Zj12) (by decide) (fun K hK => ?_)
      refine goes_ Try.func5 Zj12 rfl #[.agg #[.int .i64 a1_0, .int .i64 a1_1]] (by rfl) rfl rfl Zj4 ?_
      with_reducible refine (laws_toCell.calls a1_0 a1_1 t348 t349 _ A46.out).mono ?_
      rintro e w56 ⟨rfl, hb⟩
      refine ⟨_, rfl, ?_⟩
      have n0_ := Ajq (Kd.S_below Zj11 hb)
      have n1_ := Ajq (Kd.S_below Zj10 hb)
      have n2_ := Ajq (blk_below (g := g314) (o := .cells #[.int .i64 a0_0, .int .i64 a0_1] 23 (0, 0)) Zj5 hb)
      have n3_ := Ajq (blk_below (g := g315) (o := .cells #[.int .i64 a1_0, .int .i64 a1_1] 23 (0, 0)) Zj6 hb)
      have n4_ := Ajq (blk_below (g := g316) (o := .cells #[.int .i64 a2_0, .int .i64 a2_1] 23 (0, 0)) Zj7 hb)
      have n5_ := Ajq (blk_below (g := g317) (o := .cells #[.int .i64 a3_0, .int .i64 a3_1] 23 (0, 0)) Zj8 hb)
      have n6_ := Ajq (below_step Zj1 hb)
      clear HO_9 HO_11 BK314 BK315 BK316 BK317 HB
      have HO_9 := n0_
      have HO_11 := n1_
      have BK314 := n2_
      have BK315 := n3_
      have BK316 := n4_
      have BK317 := n5_
      have HB := n6_
      clear n0_ n1_ n2_ n3_ n4_ n5_ n6_
      (try clear hb)
      refine hK.out _ _ ⟨(blk_cell BK314.out 0).trans rfl, (blk_cell BK314.out 1).trans rfl, (blk_cell BK315.out 0).trans rfl, (blk_cell BK315.out 1).trans rfl, (blk_cell BK316.out 0).trans rfl, (blk_cell BK316.out 1).trans rfl, (blk_cell BK317.out 0).trans rfl, (blk_cell BK317.out 1).trans rfl⟩ (fun hHeld => ?_)
      clear hK K
      refine norm_ (a' := ?_) ?_ ?_
      rotate_left
      ·
       show Act.put _ (some 65) _ = _
       simp only [Act.put, y1j, y2j, y3j, i64_w, i32_w]
       rfl
      refine one_ (i := 5) (N := some 67) #[true, true, true, true, true, true, true, false, false, false, false, false, false, false] rfl rfl (one_of HT_.out Zj12) (by decide) (fun K hK => ?_)
      refine goes_ Try.func5 Zj12 rfl #[.agg #[.int .i64 a2_0, .int .i64 a2_1]] (by rfl) rfl rfl Zj4 ?_
      with_reducible refine (laws_toCell.calls a2_0 a2_1 t350 t351 _ A47.out).mono ?_
      rintro e w57 ⟨rfl, hb⟩
      refine ⟨_, rfl, ?_⟩
      have n0_ := Ajq (Kd.S_below Zj11 hb)
      have n1_ := Ajq (Kd.S_below Zj10 hb)
      have n2_ := Ajq (blk_below (g := g314) (o := .cells #[.int .i64 a0_0, .int .i64 a0_1] 23 (0, 0)) Zj5 hb)
      have n3_ := Ajq (blk_below (g := g315) (o := .cells #[.int .i64 a1_0, .int .i64 a1_1] 23 (0, 0)) Zj6 hb)
      have n4_ := Ajq (blk_below (g := g316) (o := .cells #[.int .i64 a2_0, .int .i64 a2_1] 23 (0, 0)) Zj7 hb)
      have n5_ := Ajq (blk_below (g := g317) (o := .cells #[.int .i64 a3_0, .int .i64 a3_1] 23 (0, 0)) Zj8 hb)
      have n6_ := Ajq (below_step Zj1 hb)
      clear HO_9 HO_11 BK314 BK315 BK316 BK317 HB
      have HO_9 := n0_
      have HO_11 := n1_
      have BK314 := n2_
      have BK315 := n3_
      have BK316 := n4_
      have BK317 := n5_
      have HB := n6_
      clear n0_ n1_ n2_ n3_ n4_ n5_ n6_
      (try clear hb)
      refine hK.out _ _ ⟨(blk_cell BK314.out 0).trans rfl, (blk_cell BK314.out 1).trans rfl, (blk_cell BK315.out 0).trans rfl, (blk_cell BK315.out 1).trans rfl, (blk_cell BK316.out 0).trans rfl, (blk_cell BK316.out 1).trans rfl, (blk_cell BK317.out 0).trans rfl, (blk_cell BK317.out 1).trans rfl⟩ (fun hHeld => ?_)
      clear hK K
      refine norm_ (a' := ?_) ?_ ?_
      rotate_left
      ·
       show Act.put _ (some 67) _ = _
       simp only [Act.put, y1j, y2j, y3j, i64_w, i32_w]
       rfl
      refine one_ (i := 7) (N := some 69) #[true, true, true, true, true, true, true, true, false, false, false, false, false, false] rfl rfl (one_of HT_.out Zj12) (by decide) (fun K hK => ?_)
      refine goes_ Try.func5 Zj12 rfl #[.agg #[.int .i64 a3_0, .int .i64 a3_1]] (by rfl) rfl rfl Zj4 ?_
      with_reducible refine (laws_toCell.calls a3_0 a3_1 t352 t353 _ A48.out).mono ?_
      rintro e w58 ⟨rfl, hb⟩
      refine ⟨_, rfl, ?_⟩
      have n0_ := Ajq (Kd.S_below Zj11 hb)
      have n1_ := Ajq (Kd.S_below Zj10 hb)
      have n2_ := Ajq (blk_below (g := g314) (o := .cells #[.int .i64 a0_0, .int .i64 a0_1] 23 (0, 0)) Zj5 hb)
      have n3_ := Ajq (blk_below (g := g315) (o := .cells #[.int .i64 a1_0, .int .i64 a1_1] 23 (0, 0)) Zj6 hb)
      have n4_ := Ajq (blk_below (g := g316) (o := .cells #[.int .i64 a2_0, .int .i64 a2_1] 23 (0, 0)) Zj7 hb)
      have n5_ := Ajq (blk_below (g := g317) (o := .cells #[.int .i64 a3_0, .int .i64 a3_1] 23 (0, 0)) Zj8 hb)
      have n6_ := Ajq (below_step Zj1 hb)
      clear HO_9 HO_11 BK314 BK315 BK316 BK317 HB
      have HO_9 := n0_
      have HO_11 := n1_
      have BK314 := n2_
      have BK315 := n3_
      have BK316 := n4_
      have BK317 := n5_
      have HB := n6_
      clear n0_ n1_ n2_ n3_ n4_ n5_ n6_
      (try clear hb)
      refine hK.out _ _ ⟨(blk_cell BK314.out 0).trans rfl, (blk_cell BK314.out 1).trans rfl, (blk_cell BK315.out 0).trans rfl, (blk_cell BK315.out 1).trans rfl, (blk_cell BK316.out 0).trans rfl, (blk_cell BK316.out 1).trans rfl, (blk_cell BK317.out 0).trans rfl, (blk_cell BK317.out 1).trans rfl⟩ (fun hHeld => ?_)
      clear hK K
      refine norm_ (a' := ?_) ?_ ?_
      rotate_left
      ·
       show Act.put _ (some 69) _ = _
       simp only [Act.put, y1j, y2j, y3j, i64_w, i32_w]
       rfl
      refine one_ (i := 8) (N := some 70) #[true, true, true, true, true, true, true, true, true, false, false, false, false, false] rfl rfl (one_of HT_.out Zj12) (by decide) (fun K hK => ?_)
      refine goes_ Try.func6 Zj12 rfl #[.agg #[.int .i64 t346, .int .i64 t347], .agg #[.int .i64 t348, .int .i64 t349], .agg #[.int .i64 t350, .int .i64 t351], .agg #[.int .i64 t352, .int .i64 t353]] (by rfl) rfl rfl Zj4 ?_
      with_reducible refine (impl_AllPairsApart.calls kj14 t346 t347 t348 t349 t350 t351 t352 t353 t354 t357 _ A49.out).mono ?_
      rintro e w59 ⟨v355, rfl, ho0, hb⟩
      refine ⟨_, rfl, ?_⟩
      have n0_ := Ajq (Kd.S_elder' Zj11 (Kd.S_base ho0) hb)
      have n1_ := Ajq (Kd.S_elder' Zj10 (Kd.S_base ho0) hb)
      have n2_ := Ajq (Kd.S_lower (Kd.S_new' (Kd.S_new' ho0 (Kd.S_lt Zj11)) (Kd.S_lt Zj10)) (below_size Zj1))
      have n3_ := Ajq (blk_below (g := g314) (o := .cells #[.int .i64 a0_0, .int .i64 a0_1] 23 (0, 0)) Zj5 hb)
      have n4_ := Ajq (blk_below (g := g315) (o := .cells #[.int .i64 a1_0, .int .i64 a1_1] 23 (0, 0)) Zj6 hb)
      have n5_ := Ajq (blk_below (g := g316) (o := .cells #[.int .i64 a2_0, .int .i64 a2_1] 23 (0, 0)) Zj7 hb)
      have n6_ := Ajq (blk_below (g := g317) (o := .cells #[.int .i64 a3_0, .int .i64 a3_1] 23 (0, 0)) Zj8 hb)
      have n7_ := Ajq (below_step Zj1 hb)
      clear HO_9 HO_11 BK314 BK315 BK316 BK317 HB
      have HO_9 := n0_
      have HO_11 := n1_
      have HO356 := n2_
      have BK314 := n3_
      have BK315 := n4_
      have BK316 := n5_
      have BK317 := n6_
      have HB := n7_
      clear n0_ n1_ n2_ n3_ n4_ n5_ n6_ n7_
      (try clear hb)
      (try clear ho0)
      refine hK.out _ _ ⟨(blk_cell BK314.out 0).trans rfl, (blk_cell BK314.out 1).trans rfl, (blk_cell BK315.out 0).trans rfl, (blk_cell BK315.out 1).trans rfl, (blk_cell BK316.out 0).trans rfl, (blk_cell BK316.out 1).trans rfl, (blk_cell BK317.out 0).trans rfl, (blk_cell BK317.out 1).trans rfl⟩ (fun hHeld => ?_)
      clear hK K
      refine norm_ (a' := ?_) ?_ ?_
      rotate_left
      ·
       show Act.put _ (some 70) _ = _
       simp only [Act.put, y1j, y2j, y3j, i64_w, i32_w]
       rfl
      refine pure_ (i := 9) (N := some 61) (v := ?_) (a' := ?_) #[true, true, true, true, true, true, true, true, true, true, false, false, false, false] rfl rfl (any_of HT_.out Zj12) (fun _ _ _ h => h) (Or.inl ⟨by rfl, ?_⟩) ?_ ?_
      rotate_left
      ·
       intro w'
       go_simp
       with_reducible rfl
      rotate_left
      ·
       simp only [Act.put, y1j, y2j, y3j, i64_w, i32_w]
       rfl
      refine pure_ (i := 10) (N := some 71) (v := ?_) (a' := ?_) #[true, true, true, true, true, true, true, true, true, true, true, false, false, false] rfl rfl (any_of HT_.out Zj12) (fun _ _ _ h => h) (Or.inl ⟨by rfl, ?_⟩) ?_ ?_
      rotate_left
      ·
       intro w'
       go_simp
       with_reducible rfl
      rotate_left
      ·
       simp only [Act.put, y1j, y2j, y3j, i64_w, i32_w]
       rfl
      refine pure_ (i := 11) (N := some 72) (v := ?_) (a' := ?_) #[true, true, true, true, true, true, true, true, true, true, true, true, false, false] rfl rfl (any_of HT_.out Zj12) (fun _ _ _ h => h) (Or.inl ⟨by rfl, ?_⟩) ?_ ?_
      rotate_left
      ·
       intro w'
       go_simp
       with_reducible rfl
      rotate_left
      ·
       simp only [Act.put, y1j, y2j, y3j, i64_w, i32_w]
       rfl
      refine pure_ (i := 12) (N := some 15) (v := ?_) (a' := ?_) #[true, true, true, true, true, true, true, true, true, true, true, true, true, false] rfl rfl (any_of HT_.out Zj12) (fun _ _ _ h => h) (Or.inl ⟨by rfl, ?_⟩) ?_ ?_
      rotate_left
      ·
       intro w'
       go_simp
       with_reducible rfl
      rotate_left
      ·
       simp only [Act.put, y1j, y2j, y3j, i64_w, i32_w]
       rfl
      refine pure_ (i := 13) (N := some 16) (v := ?_) (a' := ?_) #[true, true, true, true, true, true, true, true, true, true, true, true, true, true] rfl rfl (any_of HT_.out Zj12) (fun _ _ _ h => h) (Or.inl ⟨by rfl, ?_⟩) ?_ ?_
      rotate_left
      ·
       intro w'
       go_simp
       with_reducible rfl
      rotate_left
      ·
       simp only [Act.put, y1j, y2j, y3j, i64_w, i32_w]
       rfl
      refine done_ (done_of HT_.out Zj12) ?_
      go_upto_region 14 with (fail)
      go_cut [81] (fun v81 wc => ∃ (kq : Nat) (x81_49 : Bool), v81 = .bool x81_49 ∧ Aside0 (laws_FnExactAllPairsApart.j1 kq t344 t343 x81_49 = some r) ∧ Aside0 (kq ≤ kj14) ∧ Aside0 (Kd.S (Kd.slice 37 k37) 33 wc w.heap.size (fun _ => True) (.slice Ao51 t338.length co51) t344) ∧ Aside0 (wc.heap[g314]? = some (.cells #[.int .i64 a0_0, .int .i64 a0_1] 23 (0, 0))) ∧ Aside0 (wc.heap[g315]? = some (.cells #[.int .i64 a1_0, .int .i64 a1_1] 23 (0, 0))) ∧ Aside0 (wc.heap[g316]? = some (.cells #[.int .i64 a2_0, .int .i64 a2_1] 23 (0, 0))) ∧ Aside0 (wc.heap[g317]? = some (.cells #[.int .i64 a3_0, .int .i64 a3_1] 23 (0, 0))) ∧ Aside0 (Below w.heap.size w wc))
      case first =>
       have H := HC50.out
       clear HC50
       replace H := Option.bind_eq_some_iff.mp H
       obtain ⟨t358, A600, H⟩ := H
       replace H : (if t358 = true then (laws_FnExactAllPairsApart.j1 kj14 t344 t343 (t357 != t329)) else (laws_FnExactAllPairsApart.j1 kj14 t344 t343 true)) = some r := H
       have A60 := Ajq A600
       clear A600
       by_cases c61 : t358 = true
       ·
        subst c61
        have H1 : (laws_FnExactAllPairsApart.j1 kj14 t344 t343 (t357 != t329)) = some r := by rw [if_pos rfl] at H; exact H
        clear H
        have H := H1
        clear H1
        have H' := Ajq H
        clear H
        obtain ⟨Ao62, co62, eo62⟩ := Kd.S_slice HO356.out
        subst eo62
        obtain ⟨Ao63, co63, eo63⟩ := Kd.S_slice HO_9.out
        subst eo63
        go_wp2_with (first | ((with_reducible refine gate_callee (f := 7) rfl ?_); refine goesL_ (some 75) rfl rfl Try.func7 Zj12 rfl #[.slice Ao62 t354.length co62, .slice Ao63 t326.length co63] rfl Zj4 ?_; (with_reducible refine (laws_eqWaySS.calls kj14 _ _ t354 _ _ t326 true _ ?side1 ?side2 ?side3 ?side4 A60.out).mono ?_); (case side1 => repeat (first | exact (Kd.S_reads' HO356.out).2.2 | (with_reducible refine Kd.C_alloc ?_ _) | (with_reducible refine Kd.C_drewN ?_ _) | (with_reducible refine Kd.C_drew ?_))); (case side2 => exact (Kd.S_reads' HO356.out).2.1); (case side3 => repeat (first | exact (Kd.S_reads' HO_9.out).2.2 | (with_reducible refine Kd.C_alloc ?_ _) | (with_reducible refine Kd.C_drewN ?_ _) | (with_reducible refine Kd.C_drew ?_))); (case side4 => exact (Kd.S_reads' HO_9.out).2.1); rintro e w64 ⟨rfl, hb⟩; refine ⟨_, rfl, ?_⟩; have n0_ := Ajq (Kd.S_below Zj11 hb); have n1_ := Ajq (Kd.S_below Zj10 hb); have n2_ := Ajq (Kd.S_below (by (with_reducible repeat (first | apply Kd.S_alloc | apply Kd.S_drewN | apply Kd.S_drew)); exact HO356.out) hb); have n3_ := Ajq (blk_below (g := g314) (o := .cells #[.int .i64 a0_0, .int .i64 a0_1] 23 (0, 0)) Zj5 hb); have n4_ := Ajq (blk_below (g := g315) (o := .cells #[.int .i64 a1_0, .int .i64 a1_1] 23 (0, 0)) Zj6 hb); have n5_ := Ajq (blk_below (g := g316) (o := .cells #[.int .i64 a2_0, .int .i64 a2_1] 23 (0, 0)) Zj7 hb); have n6_ := Ajq (blk_below (g := g317) (o := .cells #[.int .i64 a3_0, .int .i64 a3_1] 23 (0, 0)) Zj8 hb); have n7_ := Ajq (below_step Zj1 hb); clear HO_9; clear HO_11; clear HO356; clear BK314; clear BK315; clear BK316; clear BK317; clear HB; have HO_9 := n0_; have HO_11 := n1_; have HO356 := n2_; have BK314 := n3_; have BK315 := n4_; have BK316 := n5_; have BK317 := n6_; have HB := n7_; clear n0_ n1_ n2_ n3_ n4_ n5_ n6_ n7_; (try clear hb)))
        go_meet
        case rel => exact ⟨_, ((t357 != t329)), (by first | rfl | (simp; done) | (simp [*]; done) | (simp only [i64_w]; done)), H', ⟨by have := HJ14.out; first | omega | exact Nat.le_refl _⟩, ⟨by (with_reducible repeat (first | apply Kd.S_alloc | apply Kd.S_drewN | apply Kd.S_drew)); exact Kd.S_mono HO_11.out (fun _ hk => trivial)⟩, ⟨by (with_reducible repeat (first | refine blk_drewN ?_ _ | refine blk_drew ?_ | refine blk_alloc ?_ _)); exact BK314.out⟩, ⟨by (with_reducible repeat (first | refine blk_drewN ?_ _ | refine blk_drew ?_ | refine blk_alloc ?_ _)); exact BK315.out⟩, ⟨by (with_reducible repeat (first | refine blk_drewN ?_ _ | refine blk_drew ?_ | refine blk_alloc ?_ _)); exact BK316.out⟩, ⟨by (with_reducible repeat (first | refine blk_drewN ?_ _ | refine blk_drew ?_ | refine blk_alloc ?_ _)); exact BK317.out⟩, ⟨by repeat (first | (with_reducible first | exact HB.out | apply below_alloc | apply pw_below_drewN | apply below_drew1 | refine below_set ?_ GE314.out | refine below_set ?_ GE315.out | refine below_set ?_ GE316.out | refine below_set ?_ GE317.out) | exact HB.out)⟩⟩
       ·
        replace c61 := Bool.eq_false_iff.mpr c61
        subst c61
        have H1 : (laws_FnExactAllPairsApart.j1 kj14 t344 t343 true) = some r := by rw [if_neg (show ¬ (false = true) by decide)] at H; exact H
        clear H
        have H := H1
        clear H1
        have H' := Ajq H
        clear H
        obtain ⟨Ao65, co65, eo65⟩ := Kd.S_slice HO356.out
        subst eo65
        obtain ⟨Ao66, co66, eo66⟩ := Kd.S_slice HO_9.out
        subst eo66
        go_wp2_with (first | ((with_reducible refine gate_callee (f := 7) rfl ?_); refine goesL_ (some 75) rfl rfl Try.func7 Zj12 rfl #[.slice Ao65 t354.length co65, .slice Ao66 t326.length co66] rfl Zj4 ?_; (with_reducible refine (laws_eqWaySS.calls kj14 _ _ t354 _ _ t326 false _ ?side1 ?side2 ?side3 ?side4 A60.out).mono ?_); (case side1 => repeat (first | exact (Kd.S_reads' HO356.out).2.2 | (with_reducible refine Kd.C_alloc ?_ _) | (with_reducible refine Kd.C_drewN ?_ _) | (with_reducible refine Kd.C_drew ?_))); (case side2 => exact (Kd.S_reads' HO356.out).2.1); (case side3 => repeat (first | exact (Kd.S_reads' HO_9.out).2.2 | (with_reducible refine Kd.C_alloc ?_ _) | (with_reducible refine Kd.C_drewN ?_ _) | (with_reducible refine Kd.C_drew ?_))); (case side4 => exact (Kd.S_reads' HO_9.out).2.1); rintro e w67 ⟨rfl, hb⟩; refine ⟨_, rfl, ?_⟩; have n0_ := Ajq (Kd.S_below Zj11 hb); have n1_ := Ajq (Kd.S_below Zj10 hb); have n2_ := Ajq (Kd.S_below (by (with_reducible repeat (first | apply Kd.S_alloc | apply Kd.S_drewN | apply Kd.S_drew)); exact HO356.out) hb); have n3_ := Ajq (blk_below (g := g314) (o := .cells #[.int .i64 a0_0, .int .i64 a0_1] 23 (0, 0)) Zj5 hb); have n4_ := Ajq (blk_below (g := g315) (o := .cells #[.int .i64 a1_0, .int .i64 a1_1] 23 (0, 0)) Zj6 hb); have n5_ := Ajq (blk_below (g := g316) (o := .cells #[.int .i64 a2_0, .int .i64 a2_1] 23 (0, 0)) Zj7 hb); have n6_ := Ajq (blk_below (g := g317) (o := .cells #[.int .i64 a3_0, .int .i64 a3_1] 23 (0, 0)) Zj8 hb); have n7_ := Ajq (below_step Zj1 hb); clear HO_9; clear HO_11; clear HO356; clear BK314; clear BK315; clear BK316; clear BK317; clear HB; have HO_9 := n0_; have HO_11 := n1_; have HO356 := n2_; have BK314 := n3_; have BK315 := n4_; have BK316 := n5_; have BK317 := n6_; have HB := n7_; clear n0_ n1_ n2_ n3_ n4_ n5_ n6_ n7_; (try clear hb)))
        go_meet
        case rel => exact ⟨_, (true), (by first | rfl | (simp; done) | (simp [*]; done) | (simp only [i64_w]; done)), H', ⟨by have := HJ14.out; first | omega | exact Nat.le_refl _⟩, ⟨by (with_reducible repeat (first | apply Kd.S_alloc | apply Kd.S_drewN | apply Kd.S_drew)); exact Kd.S_mono HO_11.out (fun _ hk => trivial)⟩, ⟨by (with_reducible repeat (first | refine blk_drewN ?_ _ | refine blk_drew ?_ | refine blk_alloc ?_ _)); exact BK314.out⟩, ⟨by (with_reducible repeat (first | refine blk_drewN ?_ _ | refine blk_drew ?_ | refine blk_alloc ?_ _)); exact BK315.out⟩, ⟨by (with_reducible repeat (first | refine blk_drewN ?_ _ | refine blk_drew ?_ | refine blk_alloc ?_ _)); exact BK316.out⟩, ⟨by (with_reducible repeat (first | refine blk_drewN ?_ _ | refine blk_drew ?_ | refine blk_alloc ?_ _)); exact BK317.out⟩, ⟨by repeat (first | (with_reducible first | exact HB.out | apply below_alloc | apply pw_below_drewN | apply below_drew1 | refine below_set ?_ GE314.out | refine below_set ?_ GE315.out | refine below_set ?_ GE316.out | refine below_set ?_ GE317.out) | exact HB.out)⟩⟩
      case rest =>
       clear HC50
       try clear p2
       try clear c3
       try clear c4
       try clear c5
       try clear c6
       try clear c7
       try clear c8
       try clear c9
       try clear c33
       try clear c40
       try clear c43
       try clear c43b0
       try clear c44
       try clear c44b0
       try clear c44b1
       try clear c61
       try clear p2
       obtain ⟨kq, x81_49, rfl, HA, HJ49, HO_11, BK314, BK315, BK316, BK317, HB⟩ := hcut
       have hl11_49 := (Kd.S_reads' HO_11.out).1
       rw [hl11_49] at HO_11
       (try simp only [hl11_49])
       (try simp only [hl11_49] at BK314)
       (try simp only [hl11_49] at BK315)
       (try simp only [hl11_49] at BK316)
       (try simp only [hl11_49] at BK317)
       cases kq with
       | zero => exact absurd HA.out (by simp [laws_FnExactAllPairsApart.j1])
       | succ kj49 =>
        have H := HA.out
        clear HA
        simp only [laws_FnExactAllPairsApart.j1] at H
        by_cases c68 : x81_49 = true
        ·
         subst c68
         have H1 : (none) = some r := by rw [if_pos rfl] at H; exact H
         clear H
         have H := H1
         clear H1
         exact absurd H (by simp)
        ·
         replace c68 := Bool.eq_false_iff.mpr c68
         subst c68
         have H1 : ((laws_heldWaySS.f kj49 t344 1).bind fun t359 => (if t359 < 0 then (none) else (if t359 = t343 then (some true) else (none)))) = some r := by rw [if_neg (show ¬ (false = true) by decide)] at H; exact H
         clear H
         have H := H1
         clear H1
         replace H := Option.bind_eq_some_iff.mp H
         obtain ⟨t359, A690, H⟩ := H
         replace H : (if t359 < 0 then (none) else (if t359 = t343 then (some true) else (none))) = some r := H
         have A69 := Ajq A690
         clear A690
         by_cases c70 : t359 < 0
         ·
          rw [if_pos c70] at H
          exact absurd H (by simp)
         ·
          rw [if_neg c70] at H
          have c70b0 : decide (t359 < 0) = false := decide_eq_false c70
          clear c70
          by_cases c71 : t359 = t343
          ·
           rw [if_pos c71] at H
           have c71b0 : (t359 == t343) = true := beq_iff_eq.mpr c71
           have c71b1 : (t359 != t343) = false := bne_eq_false_iff_eq.mpr c71
           clear c71
           obtain rfl := Option.some.inj H
           go_wp2_with (first | ((with_reducible refine gate_callee (f := 9) rfl ?_); refine goesL_ (some 84) rfl rfl Try.func9 Zj12 rfl #[.slice Ao51 t344.length co51, .int .i64 1] rfl Zj4 ?_; (with_reducible refine (laws_heldWaySS.calls kj49 _ _ t344 1 t359 _ ?side1 ?side2 A69.out).mono ?_); (case side1 => repeat (first | exact (Kd.S_reads' HO_11.out).2.2 | (with_reducible refine Kd.C_alloc ?_ _) | (with_reducible refine Kd.C_drewN ?_ _) | (with_reducible refine Kd.C_drew ?_))); (case side2 => exact (Kd.S_reads' HO_11.out).2.1); rintro e w72 ⟨rfl, hb⟩; refine ⟨_, rfl, ?_⟩; have n0_ := Ajq (Kd.S_below Zj10 hb); have n1_ := Ajq (blk_below (g := g314) (o := .cells #[.int .i64 a0_0, .int .i64 a0_1] 23 (0, 0)) Zj5 hb); have n2_ := Ajq (blk_below (g := g315) (o := .cells #[.int .i64 a1_0, .int .i64 a1_1] 23 (0, 0)) Zj6 hb); have n3_ := Ajq (blk_below (g := g316) (o := .cells #[.int .i64 a2_0, .int .i64 a2_1] 23 (0, 0)) Zj7 hb); have n4_ := Ajq (blk_below (g := g317) (o := .cells #[.int .i64 a3_0, .int .i64 a3_1] 23 (0, 0)) Zj8 hb); have n5_ := Ajq (below_step Zj1 hb); clear HO_11; clear BK314; clear BK315; clear BK316; clear BK317; clear HB; have HO_11 := n0_; have BK314 := n1_; have BK315 := n2_; have BK316 := n3_; have BK317 := n4_; have HB := n5_; clear n0_ n1_ n2_ n3_ n4_ n5_; (try clear hb)))
           go_ret
           exact ⟨by first | rfl | (simp [errW_none, errW_some] <;> rfl) | (simp [*, errW_none, errW_some] <;> rfl), by repeat (first | (with_reducible first | exact HB.out | apply below_alloc | apply pw_below_drewN | apply below_drew1 | refine below_set ?_ GE314.out | refine below_set ?_ GE315.out | refine below_set ?_ GE316.out | refine below_set ?_ GE317.out) | exact HB.out)⟩
          ·
           rw [if_neg c71] at H
           exact absurd H (by simp)
     ·
      rw [if_neg c44] at H
      exact absurd H (by simp)

end Go.Proofs.Ythlbbngmgioamaa.OFnExactAllPairsApart
