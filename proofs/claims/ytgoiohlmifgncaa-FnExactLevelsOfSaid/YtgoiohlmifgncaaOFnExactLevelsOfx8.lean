/- The functions that 'FnExactLevelsOf' runs, each as a function over numbers and lists, with the proof that the Go text comes to its answers. No condition. -/
import Derived.Test.YtgoiohlmifgncaaOFnExactLevelsOfx0
import Derived.Test.YtgoiohlmifgncaaOFnExactLevelsOfx4
import Derived.Test.YtgoiohlmifgncaaOFnExactLevelsOfx5
import Derived.Test.YtgoiohlmifgncaaOFnExactLevelsOfx6
import Derived.Test.YtgoiohlmifgncaaOFnExactLevelsOfx7
namespace Go.Proofs.Ytgoiohlmifgncaa.OFnExactLevelsOf
open Go.Proofs.Ytgoiohlmifgncaa.Stub
open Go.RowKit Go.Proofs.YtgoiohlmifgncaaW.PrintWords Go.Proofs.YtgoiohlmifgncaaW.PrintLast Go.Proofs.YtgoiohlmifgncaaW.PrintMore
attribute [local go_sem] max2_int min2_int max_two min_two max_three min_three max_four min_four   -- for this text's walks alone
set_option linter.unusedVariables false
set_option linter.unusedSimpArgs false

/-! ### laws_FnExactLevelsOf: function 3 -/
theorem y1a8 {α : Type} (l : List α) (i : Nat) (a : α) : l.toArray.setIfInBounds i a = (l.set i a).toArray := List.setIfInBounds_toArray l i a
theorem y2a8 {α : Type} {x : α} {xs : List α} {b : α} : (x :: xs).set 0 b = b :: xs := List.set_cons_zero
theorem y3a8 {α : Type} {x : α} {xs : List α} {n : Nat} {b : α} : (x :: xs).set (n + 1) b = x :: xs.set n b := List.set_cons_succ
theorem Aa8q {p : Prop} (h : p) : Aside0 p := Aside0.mk h
theorem Za81 {p : Prop} (h : p := by repeat (first | (with_reducible first | exact HB.out | apply below_alloc | apply pw_below_drewN | apply below_drew1 | refine below_set ?_ GE236.out | refine below_set ?_ GE247.out) | exact HB.out)) : p := h
theorem Za82 {p : Prop} (h : p := by repeat (first | (with_reducible first | exact HB.out | apply below_alloc | apply pw_below_drewN | apply below_drew1 | refine below_set ?_ GE236.out) | exact HB.out)) : p := h
theorem Za83 {p : Prop} (h : p := by (try simp only [List.map_toArray, List.map_cons, List.map_nil]); first | done | rfl | (simp only [List.length_drop, List.length_take]; rfl)) : p := h
theorem Za84 {p : Prop} (h : p := by repeat (first | (with_reducible first | exact HB.out | apply below_alloc | apply pw_below_drewN | apply below_drew1) | exact HB.out)) : p := h
theorem Za85 {p : Prop} (h : p := by (with_reducible repeat (first | refine blk_drewN ?_ _ | refine blk_drew ?_ | refine blk_alloc ?_ _)); exact BK236.out) : p := h
theorem Za86 {p : Prop} (h : p := by (with_reducible repeat (first | refine blk_drewN ?_ _ | refine blk_drew ?_ | refine blk_alloc ?_ _)); exact BK247.out) : p := h
theorem Za87 {p : Prop} (h : p := by (with_reducible repeat (first | apply Kd.R_alloc | apply Kd.R_drewN | apply Kd.R_drew)); exact HO_237000.out) : p := h
theorem Za88 {p : Prop} (h : p := by (with_reducible repeat (first | apply Kd.R_alloc | apply Kd.R_drewN | apply Kd.R_drew)); exact HO_237001.out) : p := h
theorem Za89 {p : Prop} (h : p := by (with_reducible repeat (first | apply Kd.R_alloc | apply Kd.R_drewN | apply Kd.R_drew)); exact HO_248000.out) : p := h
theorem Za810 {p : Prop} (h : p := by (with_reducible repeat (first | apply Kd.R_alloc | apply Kd.R_drewN | apply Kd.R_drew)); exact HO_248001.out) : p := h
theorem Za811 {p : Prop} (h : p := by (with_reducible repeat (first | apply Kd.R_alloc | apply Kd.R_drewN | apply Kd.R_drew)); exact HO228.out) : p := h
theorem Za812 {p : Prop} (h : p := by (with_reducible repeat (first | apply Kd.R_alloc | apply Kd.R_drewN | apply Kd.R_drew)); exact HO231.out) : p := h
theorem Za813 {p : Prop} (h : p := by (with_reducible repeat (first | apply Kd.R_alloc | apply Kd.R_drewN | apply Kd.R_drew)); exact HO234.out) : p := h
mutual
def laws_FnExactLevelsOf.j0 : Nat → List Int → Bool → List Int → Bool → Bool → List Int → List Int → List Int → List Int → Option (Bool)
  | 0, _, _, _, _, _, _, _, _, _ => none
  | k + 1, x0, x4, x5, x7, x37, x237000, x237001, x248000, x248001 => if x37 = true then (none) else ((laws_toIntS.f k x0).bind fun t249 => ((laws_eqIntS.f k x5 t249).bind fun t252 => (if t252 = true then ((laws_markIntS.f k x5 1).bind fun bt253 => (if bt253.1 < 0 then (laws_FnExactLevelsOf.j1 k x0 x4 true x237000 x237001 x248000 x248001) else ((laws_eqLevels.f k x248000 x248001 x237000 x237001).bind fun t255 => (if t255 = true then (laws_FnExactLevelsOf.j1 k x0 x4 (x7 != x4) x237000 x237001 x248000 x248001) else (laws_FnExactLevelsOf.j1 k x0 x4 true x237000 x237001 x248000 x248001))))) else (none))))
def laws_FnExactLevelsOf.j1 : Nat → List Int → Bool → Bool → List Int → List Int → List Int → List Int → Option (Bool)
  | 0, _, _, _, _, _, _, _ => none
  | k + 1, x0, x4, x58, x237000, x237001, x248000, x248001 => if x58 = true then (none) else ((laws_markLevels.f k x248000 x248001 1).bind fun bt256 => ((laws_heldLevels.f k bt256.2.1 bt256.2.2 1).bind fun t259 => (if t259 < 0 then (none) else (if t259 = bt256.1 then ((laws_toIntS.f k x0).bind fun t260 => ((impl_LevelsOf.f k t260).bind fun bt263 => ((laws_eqLevels.f k bt263.1 bt263.2.1 x237000 x237001).bind fun t271 => (if t271 = true then (laws_FnExactLevelsOf.j2 k bt256.1 (bt263.2.2 != x4) bt256.2.1 bt256.2.2) else (laws_FnExactLevelsOf.j2 k bt256.1 true bt256.2.1 bt256.2.2))))) else (none)))))
def laws_FnExactLevelsOf.j2 : Nat → Int → Bool → List Int → List Int → Option (Bool)
  | 0, _, _, _, _ => none
  | k + 1, x9, x84, x248000, x248001 => if x84 = true then (none) else ((laws_heldLevels.f k x248000 x248001 1).bind fun t272 => (if t272 < 0 then (none) else (if t272 = x9 then (some true) else (none))))
end
def laws_FnExactLevelsOf.f (k : Nat) (l0 : List Int) : Option (Bool) := if (l0.length : Int) > 1048576 then (some true) else ((laws_toIntS.f k l0).bind fun t226 => ((spec_LevelsOf.f k t226).bind fun bt229 => ((laws_toIntS.f k l0).bind fun t237 => ((impl_LevelsOf.f k t237).bind fun bt240 => ((laws_eqLevels.f k bt240.1 bt240.2.1 bt229.1 bt229.2.1).bind fun t248 => (if t248 = true then (laws_FnExactLevelsOf.j0 k l0 bt229.2.2 t237 bt240.2.2 (bt240.2.2 != bt229.2.2) bt229.1 bt229.2.1 bt240.1 bt240.2.1) else (laws_FnExactLevelsOf.j0 k l0 bt229.2.2 t237 bt240.2.2 true bt229.1 bt229.2.1 bt240.1 bt240.2.1)))))))
theorem laws_FnExactLevelsOf.mono_l : ∀ k, (∀ y0 y1 y2 y3 y4 y5 y6 y7 y8, LeO (laws_FnExactLevelsOf.j0 k y0 y1 y2 y3 y4 y5 y6 y7 y8) (laws_FnExactLevelsOf.j0 (k + 1) y0 y1 y2 y3 y4 y5 y6 y7 y8)) ∧ (∀ y0 y1 y2 y3 y4 y5 y6, LeO (laws_FnExactLevelsOf.j1 k y0 y1 y2 y3 y4 y5 y6) (laws_FnExactLevelsOf.j1 (k + 1) y0 y1 y2 y3 y4 y5 y6)) ∧ (∀ y0 y1 y2 y3, LeO (laws_FnExactLevelsOf.j2 k y0 y1 y2 y3) (laws_FnExactLevelsOf.j2 (k + 1) y0 y1 y2 y3))
  | 0 => ⟨fun _ _ _ _ _ _ _ _ _ r h => by simp [laws_FnExactLevelsOf.j0] at h, fun _ _ _ _ _ _ _ r h => by simp [laws_FnExactLevelsOf.j1] at h, fun _ _ _ _ r h => by simp [laws_FnExactLevelsOf.j2] at h⟩
  | k + 1 => by
    obtain ⟨ih0, ih1, ih2⟩ := laws_FnExactLevelsOf.mono_l k
    refine ⟨?_, ?_, ?_⟩
    · intro y0 y1 y2 y3 y4 y5 y6 y7 y8
      unfold laws_FnExactLevelsOf.j0
      repeat' first
      | (with_reducible exact ih0 _ _ _ _ _ _ _ _ _)
      | (with_reducible exact ih1 _ _ _ _ _ _ _)
      | (with_reducible exact ih2 _ _ _ _)
      | (with_reducible exact impl_LevelsOf.mono _ _)
      | (with_reducible exact laws_eqIntS.mono _ _ _)
      | (with_reducible exact laws_eqLevels.mono _ _ _ _ _)
      | (with_reducible exact laws_heldLevels.mono _ _ _ _)
      | (with_reducible exact laws_markIntS.mono _ _ _)
      | (with_reducible exact laws_markLevels.mono _ _ _ _)
      | (with_reducible exact laws_toIntS.mono _ _)
      | (with_reducible exact spec_LevelsOf.mono _ _)
      | (with_reducible exact LeO.refl _)
      | (with_reducible exact LeO.none _)
      | (with_reducible refine LeO.ite ?_ ?_)
      | (with_reducible refine LeO.bind ?_ (fun _ => ?_))
      | exact ih0 _ _ _ _ _ _ _ _ _
      | exact ih1 _ _ _ _ _ _ _
      | exact ih2 _ _ _ _
      | exact impl_LevelsOf.mono _ _
      | exact laws_eqIntS.mono _ _ _
      | exact laws_eqLevels.mono _ _ _ _ _
      | exact laws_heldLevels.mono _ _ _ _
      | exact laws_markIntS.mono _ _ _
      | exact laws_markLevels.mono _ _ _ _
      | exact laws_toIntS.mono _ _
      | exact spec_LevelsOf.mono _ _
      | exact LeO.none _
      | refine LeO.ite ?_ ?_
      | refine LeO.bind ?_ (fun _ => ?_)
    · intro y0 y1 y2 y3 y4 y5 y6
      unfold laws_FnExactLevelsOf.j1
      repeat' first
      | (with_reducible exact ih0 _ _ _ _ _ _ _ _ _)
      | (with_reducible exact ih1 _ _ _ _ _ _ _)
      | (with_reducible exact ih2 _ _ _ _)
      | (with_reducible exact impl_LevelsOf.mono _ _)
      | (with_reducible exact laws_eqIntS.mono _ _ _)
      | (with_reducible exact laws_eqLevels.mono _ _ _ _ _)
      | (with_reducible exact laws_heldLevels.mono _ _ _ _)
      | (with_reducible exact laws_markIntS.mono _ _ _)
      | (with_reducible exact laws_markLevels.mono _ _ _ _)
      | (with_reducible exact laws_toIntS.mono _ _)
      | (with_reducible exact spec_LevelsOf.mono _ _)
      | (with_reducible exact LeO.refl _)
      | (with_reducible exact LeO.none _)
      | (with_reducible refine LeO.ite ?_ ?_)
      | (with_reducible refine LeO.bind ?_ (fun _ => ?_))
      | exact ih0 _ _ _ _ _ _ _ _ _
      | exact ih1 _ _ _ _ _ _ _
      | exact ih2 _ _ _ _
      | exact impl_LevelsOf.mono _ _
      | exact laws_eqIntS.mono _ _ _
      | exact laws_eqLevels.mono _ _ _ _ _
      | exact laws_heldLevels.mono _ _ _ _
      | exact laws_markIntS.mono _ _ _
      | exact laws_markLevels.mono _ _ _ _
      | exact laws_toIntS.mono _ _
      | exact spec_LevelsOf.mono _ _
      | exact LeO.none _
      | refine LeO.ite ?_ ?_
      | refine LeO.bind ?_ (fun _ => ?_)
    · intro y0 y1 y2 y3
      unfold laws_FnExactLevelsOf.j2
      repeat' first
      | (with_reducible exact ih0 _ _ _ _ _ _ _ _ _)
      | (with_reducible exact ih1 _ _ _ _ _ _ _)
      | (with_reducible exact ih2 _ _ _ _)
      | (with_reducible exact impl_LevelsOf.mono _ _)
      | (with_reducible exact laws_eqIntS.mono _ _ _)
      | (with_reducible exact laws_eqLevels.mono _ _ _ _ _)
      | (with_reducible exact laws_heldLevels.mono _ _ _ _)
      | (with_reducible exact laws_markIntS.mono _ _ _)
      | (with_reducible exact laws_markLevels.mono _ _ _ _)
      | (with_reducible exact laws_toIntS.mono _ _)
      | (with_reducible exact spec_LevelsOf.mono _ _)
      | (with_reducible exact LeO.refl _)
      | (with_reducible exact LeO.none _)
      | (with_reducible refine LeO.ite ?_ ?_)
      | (with_reducible refine LeO.bind ?_ (fun _ => ?_))
      | exact ih0 _ _ _ _ _ _ _ _ _
      | exact ih1 _ _ _ _ _ _ _
      | exact ih2 _ _ _ _
      | exact impl_LevelsOf.mono _ _
      | exact laws_eqIntS.mono _ _ _
      | exact laws_eqLevels.mono _ _ _ _ _
      | exact laws_heldLevels.mono _ _ _ _
      | exact laws_markIntS.mono _ _ _
      | exact laws_markLevels.mono _ _ _ _
      | exact laws_toIntS.mono _ _
      | exact spec_LevelsOf.mono _ _
      | exact LeO.none _
      | refine LeO.ite ?_ ?_
      | refine LeO.bind ?_ (fun _ => ?_)
theorem laws_FnExactLevelsOf.mono : ∀ a0 k, LeO (laws_FnExactLevelsOf.f k a0) (laws_FnExactLevelsOf.f (k + 1) a0) := by
  intro a0 k
  obtain ⟨ih0, ih1, ih2⟩ := laws_FnExactLevelsOf.mono_l k
  unfold laws_FnExactLevelsOf.f
  repeat' first
      | (with_reducible exact ih0 _ _ _ _ _ _ _ _ _)
      | (with_reducible exact ih1 _ _ _ _ _ _ _)
      | (with_reducible exact ih2 _ _ _ _)
      | (with_reducible exact impl_LevelsOf.mono _ _)
      | (with_reducible exact laws_eqIntS.mono _ _ _)
      | (with_reducible exact laws_eqLevels.mono _ _ _ _ _)
      | (with_reducible exact laws_heldLevels.mono _ _ _ _)
      | (with_reducible exact laws_markIntS.mono _ _ _)
      | (with_reducible exact laws_markLevels.mono _ _ _ _)
      | (with_reducible exact laws_toIntS.mono _ _)
      | (with_reducible exact spec_LevelsOf.mono _ _)
      | (with_reducible exact LeO.refl _)
      | (with_reducible exact LeO.none _)
      | (with_reducible refine LeO.ite ?_ ?_)
      | (with_reducible refine LeO.bind ?_ (fun _ => ?_))
      | exact ih0 _ _ _ _ _ _ _ _ _
      | exact ih1 _ _ _ _ _ _ _
      | exact ih2 _ _ _ _
      | exact impl_LevelsOf.mono _ _
      | exact laws_eqIntS.mono _ _ _
      | exact laws_eqLevels.mono _ _ _ _ _
      | exact laws_heldLevels.mono _ _ _ _
      | exact laws_markIntS.mono _ _ _
      | exact laws_markLevels.mono _ _ _ _
      | exact laws_toIntS.mono _ _
      | exact spec_LevelsOf.mono _ _
      | exact LeO.none _
      | refine LeO.ite ?_ ?_
      | refine LeO.bind ?_ (fun _ => ?_)
set_option maxHeartbeats 8000000 in
set_option maxRecDepth 100000 in
theorem laws_FnExactLevelsOf.calls (k : Nat) (A0 : Option Addr) (c0 : Nat) (l0 : List Int) (r : Bool) (w : World) (hr0 : Kd.C (Kd.int .i64) w A0 l0.length l0) (hc0 : l0.length ≤ c0) (h : laws_FnExactLevelsOf.f k l0 = some r) :
  Calls Try.prog 3 #[.slice A0 l0.length c0] w fun e w' => e = .returned (.bool r) ∧ Below w.heap.size w w' := by
 have hu24 := Try.underlying24
 have HR0 := Aa8q hr0
 have HC0 := Aa8q hc0
 clear hr0 hc0
 have HB := Aa8q (Below.refl w.heap.size w)
 have H : (if (l0.length : Int) > 1048576 then (some true) else ((laws_toIntS.f k l0).bind fun t226 => ((spec_LevelsOf.f k t226).bind fun bt229 => ((laws_toIntS.f k l0).bind fun t237 => ((impl_LevelsOf.f k t237).bind fun bt240 => ((laws_eqLevels.f k bt240.1 bt240.2.1 bt229.1 bt229.2.1).bind fun t248 => (if t248 = true then (laws_FnExactLevelsOf.j0 k l0 bt229.2.2 t237 bt240.2.2 (bt240.2.2 != bt229.2.2) bt229.1 bt229.2.1 bt240.1 bt240.2.1) else (laws_FnExactLevelsOf.j0 k l0 bt229.2.2 t237 bt240.2.2 true bt229.1 bt229.2.1 bt240.1 bt240.2.1)))))))) = some r := h
 clear h
 by_cases c2 : (l0.length : Int) > 1048576
 ·
  rw [if_pos c2] at H
  have c2b0 : decide (1048576 < (l0.length : Int)) = true := decide_eq_true c2
  have c2b1 : decide (1048576 < l0.length) = true := decide_eq_true (by omega)
  clear c2
  obtain rfl := Option.some.inj H
  go_enter Try.func3, Try.ntmps3
  go_wp2
  go_ret
  exact ⟨by first | rfl | (simp [errW_none, errW_some] <;> rfl) | (simp [*, errW_none, errW_some] <;> rfl), by repeat (first | (with_reducible first | exact HB.out | apply below_alloc | apply pw_below_drewN | apply below_drew1) | exact HB.out)⟩
 rw [if_neg c2] at H
 have c2b0 : decide (1048576 < (l0.length : Int)) = false := decide_eq_false c2
 have c2b1 : decide (1048576 < l0.length) = false := decide_eq_false (by omega)
 clear c2
 replace H := Option.bind_eq_some_iff.mp H
 obtain ⟨t226, A30, H⟩ := H
 replace H : ((spec_LevelsOf.f k t226).bind fun bt229 => ((laws_toIntS.f k l0).bind fun t237 => ((impl_LevelsOf.f k t237).bind fun bt240 => ((laws_eqLevels.f k bt240.1 bt240.2.1 bt229.1 bt229.2.1).bind fun t248 => (if t248 = true then (laws_FnExactLevelsOf.j0 k l0 bt229.2.2 t237 bt240.2.2 (bt240.2.2 != bt229.2.2) bt229.1 bt229.2.1 bt240.1 bt240.2.1) else (laws_FnExactLevelsOf.j0 k l0 bt229.2.2 t237 bt240.2.2 true bt229.1 bt229.2.1 bt240.1 bt240.2.1)))))) = some r := H
 have A3 := Aa8q A30
 clear A30
 replace H := Option.bind_eq_some_iff.mp H
 obtain ⟨⟨t229, t232, t235⟩, A40, H⟩ := H
 replace H : ((laws_toIntS.f k l0).bind fun t237 => ((impl_LevelsOf.f k t237).bind fun bt240 => ((laws_eqLevels.f k bt240.1 bt240.2.1 t229 t232).bind fun t248 => (if t248 = true then (laws_FnExactLevelsOf.j0 k l0 t235 t237 bt240.2.2 (bt240.2.2 != t235) t229 t232 bt240.1 bt240.2.1) else (laws_FnExactLevelsOf.j0 k l0 t235 t237 bt240.2.2 true t229 t232 bt240.1 bt240.2.1))))) = some r := H
 have A4 := Aa8q A40
 clear A40
 replace H := Option.bind_eq_some_iff.mp H
 obtain ⟨t237, A50, H⟩ := H
 replace H : ((impl_LevelsOf.f k t237).bind fun bt240 => ((laws_eqLevels.f k bt240.1 bt240.2.1 t229 t232).bind fun t248 => (if t248 = true then (laws_FnExactLevelsOf.j0 k l0 t235 t237 bt240.2.2 (bt240.2.2 != t235) t229 t232 bt240.1 bt240.2.1) else (laws_FnExactLevelsOf.j0 k l0 t235 t237 bt240.2.2 true t229 t232 bt240.1 bt240.2.1)))) = some r := H
 have A5 := Aa8q A50
 clear A50
 replace H := Option.bind_eq_some_iff.mp H
 obtain ⟨⟨t240, t243, t246⟩, A60, H⟩ := H
 replace H : ((laws_eqLevels.f k t240 t243 t229 t232).bind fun t248 => (if t248 = true then (laws_FnExactLevelsOf.j0 k l0 t235 t237 t246 (t246 != t235) t229 t232 t240 t243) else (laws_FnExactLevelsOf.j0 k l0 t235 t237 t246 true t229 t232 t240 t243))) = some r := H
 have A6 := Aa8q A60
 clear A60
 have HC7 := Aa8q H
 clear H
 go_enter Try.func3, Try.ntmps3
 go_upto_region 6 with (first | ((with_reducible refine gate_callee (f := 5) rfl ?_); refine goesL_ (some 18) rfl rfl Try.func5 (by kernel_rfl) rfl #[.slice A0 l0.length c0] rfl Za83 ?_; (with_reducible refine (laws_toIntS.calls k _ _ l0 t226 _ ?side1 ?side2 A3.out).mono ?_); (case side1 => repeat (first | exact HR0.out | (with_reducible refine Kd.C_alloc ?_ _) | (with_reducible refine Kd.C_drewN ?_ _) | (with_reducible refine Kd.C_drew ?_))); (case side2 => exact HC0.out); rintro e w8 ⟨v227, rfl, ho0, hb⟩; refine ⟨_, rfl, ?_⟩; have n0_ := Aa8q (Kd.R_lower ho0 (below_size Za84)); have n1_ := Aa8q (below_step Za84 hb); clear HB; have HO228 := n0_; have HB := n1_; clear n0_ n1_; (try clear hb); (try clear hb2); (try clear hk); (try clear hi); (try clear ho0); obtain ⟨Ao9, co9, eo9⟩ := Kd.R_slice HO228.out; subst eo9) | ((with_reducible refine gate_callee (f := 4) rfl ?_); refine goesL_ (some 19) rfl rfl Try.func4 (by kernel_rfl) rfl #[.slice Ao9 t226.length co9] rfl Za83 ?_; (with_reducible refine (spec_LevelsOf.calls k _ _ t226 t229 t232 t235 _ ?side1 ?side2 A4.out).mono ?_); (case side1 => repeat (first | exact (Kd.R_reads' HO228.out).2.2 | (with_reducible refine Kd.C_alloc ?_ _) | (with_reducible refine Kd.C_drewN ?_ _) | (with_reducible refine Kd.C_drew ?_))); (case side2 => exact (Kd.R_reads' HO228.out).2.1); rintro e w10 ⟨v230, v233, rfl, ho0, ho1, hb⟩; refine ⟨_, rfl, ?_⟩; have n0_ := Aa8q (Kd.R_mono (Kd.R_told (Kd.R_told (Kd.R_old Za811 hb) (Kd.R_base ho0)) (Kd.R_base ho1)) (fun _ h_ => h_.1)); have n1_ := Aa8q (Kd.R_lower (Kd.R_new' ho0 (Kd.R_lt Za811)) (below_size Za84)); have n2_ := Aa8q (Kd.R_lower (Kd.R_new' ho1 (Kd.R_lt Za811)) (below_size Za84)); have n3_ := Aa8q (below_step Za84 hb); clear HO228; clear HB; have HO228 := n0_; have HO231 := n1_; have HO234 := n2_; have HB := n3_; clear n0_ n1_ n2_ n3_; (try clear hb); (try clear hb2); (try clear hk); (try clear hi); (try clear ho0); (try clear ho1)) | ((with_reducible refine gate_dst (N := 3) rfl ?_); refine box_event ?hg (N := 3) ?hd (cs := #[.slice none 0 0, .slice none 0 0]) (t := 24) ?hr ?_; (case hd => rfl); (case hg => rfl); (case hr => first | (go_simp; done) | (go_simp; rfl)); intro g236 hg w11 hbox hb; have n0_ := Aa8q (Kd.R_below Za811 hb); have n1_ := Aa8q (Kd.R_below Za812 hb); have n2_ := Aa8q (Kd.R_below Za813 hb); have n3_ := Aa8q (below_step Za84 hb); have n4_ := Aa8q (hbox); have n5_ := Aa8q ((by rw [hg]; exact (below_size Za84) : w.heap.size ≤ g236)); have n6_ := Aa8q ((by rw [hg]; exact (below_size Za84) : w.heap.size ≤ g236)); clear HO228; clear HO231; clear HO234; clear HB; have HO228 := n0_; have HO231 := n1_; have HO234 := n2_; have HB := n3_; have BK236 := n4_; have GW236 := n5_; have GE236 := n6_; clear n0_ n1_ n2_ n3_ n4_ n5_ n6_; clear hb hbox hg; obtain ⟨Ao12, co12, eo12⟩ := Kd.R_slice HO231.out; subst eo12; have hcz13_0 : w11.cell? ⟨g236, 0, none⟩ = some (.slice none 0 0) := (blk_cell BK236.out 0).trans rfl; have hcz13_1 : w11.cell? ⟨g236, 1, none⟩ = some (.slice none 0 0) := (blk_cell BK236.out 1).trans rfl; have hfz13_0 := blk_frozen BK236.out 0; have hfz13_1 := blk_frozen BK236.out 1; obtain ⟨Ao14, co14, eo14⟩ := Kd.R_slice HO234.out; subst eo14) | ((with_reducible refine gate_callee (f := 5) rfl ?_); refine goesL_ (some 23) rfl rfl Try.func5 (by kernel_rfl) rfl #[.slice A0 l0.length c0] rfl Za83 ?_; (with_reducible refine (laws_toIntS.calls k _ _ l0 t237 _ ?side1 ?side2 A5.out).mono ?_); (case side1 => exact Kd.C_below HR0.out Za82); (case side2 => exact HC0.out); rintro e w15 ⟨v238, rfl, ho0, hb⟩; refine ⟨_, rfl, ?_⟩; have n0_ := Aa8q (Kd.R_elder' (by (with_reducible repeat (first | apply Kd.R_alloc | apply Kd.R_drewN | apply Kd.R_drew)); exact (Kd.R_mono (Kd.R_far (p := ⟨g236, 1, none⟩) (Kd.R_far (p := ⟨g236, 0, none⟩) (Kd.R_types HO228.out BK236.out (by decide)) (fun _ hk => hk.2) (.slice Ao12 t229.length co12)) (fun _ hk => hk.2) (.slice Ao14 t232.length co14)) (fun _ h_ => h_.1))) (Kd.R_base ho0) hb); have n1_ := Aa8q (Kd.R_elder' (by (with_reducible repeat (first | apply Kd.R_alloc | apply Kd.R_drewN | apply Kd.R_drew)); exact (Kd.R_mono (Kd.R_far (p := ⟨g236, 1, none⟩) (Kd.R_far (p := ⟨g236, 0, none⟩) (Kd.R_types HO231.out BK236.out (by decide)) (fun _ hk => hk.2) (.slice Ao12 t229.length co12)) (fun _ hk => hk.2) (.slice Ao14 t232.length co14)) (fun _ h_ => h_.1))) (Kd.R_base ho0) hb); have n2_ := Aa8q (Kd.R_elder' (by (with_reducible repeat (first | apply Kd.R_alloc | apply Kd.R_drewN | apply Kd.R_drew)); exact (Kd.R_mono (Kd.R_far (p := ⟨g236, 1, none⟩) (Kd.R_far (p := ⟨g236, 0, none⟩) (Kd.R_types HO234.out BK236.out (by decide)) (fun _ hk => hk.2) (.slice Ao12 t229.length co12)) (fun _ hk => hk.2) (.slice Ao14 t232.length co14)) (fun _ h_ => h_.1))) (Kd.R_base ho0) hb); have n3_ := Aa8q (Kd.R_lower (Kd.R_new' (Kd.R_new' (Kd.R_new' ho0 (Kd.R_lt (by (with_reducible repeat (first | apply Kd.R_alloc | apply Kd.R_drewN | apply Kd.R_drew)); exact (Kd.R_mono (Kd.R_far (p := ⟨g236, 1, none⟩) (Kd.R_far (p := ⟨g236, 0, none⟩) (Kd.R_types HO228.out BK236.out (by decide)) (fun _ hk => hk.2) (.slice Ao12 t229.length co12)) (fun _ hk => hk.2) (.slice Ao14 t232.length co14)) (fun _ h_ => h_.1))))) (Kd.R_lt (by (with_reducible repeat (first | apply Kd.R_alloc | apply Kd.R_drewN | apply Kd.R_drew)); exact (Kd.R_mono (Kd.R_far (p := ⟨g236, 1, none⟩) (Kd.R_far (p := ⟨g236, 0, none⟩) (Kd.R_types HO231.out BK236.out (by decide)) (fun _ hk => hk.2) (.slice Ao12 t229.length co12)) (fun _ hk => hk.2) (.slice Ao14 t232.length co14)) (fun _ h_ => h_.1))))) (Kd.R_lt (by (with_reducible repeat (first | apply Kd.R_alloc | apply Kd.R_drewN | apply Kd.R_drew)); exact (Kd.R_mono (Kd.R_far (p := ⟨g236, 1, none⟩) (Kd.R_far (p := ⟨g236, 0, none⟩) (Kd.R_types HO234.out BK236.out (by decide)) (fun _ hk => hk.2) (.slice Ao12 t229.length co12)) (fun _ hk => hk.2) (.slice Ao14 t232.length co14)) (fun _ h_ => h_.1))))) (below_size Za82)); have n4_ := Aa8q (blk_below (g := g236) (o := .cells #[.slice Ao12 t229.length co12, .slice Ao14 t232.length co14] 24 (0, 0)) (by (with_reducible repeat (first | refine blk_drewN ?_ _ | refine blk_drew ?_ | refine blk_alloc ?_ _)); refine blk_put (cs := #[.slice Ao12 t229.length co12, .slice none 0 0]) ?_ 1 _ rfl; (with_reducible repeat (first | refine blk_drewN ?_ _ | refine blk_drew ?_ | refine blk_alloc ?_ _)); refine blk_put (cs := #[.slice none 0 0, .slice none 0 0]) ?_ 0 _ rfl; (with_reducible repeat (first | refine blk_drewN ?_ _ | refine blk_drew ?_ | refine blk_alloc ?_ _)); exact BK236.out) hb); have n5_ := Aa8q (below_step Za82 hb); clear HO228; clear HO231; clear HO234; clear BK236; clear HB; have HO228 := n0_; have HO231 := n1_; have HO234 := n2_; have HO239 := n3_; have BK236 := n4_; have HB := n5_; clear n0_ n1_ n2_ n3_ n4_ n5_; (try clear hb); (try clear hb2); (try clear hk); (try clear hi); (try clear ho0); obtain ⟨Ao16, co16, eo16⟩ := Kd.R_slice HO239.out; subst eo16) | ((with_reducible refine gate_callee (f := 6) rfl ?_); refine goesL_ (some 26) rfl rfl Try.func6 (by kernel_rfl) rfl #[.slice Ao16 t237.length co16] rfl Za83 ?_; (with_reducible refine (impl_LevelsOf.calls k _ _ t237 t240 t243 t246 _ ?side1 ?side2 A6.out).mono ?_); (case side1 => repeat (first | exact (Kd.R_reads' HO239.out).2.2 | (with_reducible refine Kd.C_alloc ?_ _) | (with_reducible refine Kd.C_drewN ?_ _) | (with_reducible refine Kd.C_drew ?_))); (case side2 => exact (Kd.R_reads' HO239.out).2.1); rintro e w17 ⟨v241, v244, rfl, ho0, ho1, hb⟩; refine ⟨_, rfl, ?_⟩; have n0_ := Aa8q (Kd.R_mono (Kd.R_told (Kd.R_told (Kd.R_old Za811 hb) (Kd.R_base ho0)) (Kd.R_base ho1)) (fun _ h_ => h_.1)); have n1_ := Aa8q (Kd.R_mono (Kd.R_told (Kd.R_told (Kd.R_old Za812 hb) (Kd.R_base ho0)) (Kd.R_base ho1)) (fun _ h_ => h_.1)); have n2_ := Aa8q (Kd.R_mono (Kd.R_told (Kd.R_told (Kd.R_old Za813 hb) (Kd.R_base ho0)) (Kd.R_base ho1)) (fun _ h_ => h_.1)); have n3_ := Aa8q (Kd.R_mono (Kd.R_told (Kd.R_told (Kd.R_old (by (with_reducible repeat (first | apply Kd.R_alloc | apply Kd.R_drewN | apply Kd.R_drew)); exact HO239.out) hb) (Kd.R_base ho0)) (Kd.R_base ho1)) (fun _ h_ => h_.1)); have n4_ := Aa8q (Kd.R_lower (Kd.R_new' (Kd.R_new' (Kd.R_new' (Kd.R_new' ho0 (Kd.R_lt Za811)) (Kd.R_lt Za812)) (Kd.R_lt Za813)) (Kd.R_lt (by (with_reducible repeat (first | apply Kd.R_alloc | apply Kd.R_drewN | apply Kd.R_drew)); exact HO239.out))) (below_size Za82)); have n5_ := Aa8q (Kd.R_lower (Kd.R_new' (Kd.R_new' (Kd.R_new' (Kd.R_new' ho1 (Kd.R_lt Za811)) (Kd.R_lt Za812)) (Kd.R_lt Za813)) (Kd.R_lt (by (with_reducible repeat (first | apply Kd.R_alloc | apply Kd.R_drewN | apply Kd.R_drew)); exact HO239.out))) (below_size Za82)); have n6_ := Aa8q (blk_below (g := g236) (o := .cells #[.slice Ao12 t229.length co12, .slice Ao14 t232.length co14] 24 (0, 0)) Za85 hb); have n7_ := Aa8q (below_step Za82 hb); clear HO228; clear HO231; clear HO234; clear HO239; clear BK236; clear HB; have HO228 := n0_; have HO231 := n1_; have HO234 := n2_; have HO239 := n3_; have HO242 := n4_; have HO245 := n5_; have BK236 := n6_; have HB := n7_; clear n0_ n1_ n2_ n3_ n4_ n5_ n6_ n7_; (try clear hb); (try clear hb2); (try clear hk); (try clear hi); (try clear ho0); (try clear ho1)) | ((with_reducible refine gate_dst (N := 6) rfl ?_); refine box_event ?hg (N := 6) ?hd (cs := #[.slice none 0 0, .slice none 0 0]) (t := 24) ?hr ?_; (case hd => rfl); (case hg => rfl); (case hr => first | (go_simp; done) | (go_simp; rfl)); intro g247 hg w18 hbox hb; have n0_ := Aa8q (Kd.R_below Za811 hb); have n1_ := Aa8q (Kd.R_below Za812 hb); have n2_ := Aa8q (Kd.R_below Za813 hb); have n3_ := Aa8q (Kd.R_below (by (with_reducible repeat (first | apply Kd.R_alloc | apply Kd.R_drewN | apply Kd.R_drew)); exact HO239.out) hb); have n4_ := Aa8q (Kd.R_below (by (with_reducible repeat (first | apply Kd.R_alloc | apply Kd.R_drewN | apply Kd.R_drew)); exact HO242.out) hb); have n5_ := Aa8q (Kd.R_below (by (with_reducible repeat (first | apply Kd.R_alloc | apply Kd.R_drewN | apply Kd.R_drew)); exact HO245.out) hb); have n6_ := Aa8q (blk_below (g := g236) (o := .cells #[.slice Ao12 t229.length co12, .slice Ao14 t232.length co14] 24 (0, 0)) Za85 hb); have n7_ := Aa8q (below_step Za82 hb); have n8_ := Aa8q (hbox); have n9_ := Aa8q ((by rw [hg]; exact (below_size Za82) : w.heap.size ≤ g247)); have n10_ := Aa8q ((by rw [hg]; exact (below_size Za82) : w.heap.size ≤ g247)); have n11_ := Aa8q ((by rw [hg]; exact Nat.ne_of_lt (blk_lt (g := g236) (o := .cells #[.slice Ao12 t229.length co12, .slice Ao14 t232.length co14] 24 (0, 0)) Za85) : g236 ≠ g247)); have n12_ := Aa8q ((by rw [hg]; exact Nat.ne_of_gt (blk_lt (g := g236) (o := .cells #[.slice Ao12 t229.length co12, .slice Ao14 t232.length co14] 24 (0, 0)) Za85) : g247 ≠ g236)); clear HO228; clear HO231; clear HO234; clear HO239; clear HO242; clear HO245; clear BK236; clear HB; have HO228 := n0_; have HO231 := n1_; have HO234 := n2_; have HO239 := n3_; have HO242 := n4_; have HO245 := n5_; have BK236 := n6_; have HB := n7_; have BK247 := n8_; have GW247 := n9_; have GE247 := n10_; have NB236_247 := n11_; have NB247_236 := n12_; clear n0_ n1_ n2_ n3_ n4_ n5_ n6_ n7_ n8_ n9_ n10_ n11_ n12_; clear hb hbox hg; obtain ⟨Ao19, co19, eo19⟩ := Kd.R_slice HO242.out; subst eo19; have hnb20 := NB247_236.out; have hnc20 := NB236_247.out; have hcz21_0 : w18.cell? ⟨g247, 0, none⟩ = some (.slice none 0 0) := (blk_cell BK247.out 0).trans rfl; have hcz21_1 : w18.cell? ⟨g247, 1, none⟩ = some (.slice none 0 0) := (blk_cell BK247.out 1).trans rfl; have hfz21_0 := blk_frozen BK247.out 0; have hfz21_1 := blk_frozen BK247.out 1; obtain ⟨Ao22, co22, eo22⟩ := Kd.R_slice HO245.out; subst eo22))
 (try simp only [Act.put, y1a8, y2a8, y3a8])
 go_cut [37] (fun v37 wc => ∃ (kq : Nat) (x37_6 : Bool), v37 = .bool x37_6 ∧ Aside0 (laws_FnExactLevelsOf.j0 kq l0 t235 t237 t246 x37_6 t229 t232 t240 t243 = some r) ∧ Aside0 (kq ≤ k) ∧ Aside0 (Kd.R (Kd.int .i64) 3 wc w.heap.size (fun k_ => some k_ ≠ ((.slice Ao12 t229.length co12) : Value).ownBlock ∧ some k_ ≠ ((.slice Ao14 t232.length co14) : Value).ownBlock ∧ some k_ ≠ ((.slice Ao19 t240.length co19) : Value).ownBlock ∧ some k_ ≠ ((.slice Ao22 t243.length co22) : Value).ownBlock) (.slice Ao16 t237.length co16) t237) ∧ Aside0 (Kd.R (Kd.int .i64) 3 wc w.heap.size (fun k_ => some k_ ≠ ((.slice Ao16 t237.length co16) : Value).ownBlock ∧ some k_ ≠ ((.slice Ao14 t232.length co14) : Value).ownBlock ∧ some k_ ≠ ((.slice Ao19 t240.length co19) : Value).ownBlock ∧ some k_ ≠ ((.slice Ao22 t243.length co22) : Value).ownBlock) (.slice Ao12 t229.length co12) t229) ∧ Aside0 (Kd.R (Kd.int .i64) 3 wc w.heap.size (fun k_ => some k_ ≠ ((.slice Ao16 t237.length co16) : Value).ownBlock ∧ some k_ ≠ ((.slice Ao12 t229.length co12) : Value).ownBlock ∧ some k_ ≠ ((.slice Ao19 t240.length co19) : Value).ownBlock ∧ some k_ ≠ ((.slice Ao22 t243.length co22) : Value).ownBlock) (.slice Ao14 t232.length co14) t232) ∧ Aside0 (Kd.R (Kd.int .i64) 3 wc w.heap.size (fun k_ => some k_ ≠ ((.slice Ao16 t237.length co16) : Value).ownBlock ∧ some k_ ≠ ((.slice Ao12 t229.length co12) : Value).ownBlock ∧ some k_ ≠ ((.slice Ao14 t232.length co14) : Value).ownBlock ∧ some k_ ≠ ((.slice Ao22 t243.length co22) : Value).ownBlock) (.slice Ao19 t240.length co19) t240) ∧ Aside0 (Kd.R (Kd.int .i64) 3 wc w.heap.size (fun k_ => some k_ ≠ ((.slice Ao16 t237.length co16) : Value).ownBlock ∧ some k_ ≠ ((.slice Ao12 t229.length co12) : Value).ownBlock ∧ some k_ ≠ ((.slice Ao14 t232.length co14) : Value).ownBlock ∧ some k_ ≠ ((.slice Ao19 t240.length co19) : Value).ownBlock) (.slice Ao22 t243.length co22) t243) ∧ Aside0 (wc.heap[g236]? = some (.cells #[(.slice Ao12 t229.length co12), (.slice Ao14 t232.length co14)] 24 (0, 0))) ∧ Aside0 (wc.heap[g247]? = some (.cells #[(.slice Ao19 t240.length co19), (.slice Ao22 t243.length co22)] 24 (0, 0))) ∧ Aside0 (Below w.heap.size w wc))
 case first => as_aux_lemma =>
  have H := HC7.out
  clear HC7
  replace H := Option.bind_eq_some_iff.mp H
  obtain ⟨t248, A230, H⟩ := H
  replace H : (if t248 = true then (laws_FnExactLevelsOf.j0 k l0 t235 t237 t246 (t246 != t235) t229 t232 t240 t243) else (laws_FnExactLevelsOf.j0 k l0 t235 t237 t246 true t229 t232 t240 t243)) = some r := H
  have A23 := Aa8q A230
  clear A230
  by_cases c24 : t248 = true
  rotate_left
  ·
   replace c24 := Bool.eq_false_iff.mpr c24
   subst c24
   have H1 : (laws_FnExactLevelsOf.j0 k l0 t235 t237 t246 true t229 t232 t240 t243) = some r := by rw [if_neg (show ¬ (false = true) by decide)] at H; exact H
   clear H
   have H := H1
   clear H1
   exact absurd H (by generalize k = q_; cases q_ <;> simp [laws_FnExactLevelsOf.j0])
  subst c24
  have H1 : (laws_FnExactLevelsOf.j0 k l0 t235 t237 t246 (t246 != t235) t229 t232 t240 t243) = some r := by rw [if_pos rfl] at H; exact H
  clear H
  have H := H1
  clear H1
  have H' := Aa8q H
  clear H
  have hnb25 := NB247_236.out
  have hnc25 := NB236_247.out
  have hcz26_0 : w18.cell? ⟨g247, 0, none⟩ = some (.slice none 0 0) := (blk_cell BK247.out 0).trans rfl
  have hcz26_1 : w18.cell? ⟨g247, 1, none⟩ = some (.slice none 0 0) := (blk_cell BK247.out 1).trans rfl
  have hfz26_0 := blk_frozen BK247.out 0
  have hfz26_1 := blk_frozen BK247.out 1
  have hcz27_0 : w18.cell? ⟨g236, 0, none⟩ = some (.slice Ao12 t229.length co12) := (blk_cell BK236.out 0).trans rfl
  have hcz27_1 : w18.cell? ⟨g236, 1, none⟩ = some (.slice Ao14 t232.length co14) := (blk_cell BK236.out 1).trans rfl
  have hfz27_0 := blk_frozen BK236.out 0
  have hfz27_1 := blk_frozen BK236.out 1
  as_aux_lemma =>
   go_wp2_with (first | ((with_reducible refine gate_callee (f := 7) rfl ?_); refine goesL_ (some 31) rfl rfl Try.func7 (by kernel_rfl) rfl #[.agg #[.slice Ao19 t240.length co19, .slice Ao22 t243.length co22], .agg #[.slice Ao12 t229.length co12, .slice Ao14 t232.length co14]] rfl Za83 ?_; (with_reducible refine (laws_eqLevels.calls k _ _ t240 _ _ t243 _ _ t229 _ _ t232 true _ ?side1 ?side2 ?side3 ?side4 ?side5 ?side6 ?side7 ?side8 A23.out).mono ?_); (case side1 => refine (Kd.R_reads' (e := 3) (base := w.heap.size) (ok := fun k_ => ((((some k_ ≠ (.slice Ao22 t243.length co22 : Value).ownBlock ∧ some k_ ≠ (.slice Ao9 t226.length co9 : Value).ownBlock) ∧ some k_ ≠ (.slice Ao12 t229.length co12 : Value).ownBlock) ∧ some k_ ≠ (.slice Ao14 t232.length co14 : Value).ownBlock) ∧ some k_ ≠ (.slice Ao16 t237.length co16 : Value).ownBlock)) (n := t240.length) (c := co19) ?_).2.2; exact (by (with_reducible repeat (first | apply Kd.R_alloc | apply Kd.R_drewN | apply Kd.R_drew)); exact (Kd.R_mono (Kd.R_far (p := ⟨g247, 1, none⟩) (Kd.R_far (p := ⟨g247, 0, none⟩) (Kd.R_types HO242.out BK247.out (by decide)) (fun _ hk => hk.2) (.slice Ao19 t240.length co19)) (fun _ hk => hk.2) (.slice Ao22 t243.length co22)) (fun _ h_ => h_.1)))); (case side2 => exact (Kd.R_reads' HO242.out).2.1); (case side3 => refine (Kd.R_reads' (e := 3) (base := w.heap.size) (ok := fun k_ => ((((some k_ ≠ (.slice Ao19 t240.length co19 : Value).ownBlock ∧ some k_ ≠ (.slice Ao9 t226.length co9 : Value).ownBlock) ∧ some k_ ≠ (.slice Ao12 t229.length co12 : Value).ownBlock) ∧ some k_ ≠ (.slice Ao14 t232.length co14 : Value).ownBlock) ∧ some k_ ≠ (.slice Ao16 t237.length co16 : Value).ownBlock)) (n := t243.length) (c := co22) ?_).2.2; exact (by (with_reducible repeat (first | apply Kd.R_alloc | apply Kd.R_drewN | apply Kd.R_drew)); exact (Kd.R_mono (Kd.R_far (p := ⟨g247, 1, none⟩) (Kd.R_far (p := ⟨g247, 0, none⟩) (Kd.R_types HO245.out BK247.out (by decide)) (fun _ hk => hk.2) (.slice Ao19 t240.length co19)) (fun _ hk => hk.2) (.slice Ao22 t243.length co22)) (fun _ h_ => h_.1)))); (case side4 => exact (Kd.R_reads' HO245.out).2.1); (case side5 => refine (Kd.R_reads' (e := 3) (base := w.heap.size) (ok := fun k_ => ((((some k_ ≠ (.slice Ao14 t232.length co14 : Value).ownBlock ∧ some k_ ≠ (.slice Ao9 t226.length co9 : Value).ownBlock) ∧ some k_ ≠ (.slice Ao16 t237.length co16 : Value).ownBlock) ∧ some k_ ≠ (.slice Ao19 t240.length co19 : Value).ownBlock) ∧ some k_ ≠ (.slice Ao22 t243.length co22 : Value).ownBlock)) (n := t229.length) (c := co12) ?_).2.2; exact (by (with_reducible repeat (first | apply Kd.R_alloc | apply Kd.R_drewN | apply Kd.R_drew)); exact (Kd.R_mono (Kd.R_far (p := ⟨g247, 1, none⟩) (Kd.R_far (p := ⟨g247, 0, none⟩) (Kd.R_types HO231.out BK247.out (by decide)) (fun _ hk => hk.2) (.slice Ao19 t240.length co19)) (fun _ hk => hk.2) (.slice Ao22 t243.length co22)) (fun _ h_ => h_.1)))); (case side6 => exact (Kd.R_reads' HO231.out).2.1); (case side7 => refine (Kd.R_reads' (e := 3) (base := w.heap.size) (ok := fun k_ => ((((some k_ ≠ (.slice Ao12 t229.length co12 : Value).ownBlock ∧ some k_ ≠ (.slice Ao9 t226.length co9 : Value).ownBlock) ∧ some k_ ≠ (.slice Ao16 t237.length co16 : Value).ownBlock) ∧ some k_ ≠ (.slice Ao19 t240.length co19 : Value).ownBlock) ∧ some k_ ≠ (.slice Ao22 t243.length co22 : Value).ownBlock)) (n := t232.length) (c := co14) ?_).2.2; exact (by (with_reducible repeat (first | apply Kd.R_alloc | apply Kd.R_drewN | apply Kd.R_drew)); exact (Kd.R_mono (Kd.R_far (p := ⟨g247, 1, none⟩) (Kd.R_far (p := ⟨g247, 0, none⟩) (Kd.R_types HO234.out BK247.out (by decide)) (fun _ hk => hk.2) (.slice Ao19 t240.length co19)) (fun _ hk => hk.2) (.slice Ao22 t243.length co22)) (fun _ h_ => h_.1)))); (case side8 => exact (Kd.R_reads' HO234.out).2.1); rintro e w28 ⟨rfl, hb⟩; refine ⟨_, rfl, ?_⟩; have n0_ := Aa8q (Kd.R_below (by (with_reducible repeat (first | apply Kd.R_alloc | apply Kd.R_drewN | apply Kd.R_drew)); exact (Kd.R_mono (Kd.R_far (p := ⟨g247, 1, none⟩) (Kd.R_far (p := ⟨g247, 0, none⟩) (Kd.R_types HO228.out BK247.out (by decide)) (fun _ hk => hk.2) (.slice Ao19 t240.length co19)) (fun _ hk => hk.2) (.slice Ao22 t243.length co22)) (fun _ h_ => h_.1))) hb); have n1_ := Aa8q (Kd.R_below (by (with_reducible repeat (first | apply Kd.R_alloc | apply Kd.R_drewN | apply Kd.R_drew)); exact (Kd.R_mono (Kd.R_far (p := ⟨g247, 1, none⟩) (Kd.R_far (p := ⟨g247, 0, none⟩) (Kd.R_types HO231.out BK247.out (by decide)) (fun _ hk => hk.2) (.slice Ao19 t240.length co19)) (fun _ hk => hk.2) (.slice Ao22 t243.length co22)) (fun _ h_ => h_.1))) hb); have n2_ := Aa8q (Kd.R_below (by (with_reducible repeat (first | apply Kd.R_alloc | apply Kd.R_drewN | apply Kd.R_drew)); exact (Kd.R_mono (Kd.R_far (p := ⟨g247, 1, none⟩) (Kd.R_far (p := ⟨g247, 0, none⟩) (Kd.R_types HO234.out BK247.out (by decide)) (fun _ hk => hk.2) (.slice Ao19 t240.length co19)) (fun _ hk => hk.2) (.slice Ao22 t243.length co22)) (fun _ h_ => h_.1))) hb); have n3_ := Aa8q (Kd.R_below (by (with_reducible repeat (first | apply Kd.R_alloc | apply Kd.R_drewN | apply Kd.R_drew)); exact (Kd.R_mono (Kd.R_far (p := ⟨g247, 1, none⟩) (Kd.R_far (p := ⟨g247, 0, none⟩) (Kd.R_types HO239.out BK247.out (by decide)) (fun _ hk => hk.2) (.slice Ao19 t240.length co19)) (fun _ hk => hk.2) (.slice Ao22 t243.length co22)) (fun _ h_ => h_.1))) hb); have n4_ := Aa8q (Kd.R_below (by (with_reducible repeat (first | apply Kd.R_alloc | apply Kd.R_drewN | apply Kd.R_drew)); exact (Kd.R_mono (Kd.R_far (p := ⟨g247, 1, none⟩) (Kd.R_far (p := ⟨g247, 0, none⟩) (Kd.R_types HO242.out BK247.out (by decide)) (fun _ hk => hk.2) (.slice Ao19 t240.length co19)) (fun _ hk => hk.2) (.slice Ao22 t243.length co22)) (fun _ h_ => h_.1))) hb); have n5_ := Aa8q (Kd.R_below (by (with_reducible repeat (first | apply Kd.R_alloc | apply Kd.R_drewN | apply Kd.R_drew)); exact (Kd.R_mono (Kd.R_far (p := ⟨g247, 1, none⟩) (Kd.R_far (p := ⟨g247, 0, none⟩) (Kd.R_types HO245.out BK247.out (by decide)) (fun _ hk => hk.2) (.slice Ao19 t240.length co19)) (fun _ hk => hk.2) (.slice Ao22 t243.length co22)) (fun _ h_ => h_.1))) hb); have n6_ := Aa8q (blk_below (g := g236) (o := .cells #[.slice Ao12 t229.length co12, .slice Ao14 t232.length co14] 24 (0, 0)) (by (with_reducible repeat (first | refine blk_drewN ?_ _ | refine blk_drew ?_ | refine blk_alloc ?_ _)); refine blk_far ?_ NB236_247.out _; (with_reducible repeat (first | refine blk_drewN ?_ _ | refine blk_drew ?_ | refine blk_alloc ?_ _)); refine blk_far ?_ NB236_247.out _; (with_reducible repeat (first | refine blk_drewN ?_ _ | refine blk_drew ?_ | refine blk_alloc ?_ _)); exact BK236.out) hb); have n7_ := Aa8q (blk_below (g := g247) (o := .cells #[.slice Ao19 t240.length co19, .slice Ao22 t243.length co22] 24 (0, 0)) (by (with_reducible repeat (first | refine blk_drewN ?_ _ | refine blk_drew ?_ | refine blk_alloc ?_ _)); refine blk_put (cs := #[.slice Ao19 t240.length co19, .slice none 0 0]) ?_ 1 _ rfl; (with_reducible repeat (first | refine blk_drewN ?_ _ | refine blk_drew ?_ | refine blk_alloc ?_ _)); refine blk_put (cs := #[.slice none 0 0, .slice none 0 0]) ?_ 0 _ rfl; (with_reducible repeat (first | refine blk_drewN ?_ _ | refine blk_drew ?_ | refine blk_alloc ?_ _)); exact BK247.out) hb); have n8_ := Aa8q (below_step Za81 hb); clear HO228; clear HO231; clear HO234; clear HO239; clear HO242; clear HO245; clear BK236; clear BK247; clear HB; have HO228 := n0_; have HO231 := n1_; have HO234 := n2_; have HO239 := n3_; have HO242 := n4_; have HO245 := n5_; have BK236 := n6_; have BK247 := n7_; have HB := n8_; clear n0_ n1_ n2_ n3_ n4_ n5_ n6_ n7_ n8_; (try clear hb); (try clear hb2); (try clear hk); (try clear hi)))
   go_meet
   case rel => exact ⟨_, ((t246 != t235)), (by first | rfl | (simp; done) | (simp [*]; done) | (simp only [i64_w]; done)), H', ⟨by first | omega | exact Nat.le_refl _⟩, ⟨by (with_reducible repeat (first | apply Kd.R_alloc | apply Kd.R_drewN | apply Kd.R_drew)); exact Kd.R_mono HO239.out (fun _ hk => ⟨hk.1.1.1.2, ⟨hk.1.1.2, ⟨hk.1.2, hk.2⟩⟩⟩)⟩, ⟨by (with_reducible repeat (first | apply Kd.R_alloc | apply Kd.R_drewN | apply Kd.R_drew)); exact Kd.R_mono HO231.out (fun _ hk => ⟨hk.1.1.2, ⟨hk.1.1.1.1, ⟨hk.1.2, hk.2⟩⟩⟩)⟩, ⟨by (with_reducible repeat (first | apply Kd.R_alloc | apply Kd.R_drewN | apply Kd.R_drew)); exact Kd.R_mono HO234.out (fun _ hk => ⟨hk.1.1.2, ⟨hk.1.1.1.1, ⟨hk.1.2, hk.2⟩⟩⟩)⟩, ⟨by (with_reducible repeat (first | apply Kd.R_alloc | apply Kd.R_drewN | apply Kd.R_drew)); exact Kd.R_mono HO242.out (fun _ hk => ⟨hk.2, ⟨hk.1.1.2, ⟨hk.1.2, hk.1.1.1.1⟩⟩⟩)⟩, ⟨by (with_reducible repeat (first | apply Kd.R_alloc | apply Kd.R_drewN | apply Kd.R_drew)); exact Kd.R_mono HO245.out (fun _ hk => ⟨hk.2, ⟨hk.1.1.2, ⟨hk.1.2, hk.1.1.1.1⟩⟩⟩)⟩, ⟨by (with_reducible repeat (first | refine blk_drewN ?_ _ | refine blk_drew ?_ | refine blk_alloc ?_ _)); exact BK236.out⟩, ⟨by (with_reducible repeat (first | refine blk_drewN ?_ _ | refine blk_drew ?_ | refine blk_alloc ?_ _)); exact BK247.out⟩, ⟨by repeat (first | (with_reducible first | exact HB.out | apply below_alloc | apply pw_below_drewN | apply below_drew1 | refine below_set ?_ GE236.out | refine below_set ?_ GE247.out) | exact HB.out)⟩⟩
 case rest => as_aux_lemma =>
  clear HC7
  try clear c2
  try clear c2b0
  try clear c2b1
  try clear p2
  try clear c3
  try clear c4
  try clear c5
  try clear c6
  try clear c7
  try clear c20
  try clear c24
  try clear c25
  try clear c29
  try clear hcz13_0
  try clear hcz13_1
  try clear hcz21_0
  try clear hcz21_1
  try clear hcz26_0
  try clear hcz26_1
  try clear hcz27_0
  try clear hcz27_1
  try clear hcz30_0
  try clear hcz30_1
  try clear hcz31_0
  try clear hcz31_1
  try clear hfz13_0
  try clear hfz13_1
  try clear hfz21_0
  try clear hfz21_1
  try clear hfz26_0
  try clear hfz26_1
  try clear hfz27_0
  try clear hfz27_1
  try clear hfz30_0
  try clear hfz30_1
  try clear hfz31_0
  try clear hfz31_1
  obtain ⟨kq, x37_6, rfl, HA, HJ6, HO_5, HO_237000, HO_237001, HO_248000, HO_248001, BK236, BK247, HB⟩ := hcut
  obtain _ | kj6 := kq
  · exact absurd HA.out (by simp [laws_FnExactLevelsOf.j0])
  have H := HA.out
  clear HA
  simp only [laws_FnExactLevelsOf.j0] at H
  by_cases c33 : x37_6 = true
  ·
   subst c33
   have H1 : (none) = some r := by rw [if_pos rfl] at H; exact H
   clear H
   have H := H1
   clear H1
   exact absurd H (by simp)
  replace c33 := Bool.eq_false_iff.mpr c33
  subst c33
  have H1 : ((laws_toIntS.f kj6 l0).bind fun t249 => ((laws_eqIntS.f kj6 t237 t249).bind fun t252 => (if t252 = true then ((laws_markIntS.f kj6 t237 1).bind fun bt253 => (if bt253.1 < 0 then (laws_FnExactLevelsOf.j1 kj6 l0 t235 true t229 t232 t240 t243) else ((laws_eqLevels.f kj6 t240 t243 t229 t232).bind fun t255 => (if t255 = true then (laws_FnExactLevelsOf.j1 kj6 l0 t235 (t246 != t235) t229 t232 t240 t243) else (laws_FnExactLevelsOf.j1 kj6 l0 t235 true t229 t232 t240 t243))))) else (none)))) = some r := by rw [if_neg (show ¬ (false = true) by decide)] at H; exact H
  clear H
  have H := H1
  clear H1
  replace H := Option.bind_eq_some_iff.mp H
  obtain ⟨t249, A340, H⟩ := H
  replace H : ((laws_eqIntS.f kj6 t237 t249).bind fun t252 => (if t252 = true then ((laws_markIntS.f kj6 t237 1).bind fun bt253 => (if bt253.1 < 0 then (laws_FnExactLevelsOf.j1 kj6 l0 t235 true t229 t232 t240 t243) else ((laws_eqLevels.f kj6 t240 t243 t229 t232).bind fun t255 => (if t255 = true then (laws_FnExactLevelsOf.j1 kj6 l0 t235 (t246 != t235) t229 t232 t240 t243) else (laws_FnExactLevelsOf.j1 kj6 l0 t235 true t229 t232 t240 t243))))) else (none))) = some r := H
  have A34 := Aa8q A340
  clear A340
  replace H := Option.bind_eq_some_iff.mp H
  obtain ⟨t252, A350, H⟩ := H
  replace H : (if t252 = true then ((laws_markIntS.f kj6 t237 1).bind fun bt253 => (if bt253.1 < 0 then (laws_FnExactLevelsOf.j1 kj6 l0 t235 true t229 t232 t240 t243) else ((laws_eqLevels.f kj6 t240 t243 t229 t232).bind fun t255 => (if t255 = true then (laws_FnExactLevelsOf.j1 kj6 l0 t235 (t246 != t235) t229 t232 t240 t243) else (laws_FnExactLevelsOf.j1 kj6 l0 t235 true t229 t232 t240 t243))))) else (none)) = some r := H
  have A35 := Aa8q A350
  clear A350
  by_cases c36 : t252 = true
  rotate_left
  ·
   replace c36 := Bool.eq_false_iff.mpr c36
   subst c36
   have H1 : (none) = some r := by rw [if_neg (show ¬ (false = true) by decide)] at H; exact H
   clear H
   have H := H1
   clear H1
   exact absurd H (by simp)
  subst c36
  have H1 : ((laws_markIntS.f kj6 t237 1).bind fun bt253 => (if bt253.1 < 0 then (laws_FnExactLevelsOf.j1 kj6 l0 t235 true t229 t232 t240 t243) else ((laws_eqLevels.f kj6 t240 t243 t229 t232).bind fun t255 => (if t255 = true then (laws_FnExactLevelsOf.j1 kj6 l0 t235 (t246 != t235) t229 t232 t240 t243) else (laws_FnExactLevelsOf.j1 kj6 l0 t235 true t229 t232 t240 t243))))) = some r := by rw [if_pos rfl] at H; exact H
  clear H
  have H := H1
  clear H1
  replace H := Option.bind_eq_some_iff.mp H
  obtain ⟨⟨t253, t254⟩, A370, H⟩ := H
  replace H : (if t253 < 0 then (laws_FnExactLevelsOf.j1 kj6 l0 t235 true t229 t232 t240 t243) else ((laws_eqLevels.f kj6 t240 t243 t229 t232).bind fun t255 => (if t255 = true then (laws_FnExactLevelsOf.j1 kj6 l0 t235 (t246 != t235) t229 t232 t240 t243) else (laws_FnExactLevelsOf.j1 kj6 l0 t235 true t229 t232 t240 t243)))) = some r := H
  have A37 := Aa8q A370
  clear A370
  have HC38 := Aa8q H
  clear H
  go_upto_region 12 with (first | ((with_reducible refine gate_callee (f := 5) rfl ?_); refine goesL_ (some 40) rfl rfl Try.func5 (by kernel_rfl) rfl #[.slice A0 l0.length c0] rfl Za83 ?_; (with_reducible refine (laws_toIntS.calls kj6 _ _ l0 t249 _ ?side1 ?side2 A34.out).mono ?_); (case side1 => repeat (first | exact (Kd.C_below HR0.out HB.out) | (with_reducible refine Kd.C_alloc ?_ _) | (with_reducible refine Kd.C_drewN ?_ _) | (with_reducible refine Kd.C_drew ?_))); (case side2 => exact HC0.out); rintro e w39 ⟨v250, rfl, ho0, hb⟩; refine ⟨_, rfl, ?_⟩; have n0_ := Aa8q (Kd.R_elder' (by (with_reducible repeat (first | apply Kd.R_alloc | apply Kd.R_drewN | apply Kd.R_drew)); exact HO_5.out) (Kd.R_base ho0) hb); have n1_ := Aa8q (Kd.R_elder' Za87 (Kd.R_base ho0) hb); have n2_ := Aa8q (Kd.R_elder' Za88 (Kd.R_base ho0) hb); have n3_ := Aa8q (Kd.R_elder' Za89 (Kd.R_base ho0) hb); have n4_ := Aa8q (Kd.R_elder' Za810 (Kd.R_base ho0) hb); have n5_ := Aa8q (Kd.R_lower (Kd.R_new' (Kd.R_new' (Kd.R_new' (Kd.R_new' (Kd.R_new' ho0 (Kd.R_lt (by (with_reducible repeat (first | apply Kd.R_alloc | apply Kd.R_drewN | apply Kd.R_drew)); exact HO_5.out))) (Kd.R_lt Za87)) (Kd.R_lt Za88)) (Kd.R_lt Za89)) (Kd.R_lt Za810)) (below_size Za81)); have n6_ := Aa8q (blk_below (g := g236) (o := .cells #[.slice Ao12 t229.length co12, .slice Ao14 t232.length co14] 24 (0, 0)) Za85 hb); have n7_ := Aa8q (blk_below (g := g247) (o := .cells #[.slice Ao19 t240.length co19, .slice Ao22 t243.length co22] 24 (0, 0)) Za86 hb); have n8_ := Aa8q (below_step Za81 hb); clear HO_5; clear HO_237000; clear HO_237001; clear HO_248000; clear HO_248001; clear BK236; clear BK247; clear HB; have HO_5 := n0_; have HO_237000 := n1_; have HO_237001 := n2_; have HO_248000 := n3_; have HO_248001 := n4_; have HO251 := n5_; have BK236 := n6_; have BK247 := n7_; have HB := n8_; clear n0_ n1_ n2_ n3_ n4_ n5_ n6_ n7_ n8_; (try clear hb); (try clear hb2); (try clear hk); (try clear hi); (try clear ho0); obtain ⟨Ao40, co40, eo40⟩ := Kd.R_slice HO251.out; subst eo40) | ((with_reducible refine gate_callee (f := 8) rfl ?_); refine goesL_ (some 41) rfl rfl Try.func8 (by kernel_rfl) rfl #[.slice Ao16 t237.length co16, .slice Ao40 t249.length co40] rfl Za83 ?_; (with_reducible refine (laws_eqIntS.calls kj6 _ _ t237 _ _ t249 true _ ?side1 ?side2 ?side3 ?side4 A35.out).mono ?_); (case side1 => repeat (first | exact (Kd.R_reads' HO_5.out).2.2 | (with_reducible refine Kd.C_alloc ?_ _) | (with_reducible refine Kd.C_drewN ?_ _) | (with_reducible refine Kd.C_drew ?_))); (case side2 => exact (Kd.R_reads' HO_5.out).2.1); (case side3 => repeat (first | exact (Kd.R_reads' HO251.out).2.2 | (with_reducible refine Kd.C_alloc ?_ _) | (with_reducible refine Kd.C_drewN ?_ _) | (with_reducible refine Kd.C_drew ?_))); (case side4 => exact (Kd.R_reads' HO251.out).2.1); rintro e w' ⟨rfl, ⟨nd, rfl⟩⟩; refine ⟨_, rfl, ?_⟩) | ((with_reducible refine gate_callee (f := 9) rfl ?_); refine goesL_ (some 45) rfl rfl Try.func9 (by kernel_rfl) rfl #[.slice Ao16 t237.length co16, .int .i64 1] rfl Za83 ?_; (with_reducible refine (laws_markIntS.calls kj6 (fun k_ => some k_ = (.slice Ao16 t237.length co16 : Value).ownBlock) (.slice Ao16 t237.length co16) t237 1 t253 t254 w _ ?side1 ?side2 A37.out).mono ?_); (case side1 => repeat (first | (with_reducible first | exact HB.out | apply below_alloc | apply pw_below_drewN | apply below_drew1 | refine below_set ?_ GE236.out | refine below_set ?_ GE247.out) | exact HB.out)); (case side2 => exact Kd.R_tight rfl HO_5.out); rintro e w41 ⟨rfl, hy0, hb, hkp⟩; refine ⟨_, rfl, ?_⟩; have n0_ := Aa8q (Kd.R_reok rfl hy0 (fun k_ e_ => HO_5.out.1 k_ e_)); have n1_ := Aa8q (Kd.R_mono (ok' := fun k_ => some k_ ≠ (.slice Ao16 t237.length co16 : Value).ownBlock ∧ some k_ ≠ (.slice Ao14 t232.length co14 : Value).ownBlock ∧ some k_ ≠ (.slice Ao19 t240.length co19 : Value).ownBlock ∧ some k_ ≠ (.slice Ao22 t243.length co22 : Value).ownBlock ∧ some k_ ≠ (.slice Ao40 t249.length co40 : Value).ownBlock) (Kd.R_keptB (HO_237000.out) hkp (fun k_ hk_ hs_ => (hk_.1.1) hs_)) (fun k_ hk_ => ⟨hk_.1.1.1, hk_.1.1.2.1, hk_.1.1.2.2.1, hk_.1.1.2.2.2, hk_.1.2⟩)); have n2_ := Aa8q (Kd.R_mono (ok' := fun k_ => some k_ ≠ (.slice Ao16 t237.length co16 : Value).ownBlock ∧ some k_ ≠ (.slice Ao12 t229.length co12 : Value).ownBlock ∧ some k_ ≠ (.slice Ao19 t240.length co19 : Value).ownBlock ∧ some k_ ≠ (.slice Ao22 t243.length co22 : Value).ownBlock ∧ some k_ ≠ (.slice Ao40 t249.length co40 : Value).ownBlock) (Kd.R_keptB (HO_237001.out) hkp (fun k_ hk_ hs_ => (hk_.1.1) hs_)) (fun k_ hk_ => ⟨hk_.1.1.1, hk_.1.1.2.1, hk_.1.1.2.2.1, hk_.1.1.2.2.2, hk_.1.2⟩)); have n3_ := Aa8q (Kd.R_mono (ok' := fun k_ => some k_ ≠ (.slice Ao16 t237.length co16 : Value).ownBlock ∧ some k_ ≠ (.slice Ao12 t229.length co12 : Value).ownBlock ∧ some k_ ≠ (.slice Ao14 t232.length co14 : Value).ownBlock ∧ some k_ ≠ (.slice Ao22 t243.length co22 : Value).ownBlock ∧ some k_ ≠ (.slice Ao40 t249.length co40 : Value).ownBlock) (Kd.R_keptB (HO_248000.out) hkp (fun k_ hk_ hs_ => (hk_.1.1) hs_)) (fun k_ hk_ => ⟨hk_.1.1.1, hk_.1.1.2.1, hk_.1.1.2.2.1, hk_.1.1.2.2.2, hk_.1.2⟩)); have n4_ := Aa8q (Kd.R_mono (ok' := fun k_ => some k_ ≠ (.slice Ao16 t237.length co16 : Value).ownBlock ∧ some k_ ≠ (.slice Ao12 t229.length co12 : Value).ownBlock ∧ some k_ ≠ (.slice Ao14 t232.length co14 : Value).ownBlock ∧ some k_ ≠ (.slice Ao19 t240.length co19 : Value).ownBlock ∧ some k_ ≠ (.slice Ao40 t249.length co40 : Value).ownBlock) (Kd.R_keptB (HO_248001.out) hkp (fun k_ hk_ hs_ => (hk_.1.1) hs_)) (fun k_ hk_ => ⟨hk_.1.1.1, hk_.1.1.2.1, hk_.1.1.2.2.1, hk_.1.1.2.2.2, hk_.1.2⟩)); have n5_ := Aa8q (blk_kept Za85 hkp (fun hs_ => (fun e_ => (Kd.R_ne HO_5.out BK236.out (by decide)) e_) hs_)); have n6_ := Aa8q (blk_kept Za86 hkp (fun hs_ => (fun e_ => (Kd.R_ne HO_5.out BK247.out (by decide)) e_) hs_)); have n7_ := Aa8q (Kd.R_mono (ok' := fun k_ => some k_ ≠ (.slice Ao16 t237.length co16 : Value).ownBlock ∧ some k_ ≠ (.slice Ao12 t229.length co12 : Value).ownBlock ∧ some k_ ≠ (.slice Ao14 t232.length co14 : Value).ownBlock ∧ some k_ ≠ (.slice Ao19 t240.length co19 : Value).ownBlock ∧ some k_ ≠ (.slice Ao22 t243.length co22 : Value).ownBlock) (Kd.R_keptB (HO251.out) hkp (fun k_ hk_ hs_ => (hk_.1.1.1.1.2) hs_)) (fun k_ hk_ => ⟨hk_.1.1.1.1.1.2, hk_.1.1.1.1.2, hk_.1.1.1.2, hk_.1.1.2, hk_.1.2⟩)); have n8_ := Aa8q (hb); clear HO_5; clear HO_237000; clear HO_237001; clear HO_248000; clear HO_248001; clear BK236; clear BK247; clear HO251; clear HB; have HO_5 := n0_; have HO_237000 := n1_; have HO_237001 := n2_; have HO_248000 := n3_; have HO_248001 := n4_; have BK236 := n5_; have BK247 := n6_; have HO251 := n7_; have HB := n8_; clear n0_ n1_ n2_ n3_ n4_ n5_ n6_ n7_ n8_; (try clear hb); (try clear hkp); (try clear hy0)))
  (try simp only [Act.put, y1a8, y2a8, y3a8])
  go_cut [58] (fun v58 wc => ∃ (kq : Nat) (x58_37 : Bool), v58 = .bool x58_37 ∧ Aside0 (laws_FnExactLevelsOf.j1 kq l0 t235 x58_37 t229 t232 t240 t243 = some r) ∧ Aside0 (kq ≤ kj6) ∧ Aside0 (Kd.R (Kd.int .i64) 3 wc w.heap.size (fun k_ => some k_ ≠ ((.slice Ao14 t232.length co14) : Value).ownBlock ∧ some k_ ≠ ((.slice Ao19 t240.length co19) : Value).ownBlock ∧ some k_ ≠ ((.slice Ao22 t243.length co22) : Value).ownBlock) (.slice Ao12 t229.length co12) t229) ∧ Aside0 (Kd.R (Kd.int .i64) 3 wc w.heap.size (fun k_ => some k_ ≠ ((.slice Ao12 t229.length co12) : Value).ownBlock ∧ some k_ ≠ ((.slice Ao19 t240.length co19) : Value).ownBlock ∧ some k_ ≠ ((.slice Ao22 t243.length co22) : Value).ownBlock) (.slice Ao14 t232.length co14) t232) ∧ Aside0 (Kd.R (Kd.int .i64) 3 wc w.heap.size (fun k_ => some k_ ≠ ((.slice Ao12 t229.length co12) : Value).ownBlock ∧ some k_ ≠ ((.slice Ao14 t232.length co14) : Value).ownBlock ∧ some k_ ≠ ((.slice Ao22 t243.length co22) : Value).ownBlock) (.slice Ao19 t240.length co19) t240) ∧ Aside0 (Kd.R (Kd.int .i64) 3 wc w.heap.size (fun k_ => some k_ ≠ ((.slice Ao12 t229.length co12) : Value).ownBlock ∧ some k_ ≠ ((.slice Ao14 t232.length co14) : Value).ownBlock ∧ some k_ ≠ ((.slice Ao19 t240.length co19) : Value).ownBlock) (.slice Ao22 t243.length co22) t243) ∧ Aside0 (wc.heap[g236]? = some (.cells #[(.slice Ao12 t229.length co12), (.slice Ao14 t232.length co14)] 24 (0, 0))) ∧ Aside0 (wc.heap[g247]? = some (.cells #[(.slice Ao19 t240.length co19), (.slice Ao22 t243.length co22)] 24 (0, 0))) ∧ Aside0 (Below w.heap.size w wc))
  case first => as_aux_lemma =>
   have H := HC38.out
   clear HC38
   by_cases c42 : t253 < 0
   ·
    rw [if_pos c42] at H
    have c42b0 : decide (t253 < 0) = true := decide_eq_true c42
    clear c42
    (first | rw [c42b0] | (simp only [i64_w, i32_w]; rw [c42b0]) | skip)
    exact absurd H (by generalize kj6 = q_; cases q_ <;> simp [laws_FnExactLevelsOf.j1])
   rw [if_neg c42] at H
   have c42b0 : decide (t253 < 0) = false := decide_eq_false c42
   clear c42
   (first | rw [c42b0] | (simp only [i64_w, i32_w]; rw [c42b0]) | skip)
   replace H := Option.bind_eq_some_iff.mp H
   obtain ⟨t255, A430, H⟩ := H
   replace H : (if t255 = true then (laws_FnExactLevelsOf.j1 kj6 l0 t235 (t246 != t235) t229 t232 t240 t243) else (laws_FnExactLevelsOf.j1 kj6 l0 t235 true t229 t232 t240 t243)) = some r := H
   have A43 := Aa8q A430
   clear A430
   by_cases c44 : t255 = true
   rotate_left
   ·
    replace c44 := Bool.eq_false_iff.mpr c44
    subst c44
    have H1 : (laws_FnExactLevelsOf.j1 kj6 l0 t235 true t229 t232 t240 t243) = some r := by rw [if_neg (show ¬ (false = true) by decide)] at H; exact H
    clear H
    have H := H1
    clear H1
    exact absurd H (by generalize kj6 = q_; cases q_ <;> simp [laws_FnExactLevelsOf.j1])
   subst c44
   have H1 : (laws_FnExactLevelsOf.j1 kj6 l0 t235 (t246 != t235) t229 t232 t240 t243) = some r := by rw [if_pos rfl] at H; exact H
   clear H
   have H := H1
   clear H1
   have H' := Aa8q H
   clear H
   have hnb45 := NB247_236.out
   have hnc45 := NB236_247.out
   have hcz46_0 : w41.cell? ⟨g247, 0, none⟩ = some (.slice Ao19 t240.length co19) := (blk_cell BK247.out 0).trans rfl
   have hcz46_1 : w41.cell? ⟨g247, 1, none⟩ = some (.slice Ao22 t243.length co22) := (blk_cell BK247.out 1).trans rfl
   have hfz46_0 := blk_frozen BK247.out 0
   have hfz46_1 := blk_frozen BK247.out 1
   have hcz47_0 : w41.cell? ⟨g236, 0, none⟩ = some (.slice Ao12 t229.length co12) := (blk_cell BK236.out 0).trans rfl
   have hcz47_1 : w41.cell? ⟨g236, 1, none⟩ = some (.slice Ao14 t232.length co14) := (blk_cell BK236.out 1).trans rfl
   have hfz47_0 := blk_frozen BK236.out 0
   have hfz47_1 := blk_frozen BK236.out 1
   as_aux_lemma =>
    go_wp2_with (first | (go_at_call 7; (with_reducible refine (laws_eqLevels.calls kj6 _ _ t240 _ _ t243 _ _ t229 _ _ t232 true _ ?side1 ?side2 ?side3 ?side4 ?side5 ?side6 ?side7 ?side8 A43.out).mono ?_); (case side1 => repeat (first | exact (Kd.R_reads' HO_248000.out).2.2 | (with_reducible refine Kd.C_alloc ?_ _) | (with_reducible refine Kd.C_drewN ?_ _) | (with_reducible refine Kd.C_drew ?_))); (case side2 => exact (Kd.R_reads' HO_248000.out).2.1); (case side3 => repeat (first | exact (Kd.R_reads' HO_248001.out).2.2 | (with_reducible refine Kd.C_alloc ?_ _) | (with_reducible refine Kd.C_drewN ?_ _) | (with_reducible refine Kd.C_drew ?_))); (case side4 => exact (Kd.R_reads' HO_248001.out).2.1); (case side5 => repeat (first | exact (Kd.R_reads' HO_237000.out).2.2 | (with_reducible refine Kd.C_alloc ?_ _) | (with_reducible refine Kd.C_drewN ?_ _) | (with_reducible refine Kd.C_drew ?_))); (case side6 => exact (Kd.R_reads' HO_237000.out).2.1); (case side7 => repeat (first | exact (Kd.R_reads' HO_237001.out).2.2 | (with_reducible refine Kd.C_alloc ?_ _) | (with_reducible refine Kd.C_drewN ?_ _) | (with_reducible refine Kd.C_drew ?_))); (case side8 => exact (Kd.R_reads' HO_237001.out).2.1); rintro e w48 ⟨rfl, hb⟩; have n0_ := Aa8q (Kd.R_below (by (with_reducible repeat (first | apply Kd.R_alloc | apply Kd.R_drewN | apply Kd.R_drew)); exact HO_5.out) hb); have n1_ := Aa8q (Kd.R_below Za87 hb); have n2_ := Aa8q (Kd.R_below Za88 hb); have n3_ := Aa8q (Kd.R_below Za89 hb); have n4_ := Aa8q (Kd.R_below Za810 hb); have n5_ := Aa8q (Kd.R_below (by (with_reducible repeat (first | apply Kd.R_alloc | apply Kd.R_drewN | apply Kd.R_drew)); exact HO251.out) hb); have n6_ := Aa8q (blk_below (g := g236) (o := .cells #[.slice Ao12 t229.length co12, .slice Ao14 t232.length co14] 24 (0, 0)) Za85 hb); have n7_ := Aa8q (blk_below (g := g247) (o := .cells #[.slice Ao19 t240.length co19, .slice Ao22 t243.length co22] 24 (0, 0)) Za86 hb); have n8_ := Aa8q (below_step Za81 hb); clear HO_5; clear HO_237000; clear HO_237001; clear HO_248000; clear HO_248001; clear HO251; clear BK236; clear BK247; clear HB; have HO_5 := n0_; have HO_237000 := n1_; have HO_237001 := n2_; have HO_248000 := n3_; have HO_248001 := n4_; have HO251 := n5_; have BK236 := n6_; have BK247 := n7_; have HB := n8_; clear n0_ n1_ n2_ n3_ n4_ n5_ n6_ n7_ n8_; (try clear hb); (try clear hb2); (try clear hk); (try clear hi)))
    go_meet
    case rel => exact ⟨_, ((t246 != t235)), (by first | rfl | (simp; done) | (simp [*]; done) | (simp only [i64_w]; done)), H', ⟨by have := HJ6.out; first | omega | exact Nat.le_refl _⟩, ⟨by (with_reducible repeat (first | apply Kd.R_alloc | apply Kd.R_drewN | apply Kd.R_drew)); exact Kd.R_mono HO_237000.out (fun _ hk => ⟨hk.2.1, ⟨hk.2.2.1, hk.2.2.2.1⟩⟩)⟩, ⟨by (with_reducible repeat (first | apply Kd.R_alloc | apply Kd.R_drewN | apply Kd.R_drew)); exact Kd.R_mono HO_237001.out (fun _ hk => ⟨hk.2.1, ⟨hk.2.2.1, hk.2.2.2.1⟩⟩)⟩, ⟨by (with_reducible repeat (first | apply Kd.R_alloc | apply Kd.R_drewN | apply Kd.R_drew)); exact Kd.R_mono HO_248000.out (fun _ hk => ⟨hk.2.1, ⟨hk.2.2.1, hk.2.2.2.1⟩⟩)⟩, ⟨by (with_reducible repeat (first | apply Kd.R_alloc | apply Kd.R_drewN | apply Kd.R_drew)); exact Kd.R_mono HO_248001.out (fun _ hk => ⟨hk.2.1, ⟨hk.2.2.1, hk.2.2.2.1⟩⟩)⟩, ⟨by (with_reducible repeat (first | refine blk_drewN ?_ _ | refine blk_drew ?_ | refine blk_alloc ?_ _)); exact BK236.out⟩, ⟨by (with_reducible repeat (first | refine blk_drewN ?_ _ | refine blk_drew ?_ | refine blk_alloc ?_ _)); exact BK247.out⟩, ⟨by repeat (first | (with_reducible first | exact HB.out | apply below_alloc | apply pw_below_drewN | apply below_drew1 | refine below_set ?_ GE236.out | refine below_set ?_ GE247.out) | exact HB.out)⟩⟩
  case rest => as_aux_lemma =>
   clear HC38
   try clear c2
   try clear c2b0
   try clear c2b1
   try clear p2
   try clear c3
   try clear c4
   try clear c5
   try clear c6
   try clear c7
   try clear c8
   try clear c9
   try clear c20
   try clear c24
   try clear c25
   try clear c29
   try clear c33
   try clear c36
   try clear c42
   try clear c42b0
   try clear c44
   try clear c45
   try clear c49
   try clear hcz13_0
   try clear hcz13_1
   try clear hcz21_0
   try clear hcz21_1
   try clear hcz26_0
   try clear hcz26_1
   try clear hcz27_0
   try clear hcz27_1
   try clear hcz30_0
   try clear hcz30_1
   try clear hcz31_0
   try clear hcz31_1
   try clear hcz46_0
   try clear hcz46_1
   try clear hcz47_0
   try clear hcz47_1
   try clear hcz50_0
   try clear hcz50_1
   try clear hcz51_0
   try clear hcz51_1
   try clear hfz13_0
   try clear hfz13_1
   try clear hfz21_0
   try clear hfz21_1
   try clear hfz26_0
   try clear hfz26_1
   try clear hfz27_0
   try clear hfz27_1
   try clear hfz30_0
   try clear hfz30_1
   try clear hfz31_0
   try clear hfz31_1
   try clear hfz46_0
   try clear hfz46_1
   try clear hfz47_0
   try clear hfz47_1
   try clear hfz50_0
   try clear hfz50_1
   try clear hfz51_0
   try clear hfz51_1
   try clear p2
   obtain ⟨kq, x58_37, rfl, HA, HJ37, HO_237000, HO_237001, HO_248000, HO_248001, BK236, BK247, HB⟩ := hcut
   obtain _ | kj37 := kq
   · exact absurd HA.out (by simp [laws_FnExactLevelsOf.j1])
   have H := HA.out
   clear HA
   simp only [laws_FnExactLevelsOf.j1] at H
   by_cases c53 : x58_37 = true
   ·
    subst c53
    have H1 : (none) = some r := by rw [if_pos rfl] at H; exact H
    clear H
    have H := H1
    clear H1
    exact absurd H (by simp)
   replace c53 := Bool.eq_false_iff.mpr c53
   subst c53
   have H1 : ((laws_markLevels.f kj37 t240 t243 1).bind fun bt256 => ((laws_heldLevels.f kj37 bt256.2.1 bt256.2.2 1).bind fun t259 => (if t259 < 0 then (none) else (if t259 = bt256.1 then ((laws_toIntS.f kj37 l0).bind fun t260 => ((impl_LevelsOf.f kj37 t260).bind fun bt263 => ((laws_eqLevels.f kj37 bt263.1 bt263.2.1 t229 t232).bind fun t271 => (if t271 = true then (laws_FnExactLevelsOf.j2 kj37 bt256.1 (bt263.2.2 != t235) bt256.2.1 bt256.2.2) else (laws_FnExactLevelsOf.j2 kj37 bt256.1 true bt256.2.1 bt256.2.2))))) else (none))))) = some r := by rw [if_neg (show ¬ (false = true) by decide)] at H; exact H
   clear H
   have H := H1
   clear H1
   replace H := Option.bind_eq_some_iff.mp H
   obtain ⟨⟨t256, t257, t258⟩, A540, H⟩ := H
   replace H : ((laws_heldLevels.f kj37 t257 t258 1).bind fun t259 => (if t259 < 0 then (none) else (if t259 = t256 then ((laws_toIntS.f kj37 l0).bind fun t260 => ((impl_LevelsOf.f kj37 t260).bind fun bt263 => ((laws_eqLevels.f kj37 bt263.1 bt263.2.1 t229 t232).bind fun t271 => (if t271 = true then (laws_FnExactLevelsOf.j2 kj37 t256 (bt263.2.2 != t235) t257 t258) else (laws_FnExactLevelsOf.j2 kj37 t256 true t257 t258))))) else (none)))) = some r := H
   have A54 := Aa8q A540
   clear A540
   replace H := Option.bind_eq_some_iff.mp H
   obtain ⟨t259, A550, H⟩ := H
   replace H : (if t259 < 0 then (none) else (if t259 = t256 then ((laws_toIntS.f kj37 l0).bind fun t260 => ((impl_LevelsOf.f kj37 t260).bind fun bt263 => ((laws_eqLevels.f kj37 bt263.1 bt263.2.1 t229 t232).bind fun t271 => (if t271 = true then (laws_FnExactLevelsOf.j2 kj37 t256 (bt263.2.2 != t235) t257 t258) else (laws_FnExactLevelsOf.j2 kj37 t256 true t257 t258))))) else (none))) = some r := H
   have A55 := Aa8q A550
   clear A550
   by_cases c56 : t259 < 0
   ·
    rw [if_pos c56] at H
    exact absurd H (by simp)
   rw [if_neg c56] at H
   have c56b0 : decide (t259 < 0) = false := decide_eq_false c56
   clear c56
   by_cases c57 : t259 = t256
   rotate_left
   ·
    rw [if_neg c57] at H
    exact absurd H (by simp)
   rw [if_pos c57] at H
   have c57b0 : (t259 == t256) = true := beq_iff_eq.mpr c57
   have c57b1 : (t259 != t256) = false := bne_eq_false_iff_eq.mpr c57
   clear c57
   replace H := Option.bind_eq_some_iff.mp H
   obtain ⟨t260, A580, H⟩ := H
   replace H : ((impl_LevelsOf.f kj37 t260).bind fun bt263 => ((laws_eqLevels.f kj37 bt263.1 bt263.2.1 t229 t232).bind fun t271 => (if t271 = true then (laws_FnExactLevelsOf.j2 kj37 t256 (bt263.2.2 != t235) t257 t258) else (laws_FnExactLevelsOf.j2 kj37 t256 true t257 t258)))) = some r := H
   have A58 := Aa8q A580
   clear A580
   replace H := Option.bind_eq_some_iff.mp H
   obtain ⟨⟨t263, t266, t269⟩, A590, H⟩ := H
   replace H : ((laws_eqLevels.f kj37 t263 t266 t229 t232).bind fun t271 => (if t271 = true then (laws_FnExactLevelsOf.j2 kj37 t256 (t269 != t235) t257 t258) else (laws_FnExactLevelsOf.j2 kj37 t256 true t257 t258))) = some r := H
   have A59 := Aa8q A590
   clear A590
   have HC60 := Aa8q H
   clear H
   have hnb61 := NB247_236.out
   have hnc61 := NB236_247.out
   have hcz62_0 : wc.cell? ⟨g247, 0, none⟩ = some (.slice Ao19 t240.length co19) := (blk_cell BK247.out 0).trans rfl
   have hcz62_1 : wc.cell? ⟨g247, 1, none⟩ = some (.slice Ao22 t243.length co22) := (blk_cell BK247.out 1).trans rfl
   have hfz62_0 := blk_frozen BK247.out 0
   have hfz62_1 := blk_frozen BK247.out 1
   go_upto_region 23 with (first | ((with_reducible refine gate_callee (f := 10) rfl ?_); refine goesL_ (some 61) rfl rfl Try.func10 (by kernel_rfl) rfl #[.agg #[.slice Ao19 t240.length co19, .slice Ao22 t243.length co22], .int .i64 1] rfl Za83 ?_; (with_reducible refine (laws_markLevels.calls kj37 (fun k_ => some k_ = (.slice Ao19 t240.length co19 : Value).ownBlock) (.slice Ao19 t240.length co19) t240 (fun k_ => some k_ = (.slice Ao22 t243.length co22 : Value).ownBlock) (.slice Ao22 t243.length co22) t243 1 t256 t257 t258 w _ ?side1 ?side2 ?side3 ?side4 ?side5 A54.out).mono ?_); (case side1 => repeat (first | (with_reducible first | exact HB.out | apply below_alloc | apply pw_below_drewN | apply below_drew1 | refine below_set ?_ GE236.out | refine below_set ?_ GE247.out) | exact HB.out)); (case side2 => exact Kd.R_tight rfl HO_248000.out); (case side3 => exact fun k_ e_ => (HO_248000.out.1 k_ e_.symm).2.2); (case side4 => exact Kd.R_tight rfl HO_248001.out); (case side5 => exact fun k_ e_ => (HO_248001.out.1 k_ e_.symm).2.2); rintro e w63 ⟨rfl, hy0, hy1, hb, hkp⟩; refine ⟨_, rfl, ?_⟩; have n0_ := Aa8q (Kd.R_mono (ok' := fun k_ => some k_ ≠ (.slice Ao14 t232.length co14 : Value).ownBlock ∧ some k_ ≠ (.slice Ao19 t240.length co19 : Value).ownBlock ∧ some k_ ≠ (.slice Ao22 t243.length co22 : Value).ownBlock) (Kd.R_keptB (HO_237000.out) hkp (fun k_ hk_ hs_ => Or.elim hs_ (fun e_ => (hk_.2.1) e_) (fun e_ => (hk_.2.2) e_))) (fun k_ hk_ => ⟨hk_.1.1, hk_.1.2.1, hk_.1.2.2⟩)); have n1_ := Aa8q (Kd.R_mono (ok' := fun k_ => some k_ ≠ (.slice Ao12 t229.length co12 : Value).ownBlock ∧ some k_ ≠ (.slice Ao19 t240.length co19 : Value).ownBlock ∧ some k_ ≠ (.slice Ao22 t243.length co22 : Value).ownBlock) (Kd.R_keptB (HO_237001.out) hkp (fun k_ hk_ hs_ => Or.elim hs_ (fun e_ => (hk_.2.1) e_) (fun e_ => (hk_.2.2) e_))) (fun k_ hk_ => ⟨hk_.1.1, hk_.1.2.1, hk_.1.2.2⟩)); have n2_ := Aa8q (Kd.R_reok rfl hy0 (fun k_ e_ => HO_248000.out.1 k_ e_)); have n3_ := Aa8q (Kd.R_reok rfl hy1 (fun k_ e_ => HO_248001.out.1 k_ e_)); have n4_ := Aa8q (blk_kept Za85 hkp (fun hs_ => Or.elim hs_ (fun e_ => (fun e_ => (Kd.R_ne HO_248000.out BK236.out (by decide)) e_) e_) (fun e_ => (fun e_ => (Kd.R_ne HO_248001.out BK236.out (by decide)) e_) e_))); have n5_ := Aa8q (blk_kept Za86 hkp (fun hs_ => Or.elim hs_ (fun e_ => (fun e_ => (Kd.R_ne HO_248000.out BK247.out (by decide)) e_) e_) (fun e_ => (fun e_ => (Kd.R_ne HO_248001.out BK247.out (by decide)) e_) e_))); have n6_ := Aa8q (hb); clear HO_237000; clear HO_237001; clear HO_248000; clear HO_248001; clear BK236; clear BK247; clear HB; have HO_237000 := n0_; have HO_237001 := n1_; have HO_248000 := n2_; have HO_248001 := n3_; have BK236 := n4_; have BK247 := n5_; have HB := n6_; clear n0_ n1_ n2_ n3_ n4_ n5_ n6_; (try clear hb); (try clear hkp); (try clear hy0); (try clear hy1); have hcz64_0 : w63.cell? ⟨g247, 0, none⟩ = some (.slice Ao19 t240.length co19) := (blk_cell BK247.out 0).trans rfl; have hcz64_1 : w63.cell? ⟨g247, 1, none⟩ = some (.slice Ao22 t243.length co22) := (blk_cell BK247.out 1).trans rfl; have hfz64_0 := blk_frozen BK247.out 0; have hfz64_1 := blk_frozen BK247.out 1) | ((with_reducible refine gate_callee (f := 11) rfl ?_); refine goesL_ (some 64) rfl rfl Try.func11 (by kernel_rfl) rfl #[.agg #[.slice Ao19 t257.length co19, .slice Ao22 t258.length co22], .int .i64 1] rfl (by (try simp only [List.map_toArray, List.map_cons, List.map_nil]); first | done | (rw [show t257.length = t240.length from (Kd.R_reads' HO_248000.out).1.symm, show t258.length = t243.length from (Kd.R_reads' HO_248001.out).1.symm] <;> rfl) | rfl | (simp only [List.length_drop, List.length_take]; rfl)) ?_; (with_reducible refine (laws_heldLevels.calls kj37 _ _ t257 _ _ t258 1 t259 _ ?side1 ?side2 ?side3 ?side4 A55.out).mono ?_); (case side1 => repeat (first | exact (Kd.R_reads' HO_248000.out).2.2 | (with_reducible refine Kd.C_alloc ?_ _) | (with_reducible refine Kd.C_drewN ?_ _) | (with_reducible refine Kd.C_drew ?_))); (case side2 => rw [show t257.length = t240.length from (Kd.R_reads' HO_248000.out).1.symm]; exact (Kd.R_reads' HO_248000.out).2.1); (case side3 => repeat (first | exact (Kd.R_reads' HO_248001.out).2.2 | (with_reducible refine Kd.C_alloc ?_ _) | (with_reducible refine Kd.C_drewN ?_ _) | (with_reducible refine Kd.C_drew ?_))); (case side4 => rw [show t258.length = t243.length from (Kd.R_reads' HO_248001.out).1.symm]; exact (Kd.R_reads' HO_248001.out).2.1); rintro e w65 ⟨rfl, hb⟩; refine ⟨_, rfl, ?_⟩; have n0_ := Aa8q (Kd.R_below Za87 hb); have n1_ := Aa8q (Kd.R_below Za88 hb); have n2_ := Aa8q (Kd.R_below Za89 hb); have n3_ := Aa8q (Kd.R_below Za810 hb); have n4_ := Aa8q (blk_below (g := g236) (o := .cells #[.slice Ao12 t229.length co12, .slice Ao14 t232.length co14] 24 (0, 0)) Za85 hb); have n5_ := Aa8q (blk_below (g := g247) (o := .cells #[.slice Ao19 t240.length co19, .slice Ao22 t243.length co22] 24 (0, 0)) Za86 hb); have n6_ := Aa8q (below_step Za81 hb); clear HO_237000; clear HO_237001; clear HO_248000; clear HO_248001; clear BK236; clear BK247; clear HB; have HO_237000 := n0_; have HO_237001 := n1_; have HO_248000 := n2_; have HO_248001 := n3_; have BK236 := n4_; have BK247 := n5_; have HB := n6_; clear n0_ n1_ n2_ n3_ n4_ n5_ n6_; (try clear hb); (try clear hb2); (try clear hk); (try clear hi)) | ((with_reducible refine gate_callee (f := 5) rfl ?_); refine goesL_ (some 72) rfl rfl Try.func5 (by kernel_rfl) rfl #[.slice A0 l0.length c0] rfl Za83 ?_; (with_reducible refine (laws_toIntS.calls kj37 _ _ l0 t260 _ ?side1 ?side2 A58.out).mono ?_); (case side1 => repeat (first | exact (Kd.C_below HR0.out HB.out) | (with_reducible refine Kd.C_alloc ?_ _) | (with_reducible refine Kd.C_drewN ?_ _) | (with_reducible refine Kd.C_drew ?_))); (case side2 => exact HC0.out); rintro e w66 ⟨v261, rfl, ho0, hb⟩; refine ⟨_, rfl, ?_⟩; have n0_ := Aa8q (Kd.R_elder' Za87 (Kd.R_base ho0) hb); have n1_ := Aa8q (Kd.R_elder' Za88 (Kd.R_base ho0) hb); have n2_ := Aa8q (Kd.R_elder' Za89 (Kd.R_base ho0) hb); have n3_ := Aa8q (Kd.R_elder' Za810 (Kd.R_base ho0) hb); have n4_ := Aa8q (Kd.R_lower (Kd.R_new' (Kd.R_new' (Kd.R_new' (Kd.R_new' ho0 (Kd.R_lt Za87)) (Kd.R_lt Za88)) (Kd.R_lt Za89)) (Kd.R_lt Za810)) (below_size Za81)); have n5_ := Aa8q (blk_below (g := g236) (o := .cells #[.slice Ao12 t229.length co12, .slice Ao14 t232.length co14] 24 (0, 0)) Za85 hb); have n6_ := Aa8q (blk_below (g := g247) (o := .cells #[.slice Ao19 t240.length co19, .slice Ao22 t243.length co22] 24 (0, 0)) Za86 hb); have n7_ := Aa8q (below_step Za81 hb); clear HO_237000; clear HO_237001; clear HO_248000; clear HO_248001; clear BK236; clear BK247; clear HB; have HO_237000 := n0_; have HO_237001 := n1_; have HO_248000 := n2_; have HO_248001 := n3_; have HO262 := n4_; have BK236 := n5_; have BK247 := n6_; have HB := n7_; clear n0_ n1_ n2_ n3_ n4_ n5_ n6_ n7_; (try clear hb); (try clear hb2); (try clear hk); (try clear hi); (try clear ho0); obtain ⟨Ao67, co67, eo67⟩ := Kd.R_slice HO262.out; subst eo67) | ((with_reducible refine gate_callee (f := 6) rfl ?_); refine goesL_ (some 73) rfl rfl Try.func6 (by kernel_rfl) rfl #[.slice Ao67 t260.length co67] rfl Za83 ?_; (with_reducible refine (impl_LevelsOf.calls kj37 _ _ t260 t263 t266 t269 _ ?side1 ?side2 A59.out).mono ?_); (case side1 => repeat (first | exact (Kd.R_reads' HO262.out).2.2 | (with_reducible refine Kd.C_alloc ?_ _) | (with_reducible refine Kd.C_drewN ?_ _) | (with_reducible refine Kd.C_drew ?_))); (case side2 => exact (Kd.R_reads' HO262.out).2.1); rintro e w68 ⟨v264, v267, rfl, ho0, ho1, hb⟩; refine ⟨_, rfl, ?_⟩; have n0_ := Aa8q (Kd.R_mono (Kd.R_told (Kd.R_told (Kd.R_old Za87 hb) (Kd.R_base ho0)) (Kd.R_base ho1)) (fun _ h_ => h_.1)); have n1_ := Aa8q (Kd.R_mono (Kd.R_told (Kd.R_told (Kd.R_old Za88 hb) (Kd.R_base ho0)) (Kd.R_base ho1)) (fun _ h_ => h_.1)); have n2_ := Aa8q (Kd.R_mono (Kd.R_told (Kd.R_told (Kd.R_old Za89 hb) (Kd.R_base ho0)) (Kd.R_base ho1)) (fun _ h_ => h_.1)); have n3_ := Aa8q (Kd.R_mono (Kd.R_told (Kd.R_told (Kd.R_old Za810 hb) (Kd.R_base ho0)) (Kd.R_base ho1)) (fun _ h_ => h_.1)); have n4_ := Aa8q (Kd.R_mono (Kd.R_told (Kd.R_told (Kd.R_old (by (with_reducible repeat (first | apply Kd.R_alloc | apply Kd.R_drewN | apply Kd.R_drew)); exact HO262.out) hb) (Kd.R_base ho0)) (Kd.R_base ho1)) (fun _ h_ => h_.1)); have n5_ := Aa8q (Kd.R_lower (Kd.R_new' (Kd.R_new' (Kd.R_new' (Kd.R_new' (Kd.R_new' ho0 (Kd.R_lt Za87)) (Kd.R_lt Za88)) (Kd.R_lt Za89)) (Kd.R_lt Za810)) (Kd.R_lt (by (with_reducible repeat (first | apply Kd.R_alloc | apply Kd.R_drewN | apply Kd.R_drew)); exact HO262.out))) (below_size Za81)); have n6_ := Aa8q (Kd.R_lower (Kd.R_new' (Kd.R_new' (Kd.R_new' (Kd.R_new' (Kd.R_new' ho1 (Kd.R_lt Za87)) (Kd.R_lt Za88)) (Kd.R_lt Za89)) (Kd.R_lt Za810)) (Kd.R_lt (by (with_reducible repeat (first | apply Kd.R_alloc | apply Kd.R_drewN | apply Kd.R_drew)); exact HO262.out))) (below_size Za81)); have n7_ := Aa8q (blk_below (g := g236) (o := .cells #[.slice Ao12 t229.length co12, .slice Ao14 t232.length co14] 24 (0, 0)) Za85 hb); have n8_ := Aa8q (blk_below (g := g247) (o := .cells #[.slice Ao19 t240.length co19, .slice Ao22 t243.length co22] 24 (0, 0)) Za86 hb); have n9_ := Aa8q (below_step Za81 hb); clear HO_237000; clear HO_237001; clear HO_248000; clear HO_248001; clear HO262; clear BK236; clear BK247; clear HB; have HO_237000 := n0_; have HO_237001 := n1_; have HO_248000 := n2_; have HO_248001 := n3_; have HO262 := n4_; have HO265 := n5_; have HO268 := n6_; have BK236 := n7_; have BK247 := n8_; have HB := n9_; clear n0_ n1_ n2_ n3_ n4_ n5_ n6_ n7_ n8_ n9_; (try clear hb); (try clear hb2); (try clear hk); (try clear hi); (try clear ho0); (try clear ho1)) | ((with_reducible refine gate_dst (N := 11) rfl ?_); refine box_event ?hg (N := 11) ?hd (cs := #[.slice none 0 0, .slice none 0 0]) (t := 24) ?hr ?_; (case hd => rfl); (case hg => rfl); (case hr => first | (go_simp; done) | (go_simp; rfl)); intro g270 hg w69 hbox hb; have n0_ := Aa8q (Kd.R_below Za87 hb); have n1_ := Aa8q (Kd.R_below Za88 hb); have n2_ := Aa8q (Kd.R_below Za89 hb); have n3_ := Aa8q (Kd.R_below Za810 hb); have n4_ := Aa8q (Kd.R_below (by (with_reducible repeat (first | apply Kd.R_alloc | apply Kd.R_drewN | apply Kd.R_drew)); exact HO262.out) hb); have n5_ := Aa8q (Kd.R_below (by (with_reducible repeat (first | apply Kd.R_alloc | apply Kd.R_drewN | apply Kd.R_drew)); exact HO265.out) hb); have n6_ := Aa8q (Kd.R_below (by (with_reducible repeat (first | apply Kd.R_alloc | apply Kd.R_drewN | apply Kd.R_drew)); exact HO268.out) hb); have n7_ := Aa8q (blk_below (g := g236) (o := .cells #[.slice Ao12 t229.length co12, .slice Ao14 t232.length co14] 24 (0, 0)) Za85 hb); have n8_ := Aa8q (blk_below (g := g247) (o := .cells #[.slice Ao19 t240.length co19, .slice Ao22 t243.length co22] 24 (0, 0)) Za86 hb); have n9_ := Aa8q (below_step Za81 hb); have n10_ := Aa8q (hbox); have n11_ := Aa8q ((by rw [hg]; exact (below_size Za81) : w.heap.size ≤ g270)); have n12_ := Aa8q ((by rw [hg]; exact (below_size Za81) : w.heap.size ≤ g270)); have n13_ := Aa8q ((by rw [hg]; exact Nat.ne_of_lt (blk_lt (g := g236) (o := .cells #[.slice Ao12 t229.length co12, .slice Ao14 t232.length co14] 24 (0, 0)) Za85) : g236 ≠ g270)); have n14_ := Aa8q ((by rw [hg]; exact Nat.ne_of_gt (blk_lt (g := g236) (o := .cells #[.slice Ao12 t229.length co12, .slice Ao14 t232.length co14] 24 (0, 0)) Za85) : g270 ≠ g236)); have n15_ := Aa8q ((by rw [hg]; exact Nat.ne_of_lt (blk_lt (g := g247) (o := .cells #[.slice Ao19 t240.length co19, .slice Ao22 t243.length co22] 24 (0, 0)) Za86) : g247 ≠ g270)); have n16_ := Aa8q ((by rw [hg]; exact Nat.ne_of_gt (blk_lt (g := g247) (o := .cells #[.slice Ao19 t240.length co19, .slice Ao22 t243.length co22] 24 (0, 0)) Za86) : g270 ≠ g247)); clear HO_237000; clear HO_237001; clear HO_248000; clear HO_248001; clear HO262; clear HO265; clear HO268; clear BK236; clear BK247; clear HB; have HO_237000 := n0_; have HO_237001 := n1_; have HO_248000 := n2_; have HO_248001 := n3_; have HO262 := n4_; have HO265 := n5_; have HO268 := n6_; have BK236 := n7_; have BK247 := n8_; have HB := n9_; have BK270 := n10_; have GW270 := n11_; have GE270 := n12_; have NB236_270 := n13_; have NB270_236 := n14_; have NB247_270 := n15_; have NB270_247 := n16_; clear n0_ n1_ n2_ n3_ n4_ n5_ n6_ n7_ n8_ n9_ n10_ n11_ n12_ n13_ n14_ n15_ n16_; clear hb hbox hg; obtain ⟨Ao70, co70, eo70⟩ := Kd.R_slice HO265.out; subst eo70; have hnb71 := NB270_236.out; have hnc71 := NB236_270.out; have hnb72 := NB270_247.out; have hnc72 := NB247_270.out; have hcz73_0 : w69.cell? ⟨g270, 0, none⟩ = some (.slice none 0 0) := (blk_cell BK270.out 0).trans rfl; have hcz73_1 : w69.cell? ⟨g270, 1, none⟩ = some (.slice none 0 0) := (blk_cell BK270.out 1).trans rfl; have hfz73_0 := blk_frozen BK270.out 0; have hfz73_1 := blk_frozen BK270.out 1; obtain ⟨Ao74, co74, eo74⟩ := Kd.R_slice HO268.out; subst eo74))
   (try simp only [Act.put, y1a8, y2a8, y3a8])
   go_cut [84] (fun v84 wc => ∃ (kq : Nat) (x84_59 : Bool), v84 = .bool x84_59 ∧ Aside0 (laws_FnExactLevelsOf.j2 kq t256 x84_59 t257 t258 = some r) ∧ Aside0 (kq ≤ kj37) ∧ Aside0 (Kd.R (Kd.int .i64) 3 wc w.heap.size (fun k_ => some k_ ≠ ((.slice Ao14 t232.length co14) : Value).ownBlock ∧ some k_ ≠ ((.slice Ao19 t240.length co19) : Value).ownBlock ∧ some k_ ≠ ((.slice Ao22 t243.length co22) : Value).ownBlock ∧ some k_ ≠ ((.slice Ao70 t263.length co70) : Value).ownBlock ∧ some k_ ≠ ((.slice Ao74 t266.length co74) : Value).ownBlock) (.slice Ao12 t229.length co12) t229) ∧ Aside0 (Kd.R (Kd.int .i64) 3 wc w.heap.size (fun k_ => some k_ ≠ ((.slice Ao12 t229.length co12) : Value).ownBlock ∧ some k_ ≠ ((.slice Ao19 t240.length co19) : Value).ownBlock ∧ some k_ ≠ ((.slice Ao22 t243.length co22) : Value).ownBlock ∧ some k_ ≠ ((.slice Ao70 t263.length co70) : Value).ownBlock ∧ some k_ ≠ ((.slice Ao74 t266.length co74) : Value).ownBlock) (.slice Ao14 t232.length co14) t232) ∧ Aside0 (Kd.R (Kd.int .i64) 3 wc w.heap.size (fun k_ => some k_ ≠ ((.slice Ao12 t229.length co12) : Value).ownBlock ∧ some k_ ≠ ((.slice Ao14 t232.length co14) : Value).ownBlock ∧ some k_ ≠ ((.slice Ao22 t243.length co22) : Value).ownBlock ∧ some k_ ≠ ((.slice Ao70 t263.length co70) : Value).ownBlock ∧ some k_ ≠ ((.slice Ao74 t266.length co74) : Value).ownBlock) (.slice Ao19 t240.length co19) t257) ∧ Aside0 (Kd.R (Kd.int .i64) 3 wc w.heap.size (fun k_ => some k_ ≠ ((.slice Ao12 t229.length co12) : Value).ownBlock ∧ some k_ ≠ ((.slice Ao14 t232.length co14) : Value).ownBlock ∧ some k_ ≠ ((.slice Ao19 t240.length co19) : Value).ownBlock ∧ some k_ ≠ ((.slice Ao70 t263.length co70) : Value).ownBlock ∧ some k_ ≠ ((.slice Ao74 t266.length co74) : Value).ownBlock) (.slice Ao22 t243.length co22) t258) ∧ Aside0 (Kd.R (Kd.int .i64) 3 wc w.heap.size (fun k_ => some k_ ≠ ((.slice Ao12 t229.length co12) : Value).ownBlock ∧ some k_ ≠ ((.slice Ao14 t232.length co14) : Value).ownBlock ∧ some k_ ≠ ((.slice Ao19 t240.length co19) : Value).ownBlock ∧ some k_ ≠ ((.slice Ao22 t243.length co22) : Value).ownBlock ∧ some k_ ≠ ((.slice Ao74 t266.length co74) : Value).ownBlock) (.slice Ao70 t263.length co70) t263) ∧ Aside0 (Kd.R (Kd.int .i64) 3 wc w.heap.size (fun k_ => some k_ ≠ ((.slice Ao12 t229.length co12) : Value).ownBlock ∧ some k_ ≠ ((.slice Ao14 t232.length co14) : Value).ownBlock ∧ some k_ ≠ ((.slice Ao19 t240.length co19) : Value).ownBlock ∧ some k_ ≠ ((.slice Ao22 t243.length co22) : Value).ownBlock ∧ some k_ ≠ ((.slice Ao70 t263.length co70) : Value).ownBlock) (.slice Ao74 t266.length co74) t266) ∧ Aside0 (wc.heap[g236]? = some (.cells #[(.slice Ao12 t229.length co12), (.slice Ao14 t232.length co14)] 24 (0, 0))) ∧ Aside0 (wc.heap[g247]? = some (.cells #[(.slice Ao19 t240.length co19), (.slice Ao22 t243.length co22)] 24 (0, 0))) ∧ Aside0 (wc.heap[g270]? = some (.cells #[(.slice Ao70 t263.length co70), (.slice Ao74 t266.length co74)] 24 (0, 0))) ∧ Aside0 (Below w.heap.size w wc))
   case first => as_aux_lemma =>
    have H := HC60.out
    clear HC60
    replace H := Option.bind_eq_some_iff.mp H
    obtain ⟨t271, A750, H⟩ := H
    replace H : (if t271 = true then (laws_FnExactLevelsOf.j2 kj37 t256 (t269 != t235) t257 t258) else (laws_FnExactLevelsOf.j2 kj37 t256 true t257 t258)) = some r := H
    have A75 := Aa8q A750
    clear A750
    by_cases c76 : t271 = true
    rotate_left
    ·
     replace c76 := Bool.eq_false_iff.mpr c76
     subst c76
     have H1 : (laws_FnExactLevelsOf.j2 kj37 t256 true t257 t258) = some r := by rw [if_neg (show ¬ (false = true) by decide)] at H; exact H
     clear H
     have H := H1
     clear H1
     exact absurd H (by generalize kj37 = q_; cases q_ <;> simp [laws_FnExactLevelsOf.j2])
    subst c76
    have H1 : (laws_FnExactLevelsOf.j2 kj37 t256 (t269 != t235) t257 t258) = some r := by rw [if_pos rfl] at H; exact H
    clear H
    have H := H1
    clear H1
    have H' := Aa8q H
    clear H
    have hnb77 := NB270_236.out
    have hnc77 := NB236_270.out
    have hnb78 := NB270_247.out
    have hnc78 := NB247_270.out
    have hcz79_0 : w69.cell? ⟨g270, 0, none⟩ = some (.slice none 0 0) := (blk_cell BK270.out 0).trans rfl
    have hcz79_1 : w69.cell? ⟨g270, 1, none⟩ = some (.slice none 0 0) := (blk_cell BK270.out 1).trans rfl
    have hfz79_0 := blk_frozen BK270.out 0
    have hfz79_1 := blk_frozen BK270.out 1
    have hnb80 := NB236_247.out
    have hnc80 := NB247_236.out
    have hcz81_0 : w69.cell? ⟨g236, 0, none⟩ = some (.slice Ao12 t229.length co12) := (blk_cell BK236.out 0).trans rfl
    have hcz81_1 : w69.cell? ⟨g236, 1, none⟩ = some (.slice Ao14 t232.length co14) := (blk_cell BK236.out 1).trans rfl
    have hfz81_0 := blk_frozen BK236.out 0
    have hfz81_1 := blk_frozen BK236.out 1
    as_aux_lemma =>
     go_wp2_with (first | ((with_reducible refine gate_callee (f := 7) rfl ?_); refine goesL_ (some 78) rfl rfl Try.func7 (by kernel_rfl) rfl #[.agg #[.slice Ao70 t263.length co70, .slice Ao74 t266.length co74], .agg #[.slice Ao12 t229.length co12, .slice Ao14 t232.length co14]] rfl Za83 ?_; (with_reducible refine (laws_eqLevels.calls kj37 _ _ t263 _ _ t266 _ _ t229 _ _ t232 true _ ?side1 ?side2 ?side3 ?side4 ?side5 ?side6 ?side7 ?side8 A75.out).mono ?_); (case side1 => refine (Kd.R_reads' (e := 3) (base := w.heap.size) (ok := fun k_ => (((((some k_ ≠ (.slice Ao74 t266.length co74 : Value).ownBlock ∧ some k_ ≠ (.slice Ao12 t229.length co12 : Value).ownBlock) ∧ some k_ ≠ (.slice Ao14 t232.length co14 : Value).ownBlock) ∧ some k_ ≠ (.slice Ao19 t240.length co19 : Value).ownBlock) ∧ some k_ ≠ (.slice Ao22 t243.length co22 : Value).ownBlock) ∧ some k_ ≠ (.slice Ao67 t260.length co67 : Value).ownBlock)) (n := t263.length) (c := co70) ?_).2.2; exact (by (with_reducible repeat (first | apply Kd.R_alloc | apply Kd.R_drewN | apply Kd.R_drew)); exact (Kd.R_mono (Kd.R_far (p := ⟨g270, 1, none⟩) (Kd.R_far (p := ⟨g270, 0, none⟩) (Kd.R_types HO265.out BK270.out (by decide)) (fun _ hk => hk.2) (.slice Ao70 t263.length co70)) (fun _ hk => hk.2) (.slice Ao74 t266.length co74)) (fun _ h_ => h_.1)))); (case side2 => exact (Kd.R_reads' HO265.out).2.1); (case side3 => refine (Kd.R_reads' (e := 3) (base := w.heap.size) (ok := fun k_ => (((((some k_ ≠ (.slice Ao70 t263.length co70 : Value).ownBlock ∧ some k_ ≠ (.slice Ao12 t229.length co12 : Value).ownBlock) ∧ some k_ ≠ (.slice Ao14 t232.length co14 : Value).ownBlock) ∧ some k_ ≠ (.slice Ao19 t240.length co19 : Value).ownBlock) ∧ some k_ ≠ (.slice Ao22 t243.length co22 : Value).ownBlock) ∧ some k_ ≠ (.slice Ao67 t260.length co67 : Value).ownBlock)) (n := t266.length) (c := co74) ?_).2.2; exact (by (with_reducible repeat (first | apply Kd.R_alloc | apply Kd.R_drewN | apply Kd.R_drew)); exact (Kd.R_mono (Kd.R_far (p := ⟨g270, 1, none⟩) (Kd.R_far (p := ⟨g270, 0, none⟩) (Kd.R_types HO268.out BK270.out (by decide)) (fun _ hk => hk.2) (.slice Ao70 t263.length co70)) (fun _ hk => hk.2) (.slice Ao74 t266.length co74)) (fun _ h_ => h_.1)))); (case side4 => exact (Kd.R_reads' HO268.out).2.1); (case side5 => refine (Kd.R_reads' (e := 3) (base := w.heap.size) (ok := fun k_ => ((((some k_ ≠ (.slice Ao14 t232.length co14 : Value).ownBlock ∧ (some k_ ≠ (.slice Ao19 t240.length co19 : Value).ownBlock ∧ some k_ ≠ (.slice Ao22 t243.length co22 : Value).ownBlock)) ∧ some k_ ≠ (.slice Ao67 t260.length co67 : Value).ownBlock) ∧ some k_ ≠ (.slice Ao70 t263.length co70 : Value).ownBlock) ∧ some k_ ≠ (.slice Ao74 t266.length co74 : Value).ownBlock)) (n := t229.length) (c := co12) ?_).2.2; exact (by (with_reducible repeat (first | apply Kd.R_alloc | apply Kd.R_drewN | apply Kd.R_drew)); exact (Kd.R_mono (Kd.R_far (p := ⟨g270, 1, none⟩) (Kd.R_far (p := ⟨g270, 0, none⟩) (Kd.R_types HO_237000.out BK270.out (by decide)) (fun _ hk => hk.2) (.slice Ao70 t263.length co70)) (fun _ hk => hk.2) (.slice Ao74 t266.length co74)) (fun _ h_ => h_.1)))); (case side6 => exact (Kd.R_reads' HO_237000.out).2.1); (case side7 => refine (Kd.R_reads' (e := 3) (base := w.heap.size) (ok := fun k_ => ((((some k_ ≠ (.slice Ao12 t229.length co12 : Value).ownBlock ∧ (some k_ ≠ (.slice Ao19 t240.length co19 : Value).ownBlock ∧ some k_ ≠ (.slice Ao22 t243.length co22 : Value).ownBlock)) ∧ some k_ ≠ (.slice Ao67 t260.length co67 : Value).ownBlock) ∧ some k_ ≠ (.slice Ao70 t263.length co70 : Value).ownBlock) ∧ some k_ ≠ (.slice Ao74 t266.length co74 : Value).ownBlock)) (n := t232.length) (c := co14) ?_).2.2; exact (by (with_reducible repeat (first | apply Kd.R_alloc | apply Kd.R_drewN | apply Kd.R_drew)); exact (Kd.R_mono (Kd.R_far (p := ⟨g270, 1, none⟩) (Kd.R_far (p := ⟨g270, 0, none⟩) (Kd.R_types HO_237001.out BK270.out (by decide)) (fun _ hk => hk.2) (.slice Ao70 t263.length co70)) (fun _ hk => hk.2) (.slice Ao74 t266.length co74)) (fun _ h_ => h_.1)))); (case side8 => exact (Kd.R_reads' HO_237001.out).2.1); rintro e w82 ⟨rfl, hb⟩; refine ⟨_, rfl, ?_⟩; have n0_ := Aa8q (Kd.R_below (by (with_reducible repeat (first | apply Kd.R_alloc | apply Kd.R_drewN | apply Kd.R_drew)); exact (Kd.R_mono (Kd.R_far (p := ⟨g270, 1, none⟩) (Kd.R_far (p := ⟨g270, 0, none⟩) (Kd.R_types HO_237000.out BK270.out (by decide)) (fun _ hk => hk.2) (.slice Ao70 t263.length co70)) (fun _ hk => hk.2) (.slice Ao74 t266.length co74)) (fun _ h_ => h_.1))) hb); have n1_ := Aa8q (Kd.R_below (by (with_reducible repeat (first | apply Kd.R_alloc | apply Kd.R_drewN | apply Kd.R_drew)); exact (Kd.R_mono (Kd.R_far (p := ⟨g270, 1, none⟩) (Kd.R_far (p := ⟨g270, 0, none⟩) (Kd.R_types HO_237001.out BK270.out (by decide)) (fun _ hk => hk.2) (.slice Ao70 t263.length co70)) (fun _ hk => hk.2) (.slice Ao74 t266.length co74)) (fun _ h_ => h_.1))) hb); have n2_ := Aa8q (Kd.R_below (by (with_reducible repeat (first | apply Kd.R_alloc | apply Kd.R_drewN | apply Kd.R_drew)); exact (Kd.R_mono (Kd.R_far (p := ⟨g270, 1, none⟩) (Kd.R_far (p := ⟨g270, 0, none⟩) (Kd.R_types HO_248000.out BK270.out (by decide)) (fun _ hk => hk.2) (.slice Ao70 t263.length co70)) (fun _ hk => hk.2) (.slice Ao74 t266.length co74)) (fun _ h_ => h_.1))) hb); have n3_ := Aa8q (Kd.R_below (by (with_reducible repeat (first | apply Kd.R_alloc | apply Kd.R_drewN | apply Kd.R_drew)); exact (Kd.R_mono (Kd.R_far (p := ⟨g270, 1, none⟩) (Kd.R_far (p := ⟨g270, 0, none⟩) (Kd.R_types HO_248001.out BK270.out (by decide)) (fun _ hk => hk.2) (.slice Ao70 t263.length co70)) (fun _ hk => hk.2) (.slice Ao74 t266.length co74)) (fun _ h_ => h_.1))) hb); have n4_ := Aa8q (Kd.R_below (by (with_reducible repeat (first | apply Kd.R_alloc | apply Kd.R_drewN | apply Kd.R_drew)); exact (Kd.R_mono (Kd.R_far (p := ⟨g270, 1, none⟩) (Kd.R_far (p := ⟨g270, 0, none⟩) (Kd.R_types HO262.out BK270.out (by decide)) (fun _ hk => hk.2) (.slice Ao70 t263.length co70)) (fun _ hk => hk.2) (.slice Ao74 t266.length co74)) (fun _ h_ => h_.1))) hb); have n5_ := Aa8q (Kd.R_below (by (with_reducible repeat (first | apply Kd.R_alloc | apply Kd.R_drewN | apply Kd.R_drew)); exact (Kd.R_mono (Kd.R_far (p := ⟨g270, 1, none⟩) (Kd.R_far (p := ⟨g270, 0, none⟩) (Kd.R_types HO265.out BK270.out (by decide)) (fun _ hk => hk.2) (.slice Ao70 t263.length co70)) (fun _ hk => hk.2) (.slice Ao74 t266.length co74)) (fun _ h_ => h_.1))) hb); have n6_ := Aa8q (Kd.R_below (by (with_reducible repeat (first | apply Kd.R_alloc | apply Kd.R_drewN | apply Kd.R_drew)); exact (Kd.R_mono (Kd.R_far (p := ⟨g270, 1, none⟩) (Kd.R_far (p := ⟨g270, 0, none⟩) (Kd.R_types HO268.out BK270.out (by decide)) (fun _ hk => hk.2) (.slice Ao70 t263.length co70)) (fun _ hk => hk.2) (.slice Ao74 t266.length co74)) (fun _ h_ => h_.1))) hb); have n7_ := Aa8q (blk_below (g := g236) (o := .cells #[.slice Ao12 t229.length co12, .slice Ao14 t232.length co14] 24 (0, 0)) (by (with_reducible repeat (first | refine blk_drewN ?_ _ | refine blk_drew ?_ | refine blk_alloc ?_ _)); refine blk_far ?_ NB236_270.out _; (with_reducible repeat (first | refine blk_drewN ?_ _ | refine blk_drew ?_ | refine blk_alloc ?_ _)); refine blk_far ?_ NB236_270.out _; (with_reducible repeat (first | refine blk_drewN ?_ _ | refine blk_drew ?_ | refine blk_alloc ?_ _)); exact BK236.out) hb); have n8_ := Aa8q (blk_below (g := g247) (o := .cells #[.slice Ao19 t240.length co19, .slice Ao22 t243.length co22] 24 (0, 0)) (by (with_reducible repeat (first | refine blk_drewN ?_ _ | refine blk_drew ?_ | refine blk_alloc ?_ _)); refine blk_far ?_ NB247_270.out _; (with_reducible repeat (first | refine blk_drewN ?_ _ | refine blk_drew ?_ | refine blk_alloc ?_ _)); refine blk_far ?_ NB247_270.out _; (with_reducible repeat (first | refine blk_drewN ?_ _ | refine blk_drew ?_ | refine blk_alloc ?_ _)); exact BK247.out) hb); have n9_ := Aa8q (blk_below (g := g270) (o := .cells #[.slice Ao70 t263.length co70, .slice Ao74 t266.length co74] 24 (0, 0)) (by (with_reducible repeat (first | refine blk_drewN ?_ _ | refine blk_drew ?_ | refine blk_alloc ?_ _)); refine blk_put (cs := #[.slice Ao70 t263.length co70, .slice none 0 0]) ?_ 1 _ rfl; (with_reducible repeat (first | refine blk_drewN ?_ _ | refine blk_drew ?_ | refine blk_alloc ?_ _)); refine blk_put (cs := #[.slice none 0 0, .slice none 0 0]) ?_ 0 _ rfl; (with_reducible repeat (first | refine blk_drewN ?_ _ | refine blk_drew ?_ | refine blk_alloc ?_ _)); exact BK270.out) hb); have n10_ := Aa8q (below_step (by repeat (first | (with_reducible first | exact HB.out | apply below_alloc | apply pw_below_drewN | apply below_drew1 | refine below_set ?_ GE236.out | refine below_set ?_ GE247.out | refine below_set ?_ GE270.out) | exact HB.out)) hb); clear HO_237000; clear HO_237001; clear HO_248000; clear HO_248001; clear HO262; clear HO265; clear HO268; clear BK236; clear BK247; clear BK270; clear HB; have HO_237000 := n0_; have HO_237001 := n1_; have HO_248000 := n2_; have HO_248001 := n3_; have HO262 := n4_; have HO265 := n5_; have HO268 := n6_; have BK236 := n7_; have BK247 := n8_; have BK270 := n9_; have HB := n10_; clear n0_ n1_ n2_ n3_ n4_ n5_ n6_ n7_ n8_ n9_ n10_; (try clear hb); (try clear hb2); (try clear hk); (try clear hi)))
     go_meet
     case rel => exact ⟨_, ((t269 != t235)), (by first | rfl | (simp; done) | (simp [*]; done) | (simp only [i64_w]; done)), H', ⟨by have := HJ6.out; have := HJ37.out; first | omega | exact Nat.le_refl _⟩, ⟨by (with_reducible repeat (first | apply Kd.R_alloc | apply Kd.R_drewN | apply Kd.R_drew)); exact Kd.R_mono HO_237000.out (fun _ hk => ⟨hk.1.1.1.1, ⟨hk.1.1.1.2.1, ⟨hk.1.1.1.2.2, ⟨hk.1.2, hk.2⟩⟩⟩⟩)⟩, ⟨by (with_reducible repeat (first | apply Kd.R_alloc | apply Kd.R_drewN | apply Kd.R_drew)); exact Kd.R_mono HO_237001.out (fun _ hk => ⟨hk.1.1.1.1, ⟨hk.1.1.1.2.1, ⟨hk.1.1.1.2.2, ⟨hk.1.2, hk.2⟩⟩⟩⟩)⟩, ⟨by (with_reducible repeat (first | apply Kd.R_alloc | apply Kd.R_drewN | apply Kd.R_drew)); exact Kd.R_mono HO_248000.out (fun _ hk => ⟨hk.1.1.1.1, ⟨hk.1.1.1.2.1, ⟨hk.1.1.1.2.2, ⟨hk.1.2, hk.2⟩⟩⟩⟩)⟩, ⟨by (with_reducible repeat (first | apply Kd.R_alloc | apply Kd.R_drewN | apply Kd.R_drew)); exact Kd.R_mono HO_248001.out (fun _ hk => ⟨hk.1.1.1.1, ⟨hk.1.1.1.2.1, ⟨hk.1.1.1.2.2, ⟨hk.1.2, hk.2⟩⟩⟩⟩)⟩, ⟨by (with_reducible repeat (first | apply Kd.R_alloc | apply Kd.R_drewN | apply Kd.R_drew)); exact Kd.R_mono HO265.out (fun _ hk => ⟨hk.1.1.1.1.2, ⟨hk.1.1.1.2, ⟨hk.1.1.2, ⟨hk.1.2, hk.1.1.1.1.1⟩⟩⟩⟩)⟩, ⟨by (with_reducible repeat (first | apply Kd.R_alloc | apply Kd.R_drewN | apply Kd.R_drew)); exact Kd.R_mono HO268.out (fun _ hk => ⟨hk.1.1.1.1.2, ⟨hk.1.1.1.2, ⟨hk.1.1.2, ⟨hk.1.2, hk.1.1.1.1.1⟩⟩⟩⟩)⟩, ⟨by (with_reducible repeat (first | refine blk_drewN ?_ _ | refine blk_drew ?_ | refine blk_alloc ?_ _)); exact BK236.out⟩, ⟨by (with_reducible repeat (first | refine blk_drewN ?_ _ | refine blk_drew ?_ | refine blk_alloc ?_ _)); exact BK247.out⟩, ⟨by (with_reducible repeat (first | refine blk_drewN ?_ _ | refine blk_drew ?_ | refine blk_alloc ?_ _)); exact BK270.out⟩, ⟨by repeat (first | (with_reducible first | exact HB.out | apply below_alloc | apply pw_below_drewN | apply below_drew1 | refine below_set ?_ GE236.out | refine below_set ?_ GE247.out | refine below_set ?_ GE270.out) | exact HB.out)⟩⟩
   case rest => as_aux_lemma =>
    clear HC60
    try clear c1
    try clear c2
    try clear c2b0
    try clear c2b1
    try clear p2
    try clear c3
    try clear c4
    try clear c5
    try clear c6
    try clear c7
    try clear c8
    try clear c9
    try clear c10
    try clear c11
    try clear c20
    try clear c24
    try clear c25
    try clear c29
    try clear c33
    try clear c36
    try clear c42
    try clear c42b0
    try clear c44
    try clear c45
    try clear c49
    try clear c53
    try clear c56
    try clear c56b0
    try clear c57
    try clear c57b0
    try clear c57b1
    try clear c61
    try clear c71
    try clear c72
    try clear c76
    try clear c77
    try clear c78
    try clear c80
    try clear c83
    try clear c84
    try clear c86
    try clear hcz13_0
    try clear hcz13_1
    try clear hcz21_0
    try clear hcz21_1
    try clear hcz26_0
    try clear hcz26_1
    try clear hcz27_0
    try clear hcz27_1
    try clear hcz30_0
    try clear hcz30_1
    try clear hcz31_0
    try clear hcz31_1
    try clear hcz46_0
    try clear hcz46_1
    try clear hcz47_0
    try clear hcz47_1
    try clear hcz50_0
    try clear hcz50_1
    try clear hcz51_0
    try clear hcz51_1
    try clear hcz62_0
    try clear hcz62_1
    try clear hcz64_0
    try clear hcz64_1
    try clear hcz73_0
    try clear hcz73_1
    try clear hcz79_0
    try clear hcz79_1
    try clear hcz81_0
    try clear hcz81_1
    try clear hcz85_0
    try clear hcz85_1
    try clear hcz87_0
    try clear hcz87_1
    try clear hfz13_0
    try clear hfz13_1
    try clear hfz21_0
    try clear hfz21_1
    try clear hfz26_0
    try clear hfz26_1
    try clear hfz27_0
    try clear hfz27_1
    try clear hfz30_0
    try clear hfz30_1
    try clear hfz31_0
    try clear hfz31_1
    try clear hfz46_0
    try clear hfz46_1
    try clear hfz47_0
    try clear hfz47_1
    try clear hfz50_0
    try clear hfz50_1
    try clear hfz51_0
    try clear hfz51_1
    try clear hfz62_0
    try clear hfz62_1
    try clear hfz64_0
    try clear hfz64_1
    try clear hfz73_0
    try clear hfz73_1
    try clear hfz79_0
    try clear hfz79_1
    try clear hfz81_0
    try clear hfz81_1
    try clear hfz85_0
    try clear hfz85_1
    try clear hfz87_0
    try clear hfz87_1
    try clear p2
    obtain ⟨kq, x84_59, rfl, HA, HJ59, HO_237000, HO_237001, HO_248000, HO_248001, HO_271000, HO_271001, BK236, BK247, BK270, HB⟩ := hcut
    have hl248000_59 := (Kd.R_reads' HO_248000.out).1
    rw [hl248000_59] at HO_248000
    (try simp only [hl248000_59])
    (try simp only [hl248000_59] at BK236)
    (try simp only [hl248000_59] at BK247)
    (try simp only [hl248000_59] at BK270)
    (try simp only [hl248000_59] at HO_237000)
    (try simp only [hl248000_59] at HO_237001)
    (try simp only [hl248000_59] at HO_248001)
    (try simp only [hl248000_59] at HO_271000)
    (try simp only [hl248000_59] at HO_271001)
    have hl248001_59 := (Kd.R_reads' HO_248001.out).1
    rw [hl248001_59] at HO_248001
    (try simp only [hl248001_59])
    (try simp only [hl248001_59] at BK236)
    (try simp only [hl248001_59] at BK247)
    (try simp only [hl248001_59] at BK270)
    (try simp only [hl248001_59] at HO_237000)
    (try simp only [hl248001_59] at HO_237001)
    (try simp only [hl248001_59] at HO_248000)
    (try simp only [hl248001_59] at HO_271000)
    (try simp only [hl248001_59] at HO_271001)
    obtain _ | kj59 := kq
    · exact absurd HA.out (by simp [laws_FnExactLevelsOf.j2])
    have H := HA.out
    clear HA
    simp only [laws_FnExactLevelsOf.j2] at H
    by_cases c89 : x84_59 = true
    ·
     subst c89
     have H1 : (none) = some r := by rw [if_pos rfl] at H; exact H
     clear H
     have H := H1
     clear H1
     exact absurd H (by simp)
    replace c89 := Bool.eq_false_iff.mpr c89
    subst c89
    have H1 : ((laws_heldLevels.f kj59 t257 t258 1).bind fun t272 => (if t272 < 0 then (none) else (if t272 = t256 then (some true) else (none)))) = some r := by rw [if_neg (show ¬ (false = true) by decide)] at H; exact H
    clear H
    have H := H1
    clear H1
    replace H := Option.bind_eq_some_iff.mp H
    obtain ⟨t272, A900, H⟩ := H
    replace H : (if t272 < 0 then (none) else (if t272 = t256 then (some true) else (none))) = some r := H
    have A90 := Aa8q A900
    clear A900
    by_cases c91 : t272 < 0
    ·
     rw [if_pos c91] at H
     exact absurd H (by simp)
    rw [if_neg c91] at H
    have c91b0 : decide (t272 < 0) = false := decide_eq_false c91
    clear c91
    by_cases c92 : t272 = t256
    rotate_left
    ·
     rw [if_neg c92] at H
     exact absurd H (by simp)
    rw [if_pos c92] at H
    have c92b0 : (t272 == t256) = true := beq_iff_eq.mpr c92
    have c92b1 : (t272 != t256) = false := bne_eq_false_iff_eq.mpr c92
    clear c92
    obtain rfl := Option.some.inj H
    have hnb93 := NB247_236.out
    have hnc93 := NB236_247.out
    have hnb94 := NB247_270.out
    have hnc94 := NB270_247.out
    have hcz95_0 : wc.cell? ⟨g247, 0, none⟩ = some (.slice Ao19 t257.length co19) := (blk_cell BK247.out 0).trans rfl
    have hcz95_1 : wc.cell? ⟨g247, 1, none⟩ = some (.slice Ao22 t258.length co22) := (blk_cell BK247.out 1).trans rfl
    have hfz95_0 := blk_frozen BK247.out 0
    have hfz95_1 := blk_frozen BK247.out 1
    go_wp2_with (first | ((with_reducible refine gate_callee (f := 11) rfl ?_); refine goesL_ (some 87) rfl rfl Try.func11 (by kernel_rfl) rfl #[.agg #[.slice Ao19 t257.length co19, .slice Ao22 t258.length co22], .int .i64 1] rfl Za83 ?_; (with_reducible refine (laws_heldLevels.calls kj59 _ _ t257 _ _ t258 1 t272 _ ?side1 ?side2 ?side3 ?side4 A90.out).mono ?_); (case side1 => repeat (first | exact (Kd.R_reads' HO_248000.out).2.2 | (with_reducible refine Kd.C_alloc ?_ _) | (with_reducible refine Kd.C_drewN ?_ _) | (with_reducible refine Kd.C_drew ?_))); (case side2 => exact (Kd.R_reads' HO_248000.out).2.1); (case side3 => repeat (first | exact (Kd.R_reads' HO_248001.out).2.2 | (with_reducible refine Kd.C_alloc ?_ _) | (with_reducible refine Kd.C_drewN ?_ _) | (with_reducible refine Kd.C_drew ?_))); (case side4 => exact (Kd.R_reads' HO_248001.out).2.1); rintro e w96 ⟨rfl, hb⟩; refine ⟨_, rfl, ?_⟩; have n0_ := Aa8q (Kd.R_below Za87 hb); have n1_ := Aa8q (Kd.R_below Za88 hb); have n2_ := Aa8q (Kd.R_below Za89 hb); have n3_ := Aa8q (Kd.R_below Za810 hb); have n4_ := Aa8q (Kd.R_below (by (with_reducible repeat (first | apply Kd.R_alloc | apply Kd.R_drewN | apply Kd.R_drew)); exact HO_271000.out) hb); have n5_ := Aa8q (Kd.R_below (by (with_reducible repeat (first | apply Kd.R_alloc | apply Kd.R_drewN | apply Kd.R_drew)); exact HO_271001.out) hb); have n6_ := Aa8q (blk_below (g := g236) (o := .cells #[.slice Ao12 t229.length co12, .slice Ao14 t232.length co14] 24 (0, 0)) Za85 hb); have n7_ := Aa8q (blk_below (g := g247) (o := .cells #[.slice Ao19 t257.length co19, .slice Ao22 t258.length co22] 24 (0, 0)) Za86 hb); have n8_ := Aa8q (blk_below (g := g270) (o := .cells #[.slice Ao70 t263.length co70, .slice Ao74 t266.length co74] 24 (0, 0)) (by (with_reducible repeat (first | refine blk_drewN ?_ _ | refine blk_drew ?_ | refine blk_alloc ?_ _)); exact BK270.out) hb); have n9_ := Aa8q (below_step (by repeat (first | (with_reducible first | exact HB.out | apply below_alloc | apply pw_below_drewN | apply below_drew1 | refine below_set ?_ GE236.out | refine below_set ?_ GE247.out | refine below_set ?_ GE270.out) | exact HB.out)) hb); clear HO_237000; clear HO_237001; clear HO_248000; clear HO_248001; clear HO_271000; clear HO_271001; clear BK236; clear BK247; clear BK270; clear HB; have HO_237000 := n0_; have HO_237001 := n1_; have HO_248000 := n2_; have HO_248001 := n3_; have HO_271000 := n4_; have HO_271001 := n5_; have BK236 := n6_; have BK247 := n7_; have BK270 := n8_; have HB := n9_; clear n0_ n1_ n2_ n3_ n4_ n5_ n6_ n7_ n8_ n9_; (try clear hb); (try clear hb2); (try clear hk); (try clear hi)))
    go_ret
    exact ⟨by first | rfl | (simp [errW_none, errW_some] <;> rfl) | (simp [*, errW_none, errW_some] <;> rfl), by repeat (first | (with_reducible first | exact HB.out | apply below_alloc | apply pw_below_drewN | apply below_drew1 | refine below_set ?_ GE236.out | refine below_set ?_ GE247.out | refine below_set ?_ GE270.out) | exact HB.out)⟩
/-- THE ONE PURE STATEMENT of laws_FnExactLevelsOf: yours. -/
def laws_FnExactLevelsOf.Pure : Prop := ∀ (l0 : List Int), l0.length ≤ maxLen → l0.length * 8 ≤ 140737488351232 → (∀ x ∈ l0, (Lit.int .i64 x).wf = true) → ∃ k, laws_FnExactLevelsOf.f k l0 = some true
theorem laws_FnExactLevelsOf.walk (P : laws_FnExactLevelsOf.Pure) (a0 : Option Addr) (len0 cap0 : Nat) (z0 : List Int) (w : World) (w0 : (a0 = none ∧ len0 = 0 ∧ cap0 = 0 ∧ z0 = []) ∨ ∃ x, a0 = some x ∧ len0 ≤ cap0 ∧ cap0 ≤ maxLen ∧ z0.length = cap0 ∧ (∀ i, i < z0.length → w.cell? (x.add i) = some (.int .i64 (z0.getD i 0))) ∧ ∀ n ∈ z0, (Lit.int .i64 n).wf = true) (y0 : len0 * 8 ≤ 140737488351232) :
    Calls Try.prog 3 #[.slice a0 len0 cap0] w fun e w' => e = .returned (.bool true) ∧ Below w.heap.size w w' := by
  obtain ⟨l0, rfl, hr0, hm0, hw0, hc0⟩ := ReadsInt.ofRowC w0
  obtain ⟨k, h⟩ := P l0 hm0 y0 hw0
  refine (laws_FnExactLevelsOf.calls k _ _ l0 true w (Kd.C_of_reads (d := (0 : Int)) (h1 := fun _ => rfl) hr0) hc0 h).mono ?_
  rintro e w' ⟨rfl, hd⟩
  exact ⟨rfl, hd⟩

end Go.Proofs.Ytgoiohlmifgncaa.OFnExactLevelsOf
