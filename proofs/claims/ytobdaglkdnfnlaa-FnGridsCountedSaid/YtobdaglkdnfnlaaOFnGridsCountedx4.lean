/- The functions that 'FnGridsCounted' runs, each as a function over numbers and lists, with the proof that the Go text comes to its answers. No condition. -/
import Derived.Test.YtobdaglkdnfnlaaOFnGridsCountedx0
import Derived.Test.YtobdaglkdnfnlaaOFnGridsCountedx1
import Derived.Test.YtobdaglkdnfnlaaOFnGridsCountedx2
import Derived.Test.YtobdaglkdnfnlaaOFnGridsCountedx3
namespace Go.Proofs.Ytobdaglkdnfnlaa.OFnGridsCounted
open Go.Proofs.Ytobdaglkdnfnlaa.Stub
open Go.RowKit Go.Proofs.YtobdaglkdnfnlaaW.PrintWords Go.Proofs.YtobdaglkdnfnlaaW.PrintLast Go.Proofs.YtobdaglkdnfnlaaW.PrintMore
attribute [local go_sem] max2_int min2_int max_two min_two max_three min_three max_four min_four   -- for this text's walks alone
set_option linter.unusedVariables false
set_option linter.unusedSimpArgs false

/-! ### laws_FnGridsCounted: function 5 -/
mutual
def laws_FnGridsCounted.j0 : Nat → List Int → Int → Int → Int → Bool → Bool → Option (Bool)
  | 0, _, _, _, _, _, _ => none
  | k + 1, x1, x5, x6, x7, x8, x57 => if x57 = true then (none) else (if x8 = true then ((impl_CountDelannoy.f k x6 x5).bind fun bt160 => (if bt160.2 = true then (if bt160.1 = x7 then (if (wrap64 (x5 * x6)) = 0 then (laws_FnGridsCounted.j1 k x1 x5 x6 x7 (x7 != 1)) else (laws_FnGridsCounted.j1 k x1 x5 x6 x7 false)) else (laws_FnGridsCounted.j1 k x1 x5 x6 x7 true)) else (laws_FnGridsCounted.j1 k x1 x5 x6 x7 true))) else (laws_FnGridsCounted.j3 k x1))
def laws_FnGridsCounted.j3 : Nat → List Int → Option (Bool)
  | 0, _ => none
  | k + 1, x1 => (spec_DrawCountSchroder.f x1).bind fun t168 => ((impl_CountSchroder.f k t168).bind fun bt169 => ((spec_CountSchroder.f k t168).bind fun bt171 => (if (bt169.2 != bt171.2) = true then (laws_FnGridsCounted.j4 k t168 bt169.1 bt169.2 true) else (laws_FnGridsCounted.j4 k t168 bt169.1 bt169.2 (bt169.1 != bt171.1)))))
def laws_FnGridsCounted.j4 : Nat → Int → Int → Bool → Bool → Option (Bool)
  | 0, _, _, _, _ => none
  | k + 1, x19, x20, x21, x148 => if x148 = true then (none) else (if x21 = true then ((impl_CountDelannoy.f k x19 x19).bind fun bt173 => (if bt173.2 = true then (if x20 > bt173.1 then (laws_FnGridsCounted.j5 k x19 x20 true) else (if x19 > 0 then (laws_FnGridsCounted.j5 k x19 x20 ((Int.tmod x20 2) != 0)) else (laws_FnGridsCounted.j5 k x19 x20 false))) else (laws_FnGridsCounted.j5 k x19 x20 true))) else (some true))
def laws_FnGridsCounted.j5 : Nat → Int → Int → Bool → Option (Bool)
  | 0, _, _, _ => none
  | k + 1, x19, x20, x171 => if x171 = true then (none) else (if x19 ≥ 2 then ((impl_CountSchroder.f k (wrap64 (x19 - 1))).bind fun bt175 => ((impl_CountSchroder.f k (wrap64 (x19 - 2))).bind fun bt177 => (if bt175.2 = true then (if bt177.2 = true then (if (wrap64 ((wrap64 (x19 + 1)) * x20)) = (wrap64 ((wrap64 ((wrap64 ((wrap64 (6 * x19)) - 3)) * bt175.1)) - (wrap64 ((wrap64 (x19 - 2)) * bt177.1)))) then (some true) else (none)) else (none)) else (none)))) else (some true))
def laws_FnGridsCounted.j1 : Nat → List Int → Int → Int → Int → Bool → Option (Bool)
  | 0, _, _, _, _, _ => none
  | k + 1, x1, x5, x6, x7, x81 => if x81 = true then (none) else (if x5 > 0 then (laws_FnGridsCounted.j2 k x1 x5 x6 x7 (decide (x6 > 0))) else (laws_FnGridsCounted.j2 k x1 x5 x6 x7 false))
def laws_FnGridsCounted.j2 : Nat → List Int → Int → Int → Int → Bool → Option (Bool)
  | 0, _, _, _, _, _ => none
  | k + 1, x1, x5, x6, x7, x87 => if x87 = true then ((impl_CountDelannoy.f k (wrap64 (x5 - 1)) x6).bind fun bt162 => ((impl_CountDelannoy.f k x5 (wrap64 (x6 - 1))).bind fun bt164 => ((impl_CountDelannoy.f k (wrap64 (x5 - 1)) (wrap64 (x6 - 1))).bind fun bt166 => (if bt162.2 = true then (if bt164.2 = true then (if bt166.2 = true then (if (wrap64 ((wrap64 (bt162.1 + bt164.1)) + bt166.1)) = x7 then (laws_FnGridsCounted.j3 k x1) else (none)) else (none)) else (none)) else (none))))) else (laws_FnGridsCounted.j3 k x1)
end
def laws_FnGridsCounted.f (k : Nat) (l0 : List Int) (l1 : List Int) : Option (Bool) := (laws_big.f l0 l1).bind fun t153 => (if t153 = true then (some true) else ((spec_DrawCountDelannoy.f l0).bind fun bt154 => ((impl_CountDelannoy.f k bt154.1 bt154.2).bind fun bt156 => ((spec_CountDelannoy.f k bt154.1 bt154.2).bind fun bt158 => (if (bt156.2 != bt158.2) = true then (laws_FnGridsCounted.j0 k l1 bt154.1 bt154.2 bt156.1 bt156.2 true) else (laws_FnGridsCounted.j0 k l1 bt154.1 bt154.2 bt156.1 bt156.2 (bt156.1 != bt158.1)))))))
theorem laws_FnGridsCounted.mono_l : ∀ k, (∀ y0 y1 y2 y3 y4 y5, LeO (laws_FnGridsCounted.j0 k y0 y1 y2 y3 y4 y5) (laws_FnGridsCounted.j0 (k + 1) y0 y1 y2 y3 y4 y5)) ∧ (∀ y0, LeO (laws_FnGridsCounted.j3 k y0) (laws_FnGridsCounted.j3 (k + 1) y0)) ∧ (∀ y0 y1 y2 y3, LeO (laws_FnGridsCounted.j4 k y0 y1 y2 y3) (laws_FnGridsCounted.j4 (k + 1) y0 y1 y2 y3)) ∧ (∀ y0 y1 y2, LeO (laws_FnGridsCounted.j5 k y0 y1 y2) (laws_FnGridsCounted.j5 (k + 1) y0 y1 y2)) ∧ (∀ y0 y1 y2 y3 y4, LeO (laws_FnGridsCounted.j1 k y0 y1 y2 y3 y4) (laws_FnGridsCounted.j1 (k + 1) y0 y1 y2 y3 y4)) ∧ (∀ y0 y1 y2 y3 y4, LeO (laws_FnGridsCounted.j2 k y0 y1 y2 y3 y4) (laws_FnGridsCounted.j2 (k + 1) y0 y1 y2 y3 y4))
  | 0 => ⟨fun _ _ _ _ _ _ r h => by simp [laws_FnGridsCounted.j0] at h, fun _ r h => by simp [laws_FnGridsCounted.j3] at h, fun _ _ _ _ r h => by simp [laws_FnGridsCounted.j4] at h, fun _ _ _ r h => by simp [laws_FnGridsCounted.j5] at h, fun _ _ _ _ _ r h => by simp [laws_FnGridsCounted.j1] at h, fun _ _ _ _ _ r h => by simp [laws_FnGridsCounted.j2] at h⟩
  | k + 1 => by
    obtain ⟨ih0, ih1, ih2, ih3, ih4, ih5⟩ := laws_FnGridsCounted.mono_l k
    refine ⟨?_, ?_, ?_, ?_, ?_, ?_⟩
    · intro y0 y1 y2 y3 y4 y5
      unfold laws_FnGridsCounted.j0
      repeat' first
      | (with_reducible exact ih0 _ _ _ _ _ _)
      | (with_reducible exact ih1 _)
      | (with_reducible exact ih2 _ _ _ _)
      | (with_reducible exact ih3 _ _ _)
      | (with_reducible exact ih4 _ _ _ _ _)
      | (with_reducible exact ih5 _ _ _ _ _)
      | (with_reducible exact impl_CountDelannoy.mono _ _ _)
      | (with_reducible exact impl_CountSchroder.mono _ _)
      | (with_reducible exact spec_CountDelannoy.mono _ _ _)
      | (with_reducible exact spec_CountSchroder.mono _ _)
      | (with_reducible exact LeO.refl _)
      | (with_reducible exact LeO.none _)
      | (with_reducible refine LeO.ite ?_ ?_)
      | (with_reducible refine LeO.bind ?_ (fun _ => ?_))
      | exact ih0 _ _ _ _ _ _
      | exact ih1 _
      | exact ih2 _ _ _ _
      | exact ih3 _ _ _
      | exact ih4 _ _ _ _ _
      | exact ih5 _ _ _ _ _
      | exact impl_CountDelannoy.mono _ _ _
      | exact impl_CountSchroder.mono _ _
      | exact spec_CountDelannoy.mono _ _ _
      | exact spec_CountSchroder.mono _ _
      | exact LeO.none _
      | refine LeO.ite ?_ ?_
      | refine LeO.bind ?_ (fun _ => ?_)
    · intro y0
      unfold laws_FnGridsCounted.j3
      repeat' first
      | (with_reducible exact ih0 _ _ _ _ _ _)
      | (with_reducible exact ih1 _)
      | (with_reducible exact ih2 _ _ _ _)
      | (with_reducible exact ih3 _ _ _)
      | (with_reducible exact ih4 _ _ _ _ _)
      | (with_reducible exact ih5 _ _ _ _ _)
      | (with_reducible exact impl_CountDelannoy.mono _ _ _)
      | (with_reducible exact impl_CountSchroder.mono _ _)
      | (with_reducible exact spec_CountDelannoy.mono _ _ _)
      | (with_reducible exact spec_CountSchroder.mono _ _)
      | (with_reducible exact LeO.refl _)
      | (with_reducible exact LeO.none _)
      | (with_reducible refine LeO.ite ?_ ?_)
      | (with_reducible refine LeO.bind ?_ (fun _ => ?_))
      | exact ih0 _ _ _ _ _ _
      | exact ih1 _
      | exact ih2 _ _ _ _
      | exact ih3 _ _ _
      | exact ih4 _ _ _ _ _
      | exact ih5 _ _ _ _ _
      | exact impl_CountDelannoy.mono _ _ _
      | exact impl_CountSchroder.mono _ _
      | exact spec_CountDelannoy.mono _ _ _
      | exact spec_CountSchroder.mono _ _
      | exact LeO.none _
      | refine LeO.ite ?_ ?_
      | refine LeO.bind ?_ (fun _ => ?_)
    · intro y0 y1 y2 y3
      unfold laws_FnGridsCounted.j4
      repeat' first
      | (with_reducible exact ih0 _ _ _ _ _ _)
      | (with_reducible exact ih1 _)
      | (with_reducible exact ih2 _ _ _ _)
      | (with_reducible exact ih3 _ _ _)
      | (with_reducible exact ih4 _ _ _ _ _)
      | (with_reducible exact ih5 _ _ _ _ _)
      | (with_reducible exact impl_CountDelannoy.mono _ _ _)
      | (with_reducible exact impl_CountSchroder.mono _ _)
      | (with_reducible exact spec_CountDelannoy.mono _ _ _)
      | (with_reducible exact spec_CountSchroder.mono _ _)
      | (with_reducible exact LeO.refl _)
      | (with_reducible exact LeO.none _)
      | (with_reducible refine LeO.ite ?_ ?_)
      | (with_reducible refine LeO.bind ?_ (fun _ => ?_))
      | exact ih0 _ _ _ _ _ _
      | exact ih1 _
      | exact ih2 _ _ _ _
      | exact ih3 _ _ _
      | exact ih4 _ _ _ _ _
      | exact ih5 _ _ _ _ _
      | exact impl_CountDelannoy.mono _ _ _
      | exact impl_CountSchroder.mono _ _
      | exact spec_CountDelannoy.mono _ _ _
      | exact spec_CountSchroder.mono _ _
      | exact LeO.none _
      | refine LeO.ite ?_ ?_
      | refine LeO.bind ?_ (fun _ => ?_)
    · intro y0 y1 y2
      unfold laws_FnGridsCounted.j5
      repeat' first
      | (with_reducible exact ih0 _ _ _ _ _ _)
      | (with_reducible exact ih1 _)
      | (with_reducible exact ih2 _ _ _ _)
      | (with_reducible exact ih3 _ _ _)
      | (with_reducible exact ih4 _ _ _ _ _)
      | (with_reducible exact ih5 _ _ _ _ _)
      | (with_reducible exact impl_CountDelannoy.mono _ _ _)
      | (with_reducible exact impl_CountSchroder.mono _ _)
      | (with_reducible exact spec_CountDelannoy.mono _ _ _)
      | (with_reducible exact spec_CountSchroder.mono _ _)
      | (with_reducible exact LeO.refl _)
      | (with_reducible exact LeO.none _)
      | (with_reducible refine LeO.ite ?_ ?_)
      | (with_reducible refine LeO.bind ?_ (fun _ => ?_))
      | exact ih0 _ _ _ _ _ _
      | exact ih1 _
      | exact ih2 _ _ _ _
      | exact ih3 _ _ _
      | exact ih4 _ _ _ _ _
      | exact ih5 _ _ _ _ _
      | exact impl_CountDelannoy.mono _ _ _
      | exact impl_CountSchroder.mono _ _
      | exact spec_CountDelannoy.mono _ _ _
      | exact spec_CountSchroder.mono _ _
      | exact LeO.none _
      | refine LeO.ite ?_ ?_
      | refine LeO.bind ?_ (fun _ => ?_)
    · intro y0 y1 y2 y3 y4
      unfold laws_FnGridsCounted.j1
      repeat' first
      | (with_reducible exact ih0 _ _ _ _ _ _)
      | (with_reducible exact ih1 _)
      | (with_reducible exact ih2 _ _ _ _)
      | (with_reducible exact ih3 _ _ _)
      | (with_reducible exact ih4 _ _ _ _ _)
      | (with_reducible exact ih5 _ _ _ _ _)
      | (with_reducible exact impl_CountDelannoy.mono _ _ _)
      | (with_reducible exact impl_CountSchroder.mono _ _)
      | (with_reducible exact spec_CountDelannoy.mono _ _ _)
      | (with_reducible exact spec_CountSchroder.mono _ _)
      | (with_reducible exact LeO.refl _)
      | (with_reducible exact LeO.none _)
      | (with_reducible refine LeO.ite ?_ ?_)
      | (with_reducible refine LeO.bind ?_ (fun _ => ?_))
      | exact ih0 _ _ _ _ _ _
      | exact ih1 _
      | exact ih2 _ _ _ _
      | exact ih3 _ _ _
      | exact ih4 _ _ _ _ _
      | exact ih5 _ _ _ _ _
      | exact impl_CountDelannoy.mono _ _ _
      | exact impl_CountSchroder.mono _ _
      | exact spec_CountDelannoy.mono _ _ _
      | exact spec_CountSchroder.mono _ _
      | exact LeO.none _
      | refine LeO.ite ?_ ?_
      | refine LeO.bind ?_ (fun _ => ?_)
    · intro y0 y1 y2 y3 y4
      unfold laws_FnGridsCounted.j2
      repeat' first
      | (with_reducible exact ih0 _ _ _ _ _ _)
      | (with_reducible exact ih1 _)
      | (with_reducible exact ih2 _ _ _ _)
      | (with_reducible exact ih3 _ _ _)
      | (with_reducible exact ih4 _ _ _ _ _)
      | (with_reducible exact ih5 _ _ _ _ _)
      | (with_reducible exact impl_CountDelannoy.mono _ _ _)
      | (with_reducible exact impl_CountSchroder.mono _ _)
      | (with_reducible exact spec_CountDelannoy.mono _ _ _)
      | (with_reducible exact spec_CountSchroder.mono _ _)
      | (with_reducible exact LeO.refl _)
      | (with_reducible exact LeO.none _)
      | (with_reducible refine LeO.ite ?_ ?_)
      | (with_reducible refine LeO.bind ?_ (fun _ => ?_))
      | exact ih0 _ _ _ _ _ _
      | exact ih1 _
      | exact ih2 _ _ _ _
      | exact ih3 _ _ _
      | exact ih4 _ _ _ _ _
      | exact ih5 _ _ _ _ _
      | exact impl_CountDelannoy.mono _ _ _
      | exact impl_CountSchroder.mono _ _
      | exact spec_CountDelannoy.mono _ _ _
      | exact spec_CountSchroder.mono _ _
      | exact LeO.none _
      | refine LeO.ite ?_ ?_
      | refine LeO.bind ?_ (fun _ => ?_)
theorem laws_FnGridsCounted.mono : ∀ a0 a1 k, LeO (laws_FnGridsCounted.f k a0 a1) (laws_FnGridsCounted.f (k + 1) a0 a1) := by
  intro a0 a1 k
  obtain ⟨ih0, ih1, ih2, ih3, ih4, ih5⟩ := laws_FnGridsCounted.mono_l k
  unfold laws_FnGridsCounted.f
  repeat' first
      | (with_reducible exact ih0 _ _ _ _ _ _)
      | (with_reducible exact ih1 _)
      | (with_reducible exact ih2 _ _ _ _)
      | (with_reducible exact ih3 _ _ _)
      | (with_reducible exact ih4 _ _ _ _ _)
      | (with_reducible exact ih5 _ _ _ _ _)
      | (with_reducible exact impl_CountDelannoy.mono _ _ _)
      | (with_reducible exact impl_CountSchroder.mono _ _)
      | (with_reducible exact spec_CountDelannoy.mono _ _ _)
      | (with_reducible exact spec_CountSchroder.mono _ _)
      | (with_reducible exact LeO.refl _)
      | (with_reducible exact LeO.none _)
      | (with_reducible refine LeO.ite ?_ ?_)
      | (with_reducible refine LeO.bind ?_ (fun _ => ?_))
      | exact ih0 _ _ _ _ _ _
      | exact ih1 _
      | exact ih2 _ _ _ _
      | exact ih3 _ _ _
      | exact ih4 _ _ _ _ _
      | exact ih5 _ _ _ _ _
      | exact impl_CountDelannoy.mono _ _ _
      | exact impl_CountSchroder.mono _ _
      | exact spec_CountDelannoy.mono _ _ _
      | exact spec_CountSchroder.mono _ _
      | exact LeO.none _
      | refine LeO.ite ?_ ?_
      | refine LeO.bind ?_ (fun _ => ?_)
set_option maxHeartbeats 8000000 in
set_option maxRecDepth 100000 in
theorem laws_FnGridsCounted.calls (k : Nat) (A0 : Option Addr) (c0 : Nat) (l0 : List Int) (A1 : Option Addr) (c1 : Nat) (l1 : List Int) (r : Bool) (w : World) (hr0 : Kd.C (Kd.int .u8) w A0 l0.length l0) (hc0 : l0.length ≤ c0) (hr1 : Kd.C (Kd.int .u8) w A1 l1.length l1) (hc1 : l1.length ≤ c1) (h : laws_FnGridsCounted.f k l0 l1 = some r) :
    Calls Try.prog 5 #[.slice A0 l0.length c0, .slice A1 l1.length c1] w fun e w' => e = .returned (.bool r) ∧ Below w.heap.size w w' := by
  have HR0 := Aside0.mk hr0
  have HC0 := Aside0.mk hc0
  clear hr0 hc0
  have HR1 := Aside0.mk hr1
  have HC1 := Aside0.mk hc1
  clear hr1 hc1
  have HB := Aside0.mk (Below.refl w.heap.size w)
  have H : ((laws_big.f l0 l1).bind fun t153 => (if t153 = true then (some true) else ((spec_DrawCountDelannoy.f l0).bind fun bt154 => ((impl_CountDelannoy.f k bt154.1 bt154.2).bind fun bt156 => ((spec_CountDelannoy.f k bt154.1 bt154.2).bind fun bt158 => (if (bt156.2 != bt158.2) = true then (laws_FnGridsCounted.j0 k l1 bt154.1 bt154.2 bt156.1 bt156.2 true) else (laws_FnGridsCounted.j0 k l1 bt154.1 bt154.2 bt156.1 bt156.2 (bt156.1 != bt158.1)))))))) = some r := h
  clear h
  replace H := Option.bind_eq_some_iff.mp H
  obtain ⟨t153, A30, H⟩ := H
  replace H : (if t153 = true then (some true) else ((spec_DrawCountDelannoy.f l0).bind fun bt154 => ((impl_CountDelannoy.f k bt154.1 bt154.2).bind fun bt156 => ((spec_CountDelannoy.f k bt154.1 bt154.2).bind fun bt158 => (if (bt156.2 != bt158.2) = true then (laws_FnGridsCounted.j0 k l1 bt154.1 bt154.2 bt156.1 bt156.2 true) else (laws_FnGridsCounted.j0 k l1 bt154.1 bt154.2 bt156.1 bt156.2 (bt156.1 != bt158.1))))))) = some r := H
  have A3 := Aside0.mk A30
  clear A30
  by_cases c4 : t153 = true
  · subst c4
    have H1 : (some true) = some r := by rw [if_pos rfl] at H; exact H
    clear H
    have H := H1
    clear H1
    obtain rfl := Option.some.inj H
    go_enter Try.func5, Try.ntmps5
    go_wp2_with (first | ((with_reducible refine gate_callee (f := 12) rfl ?_); refine goesL_ (some 32) rfl rfl Try.func12 (by kernel_rfl) rfl #[.slice A0 l0.length c0, .slice A1 l1.length c1] rfl (by (try simp only [List.map_toArray, List.map_cons, List.map_nil]); first | done | rfl | (simp only [List.length_drop, List.length_take]; rfl)) ?_; (with_reducible refine (laws_big.calls _ _ l0 _ _ l1 true _ ?side1 ?side2 ?side3 ?side4 A3.out).mono ?_); (case side1 => repeat (first | exact HR0.out | (with_reducible refine Kd.C_alloc ?_ _) | (with_reducible refine Kd.C_drewN ?_ _) | (with_reducible refine Kd.C_drew ?_))); (case side2 => exact HC0.out); (case side3 => repeat (first | exact HR1.out | (with_reducible refine Kd.C_alloc ?_ _) | (with_reducible refine Kd.C_drewN ?_ _) | (with_reducible refine Kd.C_drew ?_))); (case side4 => exact HC1.out); rintro e w' ⟨rfl, ⟨nd, rfl⟩⟩; refine ⟨_, rfl, ?_⟩))
    go_ret
    exact ⟨by first | rfl | (simp [errW_none, errW_some] <;> rfl) | (simp [*, errW_none, errW_some] <;> rfl), by repeat (first | (with_reducible first | exact HB.out | apply below_alloc | apply pw_below_drewN | apply below_drew1) | exact HB.out)⟩
  · replace c4 := Bool.eq_false_iff.mpr c4
    subst c4
    have H1 : ((spec_DrawCountDelannoy.f l0).bind fun bt154 => ((impl_CountDelannoy.f k bt154.1 bt154.2).bind fun bt156 => ((spec_CountDelannoy.f k bt154.1 bt154.2).bind fun bt158 => (if (bt156.2 != bt158.2) = true then (laws_FnGridsCounted.j0 k l1 bt154.1 bt154.2 bt156.1 bt156.2 true) else (laws_FnGridsCounted.j0 k l1 bt154.1 bt154.2 bt156.1 bt156.2 (bt156.1 != bt158.1)))))) = some r := by rw [if_neg (show ¬ (false = true) by decide)] at H; exact H
    clear H
    have H := H1
    clear H1
    replace H := Option.bind_eq_some_iff.mp H
    obtain ⟨⟨t154, t155⟩, A50, H⟩ := H
    replace H : ((impl_CountDelannoy.f k t154 t155).bind fun bt156 => ((spec_CountDelannoy.f k t154 t155).bind fun bt158 => (if (bt156.2 != bt158.2) = true then (laws_FnGridsCounted.j0 k l1 t154 t155 bt156.1 bt156.2 true) else (laws_FnGridsCounted.j0 k l1 t154 t155 bt156.1 bt156.2 (bt156.1 != bt158.1))))) = some r := H
    have A5 := Aside0.mk A50
    clear A50
    replace H := Option.bind_eq_some_iff.mp H
    obtain ⟨⟨t156, t157⟩, A60, H⟩ := H
    replace H : ((spec_CountDelannoy.f k t154 t155).bind fun bt158 => (if (t157 != bt158.2) = true then (laws_FnGridsCounted.j0 k l1 t154 t155 t156 t157 true) else (laws_FnGridsCounted.j0 k l1 t154 t155 t156 t157 (t156 != bt158.1)))) = some r := H
    have A6 := Aside0.mk A60
    clear A60
    replace H := Option.bind_eq_some_iff.mp H
    obtain ⟨⟨t158, t159⟩, A70, H⟩ := H
    replace H : (if (t157 != t159) = true then (laws_FnGridsCounted.j0 k l1 t154 t155 t156 t157 true) else (laws_FnGridsCounted.j0 k l1 t154 t155 t156 t157 (t156 != t158))) = some r := H
    have A7 := Aside0.mk A70
    clear A70
    have HC8 := Aside0.mk H
    clear H
    go_enter Try.func5, Try.ntmps5
    go_upto_region 6 with (first | ((with_reducible refine gate_callee (f := 12) rfl ?_); refine goesL_ (some 32) rfl rfl Try.func12 (by kernel_rfl) rfl #[.slice A0 l0.length c0, .slice A1 l1.length c1] rfl (by (try simp only [List.map_toArray, List.map_cons, List.map_nil]); first | done | rfl | (simp only [List.length_drop, List.length_take]; rfl)) ?_; (with_reducible refine (laws_big.calls _ _ l0 _ _ l1 false _ ?side1 ?side2 ?side3 ?side4 A3.out).mono ?_); (case side1 => repeat (first | exact HR0.out | (with_reducible refine Kd.C_alloc ?_ _) | (with_reducible refine Kd.C_drewN ?_ _) | (with_reducible refine Kd.C_drew ?_))); (case side2 => exact HC0.out); (case side3 => repeat (first | exact HR1.out | (with_reducible refine Kd.C_alloc ?_ _) | (with_reducible refine Kd.C_drewN ?_ _) | (with_reducible refine Kd.C_drew ?_))); (case side4 => exact HC1.out); rintro e w' ⟨rfl, ⟨nd, rfl⟩⟩; refine ⟨_, rfl, ?_⟩) | ((with_reducible refine gate_callee (f := 13) rfl ?_); refine goesL_ (some 35) rfl rfl Try.func13 (by kernel_rfl) rfl #[.slice A0 l0.length c0] rfl (by (try simp only [List.map_toArray, List.map_cons, List.map_nil]); first | done | rfl | (simp only [List.length_drop, List.length_take]; rfl)) ?_; (with_reducible refine (spec_DrawCountDelannoy.calls _ _ l0 t154 t155 _ ?side1 ?side2 A5.out).mono ?_); (case side1 => repeat (first | exact HR0.out | (with_reducible refine Kd.C_alloc ?_ _) | (with_reducible refine Kd.C_drewN ?_ _) | (with_reducible refine Kd.C_drew ?_))); (case side2 => exact HC0.out); rintro e w9 ⟨rfl, hb⟩; refine ⟨_, rfl, ?_⟩; have n0_ := Aside0.mk (below_step (by repeat (first | (with_reducible first | exact HB.out | apply below_alloc | apply pw_below_drewN | apply below_drew1) | exact HB.out)) hb); clear HB; have HB := n0_; clear n0_; (try clear hb); (try clear hb2); (try clear hk); (try clear hi)) | ((with_reducible refine gate_callee (f := 9) rfl ?_); refine goesL_ (some 41) rfl rfl Try.func9 (by kernel_rfl) rfl #[.int .i64 t154, .int .i64 t155] rfl (by (try simp only [List.map_toArray, List.map_cons, List.map_nil]); first | done | rfl | (simp only [List.length_drop, List.length_take]; rfl)) ?_; (with_reducible refine (impl_CountDelannoy.calls k t154 t155 t156 t157 _ A6.out).mono ?_); rintro e w10 ⟨rfl, hb⟩; refine ⟨_, rfl, ?_⟩; have n0_ := Aside0.mk (below_step (by repeat (first | (with_reducible first | exact HB.out | apply below_alloc | apply pw_below_drewN | apply below_drew1) | exact HB.out)) hb); clear HB; have HB := n0_; clear n0_; (try clear hb); (try clear hb2); (try clear hk); (try clear hi)) | ((with_reducible refine gate_callee (f := 8) rfl ?_); refine goesL_ (some 47) rfl rfl Try.func8 (by kernel_rfl) rfl #[.int .i64 t154, .int .i64 t155] rfl (by (try simp only [List.map_toArray, List.map_cons, List.map_nil]); first | done | rfl | (simp only [List.length_drop, List.length_take]; rfl)) ?_; (with_reducible refine (spec_CountDelannoy.calls k t154 t155 t158 t159 _ A7.out).mono ?_); rintro e w11 ⟨rfl, hb⟩; refine ⟨_, rfl, ?_⟩; have n0_ := Aside0.mk (below_step (by repeat (first | (with_reducible first | exact HB.out | apply below_alloc | apply pw_below_drewN | apply below_drew1) | exact HB.out)) hb); clear HB; have HB := n0_; clear n0_; (try clear hb); (try clear hb2); (try clear hk); (try clear hi)))
    (try simp only [Act.put, List.setIfInBounds_toArray, List.set_cons_zero, List.set_cons_succ])
    go_cut [57] (fun v57 wc => ∃ (kq : Nat) (x57_7 : Bool), v57 = .bool x57_7 ∧ Aside0 (laws_FnGridsCounted.j0 kq l1 t154 t155 t156 t157 x57_7 = some r) ∧ Aside0 (kq ≤ k) ∧ Aside0 (Below w.heap.size w wc))
    case first => as_aux_lemma =>
      have H := HC8.out
      clear HC8
      by_cases c12 : (t157 != t159) = true
      · rw [if_pos c12] at H
        have c12b0 : (t157 != t159) = true := c12
        (try (have c12b1 : decide (t157 = t159) = false := by simpa using c12))
        (try (have c12b2 : (t157 == t159) = false := by simpa using c12))
        (try (have c12b3 : ¬ (t157 = t159) := by simpa using c12))
        clear c12
        (first | rw [c12b0] | (simp only [i64_w, i32_w]; rw [c12b0]) | skip)
        have H' := Aside0.mk H
        clear H
        go_wp2
        go_meet
        case rel => exact ⟨_, (true), (by first | rfl | (simp; done) | (simp [*]; done) | (simp only [i64_w]; done)), H', ⟨by first | omega | exact Nat.le_refl _⟩, ⟨by repeat (first | (with_reducible first | exact HB.out | apply below_alloc | apply pw_below_drewN | apply below_drew1) | exact HB.out)⟩⟩
      · rw [if_neg c12] at H
        have c12b0 : (t157 != t159) = false := by simpa using c12
        (try (have c12b1 : decide (t157 = t159) = true := by simpa using c12))
        (try (have c12b2 : (t157 == t159) = true := by simpa using c12))
        clear c12
        (first | rw [c12b0] | (simp only [i64_w, i32_w]; rw [c12b0]) | skip)
        have H' := Aside0.mk H
        clear H
        go_wp2
        go_meet
        case rel => exact ⟨_, ((t156 != t158)), (by first | rfl | (simp; done) | (simp [*]; done) | (simp only [i64_w]; done)), H', ⟨by first | omega | exact Nat.le_refl _⟩, ⟨by repeat (first | (with_reducible first | exact HB.out | apply below_alloc | apply pw_below_drewN | apply below_drew1) | exact HB.out)⟩⟩
    case rest => as_aux_lemma =>
      clear HC8
      try clear c1
      try clear p2
      try clear c4
      try clear c5
      try clear c8
      try clear c9
      try clear c12
      try clear c12b0
      try clear c12b1
      try clear c12b2
      obtain ⟨kq, x57_7, rfl, HA, HJ7, HB⟩ := hcut
      cases kq with
      | zero => exact absurd HA.out (by simp [laws_FnGridsCounted.j0])
      | succ kj7 =>
        have H := HA.out
        clear HA
        simp only [laws_FnGridsCounted.j0] at H
        by_cases c13 : x57_7 = true
        · subst c13
          have H1 : (none) = some r := by rw [if_pos rfl] at H; exact H
          clear H
          have H := H1
          clear H1
          exact absurd H (by simp)
        · replace c13 := Bool.eq_false_iff.mpr c13
          subst c13
          have H1 : (if t157 = true then ((impl_CountDelannoy.f kj7 t155 t154).bind fun bt160 => (if bt160.2 = true then (if bt160.1 = t156 then (if (wrap64 (t154 * t155)) = 0 then (laws_FnGridsCounted.j1 kj7 l1 t154 t155 t156 (t156 != 1)) else (laws_FnGridsCounted.j1 kj7 l1 t154 t155 t156 false)) else (laws_FnGridsCounted.j1 kj7 l1 t154 t155 t156 true)) else (laws_FnGridsCounted.j1 kj7 l1 t154 t155 t156 true))) else (laws_FnGridsCounted.j3 kj7 l1)) = some r := by rw [if_neg (show ¬ (false = true) by decide)] at H; exact H
          clear H
          have H := H1
          clear H1
          have HC14 := Aside0.mk H
          clear H
          go_upto_if 58 with (fail)
          go_cut [] (fun wc => ∃ (kq : Nat), Aside0 (laws_FnGridsCounted.j3 kq l1 = some r) ∧ Aside0 (kq ≤ kj7) ∧ Aside0 (Below w.heap.size w wc))
          case first => as_aux_lemma =>
            have H := HC14.out
            clear HC14
            by_cases c15 : t157 = true
            · subst c15
              have H1 : ((impl_CountDelannoy.f kj7 t155 t154).bind fun bt160 => (if bt160.2 = true then (if bt160.1 = t156 then (if (wrap64 (t154 * t155)) = 0 then (laws_FnGridsCounted.j1 kj7 l1 t154 t155 t156 (t156 != 1)) else (laws_FnGridsCounted.j1 kj7 l1 t154 t155 t156 false)) else (laws_FnGridsCounted.j1 kj7 l1 t154 t155 t156 true)) else (laws_FnGridsCounted.j1 kj7 l1 t154 t155 t156 true))) = some r := by rw [if_pos rfl] at H; exact H
              clear H
              have H := H1
              clear H1
              replace H := Option.bind_eq_some_iff.mp H
              obtain ⟨⟨t160, t161⟩, A160, H⟩ := H
              replace H : (if t161 = true then (if t160 = t156 then (if (wrap64 (t154 * t155)) = 0 then (laws_FnGridsCounted.j1 kj7 l1 t154 t155 t156 (t156 != 1)) else (laws_FnGridsCounted.j1 kj7 l1 t154 t155 t156 false)) else (laws_FnGridsCounted.j1 kj7 l1 t154 t155 t156 true)) else (laws_FnGridsCounted.j1 kj7 l1 t154 t155 t156 true)) = some r := H
              have A16 := Aside0.mk A160
              clear A160
              have HC17 := Aside0.mk H
              clear H
              go_upto_region 10 with (first | ((with_reducible refine gate_callee (f := 9) rfl ?_); refine goesL_ (some 62) rfl rfl Try.func9 (by kernel_rfl) rfl #[.int .i64 t155, .int .i64 t154] rfl (by (try simp only [List.map_toArray, List.map_cons, List.map_nil]); first | done | rfl | (simp only [List.length_drop, List.length_take]; rfl)) ?_; (with_reducible refine (impl_CountDelannoy.calls kj7 t155 t154 t160 t161 _ A16.out).mono ?_); rintro e w18 ⟨rfl, hb⟩; refine ⟨_, rfl, ?_⟩; have n0_ := Aside0.mk (below_step (by repeat (first | (with_reducible first | exact HB.out | apply below_alloc | apply pw_below_drewN | apply below_drew1) | exact HB.out)) hb); clear HB; have HB := n0_; clear n0_; (try clear hb); (try clear hb2); (try clear hk); (try clear hi)))
              (try simp only [Act.put, List.setIfInBounds_toArray, List.set_cons_zero, List.set_cons_succ])
              go_cut [81] (fun v81 wc => ∃ (kq : Nat) (x81_16 : Bool), v81 = .bool x81_16 ∧ Aside0 (laws_FnGridsCounted.j1 kq l1 t154 t155 t156 x81_16 = some r) ∧ Aside0 (kq ≤ kj7) ∧ Aside0 (Below w.heap.size w wc))
              case first => as_aux_lemma =>
                have H := HC17.out
                clear HC17
                by_cases c19 : t161 = true
                · subst c19
                  have H1 : (if t160 = t156 then (if (wrap64 (t154 * t155)) = 0 then (laws_FnGridsCounted.j1 kj7 l1 t154 t155 t156 (t156 != 1)) else (laws_FnGridsCounted.j1 kj7 l1 t154 t155 t156 false)) else (laws_FnGridsCounted.j1 kj7 l1 t154 t155 t156 true)) = some r := by rw [if_pos rfl] at H; exact H
                  clear H
                  have H := H1
                  clear H1
                  by_cases c20 : t160 = t156
                  · rw [if_pos c20] at H
                    have c20b0 : (t160 == t156) = true := beq_iff_eq.mpr c20
                    have c20b1 : (t160 != t156) = false := bne_eq_false_iff_eq.mpr c20
                    clear c20
                    (first | rw [c20b0] | (simp only [i64_w, i32_w]; rw [c20b0]) | skip)
                    by_cases c21 : (wrap64 (t154 * t155)) = 0
                    · rw [if_pos c21] at H
                      have c21b0 : ((wrap64 (t154 * t155)) == 0) = true := beq_iff_eq.mpr c21
                      have c21b1 : ((wrap64 (t154 * t155)) != 0) = false := bne_eq_false_iff_eq.mpr c21
                      clear c21
                      have H' := Aside0.mk H
                      clear H
                      go_wp2
                      go_meet
                      case rel => exact ⟨_, ((t156 != 1)), (by first | rfl | (simp; done) | (simp [*]; done) | (simp only [i64_w]; done)), H', ⟨by have := HJ7.out; first | omega | exact Nat.le_refl _⟩, ⟨by repeat (first | (with_reducible first | exact HB.out | apply below_alloc | apply pw_below_drewN | apply below_drew1) | exact HB.out)⟩⟩
                    · rw [if_neg c21] at H
                      have c21b0 : ((wrap64 (t154 * t155)) == 0) = false := beq_eq_false_iff_ne.mpr c21
                      have c21b1 : ((wrap64 (t154 * t155)) != 0) = true := bne_iff_ne.mpr c21
                      try clear c21
                      have H' := Aside0.mk H
                      clear H
                      go_wp2
                      go_meet
                      case rel => exact ⟨_, (false), (by first | rfl | (simp; done) | (simp [*]; done) | (simp only [i64_w]; done)), H', ⟨by have := HJ7.out; first | omega | exact Nat.le_refl _⟩, ⟨by repeat (first | (with_reducible first | exact HB.out | apply below_alloc | apply pw_below_drewN | apply below_drew1) | exact HB.out)⟩⟩
                  · rw [if_neg c20] at H
                    have c20b0 : (t160 == t156) = false := beq_eq_false_iff_ne.mpr c20
                    have c20b1 : (t160 != t156) = true := bne_iff_ne.mpr c20
                    (first | rw [c20b0] | (simp only [i64_w, i32_w]; rw [c20b0]) | skip)
                    have H' := Aside0.mk H
                    clear H
                    go_wp2
                    go_meet
                    case rel => exact ⟨_, (true), (by first | rfl | (simp; done) | (simp [*]; done) | (simp only [i64_w]; done)), H', ⟨by have := HJ7.out; first | omega | exact Nat.le_refl _⟩, ⟨by repeat (first | (with_reducible first | exact HB.out | apply below_alloc | apply pw_below_drewN | apply below_drew1) | exact HB.out)⟩⟩
                · replace c19 := Bool.eq_false_iff.mpr c19
                  subst c19
                  have H1 : (laws_FnGridsCounted.j1 kj7 l1 t154 t155 t156 true) = some r := by rw [if_neg (show ¬ (false = true) by decide)] at H; exact H
                  clear H
                  have H := H1
                  clear H1
                  have H' := Aside0.mk H
                  clear H
                  go_wp2
                  go_meet
                  case rel => exact ⟨_, (true), (by first | rfl | (simp; done) | (simp [*]; done) | (simp only [i64_w]; done)), H', ⟨by have := HJ7.out; first | omega | exact Nat.le_refl _⟩, ⟨by repeat (first | (with_reducible first | exact HB.out | apply below_alloc | apply pw_below_drewN | apply below_drew1) | exact HB.out)⟩⟩
              case rest => as_aux_lemma =>
                clear HC17
                try clear c1
                try clear c2
                try clear p2
                try clear c4
                try clear c5
                try clear p6
                try clear c8
                try clear c9
                try clear c12
                try clear c12b0
                try clear c12b1
                try clear c12b2
                try clear c13
                try clear c15
                try clear c19
                try clear c20
                try clear c20b0
                try clear c20b1
                try clear c21
                try clear c21b0
                try clear c21b1
                try clear p2
                obtain ⟨kq, x81_16, rfl, HA, HJ16, HB⟩ := hcut
                cases kq with
                | zero => exact absurd HA.out (by simp [laws_FnGridsCounted.j1])
                | succ kj16 =>
                  have H := HA.out
                  clear HA
                  simp only [laws_FnGridsCounted.j1] at H
                  by_cases c22 : x81_16 = true
                  · subst c22
                    have H1 : (none) = some r := by rw [if_pos rfl] at H; exact H
                    clear H
                    have H := H1
                    clear H1
                    exact absurd H (by simp)
                  · replace c22 := Bool.eq_false_iff.mpr c22
                    subst c22
                    have H1 : (if t154 > 0 then (laws_FnGridsCounted.j2 kj16 l1 t154 t155 t156 (decide (t155 > 0))) else (laws_FnGridsCounted.j2 kj16 l1 t154 t155 t156 false)) = some r := by rw [if_neg (show ¬ (false = true) by decide)] at H; exact H
                    clear H
                    have H := H1
                    clear H1
                    have HC23 := Aside0.mk H
                    clear H
                    go_upto_region 12 with (fail)
                    go_cut [87] (fun v87 wc => ∃ (kq : Nat) (x87_22 : Bool), v87 = .bool x87_22 ∧ Aside0 (laws_FnGridsCounted.j2 kq l1 t154 t155 t156 x87_22 = some r) ∧ Aside0 (kq ≤ kj16) ∧ Aside0 (Below w.heap.size w wc))
                    case first => as_aux_lemma =>
                      have H := HC23.out
                      clear HC23
                      by_cases c24 : t154 > 0
                      · rw [if_pos c24] at H
                        have c24b0 : decide (0 < t154) = true := decide_eq_true c24
                        clear c24
                        (first | rw [c24b0] | (simp only [i64_w, i32_w]; rw [c24b0]) | skip)
                        have H' := Aside0.mk H
                        clear H
                        go_wp2
                        go_meet
                        case rel => exact ⟨_, (decide (t155 > 0)), (by first | rfl | (simp; done) | (simp [*]; done) | (simp only [i64_w]; done)), H', ⟨by have := HJ7.out; have := HJ16.out; first | omega | exact Nat.le_refl _⟩, ⟨by repeat (first | (with_reducible first | exact HB.out | apply below_alloc | apply pw_below_drewN | apply below_drew1) | exact HB.out)⟩⟩
                      · rw [if_neg c24] at H
                        have c24b0 : decide (0 < t154) = false := decide_eq_false c24
                        clear c24
                        (first | rw [c24b0] | (simp only [i64_w, i32_w]; rw [c24b0]) | skip)
                        have H' := Aside0.mk H
                        clear H
                        go_wp2
                        go_meet
                        case rel => exact ⟨_, (false), (by first | rfl | (simp; done) | (simp [*]; done) | (simp only [i64_w]; done)), H', ⟨by have := HJ7.out; have := HJ16.out; first | omega | exact Nat.le_refl _⟩, ⟨by repeat (first | (with_reducible first | exact HB.out | apply below_alloc | apply pw_below_drewN | apply below_drew1) | exact HB.out)⟩⟩
                    case rest => as_aux_lemma =>
                      clear HC23
                      try clear c1
                      try clear c2
                      try clear p2
                      try clear c4
                      try clear c5
                      try clear p6
                      try clear c8
                      try clear c9
                      try clear c12
                      try clear c12b0
                      try clear c12b1
                      try clear c12b2
                      try clear c13
                      try clear c15
                      try clear c19
                      try clear c20
                      try clear c20b0
                      try clear c20b1
                      try clear c21
                      try clear c21b0
                      try clear c21b1
                      try clear c22
                      try clear c24
                      try clear c24b0
                      try clear p2
                      try clear p6
                      obtain ⟨kq, x87_22, rfl, HA, HJ22, HB⟩ := hcut
                      cases kq with
                      | zero => exact absurd HA.out (by simp [laws_FnGridsCounted.j2])
                      | succ kj22 =>
                        have H := HA.out
                        clear HA
                        simp only [laws_FnGridsCounted.j2] at H
                        by_cases c25 : x87_22 = true
                        · subst c25
                          have H1 : ((impl_CountDelannoy.f kj22 (wrap64 (t154 - 1)) t155).bind fun bt162 => ((impl_CountDelannoy.f kj22 t154 (wrap64 (t155 - 1))).bind fun bt164 => ((impl_CountDelannoy.f kj22 (wrap64 (t154 - 1)) (wrap64 (t155 - 1))).bind fun bt166 => (if bt162.2 = true then (if bt164.2 = true then (if bt166.2 = true then (if (wrap64 ((wrap64 (bt162.1 + bt164.1)) + bt166.1)) = t156 then (laws_FnGridsCounted.j3 kj22 l1) else (none)) else (none)) else (none)) else (none))))) = some r := by rw [if_pos rfl] at H; exact H
                          clear H
                          have H := H1
                          clear H1
                          replace H := Option.bind_eq_some_iff.mp H
                          obtain ⟨⟨t162, t163⟩, A260, H⟩ := H
                          replace H : ((impl_CountDelannoy.f kj22 t154 (wrap64 (t155 - 1))).bind fun bt164 => ((impl_CountDelannoy.f kj22 (wrap64 (t154 - 1)) (wrap64 (t155 - 1))).bind fun bt166 => (if t163 = true then (if bt164.2 = true then (if bt166.2 = true then (if (wrap64 ((wrap64 (t162 + bt164.1)) + bt166.1)) = t156 then (laws_FnGridsCounted.j3 kj22 l1) else (none)) else (none)) else (none)) else (none)))) = some r := H
                          have A26 := Aside0.mk A260
                          clear A260
                          replace H := Option.bind_eq_some_iff.mp H
                          obtain ⟨⟨t164, t165⟩, A270, H⟩ := H
                          replace H : ((impl_CountDelannoy.f kj22 (wrap64 (t154 - 1)) (wrap64 (t155 - 1))).bind fun bt166 => (if t163 = true then (if t165 = true then (if bt166.2 = true then (if (wrap64 ((wrap64 (t162 + t164)) + bt166.1)) = t156 then (laws_FnGridsCounted.j3 kj22 l1) else (none)) else (none)) else (none)) else (none))) = some r := H
                          have A27 := Aside0.mk A270
                          clear A270
                          replace H := Option.bind_eq_some_iff.mp H
                          obtain ⟨⟨t166, t167⟩, A280, H⟩ := H
                          replace H : (if t163 = true then (if t165 = true then (if t167 = true then (if (wrap64 ((wrap64 (t162 + t164)) + t166)) = t156 then (laws_FnGridsCounted.j3 kj22 l1) else (none)) else (none)) else (none)) else (none)) = some r := H
                          have A28 := Aside0.mk A280
                          clear A280
                          by_cases c29 : t163 = true
                          · subst c29
                            have H1 : (if t165 = true then (if t167 = true then (if (wrap64 ((wrap64 (t162 + t164)) + t166)) = t156 then (laws_FnGridsCounted.j3 kj22 l1) else (none)) else (none)) else (none)) = some r := by rw [if_pos rfl] at H; exact H
                            clear H
                            have H := H1
                            clear H1
                            by_cases c30 : t165 = true
                            · subst c30
                              have H1 : (if t167 = true then (if (wrap64 ((wrap64 (t162 + t164)) + t166)) = t156 then (laws_FnGridsCounted.j3 kj22 l1) else (none)) else (none)) = some r := by rw [if_pos rfl] at H; exact H
                              clear H
                              have H := H1
                              clear H1
                              by_cases c31 : t167 = true
                              · subst c31
                                have H1 : (if (wrap64 ((wrap64 (t162 + t164)) + t166)) = t156 then (laws_FnGridsCounted.j3 kj22 l1) else (none)) = some r := by rw [if_pos rfl] at H; exact H
                                clear H
                                have H := H1
                                clear H1
                                by_cases c32 : (wrap64 ((wrap64 (t162 + t164)) + t166)) = t156
                                · rw [if_pos c32] at H
                                  have c32b0 : ((wrap64 ((wrap64 (t162 + t164)) + t166)) == t156) = true := beq_iff_eq.mpr c32
                                  have c32b1 : ((wrap64 ((wrap64 (t162 + t164)) + t166)) != t156) = false := bne_eq_false_iff_eq.mpr c32
                                  clear c32
                                  have H' := Aside0.mk H
                                  clear H
                                  go_wp2_with (first | ((with_reducible refine gate_callee (f := 9) rfl ?_); refine goesL_ (some 92) rfl rfl Try.func9 (by kernel_rfl) rfl #[.int .i64 (wrap64 (t154 - 1)), .int .i64 t155] rfl (by (try simp only [List.map_toArray, List.map_cons, List.map_nil]); first | done | rfl | (simp only [List.length_drop, List.length_take]; rfl)) ?_; (with_reducible refine (impl_CountDelannoy.calls kj22 (wrap64 (t154 - 1)) t155 t162 true _ A26.out).mono ?_); rintro e w33 ⟨rfl, hb⟩; refine ⟨_, rfl, ?_⟩; have n0_ := Aside0.mk (below_step (by repeat (first | (with_reducible first | exact HB.out | apply below_alloc | apply pw_below_drewN | apply below_drew1) | exact HB.out)) hb); clear HB; have HB := n0_; clear n0_; (try clear hb); (try clear hb2); (try clear hk); (try clear hi)) | ((with_reducible refine gate_callee (f := 9) rfl ?_); refine goesL_ (some 99) rfl rfl Try.func9 (by kernel_rfl) rfl #[.int .i64 t154, .int .i64 (wrap64 (t155 - 1))] rfl (by (try simp only [List.map_toArray, List.map_cons, List.map_nil]); first | done | rfl | (simp only [List.length_drop, List.length_take]; rfl)) ?_; (with_reducible refine (impl_CountDelannoy.calls kj22 t154 (wrap64 (t155 - 1)) t164 true _ A27.out).mono ?_); rintro e w34 ⟨rfl, hb⟩; refine ⟨_, rfl, ?_⟩; have n0_ := Aside0.mk (below_step (by repeat (first | (with_reducible first | exact HB.out | apply below_alloc | apply pw_below_drewN | apply below_drew1) | exact HB.out)) hb); clear HB; have HB := n0_; clear n0_; (try clear hb); (try clear hb2); (try clear hk); (try clear hi)) | ((with_reducible refine gate_callee (f := 9) rfl ?_); refine goesL_ (some 107) rfl rfl Try.func9 (by kernel_rfl) rfl #[.int .i64 (wrap64 (t154 - 1)), .int .i64 (wrap64 (t155 - 1))] rfl (by (try simp only [List.map_toArray, List.map_cons, List.map_nil]); first | done | rfl | (simp only [List.length_drop, List.length_take]; rfl)) ?_; (with_reducible refine (impl_CountDelannoy.calls kj22 (wrap64 (t154 - 1)) (wrap64 (t155 - 1)) t166 true _ A28.out).mono ?_); rintro e w35 ⟨rfl, hb⟩; refine ⟨_, rfl, ?_⟩; have n0_ := Aside0.mk (below_step (by repeat (first | (with_reducible first | exact HB.out | apply below_alloc | apply pw_below_drewN | apply below_drew1) | exact HB.out)) hb); clear HB; have HB := n0_; clear n0_; (try clear hb); (try clear hb2); (try clear hk); (try clear hi)))
                                  go_meet
                                  case rel => exact ⟨_, H', ⟨by have := HJ7.out; have := HJ16.out; have := HJ22.out; first | omega | exact Nat.le_refl _⟩, ⟨by repeat (first | (with_reducible first | exact HB.out | apply below_alloc | apply pw_below_drewN | apply below_drew1) | exact HB.out)⟩⟩
                                · rw [if_neg c32] at H
                                  exact absurd H (by simp)
                              · replace c31 := Bool.eq_false_iff.mpr c31
                                subst c31
                                have H1 : (none) = some r := by rw [if_neg (show ¬ (false = true) by decide)] at H; exact H
                                clear H
                                have H := H1
                                clear H1
                                exact absurd H (by simp)
                            · replace c30 := Bool.eq_false_iff.mpr c30
                              subst c30
                              have H1 : (none) = some r := by rw [if_neg (show ¬ (false = true) by decide)] at H; exact H
                              clear H
                              have H := H1
                              clear H1
                              exact absurd H (by simp)
                          · replace c29 := Bool.eq_false_iff.mpr c29
                            subst c29
                            have H1 : (none) = some r := by rw [if_neg (show ¬ (false = true) by decide)] at H; exact H
                            clear H
                            have H := H1
                            clear H1
                            exact absurd H (by simp)
                        · replace c25 := Bool.eq_false_iff.mpr c25
                          subst c25
                          have H1 : (laws_FnGridsCounted.j3 kj22 l1) = some r := by rw [if_neg (show ¬ (false = true) by decide)] at H; exact H
                          clear H
                          have H := H1
                          clear H1
                          have H' := Aside0.mk H
                          clear H
                          go_wp2
                          go_meet
                          case rel => exact ⟨_, H', ⟨by have := HJ7.out; have := HJ16.out; have := HJ22.out; first | omega | exact Nat.le_refl _⟩, ⟨by repeat (first | (with_reducible first | exact HB.out | apply below_alloc | apply pw_below_drewN | apply below_drew1) | exact HB.out)⟩⟩
            · replace c15 := Bool.eq_false_iff.mpr c15
              subst c15
              have H1 : (laws_FnGridsCounted.j3 kj7 l1) = some r := by rw [if_neg (show ¬ (false = true) by decide)] at H; exact H
              clear H
              have H := H1
              clear H1
              have H' := Aside0.mk H
              clear H
              go_wp2
              go_meet
              case rel => exact ⟨_, H', ⟨by have := HJ7.out; first | omega | exact Nat.le_refl _⟩, ⟨by repeat (first | (with_reducible first | exact HB.out | apply below_alloc | apply pw_below_drewN | apply below_drew1) | exact HB.out)⟩⟩
          case rest => as_aux_lemma =>
            clear HC14
            try clear c1
            try clear c2
            try clear p2
            try clear c3
            try clear c4
            try clear c5
            try clear p6
            try clear c8
            try clear c9
            try clear c12
            try clear c12b0
            try clear c12b1
            try clear c12b2
            try clear c13
            try clear c15
            try clear c19
            try clear c20
            try clear c20b0
            try clear c20b1
            try clear c21
            try clear c21b0
            try clear c21b1
            try clear c22
            try clear c24
            try clear c24b0
            try clear c25
            try clear c29
            try clear c30
            try clear c31
            try clear c32
            try clear c32b0
            try clear c32b1
            try clear p2
            try clear p6
            obtain ⟨kq, HA, HJ13, HB⟩ := hcut
            cases kq with
            | zero => exact absurd HA.out (by simp [laws_FnGridsCounted.j3])
            | succ kj13 =>
              have H := HA.out
              clear HA
              simp only [laws_FnGridsCounted.j3] at H
              replace H := Option.bind_eq_some_iff.mp H
              obtain ⟨t168, A360, H⟩ := H
              replace H : ((impl_CountSchroder.f kj13 t168).bind fun bt169 => ((spec_CountSchroder.f kj13 t168).bind fun bt171 => (if (bt169.2 != bt171.2) = true then (laws_FnGridsCounted.j4 kj13 t168 bt169.1 bt169.2 true) else (laws_FnGridsCounted.j4 kj13 t168 bt169.1 bt169.2 (bt169.1 != bt171.1))))) = some r := H
              have A36 := Aside0.mk A360
              clear A360
              replace H := Option.bind_eq_some_iff.mp H
              obtain ⟨⟨t169, t170⟩, A370, H⟩ := H
              replace H : ((spec_CountSchroder.f kj13 t168).bind fun bt171 => (if (t170 != bt171.2) = true then (laws_FnGridsCounted.j4 kj13 t168 t169 t170 true) else (laws_FnGridsCounted.j4 kj13 t168 t169 t170 (t169 != bt171.1)))) = some r := H
              have A37 := Aside0.mk A370
              clear A370
              replace H := Option.bind_eq_some_iff.mp H
              obtain ⟨⟨t171, t172⟩, A380, H⟩ := H
              replace H : (if (t170 != t172) = true then (laws_FnGridsCounted.j4 kj13 t168 t169 t170 true) else (laws_FnGridsCounted.j4 kj13 t168 t169 t170 (t169 != t171))) = some r := H
              have A38 := Aside0.mk A380
              clear A380
              have HC39 := Aside0.mk H
              clear H
              go_upto_region 21 with (first | ((with_reducible refine gate_callee (f := 14) rfl ?_); refine goesL_ (some 130) rfl rfl Try.func14 (by kernel_rfl) rfl #[.slice A1 l1.length c1] rfl (by (try simp only [List.map_toArray, List.map_cons, List.map_nil]); first | done | rfl | (simp only [List.length_drop, List.length_take]; rfl)) ?_; (with_reducible refine (spec_DrawCountSchroder.calls _ _ l1 t168 _ ?side1 ?side2 A36.out).mono ?_); (case side1 => repeat (first | exact (Kd.C_below HR1.out HB.out) | (with_reducible refine Kd.C_alloc ?_ _) | (with_reducible refine Kd.C_drewN ?_ _) | (with_reducible refine Kd.C_drew ?_))); (case side2 => exact HC1.out); rintro e w40 ⟨rfl, hb⟩; refine ⟨_, rfl, ?_⟩; have n0_ := Aside0.mk (below_step (by repeat (first | (with_reducible first | exact HB.out | apply below_alloc | apply pw_below_drewN | apply below_drew1) | exact HB.out)) hb); clear HB; have HB := n0_; clear n0_; (try clear hb); (try clear hb2); (try clear hk); (try clear hi)) | ((with_reducible refine gate_callee (f := 11) rfl ?_); refine goesL_ (some 133) rfl rfl Try.func11 (by kernel_rfl) rfl #[.int .i64 t168] rfl (by (try simp only [List.map_toArray, List.map_cons, List.map_nil]); first | done | rfl | (simp only [List.length_drop, List.length_take]; rfl)) ?_; (with_reducible refine (impl_CountSchroder.calls kj13 t168 t169 t170 _ A37.out).mono ?_); rintro e w41 ⟨rfl, hb⟩; refine ⟨_, rfl, ?_⟩; have n0_ := Aside0.mk (below_step (by repeat (first | (with_reducible first | exact HB.out | apply below_alloc | apply pw_below_drewN | apply below_drew1) | exact HB.out)) hb); clear HB; have HB := n0_; clear n0_; (try clear hb); (try clear hb2); (try clear hk); (try clear hi)) | ((with_reducible refine gate_callee (f := 10) rfl ?_); refine goesL_ (some 138) rfl rfl Try.func10 (by kernel_rfl) rfl #[.int .i64 t168] rfl (by (try simp only [List.map_toArray, List.map_cons, List.map_nil]); first | done | rfl | (simp only [List.length_drop, List.length_take]; rfl)) ?_; (with_reducible refine (spec_CountSchroder.calls kj13 t168 t171 t172 _ A38.out).mono ?_); rintro e w42 ⟨rfl, hb⟩; refine ⟨_, rfl, ?_⟩; have n0_ := Aside0.mk (below_step (by repeat (first | (with_reducible first | exact HB.out | apply below_alloc | apply pw_below_drewN | apply below_drew1) | exact HB.out)) hb); clear HB; have HB := n0_; clear n0_; (try clear hb); (try clear hb2); (try clear hk); (try clear hi)))
              (try simp only [Act.put, List.setIfInBounds_toArray, List.set_cons_zero, List.set_cons_succ])
              go_cut [148] (fun v148 wc => ∃ (kq : Nat) (x148_38 : Bool), v148 = .bool x148_38 ∧ Aside0 (laws_FnGridsCounted.j4 kq t168 t169 t170 x148_38 = some r) ∧ Aside0 (kq ≤ kj13) ∧ Aside0 (Below w.heap.size w wc))
              case first => as_aux_lemma =>
                have H := HC39.out
                clear HC39
                by_cases c43 : (t170 != t172) = true
                · rw [if_pos c43] at H
                  have c43b0 : (t170 != t172) = true := c43
                  (try (have c43b1 : decide (t170 = t172) = false := by simpa using c43))
                  (try (have c43b2 : (t170 == t172) = false := by simpa using c43))
                  (try (have c43b3 : ¬ (t170 = t172) := by simpa using c43))
                  clear c43
                  (first | rw [c43b0] | (simp only [i64_w, i32_w]; rw [c43b0]) | skip)
                  have H' := Aside0.mk H
                  clear H
                  go_wp2
                  go_meet
                  case rel => exact ⟨_, (true), (by first | rfl | (simp; done) | (simp [*]; done) | (simp only [i64_w]; done)), H', ⟨by have := HJ7.out; have := HJ13.out; first | omega | exact Nat.le_refl _⟩, ⟨by repeat (first | (with_reducible first | exact HB.out | apply below_alloc | apply pw_below_drewN | apply below_drew1) | exact HB.out)⟩⟩
                · rw [if_neg c43] at H
                  have c43b0 : (t170 != t172) = false := by simpa using c43
                  (try (have c43b1 : decide (t170 = t172) = true := by simpa using c43))
                  (try (have c43b2 : (t170 == t172) = true := by simpa using c43))
                  clear c43
                  (first | rw [c43b0] | (simp only [i64_w, i32_w]; rw [c43b0]) | skip)
                  have H' := Aside0.mk H
                  clear H
                  go_wp2
                  go_meet
                  case rel => exact ⟨_, ((t169 != t171)), (by first | rfl | (simp; done) | (simp [*]; done) | (simp only [i64_w]; done)), H', ⟨by have := HJ7.out; have := HJ13.out; first | omega | exact Nat.le_refl _⟩, ⟨by repeat (first | (with_reducible first | exact HB.out | apply below_alloc | apply pw_below_drewN | apply below_drew1) | exact HB.out)⟩⟩
              case rest => as_aux_lemma =>
                clear HC39
                try clear c1
                try clear c2
                try clear p2
                try clear c3
                try clear c4
                try clear c5
                try clear p6
                try clear c8
                try clear c9
                try clear c10
                try clear c11
                try clear c12
                try clear c12b0
                try clear c12b1
                try clear c12b2
                try clear c13
                try clear c14
                try clear c15
                try clear c19
                try clear c20
                try clear c20b0
                try clear c20b1
                try clear c21
                try clear c21b0
                try clear c21b1
                try clear c22
                try clear c24
                try clear c24b0
                try clear c25
                try clear c29
                try clear c30
                try clear c31
                try clear c32
                try clear c32b0
                try clear c32b1
                try clear c43
                try clear c43b0
                try clear c43b1
                try clear c43b2
                try clear p2
                try clear p6
                obtain ⟨kq, x148_38, rfl, HA, HJ38, HB⟩ := hcut
                cases kq with
                | zero => exact absurd HA.out (by simp [laws_FnGridsCounted.j4])
                | succ kj38 =>
                  have H := HA.out
                  clear HA
                  simp only [laws_FnGridsCounted.j4] at H
                  by_cases c44 : x148_38 = true
                  · subst c44
                    have H1 : (none) = some r := by rw [if_pos rfl] at H; exact H
                    clear H
                    have H := H1
                    clear H1
                    exact absurd H (by simp)
                  · replace c44 := Bool.eq_false_iff.mpr c44
                    subst c44
                    have H1 : (if t170 = true then ((impl_CountDelannoy.f kj38 t168 t168).bind fun bt173 => (if bt173.2 = true then (if t169 > bt173.1 then (laws_FnGridsCounted.j5 kj38 t168 t169 true) else (if t168 > 0 then (laws_FnGridsCounted.j5 kj38 t168 t169 ((Int.tmod t169 2) != 0)) else (laws_FnGridsCounted.j5 kj38 t168 t169 false))) else (laws_FnGridsCounted.j5 kj38 t168 t169 true))) else (some true)) = some r := by rw [if_neg (show ¬ (false = true) by decide)] at H; exact H
                    clear H
                    have H := H1
                    clear H1
                    by_cases c45 : t170 = true
                    · subst c45
                      have H1 : ((impl_CountDelannoy.f kj38 t168 t168).bind fun bt173 => (if bt173.2 = true then (if t169 > bt173.1 then (laws_FnGridsCounted.j5 kj38 t168 t169 true) else (if t168 > 0 then (laws_FnGridsCounted.j5 kj38 t168 t169 ((Int.tmod t169 2) != 0)) else (laws_FnGridsCounted.j5 kj38 t168 t169 false))) else (laws_FnGridsCounted.j5 kj38 t168 t169 true))) = some r := by rw [if_pos rfl] at H; exact H
                      clear H
                      have H := H1
                      clear H1
                      replace H := Option.bind_eq_some_iff.mp H
                      obtain ⟨⟨t173, t174⟩, A460, H⟩ := H
                      replace H : (if t174 = true then (if t169 > t173 then (laws_FnGridsCounted.j5 kj38 t168 t169 true) else (if t168 > 0 then (laws_FnGridsCounted.j5 kj38 t168 t169 ((Int.tmod t169 2) != 0)) else (laws_FnGridsCounted.j5 kj38 t168 t169 false))) else (laws_FnGridsCounted.j5 kj38 t168 t169 true)) = some r := H
                      have A46 := Aside0.mk A460
                      clear A460
                      have HC47 := Aside0.mk H
                      clear H
                      go_upto_region 25 with (first | ((with_reducible refine gate_callee (f := 9) rfl ?_); refine goesL_ (some 153) rfl rfl Try.func9 (by kernel_rfl) rfl #[.int .i64 t168, .int .i64 t168] rfl (by (try simp only [List.map_toArray, List.map_cons, List.map_nil]); first | done | rfl | (simp only [List.length_drop, List.length_take]; rfl)) ?_; (with_reducible refine (impl_CountDelannoy.calls kj38 t168 t168 t173 t174 _ A46.out).mono ?_); rintro e w48 ⟨rfl, hb⟩; refine ⟨_, rfl, ?_⟩; have n0_ := Aside0.mk (below_step (by repeat (first | (with_reducible first | exact HB.out | apply below_alloc | apply pw_below_drewN | apply below_drew1) | exact HB.out)) hb); clear HB; have HB := n0_; clear n0_; (try clear hb); (try clear hb2); (try clear hk); (try clear hi)))
                      (try simp only [Act.put, List.setIfInBounds_toArray, List.set_cons_zero, List.set_cons_succ])
                      go_cut [171] (fun v171 wc => ∃ (kq : Nat) (x171_46 : Bool), v171 = .bool x171_46 ∧ Aside0 (laws_FnGridsCounted.j5 kq t168 t169 x171_46 = some r) ∧ Aside0 (kq ≤ kj38) ∧ Aside0 (Below w.heap.size w wc))
                      case first => as_aux_lemma =>
                        have H := HC47.out
                        clear HC47
                        by_cases c49 : t174 = true
                        · subst c49
                          have H1 : (if t169 > t173 then (laws_FnGridsCounted.j5 kj38 t168 t169 true) else (if t168 > 0 then (laws_FnGridsCounted.j5 kj38 t168 t169 ((Int.tmod t169 2) != 0)) else (laws_FnGridsCounted.j5 kj38 t168 t169 false))) = some r := by rw [if_pos rfl] at H; exact H
                          clear H
                          have H := H1
                          clear H1
                          by_cases c50 : t169 > t173
                          · rw [if_pos c50] at H
                            have c50b0 : decide (t173 < t169) = true := decide_eq_true c50
                            clear c50
                            (first | rw [c50b0] | (simp only [i64_w, i32_w]; rw [c50b0]) | skip)
                            have H' := Aside0.mk H
                            clear H
                            go_wp2
                            go_meet
                            case rel => exact ⟨_, (true), (by first | rfl | (simp; done) | (simp [*]; done) | (simp only [i64_w]; done)), H', ⟨by have := HJ7.out; have := HJ13.out; have := HJ38.out; first | omega | exact Nat.le_refl _⟩, ⟨by repeat (first | (with_reducible first | exact HB.out | apply below_alloc | apply pw_below_drewN | apply below_drew1) | exact HB.out)⟩⟩
                          · rw [if_neg c50] at H
                            have c50b0 : decide (t173 < t169) = false := decide_eq_false c50
                            clear c50
                            (first | rw [c50b0] | (simp only [i64_w, i32_w]; rw [c50b0]) | skip)
                            by_cases c51 : t168 > 0
                            · rw [if_pos c51] at H
                              have c51b0 : decide (0 < t168) = true := decide_eq_true c51
                              clear c51
                              have H' := Aside0.mk H
                              clear H
                              go_wp2
                              go_meet
                              case rel => exact ⟨_, (((Int.tmod t169 2) != 0)), (by first | rfl | (simp; done) | (simp [*]; done) | (simp only [i64_w]; done)), H', ⟨by have := HJ7.out; have := HJ13.out; have := HJ38.out; first | omega | exact Nat.le_refl _⟩, ⟨by repeat (first | (with_reducible first | exact HB.out | apply below_alloc | apply pw_below_drewN | apply below_drew1) | exact HB.out)⟩⟩
                            · rw [if_neg c51] at H
                              have c51b0 : decide (0 < t168) = false := decide_eq_false c51
                              clear c51
                              have H' := Aside0.mk H
                              clear H
                              go_wp2
                              go_meet
                              case rel => exact ⟨_, (false), (by first | rfl | (simp; done) | (simp [*]; done) | (simp only [i64_w]; done)), H', ⟨by have := HJ7.out; have := HJ13.out; have := HJ38.out; first | omega | exact Nat.le_refl _⟩, ⟨by repeat (first | (with_reducible first | exact HB.out | apply below_alloc | apply pw_below_drewN | apply below_drew1) | exact HB.out)⟩⟩
                        · replace c49 := Bool.eq_false_iff.mpr c49
                          subst c49
                          have H1 : (laws_FnGridsCounted.j5 kj38 t168 t169 true) = some r := by rw [if_neg (show ¬ (false = true) by decide)] at H; exact H
                          clear H
                          have H := H1
                          clear H1
                          have H' := Aside0.mk H
                          clear H
                          go_wp2
                          go_meet
                          case rel => exact ⟨_, (true), (by first | rfl | (simp; done) | (simp [*]; done) | (simp only [i64_w]; done)), H', ⟨by have := HJ7.out; have := HJ13.out; have := HJ38.out; first | omega | exact Nat.le_refl _⟩, ⟨by repeat (first | (with_reducible first | exact HB.out | apply below_alloc | apply pw_below_drewN | apply below_drew1) | exact HB.out)⟩⟩
                      case rest => as_aux_lemma =>
                        clear HC47
                        try clear c1
                        try clear c2
                        try clear p2
                        try clear c3
                        try clear c4
                        try clear c5
                        try clear p6
                        try clear c8
                        try clear c9
                        try clear c10
                        try clear c11
                        try clear c12
                        try clear c12b0
                        try clear c12b1
                        try clear c12b2
                        try clear c13
                        try clear c14
                        try clear c15
                        try clear c19
                        try clear c20
                        try clear c20b0
                        try clear c20b1
                        try clear c21
                        try clear c21b0
                        try clear c21b1
                        try clear c22
                        try clear c24
                        try clear c24b0
                        try clear c25
                        try clear c29
                        try clear c30
                        try clear c31
                        try clear c32
                        try clear c32b0
                        try clear c32b1
                        try clear c43
                        try clear c43b0
                        try clear c43b1
                        try clear c43b2
                        try clear c44
                        try clear c45
                        try clear c49
                        try clear c50
                        try clear c50b0
                        try clear c51
                        try clear c51b0
                        try clear p2
                        try clear p6
                        obtain ⟨kq, x171_46, rfl, HA, HJ46, HB⟩ := hcut
                        cases kq with
                        | zero => exact absurd HA.out (by simp [laws_FnGridsCounted.j5])
                        | succ kj46 =>
                          have H := HA.out
                          clear HA
                          simp only [laws_FnGridsCounted.j5] at H
                          by_cases c52 : x171_46 = true
                          · subst c52
                            have H1 : (none) = some r := by rw [if_pos rfl] at H; exact H
                            clear H
                            have H := H1
                            clear H1
                            exact absurd H (by simp)
                          · replace c52 := Bool.eq_false_iff.mpr c52
                            subst c52
                            have H1 : (if t168 ≥ 2 then ((impl_CountSchroder.f kj46 (wrap64 (t168 - 1))).bind fun bt175 => ((impl_CountSchroder.f kj46 (wrap64 (t168 - 2))).bind fun bt177 => (if bt175.2 = true then (if bt177.2 = true then (if (wrap64 ((wrap64 (t168 + 1)) * t169)) = (wrap64 ((wrap64 ((wrap64 ((wrap64 (6 * t168)) - 3)) * bt175.1)) - (wrap64 ((wrap64 (t168 - 2)) * bt177.1)))) then (some true) else (none)) else (none)) else (none)))) else (some true)) = some r := by rw [if_neg (show ¬ (false = true) by decide)] at H; exact H
                            clear H
                            have H := H1
                            clear H1
                            by_cases c53 : t168 ≥ 2
                            · rw [if_pos c53] at H
                              have c53b0 : decide (2 ≤ t168) = true := decide_eq_true c53
                              clear c53
                              replace H := Option.bind_eq_some_iff.mp H
                              obtain ⟨⟨t175, t176⟩, A540, H⟩ := H
                              replace H : ((impl_CountSchroder.f kj46 (wrap64 (t168 - 2))).bind fun bt177 => (if t176 = true then (if bt177.2 = true then (if (wrap64 ((wrap64 (t168 + 1)) * t169)) = (wrap64 ((wrap64 ((wrap64 ((wrap64 (6 * t168)) - 3)) * t175)) - (wrap64 ((wrap64 (t168 - 2)) * bt177.1)))) then (some true) else (none)) else (none)) else (none))) = some r := H
                              have A54 := Aside0.mk A540
                              clear A540
                              replace H := Option.bind_eq_some_iff.mp H
                              obtain ⟨⟨t177, t178⟩, A550, H⟩ := H
                              replace H : (if t176 = true then (if t178 = true then (if (wrap64 ((wrap64 (t168 + 1)) * t169)) = (wrap64 ((wrap64 ((wrap64 ((wrap64 (6 * t168)) - 3)) * t175)) - (wrap64 ((wrap64 (t168 - 2)) * t177)))) then (some true) else (none)) else (none)) else (none)) = some r := H
                              have A55 := Aside0.mk A550
                              clear A550
                              by_cases c56 : t176 = true
                              · subst c56
                                have H1 : (if t178 = true then (if (wrap64 ((wrap64 (t168 + 1)) * t169)) = (wrap64 ((wrap64 ((wrap64 ((wrap64 (6 * t168)) - 3)) * t175)) - (wrap64 ((wrap64 (t168 - 2)) * t177)))) then (some true) else (none)) else (none)) = some r := by rw [if_pos rfl] at H; exact H
                                clear H
                                have H := H1
                                clear H1
                                by_cases c57 : t178 = true
                                · subst c57
                                  have H1 : (if (wrap64 ((wrap64 (t168 + 1)) * t169)) = (wrap64 ((wrap64 ((wrap64 ((wrap64 (6 * t168)) - 3)) * t175)) - (wrap64 ((wrap64 (t168 - 2)) * t177)))) then (some true) else (none)) = some r := by rw [if_pos rfl] at H; exact H
                                  clear H
                                  have H := H1
                                  clear H1
                                  by_cases c58 : (wrap64 ((wrap64 (t168 + 1)) * t169)) = (wrap64 ((wrap64 ((wrap64 ((wrap64 (6 * t168)) - 3)) * t175)) - (wrap64 ((wrap64 (t168 - 2)) * t177))))
                                  · rw [if_pos c58] at H
                                    have c58b0 : ((wrap64 ((wrap64 (t168 + 1)) * t169)) == (wrap64 ((wrap64 ((wrap64 ((wrap64 (6 * t168)) - 3)) * t175)) - (wrap64 ((wrap64 (t168 - 2)) * t177))))) = true := beq_iff_eq.mpr c58
                                    have c58b1 : ((wrap64 ((wrap64 (t168 + 1)) * t169)) != (wrap64 ((wrap64 ((wrap64 ((wrap64 (6 * t168)) - 3)) * t175)) - (wrap64 ((wrap64 (t168 - 2)) * t177))))) = false := bne_eq_false_iff_eq.mpr c58
                                    clear c58
                                    obtain rfl := Option.some.inj H
                                    go_wp2_with (first | ((with_reducible refine gate_callee (f := 11) rfl ?_); refine goesL_ (some 177) rfl rfl Try.func11 (by kernel_rfl) rfl #[.int .i64 (wrap64 (t168 - 1))] rfl (by (try simp only [List.map_toArray, List.map_cons, List.map_nil]); first | done | rfl | (simp only [List.length_drop, List.length_take]; rfl)) ?_; (with_reducible refine (impl_CountSchroder.calls kj46 (wrap64 (t168 - 1)) t175 true _ A54.out).mono ?_); rintro e w59 ⟨rfl, hb⟩; refine ⟨_, rfl, ?_⟩; have n0_ := Aside0.mk (below_step (by repeat (first | (with_reducible first | exact HB.out | apply below_alloc | apply pw_below_drewN | apply below_drew1) | exact HB.out)) hb); clear HB; have HB := n0_; clear n0_; (try clear hb); (try clear hb2); (try clear hk); (try clear hi)) | ((with_reducible refine gate_callee (f := 11) rfl ?_); refine goesL_ (some 183) rfl rfl Try.func11 (by kernel_rfl) rfl #[.int .i64 (wrap64 (t168 - 2))] rfl (by (try simp only [List.map_toArray, List.map_cons, List.map_nil]); first | done | rfl | (simp only [List.length_drop, List.length_take]; rfl)) ?_; (with_reducible refine (impl_CountSchroder.calls kj46 (wrap64 (t168 - 2)) t177 true _ A55.out).mono ?_); rintro e w60 ⟨rfl, hb⟩; refine ⟨_, rfl, ?_⟩; have n0_ := Aside0.mk (below_step (by repeat (first | (with_reducible first | exact HB.out | apply below_alloc | apply pw_below_drewN | apply below_drew1) | exact HB.out)) hb); clear HB; have HB := n0_; clear n0_; (try clear hb); (try clear hb2); (try clear hk); (try clear hi)))
                                    go_ret
                                    exact ⟨by first | rfl | (simp [errW_none, errW_some] <;> rfl) | (simp [*, errW_none, errW_some] <;> rfl), by repeat (first | (with_reducible first | exact HB.out | apply below_alloc | apply pw_below_drewN | apply below_drew1) | exact HB.out)⟩
                                  · rw [if_neg c58] at H
                                    exact absurd H (by simp)
                                · replace c57 := Bool.eq_false_iff.mpr c57
                                  subst c57
                                  have H1 : (none) = some r := by rw [if_neg (show ¬ (false = true) by decide)] at H; exact H
                                  clear H
                                  have H := H1
                                  clear H1
                                  exact absurd H (by simp)
                              · replace c56 := Bool.eq_false_iff.mpr c56
                                subst c56
                                have H1 : (none) = some r := by rw [if_neg (show ¬ (false = true) by decide)] at H; exact H
                                clear H
                                have H := H1
                                clear H1
                                exact absurd H (by simp)
                            · rw [if_neg c53] at H
                              have c53b0 : decide (2 ≤ t168) = false := decide_eq_false c53
                              clear c53
                              obtain rfl := Option.some.inj H
                              go_wp2
                              go_ret
                              exact ⟨by first | rfl | (simp [errW_none, errW_some] <;> rfl) | (simp [*, errW_none, errW_some] <;> rfl), by repeat (first | (with_reducible first | exact HB.out | apply below_alloc | apply pw_below_drewN | apply below_drew1) | exact HB.out)⟩
                    · replace c45 := Bool.eq_false_iff.mpr c45
                      subst c45
                      have H1 : (some true) = some r := by rw [if_neg (show ¬ (false = true) by decide)] at H; exact H
                      clear H
                      have H := H1
                      clear H1
                      obtain rfl := Option.some.inj H
                      go_wp2
                      go_ret
                      exact ⟨by first | rfl | (simp [errW_none, errW_some] <;> rfl) | (simp [*, errW_none, errW_some] <;> rfl), by repeat (first | (with_reducible first | exact HB.out | apply below_alloc | apply pw_below_drewN | apply below_drew1) | exact HB.out)⟩

/-- THE ONE PURE STATEMENT of laws_FnGridsCounted: yours. -/
def laws_FnGridsCounted.Pure : Prop := ∀ (l0 : List Int) (l1 : List Int), l0.length ≤ maxLen → l0.length * 1 ≤ 140737488351232 → (∀ x ∈ l0, (Lit.int .u8 x).wf = true) → l1.length ≤ maxLen → l1.length * 1 ≤ 140737488351232 → (∀ x ∈ l1, (Lit.int .u8 x).wf = true) → ∃ k, laws_FnGridsCounted.f k l0 l1 = some true
theorem laws_FnGridsCounted.walk (P : laws_FnGridsCounted.Pure) (a0 : Option Addr) (len0 cap0 : Nat) (z0 : List Int) (a1 : Option Addr) (len1 cap1 : Nat) (z1 : List Int) (w : World) (w0 : (a0 = none ∧ len0 = 0 ∧ cap0 = 0 ∧ z0 = []) ∨ ∃ x, a0 = some x ∧ len0 ≤ cap0 ∧ cap0 ≤ maxLen ∧ z0.length = cap0 ∧ (∀ i, i < z0.length → w.cell? (x.add i) = some (.int .u8 (z0.getD i 0))) ∧ ∀ n ∈ z0, (Lit.int .u8 n).wf = true) (y0 : len0 * 1 ≤ 140737488351232) (w1 : (a1 = none ∧ len1 = 0 ∧ cap1 = 0 ∧ z1 = []) ∨ ∃ x, a1 = some x ∧ len1 ≤ cap1 ∧ cap1 ≤ maxLen ∧ z1.length = cap1 ∧ (∀ i, i < z1.length → w.cell? (x.add i) = some (.int .u8 (z1.getD i 0))) ∧ ∀ n ∈ z1, (Lit.int .u8 n).wf = true) (y1 : len1 * 1 ≤ 140737488351232) :
    Calls Try.prog 5 #[.slice a0 len0 cap0, .slice a1 len1 cap1] w fun e w' => e = .returned (.bool true) ∧ Below w.heap.size w w' := by
  obtain ⟨l0, rfl, hr0, hm0, hw0, hc0⟩ := ReadsInt.ofRowC w0
  obtain ⟨l1, rfl, hr1, hm1, hw1, hc1⟩ := ReadsInt.ofRowC w1
  obtain ⟨k, h⟩ := P l0 l1 hm0 y0 hw0 hm1 y1 hw1
  refine (laws_FnGridsCounted.calls k _ _ l0 _ _ l1 true w (Kd.C_of_reads (d := (0 : Int)) (h1 := fun _ => rfl) hr0) hc0 (Kd.C_of_reads (d := (0 : Int)) (h1 := fun _ => rfl) hr1) hc1 h).mono ?_
  rintro e w' ⟨rfl, hd⟩
  exact ⟨rfl, hd⟩

end Go.Proofs.Ytobdaglkdnfnlaa.OFnGridsCounted
