/- The functions that 'FnFansAndCubes' runs, each as a function over numbers and lists, with the proof that the Go text comes to its answers. No condition. -/
import Derived.Test.YtpkghkohjnagjaaOFnFansAndCubesx0
import Derived.Test.YtpkghkohjnagjaaOFnFansAndCubesx2
import Derived.Test.YtpkghkohjnagjaaOFnFansAndCubesx4
import Derived.Test.YtpkghkohjnagjaaOFnFansAndCubesx5
import Derived.Test.YtpkghkohjnagjaaOFnFansAndCubesx6
import Derived.Test.YtpkghkohjnagjaaOFnFansAndCubesx7
import Derived.Test.YtpkghkohjnagjaaOFnFansAndCubesx9
namespace Go.Proofs.Ytpkghkohjnagjaa.OFnFansAndCubes
open Go.Proofs.Ytpkghkohjnagjaa.Stub
open Go.RowKit Go.Proofs.YtpkghkohjnagjaaW.PrintWords Go.Proofs.YtpkghkohjnagjaaW.PrintLast Go.Proofs.YtpkghkohjnagjaaW.PrintMore
attribute [local go_sem] max2_int min2_int max_two min_two max_three min_three max_four min_four   -- for this text's walks alone
set_option linter.unusedVariables false
set_option linter.unusedSimpArgs false

/-! ### laws_FnFansAndCubes: function 3 -/
mutual
def laws_FnFansAndCubes.j0 : Nat → List Int → Int → Int → Int → Bool → Bool → Option (Bool)
  | 0, _, _, _, _, _, _ => none
  | k + 1, x1, x5, x6, x7, x8, x81 => if x81 = true then (none) else (if x8 = true then (if x6 = 1 then (laws_FnFansAndCubes.j1 k x1 x5 x6 x7 x8 (decide (x5 ≤ 6))) else (laws_FnFansAndCubes.j1 k x1 x5 x6 x7 x8 false)) else (laws_FnFansAndCubes.j1 k x1 x5 x6 x7 x8 false))
def laws_FnFansAndCubes.j1 : Nat → List Int → Int → Int → Int → Bool → Bool → Option (Bool)
  | 0, _, _, _, _, _, _ => none
  | k + 1, x1, x5, x6, x7, x8, x90 => if x90 = true then ((impl_AllTrees.f k (wrap64 (x5 + 1))).bind fun bt279 => (if bt279.2 = true then (if (bt279.1.length : Int) = x7 then (laws_FnFansAndCubes.j2 k x1 x5 x6 x7 x8) else (none)) else (none))) else (laws_FnFansAndCubes.j2 k x1 x5 x6 x7 x8)
def laws_FnFansAndCubes.j2 : Nat → List Int → Int → Int → Int → Bool → Option (Bool)
  | 0, _, _, _, _, _ => none
  | k + 1, x1, x5, x6, x7, x8 => if x8 = true then (if x6 = 2 then (if x5 ≥ 1 then (laws_FnFansAndCubes.j3 k x1 x5 x7 (decide (x5 ≤ 5))) else (laws_FnFansAndCubes.j3 k x1 x5 x7 false)) else (laws_FnFansAndCubes.j3 k x1 x5 x7 false)) else (laws_FnFansAndCubes.j3 k x1 x5 x7 false)
def laws_FnFansAndCubes.j3 : Nat → List Int → Int → Int → Bool → Option (Bool)
  | 0, _, _, _, _ => none
  | k + 1, x1, x5, x7, x117 => if x117 = true then ((impl_CountFans.f k x5 1).bind fun bt283 => ((impl_CountFans.f k (wrap64 (x5 + 1)) 1).bind fun bt285 => ((impl_CountFans.f k (wrap64 (x5 + 2)) 1).bind fun bt287 => (if bt283.2 = true then (if bt285.2 = true then (if bt287.2 = true then (if (wrap64 ((wrap64 (bt283.1 * bt287.1)) - (wrap64 (bt285.1 * bt285.1)))) = x7 then (laws_FnFansAndCubes.j4 k x1) else (none)) else (none)) else (none)) else (none))))) else (laws_FnFansAndCubes.j4 k x1)
def laws_FnFansAndCubes.j4 : Nat → List Int → Option (Bool)
  | 0, _ => none
  | k + 1, x1 => (spec_DrawCountCubes.f x1).bind fun bt289 => ((impl_CountCubes.f k bt289.1 bt289.2.1 bt289.2.2).bind fun bt292 => ((spec_CountCubes.f k bt289.1 bt289.2.1 bt289.2.2).bind fun bt294 => (if (bt292.2 != bt294.2) = true then (laws_FnFansAndCubes.j5 k bt289.1 bt289.2.1 bt289.2.2 bt292.1 bt292.2 true) else (laws_FnFansAndCubes.j5 k bt289.1 bt289.2.1 bt289.2.2 bt292.1 bt292.2 (bt292.1 != bt294.1)))))
def laws_FnFansAndCubes.j5 : Nat → Int → Int → Int → Int → Bool → Bool → Option (Bool)
  | 0, _, _, _, _, _, _ => none
  | k + 1, x19, x20, x21, x22, x23, x183 => if x183 = true then (none) else (if x23 = true then ((impl_CountCubes.f k x20 x19 x21).bind fun bt296 => ((impl_CountCubes.f k x19 x21 x20).bind fun bt298 => (if bt296.2 = true then (if bt296.1 = x22 then (if bt298.2 = true then (if bt298.1 = x22 then (if (wrap64 ((wrap64 (x19 * x20)) * x21)) = 0 then (laws_FnFansAndCubes.j6 k x19 x20 x21 x22 (x22 != 1)) else (laws_FnFansAndCubes.j6 k x19 x20 x21 x22 false)) else (laws_FnFansAndCubes.j6 k x19 x20 x21 x22 true)) else (laws_FnFansAndCubes.j6 k x19 x20 x21 x22 true)) else (laws_FnFansAndCubes.j6 k x19 x20 x21 x22 true)) else (laws_FnFansAndCubes.j6 k x19 x20 x21 x22 true)))) else (some true))
def laws_FnFansAndCubes.j6 : Nat → Int → Int → Int → Int → Bool → Option (Bool)
  | 0, _, _, _, _, _ => none
  | k + 1, x19, x20, x21, x22, x226 => if x226 = true then (none) else (if x19 > 0 then (laws_FnFansAndCubes.l0 k x19 x20 x21 x22 ([] : List (S36)) ([] : List (S36)) 0) else (some true))
def laws_FnFansAndCubes.l0 : Nat → Int → Int → Int → Int → List (S36) → List (S36) → Int → Option (Bool)
  | 0, _, _, _, _, _, _, _ => none
  | k + 1, x19, x20, x21, x22, x30, x31, x32 => if x32 < x19 then (if x30.length < 8796093022208 then (if x31.length < 8796093022208 then (laws_FnFansAndCubes.l0 k x19 x20 x21 x22 (x30 ++ [(⟨wrap64 ((wrap64 (x19 - 1)) - x32), x32⟩ : S36)]) (x31 ++ [(⟨wrap64 ((wrap64 ((wrap64 (x19 - 1)) - x32)) + x20), wrap64 (x32 + x21)⟩ : S36)]) (wrap64 (x32 + 1))) else (none)) else (none)) else ((impl_CountApart.f k x30 x31).bind fun bt306 => (if bt306.2 = true then (if bt306.1 = x22 then (some true) else (none)) else (none)))
end
def laws_FnFansAndCubes.f (k : Nat) (l0 : List Int) (l1 : List Int) : Option (Bool) := (laws_big.f l0 l1).bind fun t272 => (if t272 = true then (some true) else ((spec_DrawCountFans.f l0).bind fun bt273 => ((impl_CountFans.f k bt273.1 bt273.2).bind fun bt275 => ((spec_CountFans.f k bt273.1 bt273.2).bind fun bt277 => (if (bt275.2 != bt277.2) = true then (laws_FnFansAndCubes.j0 k l1 bt273.1 bt273.2 bt275.1 bt275.2 true) else (if bt275.1 = bt277.1 then (if bt275.2 = true then (if bt273.2 = 0 then (if bt275.1 = 1 then (if bt273.1 ≤ 1 then (laws_FnFansAndCubes.j0 k l1 bt273.1 bt273.2 bt275.1 bt275.2 (bt275.1 != 1)) else (laws_FnFansAndCubes.j0 k l1 bt273.1 bt273.2 bt275.1 bt275.2 false)) else (laws_FnFansAndCubes.j0 k l1 bt273.1 bt273.2 bt275.1 bt275.2 true)) else (if bt273.1 ≤ 1 then (laws_FnFansAndCubes.j0 k l1 bt273.1 bt273.2 bt275.1 bt275.2 (bt275.1 != 1)) else (laws_FnFansAndCubes.j0 k l1 bt273.1 bt273.2 bt275.1 bt275.2 false))) else (laws_FnFansAndCubes.j0 k l1 bt273.1 bt273.2 bt275.1 bt275.2 false)) else (laws_FnFansAndCubes.j0 k l1 bt273.1 bt273.2 bt275.1 bt275.2 true)))))))
theorem laws_FnFansAndCubes.mono_l : ∀ k, (∀ y0 y1 y2 y3 y4 y5, LeO (laws_FnFansAndCubes.j0 k y0 y1 y2 y3 y4 y5) (laws_FnFansAndCubes.j0 (k + 1) y0 y1 y2 y3 y4 y5)) ∧ (∀ y0 y1 y2 y3 y4 y5, LeO (laws_FnFansAndCubes.j1 k y0 y1 y2 y3 y4 y5) (laws_FnFansAndCubes.j1 (k + 1) y0 y1 y2 y3 y4 y5)) ∧ (∀ y0 y1 y2 y3 y4, LeO (laws_FnFansAndCubes.j2 k y0 y1 y2 y3 y4) (laws_FnFansAndCubes.j2 (k + 1) y0 y1 y2 y3 y4)) ∧ (∀ y0 y1 y2 y3, LeO (laws_FnFansAndCubes.j3 k y0 y1 y2 y3) (laws_FnFansAndCubes.j3 (k + 1) y0 y1 y2 y3)) ∧ (∀ y0, LeO (laws_FnFansAndCubes.j4 k y0) (laws_FnFansAndCubes.j4 (k + 1) y0)) ∧ (∀ y0 y1 y2 y3 y4 y5, LeO (laws_FnFansAndCubes.j5 k y0 y1 y2 y3 y4 y5) (laws_FnFansAndCubes.j5 (k + 1) y0 y1 y2 y3 y4 y5)) ∧ (∀ y0 y1 y2 y3 y4, LeO (laws_FnFansAndCubes.j6 k y0 y1 y2 y3 y4) (laws_FnFansAndCubes.j6 (k + 1) y0 y1 y2 y3 y4)) ∧ (∀ y0 y1 y2 y3 y4 y5 y6, LeO (laws_FnFansAndCubes.l0 k y0 y1 y2 y3 y4 y5 y6) (laws_FnFansAndCubes.l0 (k + 1) y0 y1 y2 y3 y4 y5 y6))
  | 0 => ⟨fun _ _ _ _ _ _ r h => by simp [laws_FnFansAndCubes.j0] at h, fun _ _ _ _ _ _ r h => by simp [laws_FnFansAndCubes.j1] at h, fun _ _ _ _ _ r h => by simp [laws_FnFansAndCubes.j2] at h, fun _ _ _ _ r h => by simp [laws_FnFansAndCubes.j3] at h, fun _ r h => by simp [laws_FnFansAndCubes.j4] at h, fun _ _ _ _ _ _ r h => by simp [laws_FnFansAndCubes.j5] at h, fun _ _ _ _ _ r h => by simp [laws_FnFansAndCubes.j6] at h, fun _ _ _ _ _ _ _ r h => by simp [laws_FnFansAndCubes.l0] at h⟩
  | k + 1 => by
    obtain ⟨ih0, ih1, ih2, ih3, ih4, ih5, ih6, ih7⟩ := laws_FnFansAndCubes.mono_l k
    refine ⟨?_, ?_, ?_, ?_, ?_, ?_, ?_, ?_⟩
    · intro y0 y1 y2 y3 y4 y5
      unfold laws_FnFansAndCubes.j0
      repeat' first
      | (with_reducible exact ih0 _ _ _ _ _ _)
      | (with_reducible exact ih1 _ _ _ _ _ _)
      | (with_reducible exact ih2 _ _ _ _ _)
      | (with_reducible exact ih3 _ _ _ _)
      | (with_reducible exact ih4 _)
      | (with_reducible exact ih5 _ _ _ _ _ _)
      | (with_reducible exact ih6 _ _ _ _ _)
      | (with_reducible exact ih7 _ _ _ _ _ _ _)
      | (with_reducible exact impl_AllTrees.mono _ _)
      | (with_reducible exact impl_CountApart.mono _ _ _)
      | (with_reducible exact impl_CountCubes.mono _ _ _ _)
      | (with_reducible exact impl_CountFans.mono _ _ _)
      | (with_reducible exact spec_CountCubes.mono _ _ _ _)
      | (with_reducible exact spec_CountFans.mono _ _ _)
      | (with_reducible exact LeO.refl _)
      | (with_reducible exact LeO.none _)
      | (with_reducible refine LeO.ite ?_ ?_)
      | (with_reducible refine LeO.bind ?_ (fun _ => ?_))
      | exact ih0 _ _ _ _ _ _
      | exact ih1 _ _ _ _ _ _
      | exact ih2 _ _ _ _ _
      | exact ih3 _ _ _ _
      | exact ih4 _
      | exact ih5 _ _ _ _ _ _
      | exact ih6 _ _ _ _ _
      | exact ih7 _ _ _ _ _ _ _
      | exact impl_AllTrees.mono _ _
      | exact impl_CountApart.mono _ _ _
      | exact impl_CountCubes.mono _ _ _ _
      | exact impl_CountFans.mono _ _ _
      | exact spec_CountCubes.mono _ _ _ _
      | exact spec_CountFans.mono _ _ _
      | exact LeO.none _
      | refine LeO.ite ?_ ?_
      | refine LeO.bind ?_ (fun _ => ?_)
    · intro y0 y1 y2 y3 y4 y5
      unfold laws_FnFansAndCubes.j1
      repeat' first
      | (with_reducible exact ih0 _ _ _ _ _ _)
      | (with_reducible exact ih1 _ _ _ _ _ _)
      | (with_reducible exact ih2 _ _ _ _ _)
      | (with_reducible exact ih3 _ _ _ _)
      | (with_reducible exact ih4 _)
      | (with_reducible exact ih5 _ _ _ _ _ _)
      | (with_reducible exact ih6 _ _ _ _ _)
      | (with_reducible exact ih7 _ _ _ _ _ _ _)
      | (with_reducible exact impl_AllTrees.mono _ _)
      | (with_reducible exact impl_CountApart.mono _ _ _)
      | (with_reducible exact impl_CountCubes.mono _ _ _ _)
      | (with_reducible exact impl_CountFans.mono _ _ _)
      | (with_reducible exact spec_CountCubes.mono _ _ _ _)
      | (with_reducible exact spec_CountFans.mono _ _ _)
      | (with_reducible exact LeO.refl _)
      | (with_reducible exact LeO.none _)
      | (with_reducible refine LeO.ite ?_ ?_)
      | (with_reducible refine LeO.bind ?_ (fun _ => ?_))
      | exact ih0 _ _ _ _ _ _
      | exact ih1 _ _ _ _ _ _
      | exact ih2 _ _ _ _ _
      | exact ih3 _ _ _ _
      | exact ih4 _
      | exact ih5 _ _ _ _ _ _
      | exact ih6 _ _ _ _ _
      | exact ih7 _ _ _ _ _ _ _
      | exact impl_AllTrees.mono _ _
      | exact impl_CountApart.mono _ _ _
      | exact impl_CountCubes.mono _ _ _ _
      | exact impl_CountFans.mono _ _ _
      | exact spec_CountCubes.mono _ _ _ _
      | exact spec_CountFans.mono _ _ _
      | exact LeO.none _
      | refine LeO.ite ?_ ?_
      | refine LeO.bind ?_ (fun _ => ?_)
    · intro y0 y1 y2 y3 y4
      unfold laws_FnFansAndCubes.j2
      repeat' first
      | (with_reducible exact ih0 _ _ _ _ _ _)
      | (with_reducible exact ih1 _ _ _ _ _ _)
      | (with_reducible exact ih2 _ _ _ _ _)
      | (with_reducible exact ih3 _ _ _ _)
      | (with_reducible exact ih4 _)
      | (with_reducible exact ih5 _ _ _ _ _ _)
      | (with_reducible exact ih6 _ _ _ _ _)
      | (with_reducible exact ih7 _ _ _ _ _ _ _)
      | (with_reducible exact impl_AllTrees.mono _ _)
      | (with_reducible exact impl_CountApart.mono _ _ _)
      | (with_reducible exact impl_CountCubes.mono _ _ _ _)
      | (with_reducible exact impl_CountFans.mono _ _ _)
      | (with_reducible exact spec_CountCubes.mono _ _ _ _)
      | (with_reducible exact spec_CountFans.mono _ _ _)
      | (with_reducible exact LeO.refl _)
      | (with_reducible exact LeO.none _)
      | (with_reducible refine LeO.ite ?_ ?_)
      | (with_reducible refine LeO.bind ?_ (fun _ => ?_))
      | exact ih0 _ _ _ _ _ _
      | exact ih1 _ _ _ _ _ _
      | exact ih2 _ _ _ _ _
      | exact ih3 _ _ _ _
      | exact ih4 _
      | exact ih5 _ _ _ _ _ _
      | exact ih6 _ _ _ _ _
      | exact ih7 _ _ _ _ _ _ _
      | exact impl_AllTrees.mono _ _
      | exact impl_CountApart.mono _ _ _
      | exact impl_CountCubes.mono _ _ _ _
      | exact impl_CountFans.mono _ _ _
      | exact spec_CountCubes.mono _ _ _ _
      | exact spec_CountFans.mono _ _ _
      | exact LeO.none _
      | refine LeO.ite ?_ ?_
      | refine LeO.bind ?_ (fun _ => ?_)
    · intro y0 y1 y2 y3
      unfold laws_FnFansAndCubes.j3
      repeat' first
      | (with_reducible exact ih0 _ _ _ _ _ _)
      | (with_reducible exact ih1 _ _ _ _ _ _)
      | (with_reducible exact ih2 _ _ _ _ _)
      | (with_reducible exact ih3 _ _ _ _)
      | (with_reducible exact ih4 _)
      | (with_reducible exact ih5 _ _ _ _ _ _)
      | (with_reducible exact ih6 _ _ _ _ _)
      | (with_reducible exact ih7 _ _ _ _ _ _ _)
      | (with_reducible exact impl_AllTrees.mono _ _)
      | (with_reducible exact impl_CountApart.mono _ _ _)
      | (with_reducible exact impl_CountCubes.mono _ _ _ _)
      | (with_reducible exact impl_CountFans.mono _ _ _)
      | (with_reducible exact spec_CountCubes.mono _ _ _ _)
      | (with_reducible exact spec_CountFans.mono _ _ _)
      | (with_reducible exact LeO.refl _)
      | (with_reducible exact LeO.none _)
      | (with_reducible refine LeO.ite ?_ ?_)
      | (with_reducible refine LeO.bind ?_ (fun _ => ?_))
      | exact ih0 _ _ _ _ _ _
      | exact ih1 _ _ _ _ _ _
      | exact ih2 _ _ _ _ _
      | exact ih3 _ _ _ _
      | exact ih4 _
      | exact ih5 _ _ _ _ _ _
      | exact ih6 _ _ _ _ _
      | exact ih7 _ _ _ _ _ _ _
      | exact impl_AllTrees.mono _ _
      | exact impl_CountApart.mono _ _ _
      | exact impl_CountCubes.mono _ _ _ _
      | exact impl_CountFans.mono _ _ _
      | exact spec_CountCubes.mono _ _ _ _
      | exact spec_CountFans.mono _ _ _
      | exact LeO.none _
      | refine LeO.ite ?_ ?_
      | refine LeO.bind ?_ (fun _ => ?_)
    · intro y0
      unfold laws_FnFansAndCubes.j4
      repeat' first
      | (with_reducible exact ih0 _ _ _ _ _ _)
      | (with_reducible exact ih1 _ _ _ _ _ _)
      | (with_reducible exact ih2 _ _ _ _ _)
      | (with_reducible exact ih3 _ _ _ _)
      | (with_reducible exact ih4 _)
      | (with_reducible exact ih5 _ _ _ _ _ _)
      | (with_reducible exact ih6 _ _ _ _ _)
      | (with_reducible exact ih7 _ _ _ _ _ _ _)
      | (with_reducible exact impl_AllTrees.mono _ _)
      | (with_reducible exact impl_CountApart.mono _ _ _)
      | (with_reducible exact impl_CountCubes.mono _ _ _ _)
      | (with_reducible exact impl_CountFans.mono _ _ _)
      | (with_reducible exact spec_CountCubes.mono _ _ _ _)
      | (with_reducible exact spec_CountFans.mono _ _ _)
      | (with_reducible exact LeO.refl _)
      | (with_reducible exact LeO.none _)
      | (with_reducible refine LeO.ite ?_ ?_)
      | (with_reducible refine LeO.bind ?_ (fun _ => ?_))
      | exact ih0 _ _ _ _ _ _
      | exact ih1 _ _ _ _ _ _
      | exact ih2 _ _ _ _ _
      | exact ih3 _ _ _ _
      | exact ih4 _
      | exact ih5 _ _ _ _ _ _
      | exact ih6 _ _ _ _ _
      | exact ih7 _ _ _ _ _ _ _
      | exact impl_AllTrees.mono _ _
      | exact impl_CountApart.mono _ _ _
      | exact impl_CountCubes.mono _ _ _ _
      | exact impl_CountFans.mono _ _ _
      | exact spec_CountCubes.mono _ _ _ _
      | exact spec_CountFans.mono _ _ _
      | exact LeO.none _
      | refine LeO.ite ?_ ?_
      | refine LeO.bind ?_ (fun _ => ?_)
    · intro y0 y1 y2 y3 y4 y5
      unfold laws_FnFansAndCubes.j5
      repeat' first
      | (with_reducible exact ih0 _ _ _ _ _ _)
      | (with_reducible exact ih1 _ _ _ _ _ _)
      | (with_reducible exact ih2 _ _ _ _ _)
      | (with_reducible exact ih3 _ _ _ _)
      | (with_reducible exact ih4 _)
      | (with_reducible exact ih5 _ _ _ _ _ _)
      | (with_reducible exact ih6 _ _ _ _ _)
      | (with_reducible exact ih7 _ _ _ _ _ _ _)
      | (with_reducible exact impl_AllTrees.mono _ _)
      | (with_reducible exact impl_CountApart.mono _ _ _)
      | (with_reducible exact impl_CountCubes.mono _ _ _ _)
      | (with_reducible exact impl_CountFans.mono _ _ _)
      | (with_reducible exact spec_CountCubes.mono _ _ _ _)
      | (with_reducible exact spec_CountFans.mono _ _ _)
      | (with_reducible exact LeO.refl _)
      | (with_reducible exact LeO.none _)
      | (with_reducible refine LeO.ite ?_ ?_)
      | (with_reducible refine LeO.bind ?_ (fun _ => ?_))
      | exact ih0 _ _ _ _ _ _
      | exact ih1 _ _ _ _ _ _
      | exact ih2 _ _ _ _ _
      | exact ih3 _ _ _ _
      | exact ih4 _
      | exact ih5 _ _ _ _ _ _
      | exact ih6 _ _ _ _ _
      | exact ih7 _ _ _ _ _ _ _
      | exact impl_AllTrees.mono _ _
      | exact impl_CountApart.mono _ _ _
      | exact impl_CountCubes.mono _ _ _ _
      | exact impl_CountFans.mono _ _ _
      | exact spec_CountCubes.mono _ _ _ _
      | exact spec_CountFans.mono _ _ _
      | exact LeO.none _
      | refine LeO.ite ?_ ?_
      | refine LeO.bind ?_ (fun _ => ?_)
    · intro y0 y1 y2 y3 y4
      unfold laws_FnFansAndCubes.j6
      repeat' first
      | (with_reducible exact ih0 _ _ _ _ _ _)
      | (with_reducible exact ih1 _ _ _ _ _ _)
      | (with_reducible exact ih2 _ _ _ _ _)
      | (with_reducible exact ih3 _ _ _ _)
      | (with_reducible exact ih4 _)
      | (with_reducible exact ih5 _ _ _ _ _ _)
      | (with_reducible exact ih6 _ _ _ _ _)
      | (with_reducible exact ih7 _ _ _ _ _ _ _)
      | (with_reducible exact impl_AllTrees.mono _ _)
      | (with_reducible exact impl_CountApart.mono _ _ _)
      | (with_reducible exact impl_CountCubes.mono _ _ _ _)
      | (with_reducible exact impl_CountFans.mono _ _ _)
      | (with_reducible exact spec_CountCubes.mono _ _ _ _)
      | (with_reducible exact spec_CountFans.mono _ _ _)
      | (with_reducible exact LeO.refl _)
      | (with_reducible exact LeO.none _)
      | (with_reducible refine LeO.ite ?_ ?_)
      | (with_reducible refine LeO.bind ?_ (fun _ => ?_))
      | exact ih0 _ _ _ _ _ _
      | exact ih1 _ _ _ _ _ _
      | exact ih2 _ _ _ _ _
      | exact ih3 _ _ _ _
      | exact ih4 _
      | exact ih5 _ _ _ _ _ _
      | exact ih6 _ _ _ _ _
      | exact ih7 _ _ _ _ _ _ _
      | exact impl_AllTrees.mono _ _
      | exact impl_CountApart.mono _ _ _
      | exact impl_CountCubes.mono _ _ _ _
      | exact impl_CountFans.mono _ _ _
      | exact spec_CountCubes.mono _ _ _ _
      | exact spec_CountFans.mono _ _ _
      | exact LeO.none _
      | refine LeO.ite ?_ ?_
      | refine LeO.bind ?_ (fun _ => ?_)
    · intro y0 y1 y2 y3 y4 y5 y6
      unfold laws_FnFansAndCubes.l0
      repeat' first
      | (with_reducible exact ih0 _ _ _ _ _ _)
      | (with_reducible exact ih1 _ _ _ _ _ _)
      | (with_reducible exact ih2 _ _ _ _ _)
      | (with_reducible exact ih3 _ _ _ _)
      | (with_reducible exact ih4 _)
      | (with_reducible exact ih5 _ _ _ _ _ _)
      | (with_reducible exact ih6 _ _ _ _ _)
      | (with_reducible exact ih7 _ _ _ _ _ _ _)
      | (with_reducible exact impl_AllTrees.mono _ _)
      | (with_reducible exact impl_CountApart.mono _ _ _)
      | (with_reducible exact impl_CountCubes.mono _ _ _ _)
      | (with_reducible exact impl_CountFans.mono _ _ _)
      | (with_reducible exact spec_CountCubes.mono _ _ _ _)
      | (with_reducible exact spec_CountFans.mono _ _ _)
      | (with_reducible exact LeO.refl _)
      | (with_reducible exact LeO.none _)
      | (with_reducible refine LeO.ite ?_ ?_)
      | (with_reducible refine LeO.bind ?_ (fun _ => ?_))
      | exact ih0 _ _ _ _ _ _
      | exact ih1 _ _ _ _ _ _
      | exact ih2 _ _ _ _ _
      | exact ih3 _ _ _ _
      | exact ih4 _
      | exact ih5 _ _ _ _ _ _
      | exact ih6 _ _ _ _ _
      | exact ih7 _ _ _ _ _ _ _
      | exact impl_AllTrees.mono _ _
      | exact impl_CountApart.mono _ _ _
      | exact impl_CountCubes.mono _ _ _ _
      | exact impl_CountFans.mono _ _ _
      | exact spec_CountCubes.mono _ _ _ _
      | exact spec_CountFans.mono _ _ _
      | exact LeO.none _
      | refine LeO.ite ?_ ?_
      | refine LeO.bind ?_ (fun _ => ?_)
theorem laws_FnFansAndCubes.mono : ∀ a0 a1 k, LeO (laws_FnFansAndCubes.f k a0 a1) (laws_FnFansAndCubes.f (k + 1) a0 a1) := by
  intro a0 a1 k
  obtain ⟨ih0, ih1, ih2, ih3, ih4, ih5, ih6, ih7⟩ := laws_FnFansAndCubes.mono_l k
  unfold laws_FnFansAndCubes.f
  repeat' first
      | (with_reducible exact ih0 _ _ _ _ _ _)
      | (with_reducible exact ih1 _ _ _ _ _ _)
      | (with_reducible exact ih2 _ _ _ _ _)
      | (with_reducible exact ih3 _ _ _ _)
      | (with_reducible exact ih4 _)
      | (with_reducible exact ih5 _ _ _ _ _ _)
      | (with_reducible exact ih6 _ _ _ _ _)
      | (with_reducible exact ih7 _ _ _ _ _ _ _)
      | (with_reducible exact impl_AllTrees.mono _ _)
      | (with_reducible exact impl_CountApart.mono _ _ _)
      | (with_reducible exact impl_CountCubes.mono _ _ _ _)
      | (with_reducible exact impl_CountFans.mono _ _ _)
      | (with_reducible exact spec_CountCubes.mono _ _ _ _)
      | (with_reducible exact spec_CountFans.mono _ _ _)
      | (with_reducible exact LeO.refl _)
      | (with_reducible exact LeO.none _)
      | (with_reducible refine LeO.ite ?_ ?_)
      | (with_reducible refine LeO.bind ?_ (fun _ => ?_))
      | exact ih0 _ _ _ _ _ _
      | exact ih1 _ _ _ _ _ _
      | exact ih2 _ _ _ _ _
      | exact ih3 _ _ _ _
      | exact ih4 _
      | exact ih5 _ _ _ _ _ _
      | exact ih6 _ _ _ _ _
      | exact ih7 _ _ _ _ _ _ _
      | exact impl_AllTrees.mono _ _
      | exact impl_CountApart.mono _ _ _
      | exact impl_CountCubes.mono _ _ _ _
      | exact impl_CountFans.mono _ _ _
      | exact spec_CountCubes.mono _ _ _ _
      | exact spec_CountFans.mono _ _ _
      | exact LeO.none _
      | refine LeO.ite ?_ ?_
      | refine LeO.bind ?_ (fun _ => ?_)
set_option maxHeartbeats 8000000 in
set_option maxRecDepth 100000 in
theorem laws_FnFansAndCubes.calls (k : Nat) (A0 : Option Addr) (c0 : Nat) (l0 : List Int) (A1 : Option Addr) (c1 : Nat) (l1 : List Int) (r : Bool) (w : World) (hr0 : Kd.C (Kd.int .u8) w A0 l0.length l0) (hc0 : l0.length ≤ c0) (hr1 : Kd.C (Kd.int .u8) w A1 l1.length l1) (hc1 : l1.length ≤ c1) (h : laws_FnFansAndCubes.f k l0 l1 = some r) :
    Calls Try.prog 3 #[.slice A0 l0.length c0, .slice A1 l1.length c1] w fun e w' => e = .returned (.bool r) ∧ Below w.heap.size w w' := by
  have hu36 := Try.underlying36
  have HR0 := Aside0.mk hr0
  have HC0 := Aside0.mk hc0
  clear hr0 hc0
  have HR1 := Aside0.mk hr1
  have HC1 := Aside0.mk hc1
  clear hr1 hc1
  have HB := Aside0.mk (Below.refl w.heap.size w)
  have H : ((laws_big.f l0 l1).bind fun t272 => (if t272 = true then (some true) else ((spec_DrawCountFans.f l0).bind fun bt273 => ((impl_CountFans.f k bt273.1 bt273.2).bind fun bt275 => ((spec_CountFans.f k bt273.1 bt273.2).bind fun bt277 => (if (bt275.2 != bt277.2) = true then (laws_FnFansAndCubes.j0 k l1 bt273.1 bt273.2 bt275.1 bt275.2 true) else (if bt275.1 = bt277.1 then (if bt275.2 = true then (if bt273.2 = 0 then (if bt275.1 = 1 then (if bt273.1 ≤ 1 then (laws_FnFansAndCubes.j0 k l1 bt273.1 bt273.2 bt275.1 bt275.2 (bt275.1 != 1)) else (laws_FnFansAndCubes.j0 k l1 bt273.1 bt273.2 bt275.1 bt275.2 false)) else (laws_FnFansAndCubes.j0 k l1 bt273.1 bt273.2 bt275.1 bt275.2 true)) else (if bt273.1 ≤ 1 then (laws_FnFansAndCubes.j0 k l1 bt273.1 bt273.2 bt275.1 bt275.2 (bt275.1 != 1)) else (laws_FnFansAndCubes.j0 k l1 bt273.1 bt273.2 bt275.1 bt275.2 false))) else (laws_FnFansAndCubes.j0 k l1 bt273.1 bt273.2 bt275.1 bt275.2 false)) else (laws_FnFansAndCubes.j0 k l1 bt273.1 bt273.2 bt275.1 bt275.2 true)))))))) = some r := h
  clear h
  replace H := Option.bind_eq_some_iff.mp H
  obtain ⟨t272, A30, H⟩ := H
  replace H : (if t272 = true then (some true) else ((spec_DrawCountFans.f l0).bind fun bt273 => ((impl_CountFans.f k bt273.1 bt273.2).bind fun bt275 => ((spec_CountFans.f k bt273.1 bt273.2).bind fun bt277 => (if (bt275.2 != bt277.2) = true then (laws_FnFansAndCubes.j0 k l1 bt273.1 bt273.2 bt275.1 bt275.2 true) else (if bt275.1 = bt277.1 then (if bt275.2 = true then (if bt273.2 = 0 then (if bt275.1 = 1 then (if bt273.1 ≤ 1 then (laws_FnFansAndCubes.j0 k l1 bt273.1 bt273.2 bt275.1 bt275.2 (bt275.1 != 1)) else (laws_FnFansAndCubes.j0 k l1 bt273.1 bt273.2 bt275.1 bt275.2 false)) else (laws_FnFansAndCubes.j0 k l1 bt273.1 bt273.2 bt275.1 bt275.2 true)) else (if bt273.1 ≤ 1 then (laws_FnFansAndCubes.j0 k l1 bt273.1 bt273.2 bt275.1 bt275.2 (bt275.1 != 1)) else (laws_FnFansAndCubes.j0 k l1 bt273.1 bt273.2 bt275.1 bt275.2 false))) else (laws_FnFansAndCubes.j0 k l1 bt273.1 bt273.2 bt275.1 bt275.2 false)) else (laws_FnFansAndCubes.j0 k l1 bt273.1 bt273.2 bt275.1 bt275.2 true))))))) = some r := H
  have A3 := Aside0.mk A30
  clear A30
  by_cases c4 : t272 = true
  · subst c4
    have H1 : (some true) = some r := by rw [if_pos rfl] at H; exact H
    clear H
    have H := H1
    clear H1
    obtain rfl := Option.some.inj H
    go_enter Try.func3, Try.ntmps3
    go_wp2_with (first | ((with_reducible refine gate_callee (f := 4) rfl ?_); refine goesL_ (some 37) rfl rfl Try.func4 (by kernel_rfl) rfl #[.slice A0 l0.length c0, .slice A1 l1.length c1] rfl (by (try simp only [List.map_toArray, List.map_cons, List.map_nil]); first | done | rfl | (simp only [List.length_drop, List.length_take]; rfl)) ?_; (with_reducible refine (laws_big.calls _ _ l0 _ _ l1 true _ ?side1 ?side2 ?side3 ?side4 A3.out).mono ?_); (case side1 => repeat (first | exact HR0.out | (with_reducible refine Kd.C_alloc ?_ _) | (with_reducible refine Kd.C_drewN ?_ _) | (with_reducible refine Kd.C_drew ?_))); (case side2 => exact HC0.out); (case side3 => repeat (first | exact HR1.out | (with_reducible refine Kd.C_alloc ?_ _) | (with_reducible refine Kd.C_drewN ?_ _) | (with_reducible refine Kd.C_drew ?_))); (case side4 => exact HC1.out); rintro e w' ⟨rfl, ⟨nd, rfl⟩⟩; refine ⟨_, rfl, ?_⟩))
    go_ret
    exact ⟨by first | rfl | (simp [errW_none, errW_some] <;> rfl) | (simp [*, errW_none, errW_some] <;> rfl), by repeat (first | (with_reducible first | exact HB.out | apply below_alloc | apply pw_below_drewN | apply below_drew1) | exact HB.out)⟩
  · replace c4 := Bool.eq_false_iff.mpr c4
    subst c4
    have H1 : ((spec_DrawCountFans.f l0).bind fun bt273 => ((impl_CountFans.f k bt273.1 bt273.2).bind fun bt275 => ((spec_CountFans.f k bt273.1 bt273.2).bind fun bt277 => (if (bt275.2 != bt277.2) = true then (laws_FnFansAndCubes.j0 k l1 bt273.1 bt273.2 bt275.1 bt275.2 true) else (if bt275.1 = bt277.1 then (if bt275.2 = true then (if bt273.2 = 0 then (if bt275.1 = 1 then (if bt273.1 ≤ 1 then (laws_FnFansAndCubes.j0 k l1 bt273.1 bt273.2 bt275.1 bt275.2 (bt275.1 != 1)) else (laws_FnFansAndCubes.j0 k l1 bt273.1 bt273.2 bt275.1 bt275.2 false)) else (laws_FnFansAndCubes.j0 k l1 bt273.1 bt273.2 bt275.1 bt275.2 true)) else (if bt273.1 ≤ 1 then (laws_FnFansAndCubes.j0 k l1 bt273.1 bt273.2 bt275.1 bt275.2 (bt275.1 != 1)) else (laws_FnFansAndCubes.j0 k l1 bt273.1 bt273.2 bt275.1 bt275.2 false))) else (laws_FnFansAndCubes.j0 k l1 bt273.1 bt273.2 bt275.1 bt275.2 false)) else (laws_FnFansAndCubes.j0 k l1 bt273.1 bt273.2 bt275.1 bt275.2 true)))))) = some r := by rw [if_neg (show ¬ (false = true) by decide)] at H; exact H
    clear H
    have H := H1
    clear H1
    replace H := Option.bind_eq_some_iff.mp H
    obtain ⟨⟨t273, t274⟩, A50, H⟩ := H
    replace H : ((impl_CountFans.f k t273 t274).bind fun bt275 => ((spec_CountFans.f k t273 t274).bind fun bt277 => (if (bt275.2 != bt277.2) = true then (laws_FnFansAndCubes.j0 k l1 t273 t274 bt275.1 bt275.2 true) else (if bt275.1 = bt277.1 then (if bt275.2 = true then (if t274 = 0 then (if bt275.1 = 1 then (if t273 ≤ 1 then (laws_FnFansAndCubes.j0 k l1 t273 t274 bt275.1 bt275.2 (bt275.1 != 1)) else (laws_FnFansAndCubes.j0 k l1 t273 t274 bt275.1 bt275.2 false)) else (laws_FnFansAndCubes.j0 k l1 t273 t274 bt275.1 bt275.2 true)) else (if t273 ≤ 1 then (laws_FnFansAndCubes.j0 k l1 t273 t274 bt275.1 bt275.2 (bt275.1 != 1)) else (laws_FnFansAndCubes.j0 k l1 t273 t274 bt275.1 bt275.2 false))) else (laws_FnFansAndCubes.j0 k l1 t273 t274 bt275.1 bt275.2 false)) else (laws_FnFansAndCubes.j0 k l1 t273 t274 bt275.1 bt275.2 true))))) = some r := H
    have A5 := Aside0.mk A50
    clear A50
    replace H := Option.bind_eq_some_iff.mp H
    obtain ⟨⟨t275, t276⟩, A60, H⟩ := H
    replace H : ((spec_CountFans.f k t273 t274).bind fun bt277 => (if (t276 != bt277.2) = true then (laws_FnFansAndCubes.j0 k l1 t273 t274 t275 t276 true) else (if t275 = bt277.1 then (if t276 = true then (if t274 = 0 then (if t275 = 1 then (if t273 ≤ 1 then (laws_FnFansAndCubes.j0 k l1 t273 t274 t275 t276 (t275 != 1)) else (laws_FnFansAndCubes.j0 k l1 t273 t274 t275 t276 false)) else (laws_FnFansAndCubes.j0 k l1 t273 t274 t275 t276 true)) else (if t273 ≤ 1 then (laws_FnFansAndCubes.j0 k l1 t273 t274 t275 t276 (t275 != 1)) else (laws_FnFansAndCubes.j0 k l1 t273 t274 t275 t276 false))) else (laws_FnFansAndCubes.j0 k l1 t273 t274 t275 t276 false)) else (laws_FnFansAndCubes.j0 k l1 t273 t274 t275 t276 true)))) = some r := H
    have A6 := Aside0.mk A60
    clear A60
    replace H := Option.bind_eq_some_iff.mp H
    obtain ⟨⟨t277, t278⟩, A70, H⟩ := H
    replace H : (if (t276 != t278) = true then (laws_FnFansAndCubes.j0 k l1 t273 t274 t275 t276 true) else (if t275 = t277 then (if t276 = true then (if t274 = 0 then (if t275 = 1 then (if t273 ≤ 1 then (laws_FnFansAndCubes.j0 k l1 t273 t274 t275 t276 (t275 != 1)) else (laws_FnFansAndCubes.j0 k l1 t273 t274 t275 t276 false)) else (laws_FnFansAndCubes.j0 k l1 t273 t274 t275 t276 true)) else (if t273 ≤ 1 then (laws_FnFansAndCubes.j0 k l1 t273 t274 t275 t276 (t275 != 1)) else (laws_FnFansAndCubes.j0 k l1 t273 t274 t275 t276 false))) else (laws_FnFansAndCubes.j0 k l1 t273 t274 t275 t276 false)) else (laws_FnFansAndCubes.j0 k l1 t273 t274 t275 t276 true))) = some r := H
    have A7 := Aside0.mk A70
    clear A70
    have HC8 := Aside0.mk H
    clear H
    go_enter Try.func3, Try.ntmps3
    go_upto_region 6 with (first | ((with_reducible refine gate_callee (f := 4) rfl ?_); refine goesL_ (some 37) rfl rfl Try.func4 (by kernel_rfl) rfl #[.slice A0 l0.length c0, .slice A1 l1.length c1] rfl (by (try simp only [List.map_toArray, List.map_cons, List.map_nil]); first | done | rfl | (simp only [List.length_drop, List.length_take]; rfl)) ?_; (with_reducible refine (laws_big.calls _ _ l0 _ _ l1 false _ ?side1 ?side2 ?side3 ?side4 A3.out).mono ?_); (case side1 => repeat (first | exact HR0.out | (with_reducible refine Kd.C_alloc ?_ _) | (with_reducible refine Kd.C_drewN ?_ _) | (with_reducible refine Kd.C_drew ?_))); (case side2 => exact HC0.out); (case side3 => repeat (first | exact HR1.out | (with_reducible refine Kd.C_alloc ?_ _) | (with_reducible refine Kd.C_drewN ?_ _) | (with_reducible refine Kd.C_drew ?_))); (case side4 => exact HC1.out); rintro e w' ⟨rfl, ⟨nd, rfl⟩⟩; refine ⟨_, rfl, ?_⟩) | ((with_reducible refine gate_callee (f := 5) rfl ?_); refine goesL_ (some 40) rfl rfl Try.func5 (by kernel_rfl) rfl #[.slice A0 l0.length c0] rfl (by (try simp only [List.map_toArray, List.map_cons, List.map_nil]); first | done | rfl | (simp only [List.length_drop, List.length_take]; rfl)) ?_; (with_reducible refine (spec_DrawCountFans.calls _ _ l0 t273 t274 _ ?side1 ?side2 A5.out).mono ?_); (case side1 => repeat (first | exact HR0.out | (with_reducible refine Kd.C_alloc ?_ _) | (with_reducible refine Kd.C_drewN ?_ _) | (with_reducible refine Kd.C_drew ?_))); (case side2 => exact HC0.out); rintro e w9 ⟨rfl, hb⟩; refine ⟨_, rfl, ?_⟩; have n0_ := Aside0.mk (below_step (by repeat (first | (with_reducible first | exact HB.out | apply below_alloc | apply pw_below_drewN | apply below_drew1) | exact HB.out)) hb); clear HB; have HB := n0_; clear n0_; (try clear hb); (try clear hb2); (try clear hk); (try clear hi)) | ((with_reducible refine gate_callee (f := 6) rfl ?_); refine goesL_ (some 46) rfl rfl Try.func6 (by kernel_rfl) rfl #[.int .i64 t273, .int .i64 t274] rfl (by (try simp only [List.map_toArray, List.map_cons, List.map_nil]); first | done | rfl | (simp only [List.length_drop, List.length_take]; rfl)) ?_; (with_reducible refine (impl_CountFans.calls k t273 t274 t275 t276 _ A6.out).mono ?_); rintro e w10 ⟨rfl, hb⟩; refine ⟨_, rfl, ?_⟩; have n0_ := Aside0.mk (below_step (by repeat (first | (with_reducible first | exact HB.out | apply below_alloc | apply pw_below_drewN | apply below_drew1) | exact HB.out)) hb); clear HB; have HB := n0_; clear n0_; (try clear hb); (try clear hb2); (try clear hk); (try clear hi)) | ((with_reducible refine gate_callee (f := 7) rfl ?_); refine goesL_ (some 52) rfl rfl Try.func7 (by kernel_rfl) rfl #[.int .i64 t273, .int .i64 t274] rfl (by (try simp only [List.map_toArray, List.map_cons, List.map_nil]); first | done | rfl | (simp only [List.length_drop, List.length_take]; rfl)) ?_; (with_reducible refine (spec_CountFans.calls k t273 t274 t277 t278 _ A7.out).mono ?_); rintro e w11 ⟨rfl, hb⟩; refine ⟨_, rfl, ?_⟩; have n0_ := Aside0.mk (below_step (by repeat (first | (with_reducible first | exact HB.out | apply below_alloc | apply pw_below_drewN | apply below_drew1) | exact HB.out)) hb); clear HB; have HB := n0_; clear n0_; (try clear hb); (try clear hb2); (try clear hk); (try clear hi)))
    (try simp only [Act.put, List.setIfInBounds_toArray, List.set_cons_zero, List.set_cons_succ])
    go_cut [81] (fun v81 wc => ∃ (kq : Nat) (x81_7 : Bool), v81 = .bool x81_7 ∧ Aside0 (laws_FnFansAndCubes.j0 kq l1 t273 t274 t275 t276 x81_7 = some r) ∧ Aside0 (kq ≤ k) ∧ Aside0 (Below w.heap.size w wc))
    case first => as_aux_lemma =>
      have H := HC8.out
      clear HC8
      by_cases c12 : (t276 != t278) = true
      · rw [if_pos c12] at H
        have c12b0 : (t276 != t278) = true := c12
        (try (have c12b1 : decide (t276 = t278) = false := by simpa using c12))
        (try (have c12b2 : (t276 == t278) = false := by simpa using c12))
        (try (have c12b3 : ¬ (t276 = t278) := by simpa using c12))
        clear c12
        (first | rw [c12b0] | (simp only [i64_w, i32_w]; rw [c12b0]) | skip)
        exact absurd H (by generalize k = q_; cases q_ <;> simp [laws_FnFansAndCubes.j0])
      · rw [if_neg c12] at H
        have c12b0 : (t276 != t278) = false := by simpa using c12
        (try (have c12b1 : decide (t276 = t278) = true := by simpa using c12))
        (try (have c12b2 : (t276 == t278) = true := by simpa using c12))
        clear c12
        (first | rw [c12b0] | (simp only [i64_w, i32_w]; rw [c12b0]) | skip)
        by_cases c13 : t275 = t277
        · rw [if_pos c13] at H
          have c13b0 : (t275 == t277) = true := beq_iff_eq.mpr c13
          have c13b1 : (t275 != t277) = false := bne_eq_false_iff_eq.mpr c13
          clear c13
          by_cases c14 : t276 = true
          · subst c14
            have H1 : (if t274 = 0 then (if t275 = 1 then (if t273 ≤ 1 then (laws_FnFansAndCubes.j0 k l1 t273 t274 t275 true (t275 != 1)) else (laws_FnFansAndCubes.j0 k l1 t273 t274 t275 true false)) else (laws_FnFansAndCubes.j0 k l1 t273 t274 t275 true true)) else (if t273 ≤ 1 then (laws_FnFansAndCubes.j0 k l1 t273 t274 t275 true (t275 != 1)) else (laws_FnFansAndCubes.j0 k l1 t273 t274 t275 true false))) = some r := by rw [if_pos rfl] at H; exact H
            clear H
            have H := H1
            clear H1
            by_cases c15 : t274 = 0
            · rw [if_pos c15] at H
              have c15b0 : (t274 == 0) = true := beq_iff_eq.mpr c15
              have c15b1 : (t274 != 0) = false := bne_eq_false_iff_eq.mpr c15
              clear c15
              by_cases c16 : t275 = 1
              · rw [if_pos c16] at H
                have c16b0 : (t275 == 1) = true := beq_iff_eq.mpr c16
                have c16b1 : (t275 != 1) = false := bne_eq_false_iff_eq.mpr c16
                clear c16
                by_cases c17 : t273 ≤ 1
                · rw [if_pos c17] at H
                  have c17b0 : decide (t273 ≤ 1) = true := decide_eq_true c17
                  clear c17
                  have H' := Aside0.mk H
                  clear H
                  as_aux_lemma =>
                    go_wp2
                    go_meet
                    case rel => exact ⟨_, ((t275 != 1)), (by first | rfl | (simp; done) | (simp [*]; done) | (simp only [i64_w]; done)), H', ⟨by first | omega | exact Nat.le_refl _⟩, ⟨by repeat (first | (with_reducible first | exact HB.out | apply below_alloc | apply pw_below_drewN | apply below_drew1) | exact HB.out)⟩⟩
                · rw [if_neg c17] at H
                  have c17b0 : decide (t273 ≤ 1) = false := decide_eq_false c17
                  clear c17
                  have H' := Aside0.mk H
                  clear H
                  as_aux_lemma =>
                    go_wp2
                    go_meet
                    case rel => exact ⟨_, (false), (by first | rfl | (simp; done) | (simp [*]; done) | (simp only [i64_w]; done)), H', ⟨by first | omega | exact Nat.le_refl _⟩, ⟨by repeat (first | (with_reducible first | exact HB.out | apply below_alloc | apply pw_below_drewN | apply below_drew1) | exact HB.out)⟩⟩
              · rw [if_neg c16] at H
                have c16b0 : (t275 == 1) = false := beq_eq_false_iff_ne.mpr c16
                have c16b1 : (t275 != 1) = true := bne_iff_ne.mpr c16
                exact absurd H (by generalize k = q_; cases q_ <;> simp [laws_FnFansAndCubes.j0])
            · rw [if_neg c15] at H
              have c15b0 : (t274 == 0) = false := beq_eq_false_iff_ne.mpr c15
              have c15b1 : (t274 != 0) = true := bne_iff_ne.mpr c15
              by_cases c18 : t273 ≤ 1
              · rw [if_pos c18] at H
                have c18b0 : decide (t273 ≤ 1) = true := decide_eq_true c18
                clear c18
                have H' := Aside0.mk H
                clear H
                as_aux_lemma =>
                  go_wp2
                  go_meet
                  case rel => exact ⟨_, ((t275 != 1)), (by first | rfl | (simp; done) | (simp [*]; done) | (simp only [i64_w]; done)), H', ⟨by first | omega | exact Nat.le_refl _⟩, ⟨by repeat (first | (with_reducible first | exact HB.out | apply below_alloc | apply pw_below_drewN | apply below_drew1) | exact HB.out)⟩⟩
              · rw [if_neg c18] at H
                have c18b0 : decide (t273 ≤ 1) = false := decide_eq_false c18
                clear c18
                have H' := Aside0.mk H
                clear H
                as_aux_lemma =>
                  go_wp2
                  go_meet
                  case rel => exact ⟨_, (false), (by first | rfl | (simp; done) | (simp [*]; done) | (simp only [i64_w]; done)), H', ⟨by first | omega | exact Nat.le_refl _⟩, ⟨by repeat (first | (with_reducible first | exact HB.out | apply below_alloc | apply pw_below_drewN | apply below_drew1) | exact HB.out)⟩⟩
          · replace c14 := Bool.eq_false_iff.mpr c14
            subst c14
            have H1 : (laws_FnFansAndCubes.j0 k l1 t273 t274 t275 false false) = some r := by rw [if_neg (show ¬ (false = true) by decide)] at H; exact H
            clear H
            have H := H1
            clear H1
            have H' := Aside0.mk H
            clear H
            as_aux_lemma =>
              go_wp2
              go_meet
              case rel => exact ⟨_, (false), (by first | rfl | (simp; done) | (simp [*]; done) | (simp only [i64_w]; done)), H', ⟨by first | omega | exact Nat.le_refl _⟩, ⟨by repeat (first | (with_reducible first | exact HB.out | apply below_alloc | apply pw_below_drewN | apply below_drew1) | exact HB.out)⟩⟩
        · rw [if_neg c13] at H
          have c13b0 : (t275 == t277) = false := beq_eq_false_iff_ne.mpr c13
          have c13b1 : (t275 != t277) = true := bne_iff_ne.mpr c13
          exact absurd H (by generalize k = q_; cases q_ <;> simp [laws_FnFansAndCubes.j0])
    case rest => as_aux_lemma =>
      clear HC8
      try clear c1
      try clear p2
      try clear c3
      try clear c4
      try clear c5
      try clear c6
      try clear c7
      try clear c12
      try clear c12b0
      try clear c12b1
      try clear c12b2
      try clear c13
      try clear c13b0
      try clear c13b1
      try clear c14
      try clear c15
      try clear c15b0
      try clear c15b1
      try clear c16
      try clear c16b0
      try clear c16b1
      try clear c17
      try clear c17b0
      try clear c18
      try clear c18b0
      obtain ⟨kq, x81_7, rfl, HA, HJ7, HB⟩ := hcut
      cases kq with
      | zero => exact absurd HA.out (by simp [laws_FnFansAndCubes.j0])
      | succ kj7 =>
        have H := HA.out
        clear HA
        simp only [laws_FnFansAndCubes.j0] at H
        by_cases c19 : x81_7 = true
        · subst c19
          have H1 : (none) = some r := by rw [if_pos rfl] at H; exact H
          clear H
          have H := H1
          clear H1
          exact absurd H (by simp)
        · replace c19 := Bool.eq_false_iff.mpr c19
          subst c19
          have H1 : (if t276 = true then (if t274 = 1 then (laws_FnFansAndCubes.j1 kj7 l1 t273 t274 t275 t276 (decide (t273 ≤ 6))) else (laws_FnFansAndCubes.j1 kj7 l1 t273 t274 t275 t276 false)) else (laws_FnFansAndCubes.j1 kj7 l1 t273 t274 t275 t276 false)) = some r := by rw [if_neg (show ¬ (false = true) by decide)] at H; exact H
          clear H
          have H := H1
          clear H1
          have HC20 := Aside0.mk H
          clear H
          go_upto_region 8 with (fail)
          go_cut [90] (fun v90 wc => ∃ (kq : Nat) (x90_19 : Bool), v90 = .bool x90_19 ∧ Aside0 (laws_FnFansAndCubes.j1 kq l1 t273 t274 t275 t276 x90_19 = some r) ∧ Aside0 (kq ≤ kj7) ∧ Aside0 (Below w.heap.size w wc))
          case first => as_aux_lemma =>
            have H := HC20.out
            clear HC20
            by_cases c21 : t276 = true
            · subst c21
              have H1 : (if t274 = 1 then (laws_FnFansAndCubes.j1 kj7 l1 t273 t274 t275 true (decide (t273 ≤ 6))) else (laws_FnFansAndCubes.j1 kj7 l1 t273 t274 t275 true false)) = some r := by rw [if_pos rfl] at H; exact H
              clear H
              have H := H1
              clear H1
              by_cases c22 : t274 = 1
              · rw [if_pos c22] at H
                have c22b0 : (t274 == 1) = true := beq_iff_eq.mpr c22
                have c22b1 : (t274 != 1) = false := bne_eq_false_iff_eq.mpr c22
                clear c22
                (first | rw [c22b0] | (simp only [i64_w, i32_w]; rw [c22b0]) | skip)
                have H' := Aside0.mk H
                clear H
                as_aux_lemma =>
                  go_wp2
                  go_meet
                  case rel => exact ⟨_, (decide (t273 ≤ 6)), (by first | rfl | (simp; done) | (simp [*]; done) | (simp only [i64_w]; done)), H', ⟨by have := HJ7.out; first | omega | exact Nat.le_refl _⟩, ⟨by repeat (first | (with_reducible first | exact HB.out | apply below_alloc | apply pw_below_drewN | apply below_drew1) | exact HB.out)⟩⟩
              · rw [if_neg c22] at H
                have c22b0 : (t274 == 1) = false := beq_eq_false_iff_ne.mpr c22
                have c22b1 : (t274 != 1) = true := bne_iff_ne.mpr c22
                (first | rw [c22b0] | (simp only [i64_w, i32_w]; rw [c22b0]) | skip)
                have H' := Aside0.mk H
                clear H
                as_aux_lemma =>
                  go_wp2
                  go_meet
                  case rel => exact ⟨_, (false), (by first | rfl | (simp; done) | (simp [*]; done) | (simp only [i64_w]; done)), H', ⟨by have := HJ7.out; first | omega | exact Nat.le_refl _⟩, ⟨by repeat (first | (with_reducible first | exact HB.out | apply below_alloc | apply pw_below_drewN | apply below_drew1) | exact HB.out)⟩⟩
            · replace c21 := Bool.eq_false_iff.mpr c21
              subst c21
              have H1 : (laws_FnFansAndCubes.j1 kj7 l1 t273 t274 t275 false false) = some r := by rw [if_neg (show ¬ (false = true) by decide)] at H; exact H
              clear H
              have H := H1
              clear H1
              have H' := Aside0.mk H
              clear H
              as_aux_lemma =>
                go_wp2
                go_meet
                case rel => exact ⟨_, (false), (by first | rfl | (simp; done) | (simp [*]; done) | (simp only [i64_w]; done)), H', ⟨by have := HJ7.out; first | omega | exact Nat.le_refl _⟩, ⟨by repeat (first | (with_reducible first | exact HB.out | apply below_alloc | apply pw_below_drewN | apply below_drew1) | exact HB.out)⟩⟩
          case rest => as_aux_lemma =>
            clear HC20
            try clear c1
            try clear c2
            try clear p2
            try clear c3
            try clear c4
            try clear c5
            try clear c6
            try clear c7
            try clear c12
            try clear c12b0
            try clear c12b1
            try clear c12b2
            try clear c13
            try clear c13b0
            try clear c13b1
            try clear c14
            try clear c15
            try clear c15b0
            try clear c15b1
            try clear c16
            try clear c16b0
            try clear c16b1
            try clear c17
            try clear c17b0
            try clear c18
            try clear c18b0
            try clear c19
            try clear c21
            try clear c22
            try clear c22b0
            try clear c22b1
            try clear p2
            obtain ⟨kq, x90_19, rfl, HA, HJ19, HB⟩ := hcut
            cases kq with
            | zero => exact absurd HA.out (by simp [laws_FnFansAndCubes.j1])
            | succ kj19 =>
              have H := HA.out
              clear HA
              simp only [laws_FnFansAndCubes.j1] at H
              have HC23 := Aside0.mk H
              clear H
              go_upto_if 90 with (fail)
              go_cut [] (fun wc => ∃ (kq : Nat), Aside0 (laws_FnFansAndCubes.j2 kq l1 t273 t274 t275 t276 = some r) ∧ Aside0 (kq ≤ kj19) ∧ Aside0 (Below w.heap.size w wc))
              case first => as_aux_lemma =>
                have H := HC23.out
                clear HC23
                by_cases c24 : x90_19 = true
                · subst c24
                  have H1 : ((impl_AllTrees.f kj19 (wrap64 (t273 + 1))).bind fun bt279 => (if bt279.2 = true then (if (bt279.1.length : Int) = t275 then (laws_FnFansAndCubes.j2 kj19 l1 t273 t274 t275 t276) else (none)) else (none))) = some r := by rw [if_pos rfl] at H; exact H
                  clear H
                  have H := H1
                  clear H1
                  replace H := Option.bind_eq_some_iff.mp H
                  obtain ⟨⟨t279, t280⟩, A250, H⟩ := H
                  replace H : (if t280 = true then (if (t279.length : Int) = t275 then (laws_FnFansAndCubes.j2 kj19 l1 t273 t274 t275 t276) else (none)) else (none)) = some r := H
                  have A25 := Aside0.mk A250
                  clear A250
                  by_cases c26 : t280 = true
                  · subst c26
                    have H1 : (if (t279.length : Int) = t275 then (laws_FnFansAndCubes.j2 kj19 l1 t273 t274 t275 t276) else (none)) = some r := by rw [if_pos rfl] at H; exact H
                    clear H
                    have H := H1
                    clear H1
                    by_cases c27 : (t279.length : Int) = t275
                    · rw [if_pos c27] at H
                      have c27b0 : ((t279.length : Int) == t275) = true := beq_iff_eq.mpr c27
                      have c27b1 : ((t279.length : Int) != t275) = false := bne_eq_false_iff_eq.mpr c27
                      clear c27
                      (first | rw [c27b0] | (simp only [i64_w, i32_w]; rw [c27b0]) | skip)
                      have H' := Aside0.mk H
                      clear H
                      as_aux_lemma =>
                        go_wp2_with (first | ((with_reducible refine gate_callee (f := 8) rfl ?_); refine goesL_ (some 94) rfl rfl Try.func8 (by kernel_rfl) rfl #[.int .i64 (wrap64 (t273 + 1))] rfl (by (try simp only [List.map_toArray, List.map_cons, List.map_nil]); first | done | rfl | (simp only [List.length_drop, List.length_take]; rfl)) ?_; (with_reducible refine (impl_AllTrees.calls kj19 (wrap64 (t273 + 1)) t279 true _ A25.out).mono ?_); rintro e w28 ⟨v281, rfl, ho0, hb⟩; refine ⟨_, rfl, ?_⟩; have n0_ := Aside0.mk (Kd.S_lower ho0 (below_size (by repeat (first | (with_reducible first | exact HB.out | apply below_alloc | apply pw_below_drewN | apply below_drew1) | exact HB.out)))); have n1_ := Aside0.mk (below_step (by repeat (first | (with_reducible first | exact HB.out | apply below_alloc | apply pw_below_drewN | apply below_drew1) | exact HB.out)) hb); clear HB; have HO282 := n0_; have HB := n1_; clear n0_ n1_; (try clear hb); (try clear hb2); (try clear hk); (try clear hi); (try clear ho0); obtain ⟨Ao29, co29, eo29⟩ := Kd.S_slice HO282.out; subst eo29))
                        go_meet
                        case rel => exact ⟨_, H', ⟨by have := HJ7.out; have := HJ19.out; first | omega | exact Nat.le_refl _⟩, ⟨by repeat (first | (with_reducible first | exact HB.out | apply below_alloc | apply pw_below_drewN | apply below_drew1) | exact HB.out)⟩⟩
                    · rw [if_neg c27] at H
                      exact absurd H (by simp)
                  · replace c26 := Bool.eq_false_iff.mpr c26
                    subst c26
                    have H1 : (none) = some r := by rw [if_neg (show ¬ (false = true) by decide)] at H; exact H
                    clear H
                    have H := H1
                    clear H1
                    exact absurd H (by simp)
                · replace c24 := Bool.eq_false_iff.mpr c24
                  subst c24
                  have H1 : (laws_FnFansAndCubes.j2 kj19 l1 t273 t274 t275 t276) = some r := by rw [if_neg (show ¬ (false = true) by decide)] at H; exact H
                  clear H
                  have H := H1
                  clear H1
                  have H' := Aside0.mk H
                  clear H
                  as_aux_lemma =>
                    go_wp2
                    go_meet
                    case rel => exact ⟨_, H', ⟨by have := HJ7.out; have := HJ19.out; first | omega | exact Nat.le_refl _⟩, ⟨by repeat (first | (with_reducible first | exact HB.out | apply below_alloc | apply pw_below_drewN | apply below_drew1) | exact HB.out)⟩⟩
              case rest => as_aux_lemma =>
                clear HC23
                try clear c1
                try clear c2
                try clear p2
                try clear c3
                try clear c4
                try clear c5
                try clear c6
                try clear p6
                try clear c7
                try clear c8
                try clear c12
                try clear c12b0
                try clear c12b1
                try clear c12b2
                try clear c13
                try clear c13b0
                try clear c13b1
                try clear c14
                try clear c15
                try clear c15b0
                try clear c15b1
                try clear c16
                try clear c16b0
                try clear c16b1
                try clear c17
                try clear c17b0
                try clear c18
                try clear c18b0
                try clear c19
                try clear c21
                try clear c22
                try clear c22b0
                try clear c22b1
                try clear c24
                try clear c26
                try clear c27
                try clear c27b0
                try clear c27b1
                try clear p2
                obtain ⟨kq, HA, HJ22, HB⟩ := hcut
                cases kq with
                | zero => exact absurd HA.out (by simp [laws_FnFansAndCubes.j2])
                | succ kj22 =>
                  have H := HA.out
                  clear HA
                  simp only [laws_FnFansAndCubes.j2] at H
                  have HC30 := Aside0.mk H
                  clear H
                  go_upto_region 12 with (fail)
                  go_cut [117] (fun v117 wc => ∃ (kq : Nat) (x117_29 : Bool), v117 = .bool x117_29 ∧ Aside0 (laws_FnFansAndCubes.j3 kq l1 t273 t275 x117_29 = some r) ∧ Aside0 (kq ≤ kj22) ∧ Aside0 (Below w.heap.size w wc))
                  case first => as_aux_lemma =>
                    have H := HC30.out
                    clear HC30
                    by_cases c31 : t276 = true
                    · subst c31
                      have H1 : (if t274 = 2 then (if t273 ≥ 1 then (laws_FnFansAndCubes.j3 kj22 l1 t273 t275 (decide (t273 ≤ 5))) else (laws_FnFansAndCubes.j3 kj22 l1 t273 t275 false)) else (laws_FnFansAndCubes.j3 kj22 l1 t273 t275 false)) = some r := by rw [if_pos rfl] at H; exact H
                      clear H
                      have H := H1
                      clear H1
                      by_cases c32 : t274 = 2
                      · rw [if_pos c32] at H
                        have c32b0 : (t274 == 2) = true := beq_iff_eq.mpr c32
                        have c32b1 : (t274 != 2) = false := bne_eq_false_iff_eq.mpr c32
                        clear c32
                        (first | rw [c32b0] | (simp only [i64_w, i32_w]; rw [c32b0]) | skip)
                        by_cases c33 : t273 ≥ 1
                        · rw [if_pos c33] at H
                          have c33b0 : decide (1 ≤ t273) = true := decide_eq_true c33
                          clear c33
                          have H' := Aside0.mk H
                          clear H
                          as_aux_lemma =>
                            go_wp2
                            go_meet
                            case rel => exact ⟨_, (decide (t273 ≤ 5)), (by first | rfl | (simp; done) | (simp [*]; done) | (simp only [i64_w]; done)), H', ⟨by have := HJ7.out; have := HJ19.out; have := HJ22.out; first | omega | exact Nat.le_refl _⟩, ⟨by repeat (first | (with_reducible first | exact HB.out | apply below_alloc | apply pw_below_drewN | apply below_drew1) | exact HB.out)⟩⟩
                        · rw [if_neg c33] at H
                          have c33b0 : decide (1 ≤ t273) = false := decide_eq_false c33
                          clear c33
                          have H' := Aside0.mk H
                          clear H
                          as_aux_lemma =>
                            go_wp2
                            go_meet
                            case rel => exact ⟨_, (false), (by first | rfl | (simp; done) | (simp [*]; done) | (simp only [i64_w]; done)), H', ⟨by have := HJ7.out; have := HJ19.out; have := HJ22.out; first | omega | exact Nat.le_refl _⟩, ⟨by repeat (first | (with_reducible first | exact HB.out | apply below_alloc | apply pw_below_drewN | apply below_drew1) | exact HB.out)⟩⟩
                      · rw [if_neg c32] at H
                        have c32b0 : (t274 == 2) = false := beq_eq_false_iff_ne.mpr c32
                        have c32b1 : (t274 != 2) = true := bne_iff_ne.mpr c32
                        (first | rw [c32b0] | (simp only [i64_w, i32_w]; rw [c32b0]) | skip)
                        have H' := Aside0.mk H
                        clear H
                        as_aux_lemma =>
                          go_wp2
                          go_meet
                          case rel => exact ⟨_, (false), (by first | rfl | (simp; done) | (simp [*]; done) | (simp only [i64_w]; done)), H', ⟨by have := HJ7.out; have := HJ19.out; have := HJ22.out; first | omega | exact Nat.le_refl _⟩, ⟨by repeat (first | (with_reducible first | exact HB.out | apply below_alloc | apply pw_below_drewN | apply below_drew1) | exact HB.out)⟩⟩
                    · replace c31 := Bool.eq_false_iff.mpr c31
                      subst c31
                      have H1 : (laws_FnFansAndCubes.j3 kj22 l1 t273 t275 false) = some r := by rw [if_neg (show ¬ (false = true) by decide)] at H; exact H
                      clear H
                      have H := H1
                      clear H1
                      have H' := Aside0.mk H
                      clear H
                      as_aux_lemma =>
                        go_wp2
                        go_meet
                        case rel => exact ⟨_, (false), (by first | rfl | (simp; done) | (simp [*]; done) | (simp only [i64_w]; done)), H', ⟨by have := HJ7.out; have := HJ19.out; have := HJ22.out; first | omega | exact Nat.le_refl _⟩, ⟨by repeat (first | (with_reducible first | exact HB.out | apply below_alloc | apply pw_below_drewN | apply below_drew1) | exact HB.out)⟩⟩
                  case rest => as_aux_lemma =>
                    clear HC30
                    try clear c1
                    try clear c2
                    try clear p2
                    try clear c3
                    try clear c4
                    try clear c5
                    try clear c6
                    try clear p6
                    try clear c7
                    try clear c8
                    try clear c12
                    try clear c12b0
                    try clear c12b1
                    try clear c12b2
                    try clear c13
                    try clear c13b0
                    try clear c13b1
                    try clear c14
                    try clear c15
                    try clear c15b0
                    try clear c15b1
                    try clear c16
                    try clear c16b0
                    try clear c16b1
                    try clear c17
                    try clear c17b0
                    try clear c18
                    try clear c18b0
                    try clear c19
                    try clear c21
                    try clear c22
                    try clear c22b0
                    try clear c22b1
                    try clear c24
                    try clear c26
                    try clear c27
                    try clear c27b0
                    try clear c27b1
                    try clear c31
                    try clear c32
                    try clear c32b0
                    try clear c32b1
                    try clear c33
                    try clear c33b0
                    try clear p2
                    try clear p6
                    obtain ⟨kq, x117_29, rfl, HA, HJ29, HB⟩ := hcut
                    cases kq with
                    | zero => exact absurd HA.out (by simp [laws_FnFansAndCubes.j3])
                    | succ kj29 =>
                      have H := HA.out
                      clear HA
                      simp only [laws_FnFansAndCubes.j3] at H
                      have HC34 := Aside0.mk H
                      clear H
                      go_upto_if 117 with (fail)
                      go_cut [] (fun wc => ∃ (kq : Nat), Aside0 (laws_FnFansAndCubes.j4 kq l1 = some r) ∧ Aside0 (kq ≤ kj29) ∧ Aside0 (Below w.heap.size w wc))
                      case first => as_aux_lemma =>
                        have H := HC34.out
                        clear HC34
                        by_cases c35 : x117_29 = true
                        · subst c35
                          have H1 : ((impl_CountFans.f kj29 t273 1).bind fun bt283 => ((impl_CountFans.f kj29 (wrap64 (t273 + 1)) 1).bind fun bt285 => ((impl_CountFans.f kj29 (wrap64 (t273 + 2)) 1).bind fun bt287 => (if bt283.2 = true then (if bt285.2 = true then (if bt287.2 = true then (if (wrap64 ((wrap64 (bt283.1 * bt287.1)) - (wrap64 (bt285.1 * bt285.1)))) = t275 then (laws_FnFansAndCubes.j4 kj29 l1) else (none)) else (none)) else (none)) else (none))))) = some r := by rw [if_pos rfl] at H; exact H
                          clear H
                          have H := H1
                          clear H1
                          replace H := Option.bind_eq_some_iff.mp H
                          obtain ⟨⟨t283, t284⟩, A360, H⟩ := H
                          replace H : ((impl_CountFans.f kj29 (wrap64 (t273 + 1)) 1).bind fun bt285 => ((impl_CountFans.f kj29 (wrap64 (t273 + 2)) 1).bind fun bt287 => (if t284 = true then (if bt285.2 = true then (if bt287.2 = true then (if (wrap64 ((wrap64 (t283 * bt287.1)) - (wrap64 (bt285.1 * bt285.1)))) = t275 then (laws_FnFansAndCubes.j4 kj29 l1) else (none)) else (none)) else (none)) else (none)))) = some r := H
                          have A36 := Aside0.mk A360
                          clear A360
                          replace H := Option.bind_eq_some_iff.mp H
                          obtain ⟨⟨t285, t286⟩, A370, H⟩ := H
                          replace H : ((impl_CountFans.f kj29 (wrap64 (t273 + 2)) 1).bind fun bt287 => (if t284 = true then (if t286 = true then (if bt287.2 = true then (if (wrap64 ((wrap64 (t283 * bt287.1)) - (wrap64 (t285 * t285)))) = t275 then (laws_FnFansAndCubes.j4 kj29 l1) else (none)) else (none)) else (none)) else (none))) = some r := H
                          have A37 := Aside0.mk A370
                          clear A370
                          replace H := Option.bind_eq_some_iff.mp H
                          obtain ⟨⟨t287, t288⟩, A380, H⟩ := H
                          replace H : (if t284 = true then (if t286 = true then (if t288 = true then (if (wrap64 ((wrap64 (t283 * t287)) - (wrap64 (t285 * t285)))) = t275 then (laws_FnFansAndCubes.j4 kj29 l1) else (none)) else (none)) else (none)) else (none)) = some r := H
                          have A38 := Aside0.mk A380
                          clear A380
                          by_cases c39 : t284 = true
                          · subst c39
                            have H1 : (if t286 = true then (if t288 = true then (if (wrap64 ((wrap64 (t283 * t287)) - (wrap64 (t285 * t285)))) = t275 then (laws_FnFansAndCubes.j4 kj29 l1) else (none)) else (none)) else (none)) = some r := by rw [if_pos rfl] at H; exact H
                            clear H
                            have H := H1
                            clear H1
                            by_cases c40 : t286 = true
                            · subst c40
                              have H1 : (if t288 = true then (if (wrap64 ((wrap64 (t283 * t287)) - (wrap64 (t285 * t285)))) = t275 then (laws_FnFansAndCubes.j4 kj29 l1) else (none)) else (none)) = some r := by rw [if_pos rfl] at H; exact H
                              clear H
                              have H := H1
                              clear H1
                              by_cases c41 : t288 = true
                              · subst c41
                                have H1 : (if (wrap64 ((wrap64 (t283 * t287)) - (wrap64 (t285 * t285)))) = t275 then (laws_FnFansAndCubes.j4 kj29 l1) else (none)) = some r := by rw [if_pos rfl] at H; exact H
                                clear H
                                have H := H1
                                clear H1
                                by_cases c42 : (wrap64 ((wrap64 (t283 * t287)) - (wrap64 (t285 * t285)))) = t275
                                · rw [if_pos c42] at H
                                  have c42b0 : ((wrap64 ((wrap64 (t283 * t287)) - (wrap64 (t285 * t285)))) == t275) = true := beq_iff_eq.mpr c42
                                  have c42b1 : ((wrap64 ((wrap64 (t283 * t287)) - (wrap64 (t285 * t285)))) != t275) = false := bne_eq_false_iff_eq.mpr c42
                                  clear c42
                                  (first | rw [c42b0] | (simp only [i64_w, i32_w]; rw [c42b0]) | skip)
                                  have H' := Aside0.mk H
                                  clear H
                                  as_aux_lemma =>
                                    go_wp2_with (first | ((with_reducible refine gate_callee (f := 6) rfl ?_); refine goesL_ (some 120) rfl rfl Try.func6 (by kernel_rfl) rfl #[.int .i64 t273, .int .i64 1] rfl (by (try simp only [List.map_toArray, List.map_cons, List.map_nil]); first | done | rfl | (simp only [List.length_drop, List.length_take]; rfl)) ?_; (with_reducible refine (impl_CountFans.calls kj29 t273 1 t283 true _ A36.out).mono ?_); rintro e w43 ⟨rfl, hb⟩; refine ⟨_, rfl, ?_⟩; have n0_ := Aside0.mk (below_step (by repeat (first | (with_reducible first | exact HB.out | apply below_alloc | apply pw_below_drewN | apply below_drew1) | exact HB.out)) hb); clear HB; have HB := n0_; clear n0_; (try clear hb); (try clear hb2); (try clear hk); (try clear hi)) | ((with_reducible refine gate_callee (f := 6) rfl ?_); refine goesL_ (some 126) rfl rfl Try.func6 (by kernel_rfl) rfl #[.int .i64 (wrap64 (t273 + 1)), .int .i64 1] rfl (by (try simp only [List.map_toArray, List.map_cons, List.map_nil]); first | done | rfl | (simp only [List.length_drop, List.length_take]; rfl)) ?_; (with_reducible refine (impl_CountFans.calls kj29 (wrap64 (t273 + 1)) 1 t285 true _ A37.out).mono ?_); rintro e w44 ⟨rfl, hb⟩; refine ⟨_, rfl, ?_⟩; have n0_ := Aside0.mk (below_step (by repeat (first | (with_reducible first | exact HB.out | apply below_alloc | apply pw_below_drewN | apply below_drew1) | exact HB.out)) hb); clear HB; have HB := n0_; clear n0_; (try clear hb); (try clear hb2); (try clear hk); (try clear hi)) | ((with_reducible refine gate_callee (f := 6) rfl ?_); refine goesL_ (some 132) rfl rfl Try.func6 (by kernel_rfl) rfl #[.int .i64 (wrap64 (t273 + 2)), .int .i64 1] rfl (by (try simp only [List.map_toArray, List.map_cons, List.map_nil]); first | done | rfl | (simp only [List.length_drop, List.length_take]; rfl)) ?_; (with_reducible refine (impl_CountFans.calls kj29 (wrap64 (t273 + 2)) 1 t287 true _ A38.out).mono ?_); rintro e w45 ⟨rfl, hb⟩; refine ⟨_, rfl, ?_⟩; have n0_ := Aside0.mk (below_step (by repeat (first | (with_reducible first | exact HB.out | apply below_alloc | apply pw_below_drewN | apply below_drew1) | exact HB.out)) hb); clear HB; have HB := n0_; clear n0_; (try clear hb); (try clear hb2); (try clear hk); (try clear hi)))
                                    go_meet
                                    case rel => exact ⟨_, H', ⟨by have := HJ7.out; have := HJ19.out; have := HJ22.out; have := HJ29.out; first | omega | exact Nat.le_refl _⟩, ⟨by repeat (first | (with_reducible first | exact HB.out | apply below_alloc | apply pw_below_drewN | apply below_drew1) | exact HB.out)⟩⟩
                                · rw [if_neg c42] at H
                                  exact absurd H (by simp)
                              · replace c41 := Bool.eq_false_iff.mpr c41
                                subst c41
                                have H1 : (none) = some r := by rw [if_neg (show ¬ (false = true) by decide)] at H; exact H
                                clear H
                                have H := H1
                                clear H1
                                exact absurd H (by simp)
                            · replace c40 := Bool.eq_false_iff.mpr c40
                              subst c40
                              have H1 : (none) = some r := by rw [if_neg (show ¬ (false = true) by decide)] at H; exact H
                              clear H
                              have H := H1
                              clear H1
                              exact absurd H (by simp)
                          · replace c39 := Bool.eq_false_iff.mpr c39
                            subst c39
                            have H1 : (none) = some r := by rw [if_neg (show ¬ (false = true) by decide)] at H; exact H
                            clear H
                            have H := H1
                            clear H1
                            exact absurd H (by simp)
                        · replace c35 := Bool.eq_false_iff.mpr c35
                          subst c35
                          have H1 : (laws_FnFansAndCubes.j4 kj29 l1) = some r := by rw [if_neg (show ¬ (false = true) by decide)] at H; exact H
                          clear H
                          have H := H1
                          clear H1
                          have H' := Aside0.mk H
                          clear H
                          as_aux_lemma =>
                            go_wp2
                            go_meet
                            case rel => exact ⟨_, H', ⟨by have := HJ7.out; have := HJ19.out; have := HJ22.out; have := HJ29.out; first | omega | exact Nat.le_refl _⟩, ⟨by repeat (first | (with_reducible first | exact HB.out | apply below_alloc | apply pw_below_drewN | apply below_drew1) | exact HB.out)⟩⟩
                      case rest => as_aux_lemma =>
                        clear HC34
                        try clear c1
                        try clear c2
                        try clear p2
                        try clear c3
                        try clear c4
                        try clear c5
                        try clear c6
                        try clear p6
                        try clear c7
                        try clear c8
                        try clear c12
                        try clear c12b0
                        try clear c12b1
                        try clear c12b2
                        try clear c13
                        try clear c13b0
                        try clear c13b1
                        try clear c14
                        try clear c15
                        try clear c15b0
                        try clear c15b1
                        try clear c16
                        try clear c16b0
                        try clear c16b1
                        try clear c17
                        try clear c17b0
                        try clear c18
                        try clear c18b0
                        try clear c19
                        try clear c21
                        try clear c22
                        try clear c22b0
                        try clear c22b1
                        try clear c24
                        try clear c26
                        try clear c27
                        try clear c27b0
                        try clear c27b1
                        try clear c31
                        try clear c32
                        try clear c32b0
                        try clear c32b1
                        try clear c33
                        try clear c33b0
                        try clear c35
                        try clear c39
                        try clear c40
                        try clear c41
                        try clear c42
                        try clear c42b0
                        try clear c42b1
                        try clear p2
                        try clear p6
                        obtain ⟨kq, HA, HJ33, HB⟩ := hcut
                        cases kq with
                        | zero => exact absurd HA.out (by simp [laws_FnFansAndCubes.j4])
                        | succ kj33 =>
                          have H := HA.out
                          clear HA
                          simp only [laws_FnFansAndCubes.j4] at H
                          replace H := Option.bind_eq_some_iff.mp H
                          obtain ⟨⟨t289, t290, t291⟩, A460, H⟩ := H
                          replace H : ((impl_CountCubes.f kj33 t289 t290 t291).bind fun bt292 => ((spec_CountCubes.f kj33 t289 t290 t291).bind fun bt294 => (if (bt292.2 != bt294.2) = true then (laws_FnFansAndCubes.j5 kj33 t289 t290 t291 bt292.1 bt292.2 true) else (laws_FnFansAndCubes.j5 kj33 t289 t290 t291 bt292.1 bt292.2 (bt292.1 != bt294.1))))) = some r := H
                          have A46 := Aside0.mk A460
                          clear A460
                          replace H := Option.bind_eq_some_iff.mp H
                          obtain ⟨⟨t292, t293⟩, A470, H⟩ := H
                          replace H : ((spec_CountCubes.f kj33 t289 t290 t291).bind fun bt294 => (if (t293 != bt294.2) = true then (laws_FnFansAndCubes.j5 kj33 t289 t290 t291 t292 t293 true) else (laws_FnFansAndCubes.j5 kj33 t289 t290 t291 t292 t293 (t292 != bt294.1)))) = some r := H
                          have A47 := Aside0.mk A470
                          clear A470
                          replace H := Option.bind_eq_some_iff.mp H
                          obtain ⟨⟨t294, t295⟩, A480, H⟩ := H
                          replace H : (if (t293 != t295) = true then (laws_FnFansAndCubes.j5 kj33 t289 t290 t291 t292 t293 true) else (laws_FnFansAndCubes.j5 kj33 t289 t290 t291 t292 t293 (t292 != t294))) = some r := H
                          have A48 := Aside0.mk A480
                          clear A480
                          have HC49 := Aside0.mk H
                          clear H
                          go_upto_region 21 with (first | ((with_reducible refine gate_callee (f := 9) rfl ?_); refine goesL_ (some 158) rfl rfl Try.func9 (by kernel_rfl) rfl #[.slice A1 l1.length c1] rfl (by (try simp only [List.map_toArray, List.map_cons, List.map_nil]); first | done | rfl | (simp only [List.length_drop, List.length_take]; rfl)) ?_; (with_reducible refine (spec_DrawCountCubes.calls _ _ l1 t289 t290 t291 _ ?side1 ?side2 A46.out).mono ?_); (case side1 => repeat (first | exact (Kd.C_below HR1.out HB.out) | (with_reducible refine Kd.C_alloc ?_ _) | (with_reducible refine Kd.C_drewN ?_ _) | (with_reducible refine Kd.C_drew ?_))); (case side2 => exact HC1.out); rintro e w50 ⟨rfl, hb⟩; refine ⟨_, rfl, ?_⟩; have n0_ := Aside0.mk (below_step (by repeat (first | (with_reducible first | exact HB.out | apply below_alloc | apply pw_below_drewN | apply below_drew1) | exact HB.out)) hb); clear HB; have HB := n0_; clear n0_; (try clear hb); (try clear hb2); (try clear hk); (try clear hi)) | ((with_reducible refine gate_callee (f := 10) rfl ?_); refine goesL_ (some 166) rfl rfl Try.func10 (by kernel_rfl) rfl #[.int .i64 t289, .int .i64 t290, .int .i64 t291] rfl (by (try simp only [List.map_toArray, List.map_cons, List.map_nil]); first | done | rfl | (simp only [List.length_drop, List.length_take]; rfl)) ?_; (with_reducible refine (impl_CountCubes.calls kj33 t289 t290 t291 t292 t293 _ A47.out).mono ?_); rintro e w51 ⟨rfl, hb⟩; refine ⟨_, rfl, ?_⟩; have n0_ := Aside0.mk (below_step (by repeat (first | (with_reducible first | exact HB.out | apply below_alloc | apply pw_below_drewN | apply below_drew1) | exact HB.out)) hb); clear HB; have HB := n0_; clear n0_; (try clear hb); (try clear hb2); (try clear hk); (try clear hi)) | ((with_reducible refine gate_callee (f := 11) rfl ?_); refine goesL_ (some 173) rfl rfl Try.func11 (by kernel_rfl) rfl #[.int .i64 t289, .int .i64 t290, .int .i64 t291] rfl (by (try simp only [List.map_toArray, List.map_cons, List.map_nil]); first | done | rfl | (simp only [List.length_drop, List.length_take]; rfl)) ?_; (with_reducible refine (spec_CountCubes.calls kj33 t289 t290 t291 t294 t295 _ A48.out).mono ?_); rintro e w52 ⟨rfl, hb⟩; refine ⟨_, rfl, ?_⟩; have n0_ := Aside0.mk (below_step (by repeat (first | (with_reducible first | exact HB.out | apply below_alloc | apply pw_below_drewN | apply below_drew1) | exact HB.out)) hb); clear HB; have HB := n0_; clear n0_; (try clear hb); (try clear hb2); (try clear hk); (try clear hi)))
                          (try simp only [Act.put, List.setIfInBounds_toArray, List.set_cons_zero, List.set_cons_succ])
                          go_cut [183] (fun v183 wc => ∃ (kq : Nat) (x183_48 : Bool), v183 = .bool x183_48 ∧ Aside0 (laws_FnFansAndCubes.j5 kq t289 t290 t291 t292 t293 x183_48 = some r) ∧ Aside0 (kq ≤ kj33) ∧ Aside0 (Below w.heap.size w wc))
                          case first => as_aux_lemma =>
                            have H := HC49.out
                            clear HC49
                            by_cases c53 : (t293 != t295) = true
                            · rw [if_pos c53] at H
                              have c53b0 : (t293 != t295) = true := c53
                              (try (have c53b1 : decide (t293 = t295) = false := by simpa using c53))
                              (try (have c53b2 : (t293 == t295) = false := by simpa using c53))
                              (try (have c53b3 : ¬ (t293 = t295) := by simpa using c53))
                              clear c53
                              (first | rw [c53b0] | (simp only [i64_w, i32_w]; rw [c53b0]) | skip)
                              exact absurd H (by generalize kj33 = q_; cases q_ <;> simp [laws_FnFansAndCubes.j5])
                            · rw [if_neg c53] at H
                              have c53b0 : (t293 != t295) = false := by simpa using c53
                              (try (have c53b1 : decide (t293 = t295) = true := by simpa using c53))
                              (try (have c53b2 : (t293 == t295) = true := by simpa using c53))
                              clear c53
                              (first | rw [c53b0] | (simp only [i64_w, i32_w]; rw [c53b0]) | skip)
                              have H' := Aside0.mk H
                              clear H
                              as_aux_lemma =>
                                go_wp2
                                go_meet
                                case rel => exact ⟨_, ((t292 != t294)), (by first | rfl | (simp; done) | (simp [*]; done) | (simp only [i64_w]; done)), H', ⟨by have := HJ7.out; have := HJ19.out; have := HJ22.out; have := HJ29.out; have := HJ33.out; first | omega | exact Nat.le_refl _⟩, ⟨by repeat (first | (with_reducible first | exact HB.out | apply below_alloc | apply pw_below_drewN | apply below_drew1) | exact HB.out)⟩⟩
                          case rest => as_aux_lemma =>
                            clear HC49
                            try clear c1
                            try clear c2
                            try clear p2
                            try clear c3
                            try clear c4
                            try clear c5
                            try clear c6
                            try clear p6
                            try clear c7
                            try clear c8
                            try clear c9
                            try clear c10
                            try clear c11
                            try clear c12
                            try clear c12b0
                            try clear c12b1
                            try clear c12b2
                            try clear c13
                            try clear c13b0
                            try clear c13b1
                            try clear c14
                            try clear c15
                            try clear c15b0
                            try clear c15b1
                            try clear c16
                            try clear c16b0
                            try clear c16b1
                            try clear c17
                            try clear c17b0
                            try clear c18
                            try clear c18b0
                            try clear c19
                            try clear c21
                            try clear c22
                            try clear c22b0
                            try clear c22b1
                            try clear c24
                            try clear c26
                            try clear c27
                            try clear c27b0
                            try clear c27b1
                            try clear c31
                            try clear c32
                            try clear c32b0
                            try clear c32b1
                            try clear c33
                            try clear c33b0
                            try clear c35
                            try clear c39
                            try clear c40
                            try clear c41
                            try clear c42
                            try clear c42b0
                            try clear c42b1
                            try clear c53
                            try clear c53b0
                            try clear c53b1
                            try clear c53b2
                            try clear p2
                            try clear p6
                            obtain ⟨kq, x183_48, rfl, HA, HJ48, HB⟩ := hcut
                            cases kq with
                            | zero => exact absurd HA.out (by simp [laws_FnFansAndCubes.j5])
                            | succ kj48 =>
                              have H := HA.out
                              clear HA
                              simp only [laws_FnFansAndCubes.j5] at H
                              by_cases c54 : x183_48 = true
                              · subst c54
                                have H1 : (none) = some r := by rw [if_pos rfl] at H; exact H
                                clear H
                                have H := H1
                                clear H1
                                exact absurd H (by simp)
                              · replace c54 := Bool.eq_false_iff.mpr c54
                                subst c54
                                have H1 : (if t293 = true then ((impl_CountCubes.f kj48 t290 t289 t291).bind fun bt296 => ((impl_CountCubes.f kj48 t289 t291 t290).bind fun bt298 => (if bt296.2 = true then (if bt296.1 = t292 then (if bt298.2 = true then (if bt298.1 = t292 then (if (wrap64 ((wrap64 (t289 * t290)) * t291)) = 0 then (laws_FnFansAndCubes.j6 kj48 t289 t290 t291 t292 (t292 != 1)) else (laws_FnFansAndCubes.j6 kj48 t289 t290 t291 t292 false)) else (laws_FnFansAndCubes.j6 kj48 t289 t290 t291 t292 true)) else (laws_FnFansAndCubes.j6 kj48 t289 t290 t291 t292 true)) else (laws_FnFansAndCubes.j6 kj48 t289 t290 t291 t292 true)) else (laws_FnFansAndCubes.j6 kj48 t289 t290 t291 t292 true)))) else (some true)) = some r := by rw [if_neg (show ¬ (false = true) by decide)] at H; exact H
                                clear H
                                have H := H1
                                clear H1
                                by_cases c55 : t293 = true
                                · subst c55
                                  have H1 : ((impl_CountCubes.f kj48 t290 t289 t291).bind fun bt296 => ((impl_CountCubes.f kj48 t289 t291 t290).bind fun bt298 => (if bt296.2 = true then (if bt296.1 = t292 then (if bt298.2 = true then (if bt298.1 = t292 then (if (wrap64 ((wrap64 (t289 * t290)) * t291)) = 0 then (laws_FnFansAndCubes.j6 kj48 t289 t290 t291 t292 (t292 != 1)) else (laws_FnFansAndCubes.j6 kj48 t289 t290 t291 t292 false)) else (laws_FnFansAndCubes.j6 kj48 t289 t290 t291 t292 true)) else (laws_FnFansAndCubes.j6 kj48 t289 t290 t291 t292 true)) else (laws_FnFansAndCubes.j6 kj48 t289 t290 t291 t292 true)) else (laws_FnFansAndCubes.j6 kj48 t289 t290 t291 t292 true)))) = some r := by rw [if_pos rfl] at H; exact H
                                  clear H
                                  have H := H1
                                  clear H1
                                  replace H := Option.bind_eq_some_iff.mp H
                                  obtain ⟨⟨t296, t297⟩, A560, H⟩ := H
                                  replace H : ((impl_CountCubes.f kj48 t289 t291 t290).bind fun bt298 => (if t297 = true then (if t296 = t292 then (if bt298.2 = true then (if bt298.1 = t292 then (if (wrap64 ((wrap64 (t289 * t290)) * t291)) = 0 then (laws_FnFansAndCubes.j6 kj48 t289 t290 t291 t292 (t292 != 1)) else (laws_FnFansAndCubes.j6 kj48 t289 t290 t291 t292 false)) else (laws_FnFansAndCubes.j6 kj48 t289 t290 t291 t292 true)) else (laws_FnFansAndCubes.j6 kj48 t289 t290 t291 t292 true)) else (laws_FnFansAndCubes.j6 kj48 t289 t290 t291 t292 true)) else (laws_FnFansAndCubes.j6 kj48 t289 t290 t291 t292 true))) = some r := H
                                  have A56 := Aside0.mk A560
                                  clear A560
                                  replace H := Option.bind_eq_some_iff.mp H
                                  obtain ⟨⟨t298, t299⟩, A570, H⟩ := H
                                  replace H : (if t297 = true then (if t296 = t292 then (if t299 = true then (if t298 = t292 then (if (wrap64 ((wrap64 (t289 * t290)) * t291)) = 0 then (laws_FnFansAndCubes.j6 kj48 t289 t290 t291 t292 (t292 != 1)) else (laws_FnFansAndCubes.j6 kj48 t289 t290 t291 t292 false)) else (laws_FnFansAndCubes.j6 kj48 t289 t290 t291 t292 true)) else (laws_FnFansAndCubes.j6 kj48 t289 t290 t291 t292 true)) else (laws_FnFansAndCubes.j6 kj48 t289 t290 t291 t292 true)) else (laws_FnFansAndCubes.j6 kj48 t289 t290 t291 t292 true)) = some r := H
                                  have A57 := Aside0.mk A570
                                  clear A570
                                  have HC58 := Aside0.mk H
                                  clear H
                                  go_upto_region 26 with (first | ((with_reducible refine gate_callee (f := 10) rfl ?_); refine goesL_ (some 189) rfl rfl Try.func10 (by kernel_rfl) rfl #[.int .i64 t290, .int .i64 t289, .int .i64 t291] rfl (by (try simp only [List.map_toArray, List.map_cons, List.map_nil]); first | done | rfl | (simp only [List.length_drop, List.length_take]; rfl)) ?_; (with_reducible refine (impl_CountCubes.calls kj48 t290 t289 t291 t296 t297 _ A56.out).mono ?_); rintro e w59 ⟨rfl, hb⟩; refine ⟨_, rfl, ?_⟩; have n0_ := Aside0.mk (below_step (by repeat (first | (with_reducible first | exact HB.out | apply below_alloc | apply pw_below_drewN | apply below_drew1) | exact HB.out)) hb); clear HB; have HB := n0_; clear n0_; (try clear hb); (try clear hb2); (try clear hk); (try clear hi)) | ((with_reducible refine gate_callee (f := 10) rfl ?_); refine goesL_ (some 196) rfl rfl Try.func10 (by kernel_rfl) rfl #[.int .i64 t289, .int .i64 t291, .int .i64 t290] rfl (by (try simp only [List.map_toArray, List.map_cons, List.map_nil]); first | done | rfl | (simp only [List.length_drop, List.length_take]; rfl)) ?_; (with_reducible refine (impl_CountCubes.calls kj48 t289 t291 t290 t298 t299 _ A57.out).mono ?_); rintro e w60 ⟨rfl, hb⟩; refine ⟨_, rfl, ?_⟩; have n0_ := Aside0.mk (below_step (by repeat (first | (with_reducible first | exact HB.out | apply below_alloc | apply pw_below_drewN | apply below_drew1) | exact HB.out)) hb); clear HB; have HB := n0_; clear n0_; (try clear hb); (try clear hb2); (try clear hk); (try clear hi)))
                                  (try simp only [Act.put, List.setIfInBounds_toArray, List.set_cons_zero, List.set_cons_succ])
                                  go_cut [226] (fun v226 wc => ∃ (kq : Nat) (x226_57 : Bool), v226 = .bool x226_57 ∧ Aside0 (laws_FnFansAndCubes.j6 kq t289 t290 t291 t292 x226_57 = some r) ∧ Aside0 (kq ≤ kj48) ∧ Aside0 (Below w.heap.size w wc))
                                  case first => as_aux_lemma =>
                                    have H := HC58.out
                                    clear HC58
                                    by_cases c61 : t297 = true
                                    · subst c61
                                      have H1 : (if t296 = t292 then (if t299 = true then (if t298 = t292 then (if (wrap64 ((wrap64 (t289 * t290)) * t291)) = 0 then (laws_FnFansAndCubes.j6 kj48 t289 t290 t291 t292 (t292 != 1)) else (laws_FnFansAndCubes.j6 kj48 t289 t290 t291 t292 false)) else (laws_FnFansAndCubes.j6 kj48 t289 t290 t291 t292 true)) else (laws_FnFansAndCubes.j6 kj48 t289 t290 t291 t292 true)) else (laws_FnFansAndCubes.j6 kj48 t289 t290 t291 t292 true)) = some r := by rw [if_pos rfl] at H; exact H
                                      clear H
                                      have H := H1
                                      clear H1
                                      by_cases c62 : t296 = t292
                                      · rw [if_pos c62] at H
                                        have c62b0 : (t296 == t292) = true := beq_iff_eq.mpr c62
                                        have c62b1 : (t296 != t292) = false := bne_eq_false_iff_eq.mpr c62
                                        clear c62
                                        (first | rw [c62b0] | (simp only [i64_w, i32_w]; rw [c62b0]) | skip)
                                        by_cases c63 : t299 = true
                                        · subst c63
                                          have H1 : (if t298 = t292 then (if (wrap64 ((wrap64 (t289 * t290)) * t291)) = 0 then (laws_FnFansAndCubes.j6 kj48 t289 t290 t291 t292 (t292 != 1)) else (laws_FnFansAndCubes.j6 kj48 t289 t290 t291 t292 false)) else (laws_FnFansAndCubes.j6 kj48 t289 t290 t291 t292 true)) = some r := by rw [if_pos rfl] at H; exact H
                                          clear H
                                          have H := H1
                                          clear H1
                                          by_cases c64 : t298 = t292
                                          · rw [if_pos c64] at H
                                            have c64b0 : (t298 == t292) = true := beq_iff_eq.mpr c64
                                            have c64b1 : (t298 != t292) = false := bne_eq_false_iff_eq.mpr c64
                                            clear c64
                                            by_cases c65 : (wrap64 ((wrap64 (t289 * t290)) * t291)) = 0
                                            · rw [if_pos c65] at H
                                              have c65b0 : ((wrap64 ((wrap64 (t289 * t290)) * t291)) == 0) = true := beq_iff_eq.mpr c65
                                              have c65b1 : ((wrap64 ((wrap64 (t289 * t290)) * t291)) != 0) = false := bne_eq_false_iff_eq.mpr c65
                                              clear c65
                                              have H' := Aside0.mk H
                                              clear H
                                              as_aux_lemma =>
                                                go_wp2
                                                go_meet
                                                case rel => exact ⟨_, ((t292 != 1)), (by first | rfl | (simp; done) | (simp [*]; done) | (simp only [i64_w]; done)), H', ⟨by have := HJ7.out; have := HJ19.out; have := HJ22.out; have := HJ29.out; have := HJ33.out; have := HJ48.out; first | omega | exact Nat.le_refl _⟩, ⟨by repeat (first | (with_reducible first | exact HB.out | apply below_alloc | apply pw_below_drewN | apply below_drew1) | exact HB.out)⟩⟩
                                            · rw [if_neg c65] at H
                                              have c65b0 : ((wrap64 ((wrap64 (t289 * t290)) * t291)) == 0) = false := beq_eq_false_iff_ne.mpr c65
                                              have c65b1 : ((wrap64 ((wrap64 (t289 * t290)) * t291)) != 0) = true := bne_iff_ne.mpr c65
                                              try clear c65
                                              have H' := Aside0.mk H
                                              clear H
                                              as_aux_lemma =>
                                                go_wp2
                                                go_meet
                                                case rel => exact ⟨_, (false), (by first | rfl | (simp; done) | (simp [*]; done) | (simp only [i64_w]; done)), H', ⟨by have := HJ7.out; have := HJ19.out; have := HJ22.out; have := HJ29.out; have := HJ33.out; have := HJ48.out; first | omega | exact Nat.le_refl _⟩, ⟨by repeat (first | (with_reducible first | exact HB.out | apply below_alloc | apply pw_below_drewN | apply below_drew1) | exact HB.out)⟩⟩
                                          · rw [if_neg c64] at H
                                            have c64b0 : (t298 == t292) = false := beq_eq_false_iff_ne.mpr c64
                                            have c64b1 : (t298 != t292) = true := bne_iff_ne.mpr c64
                                            exact absurd H (by generalize kj48 = q_; cases q_ <;> simp [laws_FnFansAndCubes.j6])
                                        · replace c63 := Bool.eq_false_iff.mpr c63
                                          subst c63
                                          have H1 : (laws_FnFansAndCubes.j6 kj48 t289 t290 t291 t292 true) = some r := by rw [if_neg (show ¬ (false = true) by decide)] at H; exact H
                                          clear H
                                          have H := H1
                                          clear H1
                                          exact absurd H (by generalize kj48 = q_; cases q_ <;> simp [laws_FnFansAndCubes.j6])
                                      · rw [if_neg c62] at H
                                        have c62b0 : (t296 == t292) = false := beq_eq_false_iff_ne.mpr c62
                                        have c62b1 : (t296 != t292) = true := bne_iff_ne.mpr c62
                                        (first | rw [c62b0] | (simp only [i64_w, i32_w]; rw [c62b0]) | skip)
                                        exact absurd H (by generalize kj48 = q_; cases q_ <;> simp [laws_FnFansAndCubes.j6])
                                    · replace c61 := Bool.eq_false_iff.mpr c61
                                      subst c61
                                      have H1 : (laws_FnFansAndCubes.j6 kj48 t289 t290 t291 t292 true) = some r := by rw [if_neg (show ¬ (false = true) by decide)] at H; exact H
                                      clear H
                                      have H := H1
                                      clear H1
                                      exact absurd H (by generalize kj48 = q_; cases q_ <;> simp [laws_FnFansAndCubes.j6])
                                  case rest => as_aux_lemma =>
                                    clear HC58
                                    try clear c1
                                    try clear c2
                                    try clear p2
                                    try clear c3
                                    try clear c4
                                    try clear c5
                                    try clear c6
                                    try clear p6
                                    try clear c7
                                    try clear c8
                                    try clear c9
                                    try clear c10
                                    try clear c11
                                    try clear c12
                                    try clear c12b0
                                    try clear c12b1
                                    try clear c12b2
                                    try clear c13
                                    try clear c13b0
                                    try clear c13b1
                                    try clear c14
                                    try clear c15
                                    try clear c15b0
                                    try clear c15b1
                                    try clear c16
                                    try clear c16b0
                                    try clear c16b1
                                    try clear c17
                                    try clear c17b0
                                    try clear c18
                                    try clear c18b0
                                    try clear c19
                                    try clear c21
                                    try clear c22
                                    try clear c22b0
                                    try clear c22b1
                                    try clear c24
                                    try clear c26
                                    try clear c27
                                    try clear c27b0
                                    try clear c27b1
                                    try clear c31
                                    try clear c32
                                    try clear c32b0
                                    try clear c32b1
                                    try clear c33
                                    try clear c33b0
                                    try clear c35
                                    try clear c39
                                    try clear c40
                                    try clear c41
                                    try clear c42
                                    try clear c42b0
                                    try clear c42b1
                                    try clear c53
                                    try clear c53b0
                                    try clear c53b1
                                    try clear c53b2
                                    try clear c54
                                    try clear c55
                                    try clear c61
                                    try clear c62
                                    try clear c62b0
                                    try clear c62b1
                                    try clear c63
                                    try clear c64
                                    try clear c64b0
                                    try clear c64b1
                                    try clear p64
                                    try clear c65
                                    try clear c65b0
                                    try clear c65b1
                                    try clear p2
                                    try clear p6
                                    obtain ⟨kq, x226_57, rfl, HA, HJ57, HB⟩ := hcut
                                    cases kq with
                                    | zero => exact absurd HA.out (by simp [laws_FnFansAndCubes.j6])
                                    | succ kj57 =>
                                      have H := HA.out
                                      clear HA
                                      simp only [laws_FnFansAndCubes.j6] at H
                                      by_cases c66 : x226_57 = true
                                      · subst c66
                                        have H1 : (none) = some r := by rw [if_pos rfl] at H; exact H
                                        clear H
                                        have H := H1
                                        clear H1
                                        exact absurd H (by simp)
                                      · replace c66 := Bool.eq_false_iff.mpr c66
                                        subst c66
                                        have H1 : (if t289 > 0 then (laws_FnFansAndCubes.l0 kj57 t289 t290 t291 t292 ([] : List (S36)) ([] : List (S36)) 0) else (some true)) = some r := by rw [if_neg (show ¬ (false = true) by decide)] at H; exact H
                                        clear H
                                        have H := H1
                                        clear H1
                                        by_cases c67 : t289 > 0
                                        · rw [if_pos c67] at H
                                          have c67b0 : decide (0 < t289) = true := decide_eq_true c67
                                          clear c67
                                          have H' := Aside0.mk H
                                          clear H
                                          go_wp2
                                          go_loopg [30, 31, 32] kj57 (fun kq v30 v31 v32 w' => ∃ (x30_8 : List (S36)) (x31_8 : List (S36)) (x32_8 : Int), v32 = .int .i64 x32_8 ∧ Aside0 (laws_FnFansAndCubes.l0 kq t289 t290 t291 t292 x30_8 x31_8 x32_8 = some r) ∧ Aside0 (kq ≤ kj57) ∧ Aside0 (Kd.R k36 36 w' w.heap.size (fun k_ => some k_ ≠ (v31 : Value).ownBlock) v30 x30_8) ∧ Aside0 (Kd.R k36 36 w' w.heap.size (fun k_ => some k_ ≠ (v30 : Value).ownBlock) v31 x31_8) ∧ Aside0 (Below w.heap.size w w'))
                                          case atStart => exact ⟨(([] : List (S36))), (([] : List (S36))), (0), (by first | rfl | (simp; done) | (simp [*]; done) | (simp only [i64_w]; done)), H', ⟨Nat.le_refl _⟩, ⟨by first | exact Kd.R_nil _ _ _ _ _ | exact Kd.N_nil _ _ _ _ _ | exact Kd.V_nil _ _ _ _ _ | exact Kd.Q_nil _ _ _ _ _ | exact Kd.S_nil _ _ _ _ _⟩, ⟨by first | exact Kd.R_nil _ _ _ _ _ | exact Kd.N_nil _ _ _ _ _ | exact Kd.V_nil _ _ _ _ _ | exact Kd.Q_nil _ _ _ _ _ | exact Kd.S_nil _ _ _ _ _⟩, ⟨by repeat (first | (with_reducible first | exact HB.out | apply below_alloc | apply pw_below_drewN | apply below_drew1) | exact HB.out)⟩⟩
                                          case round =>
                                            clear H'
                                            try clear c1
                                            try clear c2
                                            try clear p2
                                            try clear c3
                                            try clear c4
                                            try clear c5
                                            try clear c6
                                            try clear p6
                                            try clear c7
                                            try clear c8
                                            try clear c9
                                            try clear c10
                                            try clear c11
                                            try clear c12
                                            try clear c12b0
                                            try clear c12b1
                                            try clear c12b2
                                            try clear c13
                                            try clear c13b0
                                            try clear c13b1
                                            try clear c14
                                            try clear c15
                                            try clear c15b0
                                            try clear c15b1
                                            try clear c16
                                            try clear c16b0
                                            try clear c16b1
                                            try clear c17
                                            try clear c17b0
                                            try clear c18
                                            try clear c18b0
                                            try clear c19
                                            try clear c21
                                            try clear c22
                                            try clear c22b0
                                            try clear c22b1
                                            try clear c24
                                            try clear c26
                                            try clear c27
                                            try clear c27b0
                                            try clear c27b1
                                            try clear c31
                                            try clear c32
                                            try clear c32b0
                                            try clear c32b1
                                            try clear c33
                                            try clear c33b0
                                            try clear c35
                                            try clear c39
                                            try clear c40
                                            try clear c41
                                            try clear c42
                                            try clear c42b0
                                            try clear c42b1
                                            try clear c53
                                            try clear c53b0
                                            try clear c53b1
                                            try clear c53b2
                                            try clear c54
                                            try clear c55
                                            try clear c61
                                            try clear c62
                                            try clear c62b0
                                            try clear c62b1
                                            try clear c63
                                            try clear c64
                                            try clear c64b0
                                            try clear c64b1
                                            try clear p64
                                            try clear c65
                                            try clear c65b0
                                            try clear c65b1
                                            try clear c66
                                            try clear c67
                                            try clear c67b0
                                            try clear p2
                                            try clear p6
                                            try clear p64
                                            obtain ⟨x30_8, x31_8, x32_8, rfl, HA, HK8, HO_30, HO_31, HB⟩ := hrel
                                            cases gk with
                                            | zero => exact absurd HA.out (by simp [laws_FnFansAndCubes.l0])
                                            | succ k8 =>
                                              have H := HA.out
                                              clear HA
                                              simp only [laws_FnFansAndCubes.l0] at H
                                              by_cases c68 : x32_8 < t289
                                              · rw [if_pos c68] at H
                                                have c68b0 : decide (x32_8 < t289) = true := decide_eq_true c68
                                                clear c68
                                                by_cases c69 : x30_8.length < 8796093022208
                                                · rw [if_pos c69] at H
                                                  have LMc69 := Aside0.mk c69
                                                  clear c69
                                                  obtain ⟨y300, hy300⟩ : ∃ y_ : List (S36), y_ = (x30_8 ++ [(⟨wrap64 ((wrap64 (t289 - 1)) - x32_8), x32_8⟩ : S36)]) := ⟨_, rfl⟩
                                                  replace H : (if x31_8.length < 8796093022208 then (laws_FnFansAndCubes.l0 k8 t289 t290 t291 t292 y300 (x31_8 ++ [(⟨wrap64 ((wrap64 ((wrap64 (t289 - 1)) - x32_8)) + t290), wrap64 (x32_8 + t291)⟩ : S36)]) (wrap64 (x32_8 + 1))) else (none)) = some r := by first | (rw [hy300]; with_reducible exact H) | (have H2_ := (Option.bind_some _ _).symm.trans H; rw [hy300]; with_reducible exact H2_) | (have H2_ := (Option.bind_some _ _).symm.trans H; with_reducible exact H2_) | with_reducible exact H | (rw [hy300]; exact H) | exact H
                                                  have Ny300 := Aside0.mk hy300
                                                  clear hy300
                                                  by_cases c70 : x31_8.length < 8796093022208
                                                  · rw [if_pos c70] at H
                                                    have LMc70 := Aside0.mk c70
                                                    clear c70
                                                    obtain ⟨y303, hy303⟩ : ∃ y_ : List (S36), y_ = (x31_8 ++ [(⟨wrap64 ((wrap64 ((wrap64 (t289 - 1)) - x32_8)) + t290), wrap64 (x32_8 + t291)⟩ : S36)]) := ⟨_, rfl⟩
                                                    replace H : (laws_FnFansAndCubes.l0 k8 t289 t290 t291 t292 y300 y303 (wrap64 (x32_8 + 1))) = some r := by first | (rw [hy303]; with_reducible exact H) | (have H2_ := (Option.bind_some _ _).symm.trans H; rw [hy303]; with_reducible exact H2_) | (have H2_ := (Option.bind_some _ _).symm.trans H; with_reducible exact H2_) | with_reducible exact H | (rw [hy303]; exact H) | exact H
                                                    have Ny303 := Aside0.mk hy303
                                                    clear hy303
                                                    have H' := Aside0.mk H
                                                    clear H
                                                    go_wp2_with (first | ((with_reducible refine gate_builtin (b := .append) (xs := #[.tmp 234, .tmp 241]) rfl ?_); (try (refine gate_guard (by rfl) ?_; dsimp only)); at_builtin; refine Kd.R_append k36 (w0 := w) w.heap.size rfl (.tmp 234) (.tmp 241) 34 36 (.agg #[(.int .i64 0), (.int .i64 0)]) 16 rfl Try.underlying34 info36 rfl (by decide) (by omega) u30 x30_8 (⟨wrap64 ((wrap64 (t289 - 1)) - x32_8), x32_8⟩ : S36) [.int .i64 (wrap64 ((wrap64 (t289 - 1)) - x32_8)), .int .i64 x32_8] (fun k_ => some k_ ≠ (u31 : Value).ownBlock) (fun _ => False) rfl rfl ?aP (fun _ hk => hk.elim) ?aF ?aO ?aB ?aS ?aL ?_; (case aP => exact k36_mkM _ _ _ (⟨wrap64 ((wrap64 (t289 - 1)) - x32_8), x32_8⟩ : S36)); (case aB => exact (by repeat (first | (with_reducible first | exact HB.out | apply below_alloc | apply pw_below_drewN | apply below_drew1) | exact HB.out))); (case aF => exact (fun k_ hk => Kd.fresh' (Kd.R_lt (by (with_reducible repeat (first | apply Kd.R_alloc | apply Kd.R_drewN | apply Kd.R_drew)); exact HO_31.out)) k_ hk)); (case aO => exact (by (with_reducible repeat (first | apply Kd.R_alloc | apply Kd.R_drewN | apply Kd.R_drew)); exact HO_30.out)); (case aS => exact (below_size (by repeat (first | (with_reducible first | exact HB.out | apply below_alloc | apply pw_below_drewN | apply below_drew1) | exact HB.out)))); (case aL => have := LMc69.out; omega); intro v301 w71 ho hb hg hat; rw [← Ny300.out] at ho; have n0_ := Aside0.mk (Kd.R_after (ok := (fun _ => True)) (by (with_reducible repeat (first | apply Kd.R_alloc | apply Kd.R_drewN | apply Kd.R_drew)); exact Kd.R_mono HO_31.out (fun _ hk => ⟨trivial, hk⟩)) hg hat); have n1_ := Aside0.mk (hb); have n2_ := Aside0.mk (ho); clear HO_31; clear HB; clear HO_30; have HO_31 := n0_; have HB := n1_; have HO302 := n2_; clear n0_ n1_ n2_; clear ho hb hg hat) | ((with_reducible refine gate_builtin (b := .append) (xs := #[.tmp 243, .tmp 254]) rfl ?_); (try (refine gate_guard (by rfl) ?_; dsimp only)); at_builtin; refine Kd.R_append k36 (w0 := w) w.heap.size rfl (.tmp 243) (.tmp 254) 34 36 (.agg #[(.int .i64 0), (.int .i64 0)]) 16 rfl Try.underlying34 info36 rfl (by decide) (by omega) u31 x31_8 (⟨wrap64 ((wrap64 ((wrap64 (t289 - 1)) - x32_8)) + t290), wrap64 (x32_8 + t291)⟩ : S36) [.int .i64 (wrap64 ((wrap64 ((wrap64 (t289 - 1)) - x32_8)) + t290)), .int .i64 (wrap64 (x32_8 + t291))] (fun k_ => some k_ ≠ (v301 : Value).ownBlock) (fun _ => False) rfl rfl ?aP (fun _ hk => hk.elim) ?aF ?aO ?aB ?aS ?aL ?_; (case aP => exact k36_mkM _ _ _ (⟨wrap64 ((wrap64 ((wrap64 (t289 - 1)) - x32_8)) + t290), wrap64 (x32_8 + t291)⟩ : S36)); (case aB => exact (by repeat (first | (with_reducible first | exact HB.out | apply below_alloc | apply pw_below_drewN | apply below_drew1) | exact HB.out))); (case aF => exact (fun k_ hk => Kd.fresh' (Kd.R_lt (by (with_reducible repeat (first | apply Kd.R_alloc | apply Kd.R_drewN | apply Kd.R_drew)); exact HO302.out)) k_ hk)); (case aO => exact (by (with_reducible repeat (first | apply Kd.R_alloc | apply Kd.R_drewN | apply Kd.R_drew)); exact Kd.R_mono HO_31.out (fun _ hk => hk.2))); (case aS => exact (below_size (by repeat (first | (with_reducible first | exact HB.out | apply below_alloc | apply pw_below_drewN | apply below_drew1) | exact HB.out)))); (case aL => have := LMc70.out; omega); intro v304 w72 ho hb hg hat; rw [← Ny303.out] at ho; have n0_ := Aside0.mk (Kd.R_after (ok := (fun _ => True)) (by (with_reducible repeat (first | apply Kd.R_alloc | apply Kd.R_drewN | apply Kd.R_drew)); exact Kd.R_mono HO302.out (fun _ hk => ⟨trivial, hk⟩)) hg hat); have n1_ := Aside0.mk (hb); have n2_ := Aside0.mk (ho); clear HO302; clear HB; clear HO_31; have HO302 := n0_; have HB := n1_; have HO305 := n2_; clear n0_ n1_ n2_; clear ho hb hg hat))
                                                    go_roundg k8
                                                    case measure => have := HJ7.out; have := HJ19.out; have := HJ22.out; have := HJ29.out; have := HJ33.out; have := HJ48.out; have := HJ57.out; have := HK8.out; omega
                                                    case rel => exact ⟨(y300), (y303), (wrap64 (x32_8 + 1)), (by first | rfl | (simp; done) | (simp [*]; done) | (simp only [i64_w]; done)), H', ⟨by have := HJ7.out; have := HJ19.out; have := HJ22.out; have := HJ29.out; have := HJ33.out; have := HJ48.out; have := HJ57.out; have := HK8.out; omega⟩, ⟨by (with_reducible repeat (first | apply Kd.R_alloc | apply Kd.R_drewN | apply Kd.R_drew)); exact Kd.R_mono HO302.out (fun _ hk => hk.2)⟩, ⟨by (with_reducible repeat (first | apply Kd.R_alloc | apply Kd.R_drewN | apply Kd.R_drew)); exact HO305.out⟩, ⟨by repeat (first | (with_reducible first | exact HB.out | apply below_alloc | apply pw_below_drewN | apply below_drew1) | exact HB.out)⟩⟩
                                                  · rw [if_neg c70] at H
                                                    exact absurd H (by simp)
                                                · rw [if_neg c69] at H
                                                  exact absurd H (by simp)
                                              · rw [if_neg c68] at H
                                                have c68b0 : decide (x32_8 < t289) = false := decide_eq_false c68
                                                clear c68
                                                replace H := Option.bind_eq_some_iff.mp H
                                                obtain ⟨⟨t306, t307⟩, A730, H⟩ := H
                                                replace H : (if t307 = true then (if t306 = t292 then (some true) else (none)) else (none)) = some r := H
                                                have A73 := Aside0.mk A730
                                                clear A730
                                                by_cases c74 : t307 = true
                                                · subst c74
                                                  have H1 : (if t306 = t292 then (some true) else (none)) = some r := by rw [if_pos rfl] at H; exact H
                                                  clear H
                                                  have H := H1
                                                  clear H1
                                                  by_cases c75 : t306 = t292
                                                  · rw [if_pos c75] at H
                                                    have c75b0 : (t306 == t292) = true := beq_iff_eq.mpr c75
                                                    have c75b1 : (t306 != t292) = false := bne_eq_false_iff_eq.mpr c75
                                                    clear c75
                                                    obtain rfl := Option.some.inj H
                                                    obtain ⟨Ao76, co76, eo76⟩ := Kd.R_slice HO_30.out
                                                    subst eo76
                                                    obtain ⟨Ao77, co77, eo77⟩ := Kd.R_slice HO_31.out
                                                    subst eo77
                                                    go_wp2_with (first | ((with_reducible refine gate_callee (f := 12) rfl ?_); refine goesL_ (some 259) rfl rfl Try.func12 (by kernel_rfl) rfl #[.slice Ao76 x30_8.length co76, .slice Ao77 x31_8.length co77] rfl (by (try simp only [List.map_toArray, List.map_cons, List.map_nil]); first | done | rfl | (simp only [List.length_drop, List.length_take]; rfl)) ?_; (with_reducible refine (impl_CountApart.calls k8 _ _ x30_8 _ _ x31_8 t306 true _ ?side1 ?side2 ?side3 ?side4 A73.out).mono ?_); (case side1 => repeat (first | exact (Kd.R_reads' HO_30.out).2.2 | (with_reducible refine Kd.C_alloc ?_ _) | (with_reducible refine Kd.C_drewN ?_ _) | (with_reducible refine Kd.C_drew ?_))); (case side2 => exact (Kd.R_reads' HO_30.out).2.1); (case side3 => repeat (first | exact (Kd.R_reads' HO_31.out).2.2 | (with_reducible refine Kd.C_alloc ?_ _) | (with_reducible refine Kd.C_drewN ?_ _) | (with_reducible refine Kd.C_drew ?_))); (case side4 => exact (Kd.R_reads' HO_31.out).2.1); rintro e w78 ⟨rfl, hb⟩; refine ⟨_, rfl, ?_⟩; have n0_ := Aside0.mk (Kd.R_below (by (with_reducible repeat (first | apply Kd.R_alloc | apply Kd.R_drewN | apply Kd.R_drew)); exact HO_30.out) hb); have n1_ := Aside0.mk (Kd.R_below (by (with_reducible repeat (first | apply Kd.R_alloc | apply Kd.R_drewN | apply Kd.R_drew)); exact HO_31.out) hb); have n2_ := Aside0.mk (below_step (by repeat (first | (with_reducible first | exact HB.out | apply below_alloc | apply pw_below_drewN | apply below_drew1) | exact HB.out)) hb); clear HO_30; clear HO_31; clear HB; have HO_30 := n0_; have HO_31 := n1_; have HB := n2_; clear n0_ n1_ n2_; (try clear hb); (try clear hb2); (try clear hk); (try clear hi)))
                                                    go_ret
                                                    exact ⟨by first | rfl | (simp [errW_none, errW_some] <;> rfl) | (simp [*, errW_none, errW_some] <;> rfl), by repeat (first | (with_reducible first | exact HB.out | apply below_alloc | apply pw_below_drewN | apply below_drew1) | exact HB.out)⟩
                                                  · rw [if_neg c75] at H
                                                    exact absurd H (by simp)
                                                · replace c74 := Bool.eq_false_iff.mpr c74
                                                  subst c74
                                                  have H1 : (none) = some r := by rw [if_neg (show ¬ (false = true) by decide)] at H; exact H
                                                  clear H
                                                  have H := H1
                                                  clear H1
                                                  exact absurd H (by simp)
                                        · rw [if_neg c67] at H
                                          have c67b0 : decide (0 < t289) = false := decide_eq_false c67
                                          clear c67
                                          obtain rfl := Option.some.inj H
                                          go_wp2
                                          go_ret
                                          exact ⟨by first | rfl | (simp [errW_none, errW_some] <;> rfl) | (simp [*, errW_none, errW_some] <;> rfl), by repeat (first | (with_reducible first | exact HB.out | apply below_alloc | apply pw_below_drewN | apply below_drew1) | exact HB.out)⟩
                                · replace c55 := Bool.eq_false_iff.mpr c55
                                  subst c55
                                  have H1 : (some true) = some r := by rw [if_neg (show ¬ (false = true) by decide)] at H; exact H
                                  clear H
                                  have H := H1
                                  clear H1
                                  obtain rfl := Option.some.inj H
                                  go_wp2
                                  go_ret
                                  exact ⟨by first | rfl | (simp [errW_none, errW_some] <;> rfl) | (simp [*, errW_none, errW_some] <;> rfl), by repeat (first | (with_reducible first | exact HB.out | apply below_alloc | apply pw_below_drewN | apply below_drew1) | exact HB.out)⟩

/-- THE ONE PURE STATEMENT of laws_FnFansAndCubes: yours. -/
def laws_FnFansAndCubes.Pure : Prop := ∀ (l0 : List Int) (l1 : List Int), l0.length ≤ maxLen → l0.length * 1 ≤ 140737488351232 → (∀ x ∈ l0, (Lit.int .u8 x).wf = true) → l1.length ≤ maxLen → l1.length * 1 ≤ 140737488351232 → (∀ x ∈ l1, (Lit.int .u8 x).wf = true) → ∃ k, laws_FnFansAndCubes.f k l0 l1 = some true
theorem laws_FnFansAndCubes.walk (P : laws_FnFansAndCubes.Pure) (a0 : Option Addr) (len0 cap0 : Nat) (z0 : List Int) (a1 : Option Addr) (len1 cap1 : Nat) (z1 : List Int) (w : World) (w0 : (a0 = none ∧ len0 = 0 ∧ cap0 = 0 ∧ z0 = []) ∨ ∃ x, a0 = some x ∧ len0 ≤ cap0 ∧ cap0 ≤ maxLen ∧ z0.length = cap0 ∧ (∀ i, i < z0.length → w.cell? (x.add i) = some (.int .u8 (z0.getD i 0))) ∧ ∀ n ∈ z0, (Lit.int .u8 n).wf = true) (y0 : len0 * 1 ≤ 140737488351232) (w1 : (a1 = none ∧ len1 = 0 ∧ cap1 = 0 ∧ z1 = []) ∨ ∃ x, a1 = some x ∧ len1 ≤ cap1 ∧ cap1 ≤ maxLen ∧ z1.length = cap1 ∧ (∀ i, i < z1.length → w.cell? (x.add i) = some (.int .u8 (z1.getD i 0))) ∧ ∀ n ∈ z1, (Lit.int .u8 n).wf = true) (y1 : len1 * 1 ≤ 140737488351232) :
    Calls Try.prog 3 #[.slice a0 len0 cap0, .slice a1 len1 cap1] w fun e w' => e = .returned (.bool true) ∧ Below w.heap.size w w' := by
  obtain ⟨l0, rfl, hr0, hm0, hw0, hc0⟩ := ReadsInt.ofRowC w0
  obtain ⟨l1, rfl, hr1, hm1, hw1, hc1⟩ := ReadsInt.ofRowC w1
  obtain ⟨k, h⟩ := P l0 l1 hm0 y0 hw0 hm1 y1 hw1
  refine (laws_FnFansAndCubes.calls k _ _ l0 _ _ l1 true w (Kd.C_of_reads (d := (0 : Int)) (h1 := fun _ => rfl) hr0) hc0 (Kd.C_of_reads (d := (0 : Int)) (h1 := fun _ => rfl) hr1) hc1 h).mono ?_
  rintro e w' ⟨rfl, hd⟩
  exact ⟨rfl, hd⟩

end Go.Proofs.Ytpkghkohjnagjaa.OFnFansAndCubes
