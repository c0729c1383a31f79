/- The law's two halves, each as a function of what is drawn for it. No condition. -/
import Derived.Test.YtoglhflnfkmkcaaOFnRuinInTimex13
namespace Go.Proofs.Ytoglhflnfkmkcaa.Pure
open Go.RowKit Go.Proofs.Ytoglhflnfkmkcaa.Stub Go.Proofs.Ytoglhflnfkmkcaa.OFnRuinInTime Go.Proofs.YtoglhflnfkmkcaaW.PrintWords Go.Proofs.YtoglhflnfkmkcaaW.PrintLast
set_option linter.unusedVariables false
set_option linter.unusedSimpArgs false
mutual
def H.j0 (C : Nat → Option (Bool)) : Nat → Int → Int → Int → List (S25) → Bool → Bool → Int → Int → Int → Int → Int → Int → Int → Int → Option (Bool)
  | 0, _, _, _, _, _, _, _, _, _, _, _, _, _, _ => none
  | k + 1, x5, x6, x8, x9, x10, x177, x403000, x403001, x415000, x415001, x423000, x423001, x431000, x431001 => if x177 = true then (none) else (if x10 = true then ((laws_yPower.f k x403001 x8).bind fun t436 => (H.l0 C k x5 x6 x8 x9 t436 0 0 x9 (x9.length : Int) 0 x403000 x403001 x415000 x415001 x423000 x423001 x431000 x431001)) else (C k))
def H.l0 (C : Nat → Option (Bool)) : Nat → Int → Int → Int → List (S25) → Int → Int → Int → List (S25) → Int → Int → Int → Int → Int → Int → Int → Int → Int → Int → Option (Bool)
  | 0, _, _, _, _, _, _, _, _, _, _, _, _, _, _, _, _, _, _ => none
  | k + 1, x5, x6, x8, x9, x25, x26, x27, x183, x184, x185, x403000, x403001, x415000, x415001, x423000, x423001, x431000, x431001 => if x185 < x184 then (if 0 ≤ x185 then (if x185 < (x183.length : Int) then ((laws_yTimes.f ((rd_T25 x183 x185).f0) ((rd_T25 x183 x185).f1) x25).bind fun t439 => (if t439 < 0 then (none) else (if x185 > 0 then (H.j2 C k x5 x6 x8 x9 x25 (wrap64 (x26 + t439)) x27 x185 t439 x183 x184 x185 (decide (x185 < x6)) x403000 x403001 x415000 x415001 x423000 x423001 x431000 x431001) else (H.j2 C k x5 x6 x8 x9 x25 (wrap64 (x26 + t439)) x27 x185 t439 x183 x184 x185 false x403000 x403001 x415000 x415001 x423000 x423001 x431000 x431001)))) else (none)) else (none)) else (if (x9.length : Int) = (wrap64 (x6 + 1)) then (if x26 = x25 then (if 0 < (x9.length : Int) then (if (!(((rd_T25 x9 0).f0) == x423000) || (!(((rd_T25 x9 0).f1) == x423001))) = true then (H.j3 C k x5 x6 x8 x9 x25 true x403000 x403001 x415000 x415001 x423000 x423001) else (if 0 ≤ x6 then (if x6 < (x9.length : Int) then (if (!(((rd_T25 x9 x6).f0) == x415000) || (!(((rd_T25 x9 x6).f1) == x415001))) = true then (H.j3 C k x5 x6 x8 x9 x25 true x403000 x403001 x415000 x415001 x423000 x423001) else ((laws_yTimes.f x431000 x431001 x25).bind fun t442 => (H.j3 C k x5 x6 x8 x9 x25 (t442 != x27) x403000 x403001 x415000 x415001 x423000 x423001))) else (none)) else (none))) else (none)) else (H.j3 C k x5 x6 x8 x9 x25 true x403000 x403001 x415000 x415001 x423000 x423001)) else (H.j3 C k x5 x6 x8 x9 x25 true x403000 x403001 x415000 x415001 x423000 x423001))
def H.j2 (C : Nat → Option (Bool)) : Nat → Int → Int → Int → List (S25) → Int → Int → Int → Int → Int → List (S25) → Int → Int → Bool → Int → Int → Int → Int → Int → Int → Int → Int → Option (Bool)
  | 0, _, _, _, _, _, _, _, _, _, _, _, _, _, _, _, _, _, _, _, _, _ => none
  | k + 1, x5, x6, x8, x9, x25, x26, x27, x28, x30, x183, x184, x185, x204, x403000, x403001, x415000, x415001, x423000, x423001, x431000, x431001 => if x204 = true then (if x30 > 0 then (if (Int.tmod (wrap64 ((wrap64 (x28 - x5)) - x8)) 2) = 0 then (H.l0 C k x5 x6 x8 x9 x25 x26 (wrap64 (x27 + x30)) x183 x184 (wrap64 (x185 + 1)) x403000 x403001 x415000 x415001 x423000 x423001 x431000 x431001) else (none)) else (H.l0 C k x5 x6 x8 x9 x25 x26 (wrap64 (x27 + x30)) x183 x184 (wrap64 (x185 + 1)) x403000 x403001 x415000 x415001 x423000 x423001 x431000 x431001)) else (H.l0 C k x5 x6 x8 x9 x25 x26 x27 x183 x184 (wrap64 (x185 + 1)) x403000 x403001 x415000 x415001 x423000 x423001 x431000 x431001)
def H.j3 (C : Nat → Option (Bool)) : Nat → Int → Int → Int → List (S25) → Int → Bool → Int → Int → Int → Int → Int → Int → Option (Bool)
  | 0, _, _, _, _, _, _, _, _, _, _, _, _ => none
  | k + 1, x5, x6, x8, x9, x25, x251, x403000, x403001, x415000, x415001, x423000, x423001 => if x251 = true then (none) else (if x8 > 0 then ((impl_WinWithin.f k x5 x6 x403000 x403001 (wrap64 (x8 - 1))).bind fun bt443 => ((impl_RuinWithin.f k x5 x6 x403000 x403001 (wrap64 (x8 - 1))).bind fun bt447 => (if bt443.2.2 = true then ((laws_yTimes.f bt443.1 bt443.2.1 x25).bind fun t451 => ((laws_yTimes.f x415000 x415001 x25).bind fun t452 => (if t451 > t452 then (H.j4 C k x5 x6 x8 x9 x25 true x403000 x403001 x415000 x415001 bt443.1 bt443.2.1) else (if bt447.2.2 = true then ((laws_yTimes.f bt447.1 bt447.2.1 x25).bind fun t453 => ((laws_yTimes.f x423000 x423001 x25).bind fun t454 => (H.j4 C k x5 x6 x8 x9 x25 (decide (t453 > t454)) x403000 x403001 x415000 x415001 bt443.1 bt443.2.1))) else (H.j4 C k x5 x6 x8 x9 x25 true x403000 x403001 x415000 x415001 bt443.1 bt443.2.1))))) else (H.j4 C k x5 x6 x8 x9 x25 true x403000 x403001 x415000 x415001 bt443.1 bt443.2.1)))) else (H.j6 C k x5 x9 x25 x403000 x403001))
def H.j4 (C : Nat → Option (Bool)) : Nat → Int → Int → Int → List (S25) → Int → Bool → Int → Int → Int → Int → Int → Int → Option (Bool)
  | 0, _, _, _, _, _, _, _, _, _, _, _, _ => none
  | k + 1, x5, x6, x8, x9, x25, x295, x403000, x403001, x415000, x415001, x447000, x447001 => if x295 = true then (none) else (if (wrap64 (2 * x403000)) = x403001 then (if x5 > 0 then (H.j5 C k x5 x6 x8 x9 x25 (decide (x5 < x6)) x403000 x403001 x415000 x415001 x447000 x447001) else (H.j5 C k x5 x6 x8 x9 x25 false x403000 x403001 x415000 x415001 x447000 x447001)) else (H.j5 C k x5 x6 x8 x9 x25 false x403000 x403001 x415000 x415001 x447000 x447001))
def H.j5 (C : Nat → Option (Bool)) : Nat → Int → Int → Int → List (S25) → Int → Bool → Int → Int → Int → Int → Int → Int → Option (Bool)
  | 0, _, _, _, _, _, _, _, _, _, _, _, _ => none
  | k + 1, x5, x6, x8, x9, x25, x310, x403000, x403001, x415000, x415001, x447000, x447001 => if x310 = true then ((impl_CountWins.f k x5 x6 x8).bind fun bt455 => (if bt455.2 = true then ((laws_yTimes.f x415000 x415001 x25).bind fun t457 => ((laws_yTimes.f x447000 x447001 x25).bind fun t458 => (if (wrap64 (t457 - t458)) = bt455.1 then (H.j6 C k x5 x9 x25 x403000 x403001) else (none)))) else (none))) else (H.j6 C k x5 x9 x25 x403000 x403001)
def H.j6 (C : Nat → Option (Bool)) : Nat → Int → List (S25) → Int → Int → Int → Option (Bool)
  | 0, _, _, _, _, _ => none
  | k + 1, x5, x9, x25, x403000, x403001 => if (wrap64 (2 * x403000)) = x403001 then (H.l1 C k x5 x25 0 x9 (x9.length : Int) 0) else (C k)
def H.l1 (C : Nat → Option (Bool)) : Nat → Int → Int → Int → List (S25) → Int → Int → Option (Bool)
  | 0, _, _, _, _, _, _ => none
  | k + 1, x5, x25, x37, x337, x338, x339 => if x339 < x338 then (if 0 ≤ x339 then (if x339 < (x337.length : Int) then ((laws_yTimes.f ((rd_T25 x337 x339).f0) ((rd_T25 x337 x339).f1) x25).bind fun t461 => (H.l1 C k x5 x25 (wrap64 (x37 + (wrap64 (x339 * t461)))) x337 x338 (wrap64 (x339 + 1)))) else (none)) else (none)) else (if x37 = (wrap64 (x5 * x25)) then (C k) else (none))
end
theorem H.link (l1 : List Int) (C : Nat → Option (Bool)) (hC : ∀ k, LeO (C k) (laws_FnRuinInTime.j8 k l1)) : ∀ k, (∀ y1 y2 y3 y4 y5 y6 y7 y8 y9 y10 y11 y12 y13 y14, LeO (H.j0 C k y1 y2 y3 y4 y5 y6 y7 y8 y9 y10 y11 y12 y13 y14) (laws_FnRuinInTime.j0 k l1 y1 y2 y3 y4 y5 y6 y7 y8 y9 y10 y11 y12 y13 y14)) ∧ (∀ y1 y2 y3 y4 y5 y6 y7 y8 y9 y10 y11 y12 y13 y14 y15 y16 y17 y18, LeO (H.l0 C k y1 y2 y3 y4 y5 y6 y7 y8 y9 y10 y11 y12 y13 y14 y15 y16 y17 y18) (laws_FnRuinInTime.l0 k l1 y1 y2 y3 y4 y5 y6 y7 y8 y9 y10 y11 y12 y13 y14 y15 y16 y17 y18)) ∧ (∀ y1 y2 y3 y4 y5 y6 y7 y8 y9 y10 y11 y12 y13 y14 y15 y16 y17 y18 y19 y20 y21, LeO (H.j2 C k y1 y2 y3 y4 y5 y6 y7 y8 y9 y10 y11 y12 y13 y14 y15 y16 y17 y18 y19 y20 y21) (laws_FnRuinInTime.j2 k l1 y1 y2 y3 y4 y5 y6 y7 y8 y9 y10 y11 y12 y13 y14 y15 y16 y17 y18 y19 y20 y21)) ∧ (∀ y1 y2 y3 y4 y5 y6 y7 y8 y9 y10 y11 y12, LeO (H.j3 C k y1 y2 y3 y4 y5 y6 y7 y8 y9 y10 y11 y12) (laws_FnRuinInTime.j3 k l1 y1 y2 y3 y4 y5 y6 y7 y8 y9 y10 y11 y12)) ∧ (∀ y1 y2 y3 y4 y5 y6 y7 y8 y9 y10 y11 y12, LeO (H.j4 C k y1 y2 y3 y4 y5 y6 y7 y8 y9 y10 y11 y12) (laws_FnRuinInTime.j4 k l1 y1 y2 y3 y4 y5 y6 y7 y8 y9 y10 y11 y12)) ∧ (∀ y1 y2 y3 y4 y5 y6 y7 y8 y9 y10 y11 y12, LeO (H.j5 C k y1 y2 y3 y4 y5 y6 y7 y8 y9 y10 y11 y12) (laws_FnRuinInTime.j5 k l1 y1 y2 y3 y4 y5 y6 y7 y8 y9 y10 y11 y12)) ∧ (∀ y1 y2 y3 y4 y5, LeO (H.j6 C k y1 y2 y3 y4 y5) (laws_FnRuinInTime.j6 k l1 y1 y2 y3 y4 y5)) ∧ (∀ y1 y2 y3 y4 y5 y6, LeO (H.l1 C k y1 y2 y3 y4 y5 y6) (laws_FnRuinInTime.l1 k l1 y1 y2 y3 y4 y5 y6))
  | 0 => by refine ⟨?_, ?_, ?_, ?_, ?_, ?_, ?_, ?_⟩ <;> intros <;> (first | (intro r h; simp [H.j0, H.l0, H.j2, H.j3, H.j4, H.j5, H.j6, H.l1] at h))
  | k + 1 => by
    obtain ⟨ih0, ih1, ih2, ih3, ih4, ih5, ih6, ih7⟩ := H.link l1 C hC k
    refine ⟨?_, ?_, ?_, ?_, ?_, ?_, ?_, ?_⟩
    · intro y0 y1 y2 y3 y4 y5 y6 y7 y8 y9 y10 y11 y12 y13
      unfold H.j0 laws_FnRuinInTime.j0
      repeat' first
      | (with_reducible exact ih0 _ _ _ _ _ _ _ _ _ _ _ _ _ _)
      | (with_reducible exact ih1 _ _ _ _ _ _ _ _ _ _ _ _ _ _ _ _ _ _)
      | (with_reducible exact ih2 _ _ _ _ _ _ _ _ _ _ _ _ _ _ _ _ _ _ _ _ _)
      | (with_reducible exact ih3 _ _ _ _ _ _ _ _ _ _ _ _)
      | (with_reducible exact ih4 _ _ _ _ _ _ _ _ _ _ _ _)
      | (with_reducible exact ih5 _ _ _ _ _ _ _ _ _ _ _ _)
      | (with_reducible exact ih6 _ _ _ _ _)
      | (with_reducible exact ih7 _ _ _ _ _ _)
      | (with_reducible exact hC _)
      | (with_reducible exact LeO.refl _)
      | (with_reducible exact LeO.none _)
      | (with_reducible refine LeO.ite ?_ ?_)
      | (with_reducible refine LeO.bind ?_ (fun _ => ?_))
      | exact ih0 _ _ _ _ _ _ _ _ _ _ _ _ _ _
      | exact ih1 _ _ _ _ _ _ _ _ _ _ _ _ _ _ _ _ _ _
      | exact ih2 _ _ _ _ _ _ _ _ _ _ _ _ _ _ _ _ _ _ _ _ _
      | exact ih3 _ _ _ _ _ _ _ _ _ _ _ _
      | exact ih4 _ _ _ _ _ _ _ _ _ _ _ _
      | exact ih5 _ _ _ _ _ _ _ _ _ _ _ _
      | exact ih6 _ _ _ _ _
      | exact ih7 _ _ _ _ _ _
      | exact hC _
      | refine LeO.ite ?_ ?_
      | refine LeO.bind ?_ (fun _ => ?_)
    · intro y0 y1 y2 y3 y4 y5 y6 y7 y8 y9 y10 y11 y12 y13 y14 y15 y16 y17
      unfold H.l0 laws_FnRuinInTime.l0
      repeat' first
      | (with_reducible exact ih0 _ _ _ _ _ _ _ _ _ _ _ _ _ _)
      | (with_reducible exact ih1 _ _ _ _ _ _ _ _ _ _ _ _ _ _ _ _ _ _)
      | (with_reducible exact ih2 _ _ _ _ _ _ _ _ _ _ _ _ _ _ _ _ _ _ _ _ _)
      | (with_reducible exact ih3 _ _ _ _ _ _ _ _ _ _ _ _)
      | (with_reducible exact ih4 _ _ _ _ _ _ _ _ _ _ _ _)
      | (with_reducible exact ih5 _ _ _ _ _ _ _ _ _ _ _ _)
      | (with_reducible exact ih6 _ _ _ _ _)
      | (with_reducible exact ih7 _ _ _ _ _ _)
      | (with_reducible exact hC _)
      | (with_reducible exact LeO.refl _)
      | (with_reducible exact LeO.none _)
      | (with_reducible refine LeO.ite ?_ ?_)
      | (with_reducible refine LeO.bind ?_ (fun _ => ?_))
      | exact ih0 _ _ _ _ _ _ _ _ _ _ _ _ _ _
      | exact ih1 _ _ _ _ _ _ _ _ _ _ _ _ _ _ _ _ _ _
      | exact ih2 _ _ _ _ _ _ _ _ _ _ _ _ _ _ _ _ _ _ _ _ _
      | exact ih3 _ _ _ _ _ _ _ _ _ _ _ _
      | exact ih4 _ _ _ _ _ _ _ _ _ _ _ _
      | exact ih5 _ _ _ _ _ _ _ _ _ _ _ _
      | exact ih6 _ _ _ _ _
      | exact ih7 _ _ _ _ _ _
      | exact hC _
      | refine LeO.ite ?_ ?_
      | refine LeO.bind ?_ (fun _ => ?_)
    · intro y0 y1 y2 y3 y4 y5 y6 y7 y8 y9 y10 y11 y12 y13 y14 y15 y16 y17 y18 y19 y20
      unfold H.j2 laws_FnRuinInTime.j2
      repeat' first
      | (with_reducible exact ih0 _ _ _ _ _ _ _ _ _ _ _ _ _ _)
      | (with_reducible exact ih1 _ _ _ _ _ _ _ _ _ _ _ _ _ _ _ _ _ _)
      | (with_reducible exact ih2 _ _ _ _ _ _ _ _ _ _ _ _ _ _ _ _ _ _ _ _ _)
      | (with_reducible exact ih3 _ _ _ _ _ _ _ _ _ _ _ _)
      | (with_reducible exact ih4 _ _ _ _ _ _ _ _ _ _ _ _)
      | (with_reducible exact ih5 _ _ _ _ _ _ _ _ _ _ _ _)
      | (with_reducible exact ih6 _ _ _ _ _)
      | (with_reducible exact ih7 _ _ _ _ _ _)
      | (with_reducible exact hC _)
      | (with_reducible exact LeO.refl _)
      | (with_reducible exact LeO.none _)
      | (with_reducible refine LeO.ite ?_ ?_)
      | (with_reducible refine LeO.bind ?_ (fun _ => ?_))
      | exact ih0 _ _ _ _ _ _ _ _ _ _ _ _ _ _
      | exact ih1 _ _ _ _ _ _ _ _ _ _ _ _ _ _ _ _ _ _
      | exact ih2 _ _ _ _ _ _ _ _ _ _ _ _ _ _ _ _ _ _ _ _ _
      | exact ih3 _ _ _ _ _ _ _ _ _ _ _ _
      | exact ih4 _ _ _ _ _ _ _ _ _ _ _ _
      | exact ih5 _ _ _ _ _ _ _ _ _ _ _ _
      | exact ih6 _ _ _ _ _
      | exact ih7 _ _ _ _ _ _
      | exact hC _
      | refine LeO.ite ?_ ?_
      | refine LeO.bind ?_ (fun _ => ?_)
    · intro y0 y1 y2 y3 y4 y5 y6 y7 y8 y9 y10 y11
      unfold H.j3 laws_FnRuinInTime.j3
      repeat' first
      | (with_reducible exact ih0 _ _ _ _ _ _ _ _ _ _ _ _ _ _)
      | (with_reducible exact ih1 _ _ _ _ _ _ _ _ _ _ _ _ _ _ _ _ _ _)
      | (with_reducible exact ih2 _ _ _ _ _ _ _ _ _ _ _ _ _ _ _ _ _ _ _ _ _)
      | (with_reducible exact ih3 _ _ _ _ _ _ _ _ _ _ _ _)
      | (with_reducible exact ih4 _ _ _ _ _ _ _ _ _ _ _ _)
      | (with_reducible exact ih5 _ _ _ _ _ _ _ _ _ _ _ _)
      | (with_reducible exact ih6 _ _ _ _ _)
      | (with_reducible exact ih7 _ _ _ _ _ _)
      | (with_reducible exact hC _)
      | (with_reducible exact LeO.refl _)
      | (with_reducible exact LeO.none _)
      | (with_reducible refine LeO.ite ?_ ?_)
      | (with_reducible refine LeO.bind ?_ (fun _ => ?_))
      | exact ih0 _ _ _ _ _ _ _ _ _ _ _ _ _ _
      | exact ih1 _ _ _ _ _ _ _ _ _ _ _ _ _ _ _ _ _ _
      | exact ih2 _ _ _ _ _ _ _ _ _ _ _ _ _ _ _ _ _ _ _ _ _
      | exact ih3 _ _ _ _ _ _ _ _ _ _ _ _
      | exact ih4 _ _ _ _ _ _ _ _ _ _ _ _
      | exact ih5 _ _ _ _ _ _ _ _ _ _ _ _
      | exact ih6 _ _ _ _ _
      | exact ih7 _ _ _ _ _ _
      | exact hC _
      | refine LeO.ite ?_ ?_
      | refine LeO.bind ?_ (fun _ => ?_)
    · intro y0 y1 y2 y3 y4 y5 y6 y7 y8 y9 y10 y11
      unfold H.j4 laws_FnRuinInTime.j4
      repeat' first
      | (with_reducible exact ih0 _ _ _ _ _ _ _ _ _ _ _ _ _ _)
      | (with_reducible exact ih1 _ _ _ _ _ _ _ _ _ _ _ _ _ _ _ _ _ _)
      | (with_reducible exact ih2 _ _ _ _ _ _ _ _ _ _ _ _ _ _ _ _ _ _ _ _ _)
      | (with_reducible exact ih3 _ _ _ _ _ _ _ _ _ _ _ _)
      | (with_reducible exact ih4 _ _ _ _ _ _ _ _ _ _ _ _)
      | (with_reducible exact ih5 _ _ _ _ _ _ _ _ _ _ _ _)
      | (with_reducible exact ih6 _ _ _ _ _)
      | (with_reducible exact ih7 _ _ _ _ _ _)
      | (with_reducible exact hC _)
      | (with_reducible exact LeO.refl _)
      | (with_reducible exact LeO.none _)
      | (with_reducible refine LeO.ite ?_ ?_)
      | (with_reducible refine LeO.bind ?_ (fun _ => ?_))
      | exact ih0 _ _ _ _ _ _ _ _ _ _ _ _ _ _
      | exact ih1 _ _ _ _ _ _ _ _ _ _ _ _ _ _ _ _ _ _
      | exact ih2 _ _ _ _ _ _ _ _ _ _ _ _ _ _ _ _ _ _ _ _ _
      | exact ih3 _ _ _ _ _ _ _ _ _ _ _ _
      | exact ih4 _ _ _ _ _ _ _ _ _ _ _ _
      | exact ih5 _ _ _ _ _ _ _ _ _ _ _ _
      | exact ih6 _ _ _ _ _
      | exact ih7 _ _ _ _ _ _
      | exact hC _
      | refine LeO.ite ?_ ?_
      | refine LeO.bind ?_ (fun _ => ?_)
    · intro y0 y1 y2 y3 y4 y5 y6 y7 y8 y9 y10 y11
      unfold H.j5 laws_FnRuinInTime.j5
      repeat' first
      | (with_reducible exact ih0 _ _ _ _ _ _ _ _ _ _ _ _ _ _)
      | (with_reducible exact ih1 _ _ _ _ _ _ _ _ _ _ _ _ _ _ _ _ _ _)
      | (with_reducible exact ih2 _ _ _ _ _ _ _ _ _ _ _ _ _ _ _ _ _ _ _ _ _)
      | (with_reducible exact ih3 _ _ _ _ _ _ _ _ _ _ _ _)
      | (with_reducible exact ih4 _ _ _ _ _ _ _ _ _ _ _ _)
      | (with_reducible exact ih5 _ _ _ _ _ _ _ _ _ _ _ _)
      | (with_reducible exact ih6 _ _ _ _ _)
      | (with_reducible exact ih7 _ _ _ _ _ _)
      | (with_reducible exact hC _)
      | (with_reducible exact LeO.refl _)
      | (with_reducible exact LeO.none _)
      | (with_reducible refine LeO.ite ?_ ?_)
      | (with_reducible refine LeO.bind ?_ (fun _ => ?_))
      | exact ih0 _ _ _ _ _ _ _ _ _ _ _ _ _ _
      | exact ih1 _ _ _ _ _ _ _ _ _ _ _ _ _ _ _ _ _ _
      | exact ih2 _ _ _ _ _ _ _ _ _ _ _ _ _ _ _ _ _ _ _ _ _
      | exact ih3 _ _ _ _ _ _ _ _ _ _ _ _
      | exact ih4 _ _ _ _ _ _ _ _ _ _ _ _
      | exact ih5 _ _ _ _ _ _ _ _ _ _ _ _
      | exact ih6 _ _ _ _ _
      | exact ih7 _ _ _ _ _ _
      | exact hC _
      | refine LeO.ite ?_ ?_
      | refine LeO.bind ?_ (fun _ => ?_)
    · intro y0 y1 y2 y3 y4
      unfold H.j6 laws_FnRuinInTime.j6
      repeat' first
      | (with_reducible exact ih0 _ _ _ _ _ _ _ _ _ _ _ _ _ _)
      | (with_reducible exact ih1 _ _ _ _ _ _ _ _ _ _ _ _ _ _ _ _ _ _)
      | (with_reducible exact ih2 _ _ _ _ _ _ _ _ _ _ _ _ _ _ _ _ _ _ _ _ _)
      | (with_reducible exact ih3 _ _ _ _ _ _ _ _ _ _ _ _)
      | (with_reducible exact ih4 _ _ _ _ _ _ _ _ _ _ _ _)
      | (with_reducible exact ih5 _ _ _ _ _ _ _ _ _ _ _ _)
      | (with_reducible exact ih6 _ _ _ _ _)
      | (with_reducible exact ih7 _ _ _ _ _ _)
      | (with_reducible exact hC _)
      | (with_reducible exact LeO.refl _)
      | (with_reducible exact LeO.none _)
      | (with_reducible refine LeO.ite ?_ ?_)
      | (with_reducible refine LeO.bind ?_ (fun _ => ?_))
      | exact ih0 _ _ _ _ _ _ _ _ _ _ _ _ _ _
      | exact ih1 _ _ _ _ _ _ _ _ _ _ _ _ _ _ _ _ _ _
      | exact ih2 _ _ _ _ _ _ _ _ _ _ _ _ _ _ _ _ _ _ _ _ _
      | exact ih3 _ _ _ _ _ _ _ _ _ _ _ _
      | exact ih4 _ _ _ _ _ _ _ _ _ _ _ _
      | exact ih5 _ _ _ _ _ _ _ _ _ _ _ _
      | exact ih6 _ _ _ _ _
      | exact ih7 _ _ _ _ _ _
      | exact hC _
      | refine LeO.ite ?_ ?_
      | refine LeO.bind ?_ (fun _ => ?_)
    · intro y0 y1 y2 y3 y4 y5
      unfold H.l1 laws_FnRuinInTime.l1
      repeat' first
      | (with_reducible exact ih0 _ _ _ _ _ _ _ _ _ _ _ _ _ _)
      | (with_reducible exact ih1 _ _ _ _ _ _ _ _ _ _ _ _ _ _ _ _ _ _)
      | (with_reducible exact ih2 _ _ _ _ _ _ _ _ _ _ _ _ _ _ _ _ _ _ _ _ _)
      | (with_reducible exact ih3 _ _ _ _ _ _ _ _ _ _ _ _)
      | (with_reducible exact ih4 _ _ _ _ _ _ _ _ _ _ _ _)
      | (with_reducible exact ih5 _ _ _ _ _ _ _ _ _ _ _ _)
      | (with_reducible exact ih6 _ _ _ _ _)
      | (with_reducible exact ih7 _ _ _ _ _ _)
      | (with_reducible exact hC _)
      | (with_reducible exact LeO.refl _)
      | (with_reducible exact LeO.none _)
      | (with_reducible refine LeO.ite ?_ ?_)
      | (with_reducible refine LeO.bind ?_ (fun _ => ?_))
      | exact ih0 _ _ _ _ _ _ _ _ _ _ _ _ _ _
      | exact ih1 _ _ _ _ _ _ _ _ _ _ _ _ _ _ _ _ _ _
      | exact ih2 _ _ _ _ _ _ _ _ _ _ _ _ _ _ _ _ _ _ _ _ _
      | exact ih3 _ _ _ _ _ _ _ _ _ _ _ _
      | exact ih4 _ _ _ _ _ _ _ _ _ _ _ _
      | exact ih5 _ _ _ _ _ _ _ _ _ _ _ _
      | exact ih6 _ _ _ _ _
      | exact ih7 _ _ _ _ _ _
      | exact hC _
      | refine LeO.ite ?_ ?_
      | refine LeO.bind ?_ (fun _ => ?_)
def H.f (C : Nat → Option (Bool)) (k : Nat) (bt397 : Int × Int × Int × Int × Int) : Option (Bool) := ((impl_HeldAfter.f k bt397.1 bt397.2.1 bt397.2.2.1 bt397.2.2.2.1 bt397.2.2.2.2).bind fun bt403 => ((spec_HeldAfter.f k bt397.1 bt397.2.1 bt397.2.2.1 bt397.2.2.2.1 bt397.2.2.2.2).bind fun bt407 => ((impl_WinWithin.f k bt397.1 bt397.2.1 bt397.2.2.1 bt397.2.2.2.1 bt397.2.2.2.2).bind fun bt411 => ((spec_WinWithin.f k bt397.1 bt397.2.1 bt397.2.2.1 bt397.2.2.2.1 bt397.2.2.2.2).bind fun bt415 => ((impl_RuinWithin.f k bt397.1 bt397.2.1 bt397.2.2.1 bt397.2.2.2.1 bt397.2.2.2.2).bind fun bt419 => ((spec_RuinWithin.f k bt397.1 bt397.2.1 bt397.2.2.1 bt397.2.2.2.1 bt397.2.2.2.2).bind fun bt423 => ((impl_StillPlaying.f k bt397.1 bt397.2.1 bt397.2.2.1 bt397.2.2.2.1 bt397.2.2.2.2).bind fun bt427 => ((spec_StillPlaying.f k bt397.1 bt397.2.1 bt397.2.2.1 bt397.2.2.2.1 bt397.2.2.2.2).bind fun bt431 => (if (bt403.2 != bt407.2) = true then (H.j0 C k bt397.1 bt397.2.1 bt397.2.2.2.2 bt403.1 bt403.2 true bt397.2.2.1 bt397.2.2.2.1 bt411.1 bt411.2.1 bt419.1 bt419.2.1 bt427.1 bt427.2.1) else ((laws_yRatios.f k bt403.1 bt407.1).bind fun t435 => (if t435 = true then (if (bt411.2.2 != bt415.2.2) = true then (H.j0 C k bt397.1 bt397.2.1 bt397.2.2.2.2 bt403.1 bt403.2 true bt397.2.2.1 bt397.2.2.2.1 bt411.1 bt411.2.1 bt419.1 bt419.2.1 bt427.1 bt427.2.1) else (if (!(bt411.1 == bt415.1) || (!(bt411.2.1 == bt415.2.1))) = true then (H.j0 C k bt397.1 bt397.2.1 bt397.2.2.2.2 bt403.1 bt403.2 true bt397.2.2.1 bt397.2.2.2.1 bt411.1 bt411.2.1 bt419.1 bt419.2.1 bt427.1 bt427.2.1) else (if (bt419.2.2 != bt423.2.2) = true then (H.j0 C k bt397.1 bt397.2.1 bt397.2.2.2.2 bt403.1 bt403.2 true bt397.2.2.1 bt397.2.2.2.1 bt411.1 bt411.2.1 bt419.1 bt419.2.1 bt427.1 bt427.2.1) else (if (!(bt419.1 == bt423.1) || (!(bt419.2.1 == bt423.2.1))) = true then (H.j0 C k bt397.1 bt397.2.1 bt397.2.2.2.2 bt403.1 bt403.2 true bt397.2.2.1 bt397.2.2.2.1 bt411.1 bt411.2.1 bt419.1 bt419.2.1 bt427.1 bt427.2.1) else (if (bt427.2.2 != bt431.2.2) = true then (H.j0 C k bt397.1 bt397.2.1 bt397.2.2.2.2 bt403.1 bt403.2 true bt397.2.2.1 bt397.2.2.2.1 bt411.1 bt411.2.1 bt419.1 bt419.2.1 bt427.1 bt427.2.1) else (if (!(bt427.1 == bt431.1) || (!(bt427.2.1 == bt431.2.1))) = true then (H.j0 C k bt397.1 bt397.2.1 bt397.2.2.2.2 bt403.1 bt403.2 true bt397.2.2.1 bt397.2.2.2.1 bt411.1 bt411.2.1 bt419.1 bt419.2.1 bt427.1 bt427.2.1) else (if (bt411.2.2 != bt403.2) = true then (H.j0 C k bt397.1 bt397.2.1 bt397.2.2.2.2 bt403.1 bt403.2 true bt397.2.2.1 bt397.2.2.2.1 bt411.1 bt411.2.1 bt419.1 bt419.2.1 bt427.1 bt427.2.1) else (if (bt419.2.2 != bt403.2) = true then (H.j0 C k bt397.1 bt397.2.1 bt397.2.2.2.2 bt403.1 bt403.2 true bt397.2.2.1 bt397.2.2.2.1 bt411.1 bt411.2.1 bt419.1 bt419.2.1 bt427.1 bt427.2.1) else (H.j0 C k bt397.1 bt397.2.1 bt397.2.2.2.2 bt403.1 bt403.2 (bt427.2.2 != bt403.2) bt397.2.2.1 bt397.2.2.2.1 bt411.1 bt411.2.1 bt419.1 bt419.2.1 bt427.1 bt427.2.1))))))))) else (H.j0 C k bt397.1 bt397.2.1 bt397.2.2.2.2 bt403.1 bt403.2 true bt397.2.2.1 bt397.2.2.2.1 bt411.1 bt411.2.1 bt419.1 bt419.2.1 bt427.1 bt427.2.1))))))))))))
theorem H.start (l0 l1 : List Int) (C : Nat → Option (Bool)) (hC : ∀ k, LeO (C k) (laws_FnRuinInTime.j8 k l1)) (k : Nat) (bt : Int × Int × Int × Int × Int) (hd : spec_DrawHeldAfter.f k l0 = some bt) (hg : laws_big.f l0 l1 = some false) : LeO (H.f C k bt) (laws_FnRuinInTime.f k l0 l1) := by
  unfold laws_FnRuinInTime.f H.f
  rw [hg, Option.bind_some, if_neg (by decide), hd, Option.bind_some]
  obtain ⟨ih0, ih1, ih2, ih3, ih4, ih5, ih6, ih7⟩ := H.link l1 C hC k
  repeat' first
    | (with_reducible exact ih0 _ _ _ _ _ _ _ _ _ _ _ _ _ _)
    | (with_reducible exact ih1 _ _ _ _ _ _ _ _ _ _ _ _ _ _ _ _ _ _)
    | (with_reducible exact ih2 _ _ _ _ _ _ _ _ _ _ _ _ _ _ _ _ _ _ _ _ _)
    | (with_reducible exact ih3 _ _ _ _ _ _ _ _ _ _ _ _)
    | (with_reducible exact ih4 _ _ _ _ _ _ _ _ _ _ _ _)
    | (with_reducible exact ih5 _ _ _ _ _ _ _ _ _ _ _ _)
    | (with_reducible exact ih6 _ _ _ _ _)
    | (with_reducible exact ih7 _ _ _ _ _ _)
    | (with_reducible exact hC _)
    | (with_reducible exact LeO.refl _)
    | (with_reducible exact LeO.none _)
    | (with_reducible refine LeO.ite ?_ ?_)
    | (with_reducible refine LeO.bind ?_ (fun _ => ?_))
    | exact ih0 _ _ _ _ _ _ _ _ _ _ _ _ _ _
    | exact ih1 _ _ _ _ _ _ _ _ _ _ _ _ _ _ _ _ _ _
    | exact ih2 _ _ _ _ _ _ _ _ _ _ _ _ _ _ _ _ _ _ _ _ _
    | exact ih3 _ _ _ _ _ _ _ _ _ _ _ _
    | exact ih4 _ _ _ _ _ _ _ _ _ _ _ _
    | exact ih5 _ _ _ _ _ _ _ _ _ _ _ _
    | exact ih6 _ _ _ _ _
    | exact ih7 _ _ _ _ _ _
    | exact hC _
    | refine LeO.ite ?_ ?_
    | refine LeO.bind ?_ (fun _ => ?_)
def S.f (k : Nat) (bt462 : Int × Int × Int) : Option (Bool) := ((impl_CountWins.f k bt462.1 bt462.2.1 bt462.2.2).bind fun bt465 => ((spec_CountWins.f k bt462.1 bt462.2.1 bt462.2.2).bind fun bt467 => (if (bt465.2 != bt467.2) = true then (laws_FnRuinInTime.j9 k bt462.1 bt462.2.1 bt462.2.2 bt465.1 bt465.2 true) else (laws_FnRuinInTime.j9 k bt462.1 bt462.2.1 bt462.2.2 bt465.1 bt465.2 (bt465.1 != bt467.1)))))
theorem S.start (l1 : List Int) (k : Nat) (bt : Int × Int × Int) (hd : spec_DrawCountWins.f l1 = some bt) : laws_FnRuinInTime.j8 (k + 1) l1 = S.f k bt := by
  rw [laws_FnRuinInTime.j8.eq_2, hd, Option.bind_some]; rfl
theorem S.up (l1 : List Int) (n : Nat) (r : Bool) (h : laws_FnRuinInTime.j8 n l1 = some r) : ∀ d, laws_FnRuinInTime.j8 (n + d) l1 = some r
  | 0 => h
  | d + 1 => by have h_ := laws_FnRuinInTime.mono_l (n + d); exact h_.2.1 _ _ (S.up l1 n r h d)
/-- What the second half is known to answer: from n rounds on, yes. -/
def Cn (n k : Nat) : Option (Bool) := if n ≤ k then some true else none
theorem Cn.ok (l1 : List Int) (n : Nat) (h : laws_FnRuinInTime.j8 n l1 = some true) : ∀ k, LeO (Cn n k) (laws_FnRuinInTime.j8 k l1) := by
  intro k; unfold Cn; split
  · rename_i hk; obtain ⟨d, rfl⟩ := Nat.le.dest hk; rw [S.up l1 n true h d]; exact LeO.refl _
  · exact LeO.none _
def HX : List (Int × Int) := ([(-1), 0, 1, 12, 13] : List Int).flatMap (fun a => ([0, 1, 12, 13, (-1)] : List Int).map fun b => (a, b)) ++ (List.range 8).flatMap (fun (g : Nat) => (List.range (g + 2)).map fun (i : Nat) => ((i : Int), (g : Int) + 1))
def GX : List Int := [(-1), 0, 18, 19] ++ (List.range 13).map fun (n : Nat) => (n : Int)
def Ga : List Int := [-1, 0, 19, 1, 2, 3, 4, 5]
def Gb : List Int := [6, 7]
def Gc : List Int := [8, 9]
def Gd : List Int := [10]
def Ge : List Int := [11]
def Gf : List Int := [12]
def Gg : List Int := [18]
def HX0 : List (Int × Int) := HX.filter fun p => decide (p.2 ≤ 7)
def HX1 : List (Int × Int) := HX.filter fun p => !decide (p.2 ≤ 7)
theorem gx_parts : ∀ n ∈ GX, n ∈ Ga ∨ n ∈ Gb ∨ n ∈ Gc ∨ n ∈ Gd ∨ n ∈ Ge ∨ n ∈ Gf ∨ n ∈ Gg := by decide +kernel
theorem glueS (f : Int → Bool) (a : Ga.all f = true) (b : Gb.all f = true) (c : Gc.all f = true) (d : Gd.all f = true) (e : Ge.all f = true) (g : Gf.all f = true) (h : Gg.all f = true) : GX.all f = true := by
  rw [List.all_eq_true] at *
  intro n hn
  rcases gx_parts n hn with k | k | k | k | k | k | k
  · exact a n k
  · exact b n k
  · exact c n k
  · exact d n k
  · exact e n k
  · exact g n k
  · exact h n k
theorem glue (f : Int × Int → Int → Bool) (a : HX.all (fun p => Ga.all (f p)) = true) (b : HX.all (fun p => Gb.all (f p)) = true) (c : HX.all (fun p => Gc.all (f p)) = true) (d : HX.all (fun p => Gd.all (f p)) = true) (e : HX.all (fun p => Ge.all (f p)) = true) (g : HX.all (fun p => Gf.all (f p)) = true) (h0 : HX0.all (fun p => Gg.all (f p)) = true) (h1 : HX1.all (fun p => Gg.all (f p)) = true) : HX.all (fun p => GX.all (f p)) = true := by
  rw [List.all_eq_true] at *
  intro p hp
  refine glueS (f p) (a p hp) (b p hp) (c p hp) (d p hp) (e p hp) (g p hp) ?_
  by_cases k : p.2 ≤ 7
  · exact h0 p (List.mem_filter.2 ⟨hp, by simp [k]⟩)
  · exact h1 p (List.mem_filter.2 ⟨hp, by simp [k]⟩)
end Go.Proofs.Ytoglhflnfkmkcaa.Pure
