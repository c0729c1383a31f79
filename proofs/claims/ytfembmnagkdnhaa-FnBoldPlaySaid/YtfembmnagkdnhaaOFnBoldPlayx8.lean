/- The functions that 'FnBoldPlay' runs, each as a function over numbers and lists, with the proof that the Go text comes to its answers. No condition. -/
import Derived.Test.YtfembmnagkdnhaaOFnBoldPlayx0
import Derived.Test.YtfembmnagkdnhaaOFnBoldPlayx1
import Derived.Test.YtfembmnagkdnhaaOFnBoldPlayx2
import Derived.Test.YtfembmnagkdnhaaOFnBoldPlayx4
import Derived.Test.YtfembmnagkdnhaaOFnBoldPlayx6
import Derived.Test.YtfembmnagkdnhaaOFnBoldPlayx7
namespace Go.Proofs.Ytfembmnagkdnhaa.OFnBoldPlay
open Go.RowKit Go.Proofs.YtfembmnagkdnhaaW.PrintWords Go.Proofs.YtfembmnagkdnhaaW.PrintLast Go.Proofs.YtfembmnagkdnhaaW.PrintMore
attribute [local go_sem] max2_int min2_int max_two min_two max_three min_three max_four min_four   -- for this text's walks alone
set_option linter.unusedVariables false
set_option linter.unusedSimpArgs false

attribute [local go_sem high] eqA25
/-! ### laws_FnBoldPlay: function 3 -/
theorem y1b {α : Type} (l : List α) (i : Nat) (a : α) : l.toArray.setIfInBounds i a = (l.set i a).toArray := List.setIfInBounds_toArray l i a
theorem y2b {α : Type} {x : α} {xs : List α} {b : α} : (x :: xs).set 0 b = b :: xs := List.set_cons_zero
theorem y3b {α : Type} {x : α} {xs : List α} {n : Nat} {b : α} : (x :: xs).set (n + 1) b = x :: xs.set n b := List.set_cons_succ
theorem Abq {p : Prop} (h : p) : Aside0 p := Aside0.mk h
theorem Zb1 {p : Prop} (h : p := by repeat (first | (with_reducible first | exact HB.out | apply below_alloc | apply pw_below_drewN | apply below_drew1 | refine below_set ?_ GE281.out | refine below_set ?_ GE285.out | refine below_set ?_ GE289.out | refine below_set ?_ GE300.out | refine below_set ?_ GE304.out | refine below_set ?_ GE308.out) | exact HB.out)) : p := h
theorem Zb2 {p : Prop} (h : p := by repeat (first | (with_reducible first | exact HB.out | apply below_alloc | apply pw_below_drewN | apply below_drew1 | refine below_set ?_ GE281.out | refine below_set ?_ GE285.out | refine below_set ?_ GE289.out | refine below_set ?_ GE300.out | refine below_set ?_ GE304.out) | exact HB.out)) : p := h
theorem Zb3 {p : Prop} (h : p := by repeat (first | (with_reducible first | exact HB.out | apply below_alloc | apply pw_below_drewN | apply below_drew1 | refine below_set ?_ GE281.out | refine below_set ?_ GE285.out | refine below_set ?_ GE289.out | refine below_set ?_ GE300.out) | exact HB.out)) : p := h
theorem Zb4 {p : Prop} (h : p := by repeat (first | (with_reducible first | exact HB.out | apply below_alloc | apply pw_below_drewN | apply below_drew1 | refine below_set ?_ GE281.out | refine below_set ?_ GE285.out | refine below_set ?_ GE289.out) | exact HB.out)) : p := h
theorem Zb5 {p : Prop} (h : p := by repeat (first | (with_reducible first | exact HB.out | apply below_alloc | apply pw_below_drewN | apply below_drew1 | refine below_set ?_ GE281.out | refine below_set ?_ GE285.out) | exact HB.out)) : p := h
theorem Zb6 {p : Prop} (h : p := by repeat (first | (with_reducible first | exact HB.out | apply below_alloc | apply pw_below_drewN | apply below_drew1 | refine below_set ?_ GE281.out) | exact HB.out)) : p := h
theorem Zb7 {p : Prop} (h : p := by (try simp only [List.map_toArray, List.map_cons, List.map_nil]); first | done | rfl | (simp only [List.length_drop, List.length_take]; rfl)) : p := h
theorem Zb8 {p : Prop} (h : p := by repeat (first | (with_reducible first | exact HB.out | apply below_alloc | apply pw_below_drewN | apply below_drew1) | exact HB.out)) : p := h
theorem Zb9 {p : Prop} (h : p := by (with_reducible repeat (first | refine blk_drewN ?_ _ | refine blk_drew ?_ | refine blk_alloc ?_ _)); exact BK281.out) : p := h
theorem Zb10 {p : Prop} (h : p := by (with_reducible repeat (first | refine blk_drewN ?_ _ | refine blk_drew ?_ | refine blk_alloc ?_ _)); exact BK285.out) : p := h
theorem Zb11 {p : Prop} (h : p := by (with_reducible repeat (first | refine blk_drewN ?_ _ | refine blk_drew ?_ | refine blk_alloc ?_ _)); exact BK289.out) : p := h
theorem Zb12 {p : Prop} (h : p := by (with_reducible repeat (first | refine blk_drewN ?_ _ | refine blk_drew ?_ | refine blk_alloc ?_ _)); exact BK300.out) : p := h
theorem Zb13 {p : Prop} (h : p := by (with_reducible repeat (first | refine blk_drewN ?_ _ | refine blk_drew ?_ | refine blk_alloc ?_ _)); exact BK304.out) : p := h
theorem Zb14 {p : Prop} (h : p := by (with_reducible repeat (first | refine blk_drewN ?_ _ | refine blk_drew ?_ | refine blk_alloc ?_ _)); exact BK308.out) : p := h
theorem Zb15 {p : Prop} (h : p := by first | rfl | (simp; done) | (simp [*]; done) | (simp only [i64_w]; done)) : p := h
mutual
def laws_FnBoldPlay.j0 : Nat → List Int → Int → Int → Bool → Bool → Int → Int → Int → Int → Option (Bool)
  | 0, _, _, _, _, _, _, _, _, _ => none
  | k + 1, x1, x5, x6, x9, x59, x282000, x282001, x286000, x286001 => if x59 = true then (none) else (if x9 = true then ((impl_WinChance.f k x5 x6 x282000 x282001).bind fun bt290 => (if bt290.2.2 = true then (if x286000 < 0 then (laws_FnBoldPlay.j1 k x1 x5 x6 true x282000 x282001 x286000 x286001 bt290.1 bt290.2.1) else (laws_FnBoldPlay.j1 k x1 x5 x6 (decide (x286000 > x286001)) x282000 x282001 x286000 x286001 bt290.1 bt290.2.1)) else (laws_FnBoldPlay.j1 k x1 x5 x6 true x282000 x282001 x286000 x286001 bt290.1 bt290.2.1))) else (laws_FnBoldPlay.j2 k x1))
def laws_FnBoldPlay.j2 : Nat → List Int → Option (Bool)
  | 0, _ => none
  | k + 1, x1 => (spec_DrawFairVisits.f x1).bind fun bt294 => ((impl_FairVisits.f k bt294.1 bt294.2.1 bt294.2.2).bind fun bt297 => ((spec_FairVisits.f k bt294.1 bt294.2.1 bt294.2.2).bind fun bt301 => (if (bt297.2.2 != bt301.2.2) = true then (laws_FnBoldPlay.j3 k bt294.1 bt294.2.1 bt294.2.2 bt297.2.2 true bt297.1 bt297.2.1) else (laws_FnBoldPlay.j3 k bt294.1 bt294.2.1 bt294.2.2 bt297.2.2 (!(bt297.1 == bt301.1) || (!(bt297.2.1 == bt301.2.1))) bt297.1 bt297.2.1))))
def laws_FnBoldPlay.j3 : Nat → Int → Int → Int → Bool → Bool → Int → Int → Option (Bool)
  | 0, _, _, _, _, _, _, _ => none
  | k + 1, x14, x15, x16, x18, x176, x301000, x301001 => if x176 = true then (none) else (if x18 = true then ((impl_FairVisits.f k x15 x14 x16).bind fun bt305 => (if bt305.2.2 = true then (if (!(bt305.1 == x301000) || (!(bt305.2.1 == x301001))) = true then (laws_FnBoldPlay.j4 k x14 x16 true) else (laws_FnBoldPlay.j4 k x14 x16 (decide (x301000 < 1)))) else (laws_FnBoldPlay.j4 k x14 x16 true))) else (some true))
def laws_FnBoldPlay.j4 : Nat → Int → Int → Bool → Option (Bool)
  | 0, _, _, _ => none
  | k + 1, x14, x16, x196 => if x196 = true then (none) else (laws_FnBoldPlay.l0 k x14 x16 0 1)
def laws_FnBoldPlay.l0 : Nat → Int → Int → Int → Int → Option (Bool)
  | 0, _, _, _, _ => none
  | k + 1, x14, x16, x23, x24 => if x24 < x16 then ((impl_FairVisits.f k x14 x24 x16).bind fun bt313 => (if bt313.2.2 = true then ((laws_yTimes.f bt313.1 bt313.2.1 x16).bind fun t317 => (if t317 < 0 then (none) else ((laws_yTimes.f bt313.1 bt313.2.1 x16).bind fun t318 => (laws_FnBoldPlay.l0 k x14 x16 (wrap64 (x23 + t318)) (wrap64 (x24 + 1)))))) else (none))) else ((impl_MeanGames.f k x14 x16 1 2).bind fun bt309 => (if bt309.2.2 = true then (if bt309.2.1 = 1 then (some (x23 == (wrap64 (bt309.1 * x16)))) else (none)) else (none)))
def laws_FnBoldPlay.j1 : Nat → List Int → Int → Int → Bool → Int → Int → Int → Int → Int → Int → Option (Bool)
  | 0, _, _, _, _, _, _, _, _, _, _ => none
  | k + 1, x1, x5, x6, x81, x282000, x282001, x286000, x286001, x294000, x294001 => if x81 = true then (none) else (if (wrap64 (2 * x282000)) = x282001 then (if (!(x286000 == x294000) || (!(x286001 == x294001))) = true then (none) else (if (wrap64 (2 * x5)) = x6 then (if (!(x286000 == x282000) || (!(x286001 == x282001))) = true then (none) else (if x5 = x6 then (if (!(x286000 == 1) || (!(x286001 == 1))) = true then (none) else (if x5 = 0 then (if x286000 = 0 then (laws_FnBoldPlay.j2 k x1) else (none)) else (laws_FnBoldPlay.j2 k x1))) else (if x5 = 0 then (if x286000 = 0 then (laws_FnBoldPlay.j2 k x1) else (none)) else (laws_FnBoldPlay.j2 k x1)))) else (if x5 = x6 then (if (!(x286000 == 1) || (!(x286001 == 1))) = true then (none) else (if x5 = 0 then (if x286000 = 0 then (laws_FnBoldPlay.j2 k x1) else (none)) else (laws_FnBoldPlay.j2 k x1))) else (if x5 = 0 then (if x286000 = 0 then (laws_FnBoldPlay.j2 k x1) else (none)) else (laws_FnBoldPlay.j2 k x1))))) else (if (wrap64 (2 * x282000)) < x282001 then (if (wrap64 (x286000 * x294001)) < (wrap64 (x294000 * x286001)) then (none) else (if (wrap64 (2 * x5)) = x6 then (if (!(x286000 == x282000) || (!(x286001 == x282001))) = true then (none) else (if x5 = x6 then (if (!(x286000 == 1) || (!(x286001 == 1))) = true then (none) else (if x5 = 0 then (if x286000 = 0 then (laws_FnBoldPlay.j2 k x1) else (none)) else (laws_FnBoldPlay.j2 k x1))) else (if x5 = 0 then (if x286000 = 0 then (laws_FnBoldPlay.j2 k x1) else (none)) else (laws_FnBoldPlay.j2 k x1)))) else (if x5 = x6 then (if (!(x286000 == 1) || (!(x286001 == 1))) = true then (none) else (if x5 = 0 then (if x286000 = 0 then (laws_FnBoldPlay.j2 k x1) else (none)) else (laws_FnBoldPlay.j2 k x1))) else (if x5 = 0 then (if x286000 = 0 then (laws_FnBoldPlay.j2 k x1) else (none)) else (laws_FnBoldPlay.j2 k x1))))) else (if (wrap64 (x286000 * x294001)) > (wrap64 (x294000 * x286001)) then (none) else (if (wrap64 (2 * x5)) = x6 then (if (!(x286000 == x282000) || (!(x286001 == x282001))) = true then (none) else (if x5 = x6 then (if (!(x286000 == 1) || (!(x286001 == 1))) = true then (none) else (if x5 = 0 then (if x286000 = 0 then (laws_FnBoldPlay.j2 k x1) else (none)) else (laws_FnBoldPlay.j2 k x1))) else (if x5 = 0 then (if x286000 = 0 then (laws_FnBoldPlay.j2 k x1) else (none)) else (laws_FnBoldPlay.j2 k x1)))) else (if x5 = x6 then (if (!(x286000 == 1) || (!(x286001 == 1))) = true then (none) else (if x5 = 0 then (if x286000 = 0 then (laws_FnBoldPlay.j2 k x1) else (none)) else (laws_FnBoldPlay.j2 k x1))) else (if x5 = 0 then (if x286000 = 0 then (laws_FnBoldPlay.j2 k x1) else (none)) else (laws_FnBoldPlay.j2 k x1)))))))
end
def laws_FnBoldPlay.f (k : Nat) (l0 : List Int) (l1 : List Int) : Option (Bool) := (laws_big.f l0 l1).bind fun t276 => (if t276 = true then (some true) else ((spec_DrawBoldChance.f k l0).bind fun bt277 => ((impl_BoldChance.f k bt277.1 bt277.2.1 bt277.2.2.1 bt277.2.2.2).bind fun bt282 => ((spec_BoldChance.f k bt277.1 bt277.2.1 bt277.2.2.1 bt277.2.2.2).bind fun bt286 => (if (bt282.2.2 != bt286.2.2) = true then (laws_FnBoldPlay.j0 k l1 bt277.1 bt277.2.1 bt282.2.2 true bt277.2.2.1 bt277.2.2.2 bt282.1 bt282.2.1) else (laws_FnBoldPlay.j0 k l1 bt277.1 bt277.2.1 bt282.2.2 (!(bt282.1 == bt286.1) || (!(bt282.2.1 == bt286.2.1))) bt277.2.2.1 bt277.2.2.2 bt282.1 bt282.2.1))))))
theorem laws_FnBoldPlay.mono_l : ∀ k, (∀ y0 y1 y2 y3 y4 y5 y6 y7 y8, LeO (laws_FnBoldPlay.j0 k y0 y1 y2 y3 y4 y5 y6 y7 y8) (laws_FnBoldPlay.j0 (k + 1) y0 y1 y2 y3 y4 y5 y6 y7 y8)) ∧ (∀ y0, LeO (laws_FnBoldPlay.j2 k y0) (laws_FnBoldPlay.j2 (k + 1) y0)) ∧ (∀ y0 y1 y2 y3 y4 y5 y6, LeO (laws_FnBoldPlay.j3 k y0 y1 y2 y3 y4 y5 y6) (laws_FnBoldPlay.j3 (k + 1) y0 y1 y2 y3 y4 y5 y6)) ∧ (∀ y0 y1 y2, LeO (laws_FnBoldPlay.j4 k y0 y1 y2) (laws_FnBoldPlay.j4 (k + 1) y0 y1 y2)) ∧ (∀ y0 y1 y2 y3, LeO (laws_FnBoldPlay.l0 k y0 y1 y2 y3) (laws_FnBoldPlay.l0 (k + 1) y0 y1 y2 y3)) ∧ (∀ y0 y1 y2 y3 y4 y5 y6 y7 y8 y9, LeO (laws_FnBoldPlay.j1 k y0 y1 y2 y3 y4 y5 y6 y7 y8 y9) (laws_FnBoldPlay.j1 (k + 1) y0 y1 y2 y3 y4 y5 y6 y7 y8 y9))
  | 0 => ⟨fun _ _ _ _ _ _ _ _ _ r h => by simp [laws_FnBoldPlay.j0] at h, fun _ r h => by simp [laws_FnBoldPlay.j2] at h, fun _ _ _ _ _ _ _ r h => by simp [laws_FnBoldPlay.j3] at h, fun _ _ _ r h => by simp [laws_FnBoldPlay.j4] at h, fun _ _ _ _ r h => by simp [laws_FnBoldPlay.l0] at h, fun _ _ _ _ _ _ _ _ _ _ r h => by simp [laws_FnBoldPlay.j1] at h⟩
  | k + 1 => by
    obtain ⟨ih0, ih1, ih2, ih3, ih4, ih5⟩ := laws_FnBoldPlay.mono_l k
    refine ⟨?_, ?_, ?_, ?_, ?_, ?_⟩
    · intro y0 y1 y2 y3 y4 y5 y6 y7 y8
      unfold laws_FnBoldPlay.j0
      repeat' first
      | (with_reducible exact ih0 _ _ _ _ _ _ _ _ _)
      | (with_reducible exact ih1 _)
      | (with_reducible exact ih2 _ _ _ _ _ _ _)
      | (with_reducible exact ih3 _ _ _)
      | (with_reducible exact ih4 _ _ _ _)
      | (with_reducible exact ih5 _ _ _ _ _ _ _ _ _ _)
      | (with_reducible exact impl_BoldChance.mono _ _ _ _ _)
      | (with_reducible exact impl_FairVisits.mono _ _ _ _)
      | (with_reducible exact impl_MeanGames.mono _ _ _ _ _)
      | (with_reducible exact impl_WinChance.mono _ _ _ _ _)
      | (with_reducible exact spec_BoldChance.mono _ _ _ _ _)
      | (with_reducible exact spec_DrawBoldChance.mono _ _)
      | (with_reducible exact spec_FairVisits.mono _ _ _ _)
      | (with_reducible exact LeO.refl _)
      | (with_reducible exact LeO.none _)
      | (with_reducible refine LeO.ite ?_ ?_)
      | (with_reducible refine LeO.bind ?_ (fun _ => ?_))
      | exact ih0 _ _ _ _ _ _ _ _ _
      | exact ih1 _
      | exact ih2 _ _ _ _ _ _ _
      | exact ih3 _ _ _
      | exact ih4 _ _ _ _
      | exact ih5 _ _ _ _ _ _ _ _ _ _
      | exact impl_BoldChance.mono _ _ _ _ _
      | exact impl_FairVisits.mono _ _ _ _
      | exact impl_MeanGames.mono _ _ _ _ _
      | exact impl_WinChance.mono _ _ _ _ _
      | exact spec_BoldChance.mono _ _ _ _ _
      | exact spec_DrawBoldChance.mono _ _
      | exact spec_FairVisits.mono _ _ _ _
      | exact LeO.none _
      | refine LeO.ite ?_ ?_
      | refine LeO.bind ?_ (fun _ => ?_)
    · intro y0
      unfold laws_FnBoldPlay.j2
      repeat' first
      | (with_reducible exact ih0 _ _ _ _ _ _ _ _ _)
      | (with_reducible exact ih1 _)
      | (with_reducible exact ih2 _ _ _ _ _ _ _)
      | (with_reducible exact ih3 _ _ _)
      | (with_reducible exact ih4 _ _ _ _)
      | (with_reducible exact ih5 _ _ _ _ _ _ _ _ _ _)
      | (with_reducible exact impl_BoldChance.mono _ _ _ _ _)
      | (with_reducible exact impl_FairVisits.mono _ _ _ _)
      | (with_reducible exact impl_MeanGames.mono _ _ _ _ _)
      | (with_reducible exact impl_WinChance.mono _ _ _ _ _)
      | (with_reducible exact spec_BoldChance.mono _ _ _ _ _)
      | (with_reducible exact spec_DrawBoldChance.mono _ _)
      | (with_reducible exact spec_FairVisits.mono _ _ _ _)
      | (with_reducible exact LeO.refl _)
      | (with_reducible exact LeO.none _)
      | (with_reducible refine LeO.ite ?_ ?_)
      | (with_reducible refine LeO.bind ?_ (fun _ => ?_))
      | exact ih0 _ _ _ _ _ _ _ _ _
      | exact ih1 _
      | exact ih2 _ _ _ _ _ _ _
      | exact ih3 _ _ _
      | exact ih4 _ _ _ _
      | exact ih5 _ _ _ _ _ _ _ _ _ _
      | exact impl_BoldChance.mono _ _ _ _ _
      | exact impl_FairVisits.mono _ _ _ _
      | exact impl_MeanGames.mono _ _ _ _ _
      | exact impl_WinChance.mono _ _ _ _ _
      | exact spec_BoldChance.mono _ _ _ _ _
      | exact spec_DrawBoldChance.mono _ _
      | exact spec_FairVisits.mono _ _ _ _
      | exact LeO.none _
      | refine LeO.ite ?_ ?_
      | refine LeO.bind ?_ (fun _ => ?_)
    · intro y0 y1 y2 y3 y4 y5 y6
      unfold laws_FnBoldPlay.j3
      repeat' first
      | (with_reducible exact ih0 _ _ _ _ _ _ _ _ _)
      | (with_reducible exact ih1 _)
      | (with_reducible exact ih2 _ _ _ _ _ _ _)
      | (with_reducible exact ih3 _ _ _)
      | (with_reducible exact ih4 _ _ _ _)
      | (with_reducible exact ih5 _ _ _ _ _ _ _ _ _ _)
      | (with_reducible exact impl_BoldChance.mono _ _ _ _ _)
      | (with_reducible exact impl_FairVisits.mono _ _ _ _)
      | (with_reducible exact impl_MeanGames.mono _ _ _ _ _)
      | (with_reducible exact impl_WinChance.mono _ _ _ _ _)
      | (with_reducible exact spec_BoldChance.mono _ _ _ _ _)
      | (with_reducible exact spec_DrawBoldChance.mono _ _)
      | (with_reducible exact spec_FairVisits.mono _ _ _ _)
      | (with_reducible exact LeO.refl _)
      | (with_reducible exact LeO.none _)
      | (with_reducible refine LeO.ite ?_ ?_)
      | (with_reducible refine LeO.bind ?_ (fun _ => ?_))
      | exact ih0 _ _ _ _ _ _ _ _ _
      | exact ih1 _
      | exact ih2 _ _ _ _ _ _ _
      | exact ih3 _ _ _
      | exact ih4 _ _ _ _
      | exact ih5 _ _ _ _ _ _ _ _ _ _
      | exact impl_BoldChance.mono _ _ _ _ _
      | exact impl_FairVisits.mono _ _ _ _
      | exact impl_MeanGames.mono _ _ _ _ _
      | exact impl_WinChance.mono _ _ _ _ _
      | exact spec_BoldChance.mono _ _ _ _ _
      | exact spec_DrawBoldChance.mono _ _
      | exact spec_FairVisits.mono _ _ _ _
      | exact LeO.none _
      | refine LeO.ite ?_ ?_
      | refine LeO.bind ?_ (fun _ => ?_)
    · intro y0 y1 y2
      unfold laws_FnBoldPlay.j4
      repeat' first
      | (with_reducible exact ih0 _ _ _ _ _ _ _ _ _)
      | (with_reducible exact ih1 _)
      | (with_reducible exact ih2 _ _ _ _ _ _ _)
      | (with_reducible exact ih3 _ _ _)
      | (with_reducible exact ih4 _ _ _ _)
      | (with_reducible exact ih5 _ _ _ _ _ _ _ _ _ _)
      | (with_reducible exact impl_BoldChance.mono _ _ _ _ _)
      | (with_reducible exact impl_FairVisits.mono _ _ _ _)
      | (with_reducible exact impl_MeanGames.mono _ _ _ _ _)
      | (with_reducible exact impl_WinChance.mono _ _ _ _ _)
      | (with_reducible exact spec_BoldChance.mono _ _ _ _ _)
      | (with_reducible exact spec_DrawBoldChance.mono _ _)
      | (with_reducible exact spec_FairVisits.mono _ _ _ _)
      | (with_reducible exact LeO.refl _)
      | (with_reducible exact LeO.none _)
      | (with_reducible refine LeO.ite ?_ ?_)
      | (with_reducible refine LeO.bind ?_ (fun _ => ?_))
      | exact ih0 _ _ _ _ _ _ _ _ _
      | exact ih1 _
      | exact ih2 _ _ _ _ _ _ _
      | exact ih3 _ _ _
      | exact ih4 _ _ _ _
      | exact ih5 _ _ _ _ _ _ _ _ _ _
      | exact impl_BoldChance.mono _ _ _ _ _
      | exact impl_FairVisits.mono _ _ _ _
      | exact impl_MeanGames.mono _ _ _ _ _
      | exact impl_WinChance.mono _ _ _ _ _
      | exact spec_BoldChance.mono _ _ _ _ _
      | exact spec_DrawBoldChance.mono _ _
      | exact spec_FairVisits.mono _ _ _ _
      | exact LeO.none _
      | refine LeO.ite ?_ ?_
      | refine LeO.bind ?_ (fun _ => ?_)
    · intro y0 y1 y2 y3
      unfold laws_FnBoldPlay.l0
      repeat' first
      | (with_reducible exact ih0 _ _ _ _ _ _ _ _ _)
      | (with_reducible exact ih1 _)
      | (with_reducible exact ih2 _ _ _ _ _ _ _)
      | (with_reducible exact ih3 _ _ _)
      | (with_reducible exact ih4 _ _ _ _)
      | (with_reducible exact ih5 _ _ _ _ _ _ _ _ _ _)
      | (with_reducible exact impl_BoldChance.mono _ _ _ _ _)
      | (with_reducible exact impl_FairVisits.mono _ _ _ _)
      | (with_reducible exact impl_MeanGames.mono _ _ _ _ _)
      | (with_reducible exact impl_WinChance.mono _ _ _ _ _)
      | (with_reducible exact spec_BoldChance.mono _ _ _ _ _)
      | (with_reducible exact spec_DrawBoldChance.mono _ _)
      | (with_reducible exact spec_FairVisits.mono _ _ _ _)
      | (with_reducible exact LeO.refl _)
      | (with_reducible exact LeO.none _)
      | (with_reducible refine LeO.ite ?_ ?_)
      | (with_reducible refine LeO.bind ?_ (fun _ => ?_))
      | exact ih0 _ _ _ _ _ _ _ _ _
      | exact ih1 _
      | exact ih2 _ _ _ _ _ _ _
      | exact ih3 _ _ _
      | exact ih4 _ _ _ _
      | exact ih5 _ _ _ _ _ _ _ _ _ _
      | exact impl_BoldChance.mono _ _ _ _ _
      | exact impl_FairVisits.mono _ _ _ _
      | exact impl_MeanGames.mono _ _ _ _ _
      | exact impl_WinChance.mono _ _ _ _ _
      | exact spec_BoldChance.mono _ _ _ _ _
      | exact spec_DrawBoldChance.mono _ _
      | exact spec_FairVisits.mono _ _ _ _
      | exact LeO.none _
      | refine LeO.ite ?_ ?_
      | refine LeO.bind ?_ (fun _ => ?_)
    · intro y0 y1 y2 y3 y4 y5 y6 y7 y8 y9
      unfold laws_FnBoldPlay.j1
      repeat' first
      | (with_reducible exact ih0 _ _ _ _ _ _ _ _ _)
      | (with_reducible exact ih1 _)
      | (with_reducible exact ih2 _ _ _ _ _ _ _)
      | (with_reducible exact ih3 _ _ _)
      | (with_reducible exact ih4 _ _ _ _)
      | (with_reducible exact ih5 _ _ _ _ _ _ _ _ _ _)
      | (with_reducible exact impl_BoldChance.mono _ _ _ _ _)
      | (with_reducible exact impl_FairVisits.mono _ _ _ _)
      | (with_reducible exact impl_MeanGames.mono _ _ _ _ _)
      | (with_reducible exact impl_WinChance.mono _ _ _ _ _)
      | (with_reducible exact spec_BoldChance.mono _ _ _ _ _)
      | (with_reducible exact spec_DrawBoldChance.mono _ _)
      | (with_reducible exact spec_FairVisits.mono _ _ _ _)
      | (with_reducible exact LeO.refl _)
      | (with_reducible exact LeO.none _)
      | (with_reducible refine LeO.ite ?_ ?_)
      | (with_reducible refine LeO.bind ?_ (fun _ => ?_))
      | exact ih0 _ _ _ _ _ _ _ _ _
      | exact ih1 _
      | exact ih2 _ _ _ _ _ _ _
      | exact ih3 _ _ _
      | exact ih4 _ _ _ _
      | exact ih5 _ _ _ _ _ _ _ _ _ _
      | exact impl_BoldChance.mono _ _ _ _ _
      | exact impl_FairVisits.mono _ _ _ _
      | exact impl_MeanGames.mono _ _ _ _ _
      | exact impl_WinChance.mono _ _ _ _ _
      | exact spec_BoldChance.mono _ _ _ _ _
      | exact spec_DrawBoldChance.mono _ _
      | exact spec_FairVisits.mono _ _ _ _
      | exact LeO.none _
      | refine LeO.ite ?_ ?_
      | refine LeO.bind ?_ (fun _ => ?_)
theorem laws_FnBoldPlay.mono : ∀ a0 a1 k, LeO (laws_FnBoldPlay.f k a0 a1) (laws_FnBoldPlay.f (k + 1) a0 a1) := by
  intro a0 a1 k
  obtain ⟨ih0, ih1, ih2, ih3, ih4, ih5⟩ := laws_FnBoldPlay.mono_l k
  unfold laws_FnBoldPlay.f
  repeat' first
      | (with_reducible exact ih0 _ _ _ _ _ _ _ _ _)
      | (with_reducible exact ih1 _)
      | (with_reducible exact ih2 _ _ _ _ _ _ _)
      | (with_reducible exact ih3 _ _ _)
      | (with_reducible exact ih4 _ _ _ _)
      | (with_reducible exact ih5 _ _ _ _ _ _ _ _ _ _)
      | (with_reducible exact impl_BoldChance.mono _ _ _ _ _)
      | (with_reducible exact impl_FairVisits.mono _ _ _ _)
      | (with_reducible exact impl_MeanGames.mono _ _ _ _ _)
      | (with_reducible exact impl_WinChance.mono _ _ _ _ _)
      | (with_reducible exact spec_BoldChance.mono _ _ _ _ _)
      | (with_reducible exact spec_DrawBoldChance.mono _ _)
      | (with_reducible exact spec_FairVisits.mono _ _ _ _)
      | (with_reducible exact LeO.refl _)
      | (with_reducible exact LeO.none _)
      | (with_reducible refine LeO.ite ?_ ?_)
      | (with_reducible refine LeO.bind ?_ (fun _ => ?_))
      | exact ih0 _ _ _ _ _ _ _ _ _
      | exact ih1 _
      | exact ih2 _ _ _ _ _ _ _
      | exact ih3 _ _ _
      | exact ih4 _ _ _ _
      | exact ih5 _ _ _ _ _ _ _ _ _ _
      | exact impl_BoldChance.mono _ _ _ _ _
      | exact impl_FairVisits.mono _ _ _ _
      | exact impl_MeanGames.mono _ _ _ _ _
      | exact impl_WinChance.mono _ _ _ _ _
      | exact spec_BoldChance.mono _ _ _ _ _
      | exact spec_DrawBoldChance.mono _ _
      | exact spec_FairVisits.mono _ _ _ _
      | exact LeO.none _
      | refine LeO.ite ?_ ?_
      | refine LeO.bind ?_ (fun _ => ?_)
set_option maxHeartbeats 8000000 in
set_option maxRecDepth 100000 in
theorem laws_FnBoldPlay.calls (k : Nat) (A0 : Option Addr) (c0 : Nat) (l0 : List Int) (A1 : Option Addr) (c1 : Nat) (l1 : List Int) (r : Bool) (w : World) (hr0 : Kd.C (Kd.int .u8) w A0 l0.length l0) (hc0 : l0.length ≤ c0) (hr1 : Kd.C (Kd.int .u8) w A1 l1.length l1) (hc1 : l1.length ≤ c1) (h : laws_FnBoldPlay.f k l0 l1 = some r) :
  Calls Try.prog 3 #[.slice A0 l0.length c0, .slice A1 l1.length c1] w fun e w' => e = .returned (.bool r) ∧ Below w.heap.size w w' := by
 have hu25 := Try.underlying25
 have HR0 := Abq hr0
 have HC0 := Abq hc0
 clear hr0 hc0
 have HR1 := Abq hr1
 have HC1 := Abq hc1
 clear hr1 hc1
 have HB := Abq (Below.refl w.heap.size w)
 have H : ((laws_big.f l0 l1).bind fun t276 => (if t276 = true then (some true) else ((spec_DrawBoldChance.f k l0).bind fun bt277 => ((impl_BoldChance.f k bt277.1 bt277.2.1 bt277.2.2.1 bt277.2.2.2).bind fun bt282 => ((spec_BoldChance.f k bt277.1 bt277.2.1 bt277.2.2.1 bt277.2.2.2).bind fun bt286 => (if (bt282.2.2 != bt286.2.2) = true then (laws_FnBoldPlay.j0 k l1 bt277.1 bt277.2.1 bt282.2.2 true bt277.2.2.1 bt277.2.2.2 bt282.1 bt282.2.1) else (laws_FnBoldPlay.j0 k l1 bt277.1 bt277.2.1 bt282.2.2 (!(bt282.1 == bt286.1) || (!(bt282.2.1 == bt286.2.1))) bt277.2.2.1 bt277.2.2.2 bt282.1 bt282.2.1))))))) = some r := h
 clear h
 replace H := Option.bind_eq_some_iff.mp H
 obtain ⟨t276, A30, H⟩ := H
 replace H : (if t276 = true then (some true) else ((spec_DrawBoldChance.f k l0).bind fun bt277 => ((impl_BoldChance.f k bt277.1 bt277.2.1 bt277.2.2.1 bt277.2.2.2).bind fun bt282 => ((spec_BoldChance.f k bt277.1 bt277.2.1 bt277.2.2.1 bt277.2.2.2).bind fun bt286 => (if (bt282.2.2 != bt286.2.2) = true then (laws_FnBoldPlay.j0 k l1 bt277.1 bt277.2.1 bt282.2.2 true bt277.2.2.1 bt277.2.2.2 bt282.1 bt282.2.1) else (laws_FnBoldPlay.j0 k l1 bt277.1 bt277.2.1 bt282.2.2 (!(bt282.1 == bt286.1) || (!(bt282.2.1 == bt286.2.1))) bt277.2.2.1 bt277.2.2.2 bt282.1 bt282.2.1)))))) = some r := H
 have A3 := Abq A30
 clear A30
 by_cases c4 : t276 = true
 ·
  subst c4
  have H1 : (some true) = some r := by rw [if_pos rfl] at H; exact H
  clear H
  have H := H1
  clear H1
  obtain rfl := Option.some.inj H
  go_enter Try.func3, Try.ntmps3
  go_wp2_with (first | ((with_reducible refine gate_callee (f := 5) rfl ?_); refine goesL_ (some 31) rfl rfl Try.func5 (by kernel_rfl) rfl #[.slice A0 l0.length c0, .slice A1 l1.length c1] rfl Zb7 ?_; (with_reducible refine (laws_big.calls _ _ l0 _ _ l1 true _ ?side1 ?side2 ?side3 ?side4 A3.out).mono ?_); (case side1 => repeat (first | exact HR0.out | (with_reducible refine Kd.C_alloc ?_ _) | (with_reducible refine Kd.C_drewN ?_ _) | (with_reducible refine Kd.C_drew ?_))); (case side2 => exact HC0.out); (case side3 => repeat (first | exact HR1.out | (with_reducible refine Kd.C_alloc ?_ _) | (with_reducible refine Kd.C_drewN ?_ _) | (with_reducible refine Kd.C_drew ?_))); (case side4 => exact HC1.out); rintro e w' ⟨rfl, ⟨nd, rfl⟩⟩; refine ⟨_, rfl, ?_⟩))
  go_ret
  exact ⟨by first | rfl | (simp [errW_none, errW_some] <;> rfl) | (simp [*, errW_none, errW_some] <;> rfl), by repeat (first | (with_reducible first | exact HB.out | apply below_alloc | apply pw_below_drewN | apply below_drew1) | exact HB.out)⟩
 ·
  replace c4 := Bool.eq_false_iff.mpr c4
  subst c4
  have H1 : ((spec_DrawBoldChance.f k l0).bind fun bt277 => ((impl_BoldChance.f k bt277.1 bt277.2.1 bt277.2.2.1 bt277.2.2.2).bind fun bt282 => ((spec_BoldChance.f k bt277.1 bt277.2.1 bt277.2.2.1 bt277.2.2.2).bind fun bt286 => (if (bt282.2.2 != bt286.2.2) = true then (laws_FnBoldPlay.j0 k l1 bt277.1 bt277.2.1 bt282.2.2 true bt277.2.2.1 bt277.2.2.2 bt282.1 bt282.2.1) else (laws_FnBoldPlay.j0 k l1 bt277.1 bt277.2.1 bt282.2.2 (!(bt282.1 == bt286.1) || (!(bt282.2.1 == bt286.2.1))) bt277.2.2.1 bt277.2.2.2 bt282.1 bt282.2.1))))) = some r := by rw [if_neg (show ¬ (false = true) by decide)] at H; exact H
  clear H
  have H := H1
  clear H1
  replace H := Option.bind_eq_some_iff.mp H
  obtain ⟨⟨t277, t278, t279, t280⟩, A50, H⟩ := H
  replace H : ((impl_BoldChance.f k t277 t278 t279 t280).bind fun bt282 => ((spec_BoldChance.f k t277 t278 t279 t280).bind fun bt286 => (if (bt282.2.2 != bt286.2.2) = true then (laws_FnBoldPlay.j0 k l1 t277 t278 bt282.2.2 true t279 t280 bt282.1 bt282.2.1) else (laws_FnBoldPlay.j0 k l1 t277 t278 bt282.2.2 (!(bt282.1 == bt286.1) || (!(bt282.2.1 == bt286.2.1))) t279 t280 bt282.1 bt282.2.1)))) = some r := H
  have A5 := Abq A50
  clear A50
  replace H := Option.bind_eq_some_iff.mp H
  obtain ⟨⟨t282, t283, t284⟩, A60, H⟩ := H
  replace H : ((spec_BoldChance.f k t277 t278 t279 t280).bind fun bt286 => (if (t284 != bt286.2.2) = true then (laws_FnBoldPlay.j0 k l1 t277 t278 t284 true t279 t280 t282 t283) else (laws_FnBoldPlay.j0 k l1 t277 t278 t284 (!(t282 == bt286.1) || (!(t283 == bt286.2.1))) t279 t280 t282 t283))) = some r := H
  have A6 := Abq A60
  clear A60
  replace H := Option.bind_eq_some_iff.mp H
  obtain ⟨⟨t286, t287, t288⟩, A70, H⟩ := H
  replace H : (if (t284 != t288) = true then (laws_FnBoldPlay.j0 k l1 t277 t278 t284 true t279 t280 t282 t283) else (laws_FnBoldPlay.j0 k l1 t277 t278 t284 (!(t282 == t286) || (!(t283 == t287))) t279 t280 t282 t283)) = some r := H
  have A7 := Abq A70
  clear A70
  have HC8 := Abq H
  clear H
  go_enter Try.func3, Try.ntmps3
  go_upto_region 6 with (first | ((with_reducible refine gate_callee (f := 5) rfl ?_); refine goesL_ (some 31) rfl rfl Try.func5 (by kernel_rfl) rfl #[.slice A0 l0.length c0, .slice A1 l1.length c1] rfl Zb7 ?_; (with_reducible refine (laws_big.calls _ _ l0 _ _ l1 false _ ?side1 ?side2 ?side3 ?side4 A3.out).mono ?_); (case side1 => repeat (first | exact HR0.out | (with_reducible refine Kd.C_alloc ?_ _) | (with_reducible refine Kd.C_drewN ?_ _) | (with_reducible refine Kd.C_drew ?_))); (case side2 => exact HC0.out); (case side3 => repeat (first | exact HR1.out | (with_reducible refine Kd.C_alloc ?_ _) | (with_reducible refine Kd.C_drewN ?_ _) | (with_reducible refine Kd.C_drew ?_))); (case side4 => exact HC1.out); rintro e w' ⟨rfl, ⟨nd, rfl⟩⟩; refine ⟨_, rfl, ?_⟩) | ((with_reducible refine gate_callee (f := 6) rfl ?_); refine goesL_ (some 34) rfl rfl Try.func6 (by kernel_rfl) rfl #[.slice A0 l0.length c0] rfl Zb7 ?_; (with_reducible refine (spec_DrawBoldChance.calls k _ _ l0 t277 t278 t279 t280 _ ?side1 ?side2 A5.out).mono ?_); (case side1 => repeat (first | exact HR0.out | (with_reducible refine Kd.C_alloc ?_ _) | (with_reducible refine Kd.C_drewN ?_ _) | (with_reducible refine Kd.C_drew ?_))); (case side2 => exact HC0.out); rintro e w9 ⟨rfl, hb⟩; refine ⟨_, rfl, ?_⟩; have n0_ := Abq (below_step Zb8 hb); clear HB; have HB := n0_; clear n0_; (try clear hb); (try clear hb2); (try clear hk); (try clear hi)) | ((with_reducible refine gate_dst (N := 7) rfl ?_); refine box_event ?hg (N := 7) ?hd (cs := #[.int .i64 0, .int .i64 0]) (t := 25) ?hr ?_; (case hd => rfl); (case hg => rfl); (case hr => first | (go_simp; done) | (go_simp; rfl)); intro g281 hg w10 hbox hb; have n0_ := Abq (below_step Zb8 hb); have n1_ := Abq (hbox); have n2_ := Abq ((by rw [hg]; exact (below_size Zb8) : w.heap.size ≤ g281)); have n3_ := Abq ((by rw [hg]; exact (below_size Zb8) : w.heap.size ≤ g281)); clear HB; have HB := n0_; have BK281 := n1_; have GW281 := n2_; have GE281 := n3_; clear n0_ n1_ n2_ n3_; clear hb hbox hg; have hcz11_0 : w10.cell? ⟨g281, 0, none⟩ = some (.int .i64 0) := (blk_cell BK281.out 0).trans rfl; have hcz11_1 : w10.cell? ⟨g281, 1, none⟩ = some (.int .i64 0) := (blk_cell BK281.out 1).trans rfl; have hfz11_0 := blk_frozen BK281.out 0; have hfz11_1 := blk_frozen BK281.out 1) | ((with_reducible refine gate_callee (f := 7) rfl ?_); refine goesL_ (some 42) rfl rfl Try.func7 (by kernel_rfl) rfl #[.int .i64 t277, .int .i64 t278, .agg #[.int .i64 t279, .int .i64 t280]] rfl Zb7 ?_; (with_reducible refine (impl_BoldChance.calls k t277 t278 t279 t280 t282 t283 t284 _ A6.out).mono ?_); rintro e w12 ⟨rfl, hb⟩; refine ⟨_, rfl, ?_⟩; have n0_ := Abq (blk_below (g := g281) (o := .cells #[.int .i64 t279, .int .i64 t280] 25 (0, 0)) (by (with_reducible repeat (first | refine blk_drewN ?_ _ | refine blk_drew ?_ | refine blk_alloc ?_ _)); refine blk_put (cs := #[.int .i64 t279, .int .i64 0]) ?_ 1 _ rfl; (with_reducible repeat (first | refine blk_drewN ?_ _ | refine blk_drew ?_ | refine blk_alloc ?_ _)); refine blk_put (cs := #[.int .i64 0, .int .i64 0]) ?_ 0 _ rfl; (with_reducible repeat (first | refine blk_drewN ?_ _ | refine blk_drew ?_ | refine blk_alloc ?_ _)); exact BK281.out) hb); have n1_ := Abq (below_step Zb6 hb); clear BK281; clear HB; have BK281 := n0_; have HB := n1_; clear n0_ n1_; (try clear hb); (try clear hb2); (try clear hk); (try clear hi)) | ((with_reducible refine gate_dst (N := 8) rfl ?_); refine box_event ?hg (N := 8) ?hd (cs := #[.int .i64 0, .int .i64 0]) (t := 25) ?hr ?_; (case hd => rfl); (case hg => rfl); (case hr => first | (go_simp; done) | (go_simp; rfl)); intro g285 hg w13 hbox hb; have n0_ := Abq (blk_below (g := g281) (o := .cells #[.int .i64 t279, .int .i64 t280] 25 (0, 0)) Zb9 hb); have n1_ := Abq (below_step Zb6 hb); have n2_ := Abq (hbox); have n3_ := Abq ((by rw [hg]; exact (below_size Zb6) : w.heap.size ≤ g285)); have n4_ := Abq ((by rw [hg]; exact (below_size Zb6) : w.heap.size ≤ g285)); have n5_ := Abq ((by rw [hg]; exact Nat.ne_of_lt (blk_lt (g := g281) (o := .cells #[.int .i64 t279, .int .i64 t280] 25 (0, 0)) Zb9) : g281 ≠ g285)); have n6_ := Abq ((by rw [hg]; exact Nat.ne_of_gt (blk_lt (g := g281) (o := .cells #[.int .i64 t279, .int .i64 t280] 25 (0, 0)) Zb9) : g285 ≠ g281)); clear BK281; clear HB; have BK281 := n0_; have HB := n1_; have BK285 := n2_; have GW285 := n3_; have GE285 := n4_; have NB281_285 := n5_; have NB285_281 := n6_; clear n0_ n1_ n2_ n3_ n4_ n5_ n6_; clear hb hbox hg; have hnb14 := NB285_281.out; have hnc14 := NB281_285.out; have hcz15_0 : w13.cell? ⟨g285, 0, none⟩ = some (.int .i64 0) := (blk_cell BK285.out 0).trans rfl; have hcz15_1 : w13.cell? ⟨g285, 1, none⟩ = some (.int .i64 0) := (blk_cell BK285.out 1).trans rfl; have hfz15_0 := blk_frozen BK285.out 0; have hfz15_1 := blk_frozen BK285.out 1; have hcz16_0 : w13.cell? ⟨g281, 0, none⟩ = some (.int .i64 t279) := (blk_cell BK281.out 0).trans rfl; have hcz16_1 : w13.cell? ⟨g281, 1, none⟩ = some (.int .i64 t280) := (blk_cell BK281.out 1).trans rfl; have hfz16_0 := blk_frozen BK281.out 0; have hfz16_1 := blk_frozen BK281.out 1) | ((with_reducible refine gate_callee (f := 8) rfl ?_); refine goesL_ (some 49) rfl rfl Try.func8 (by kernel_rfl) rfl #[.int .i64 t277, .int .i64 t278, .agg #[.int .i64 t279, .int .i64 t280]] rfl Zb7 ?_; (with_reducible refine (spec_BoldChance.calls k t277 t278 t279 t280 t286 t287 t288 _ A7.out).mono ?_); rintro e w17 ⟨rfl, hb⟩; refine ⟨_, rfl, ?_⟩; have n0_ := Abq (blk_below (g := g281) (o := .cells #[.int .i64 t279, .int .i64 t280] 25 (0, 0)) (by (with_reducible repeat (first | refine blk_drewN ?_ _ | refine blk_drew ?_ | refine blk_alloc ?_ _)); refine blk_far ?_ NB281_285.out _; (with_reducible repeat (first | refine blk_drewN ?_ _ | refine blk_drew ?_ | refine blk_alloc ?_ _)); refine blk_far ?_ NB281_285.out _; (with_reducible repeat (first | refine blk_drewN ?_ _ | refine blk_drew ?_ | refine blk_alloc ?_ _)); exact BK281.out) hb); have n1_ := Abq (blk_below (g := g285) (o := .cells #[.int .i64 t282, .int .i64 t283] 25 (0, 0)) (by (with_reducible repeat (first | refine blk_drewN ?_ _ | refine blk_drew ?_ | refine blk_alloc ?_ _)); refine blk_put (cs := #[.int .i64 t282, .int .i64 0]) ?_ 1 _ rfl; (with_reducible repeat (first | refine blk_drewN ?_ _ | refine blk_drew ?_ | refine blk_alloc ?_ _)); refine blk_put (cs := #[.int .i64 0, .int .i64 0]) ?_ 0 _ rfl; (with_reducible repeat (first | refine blk_drewN ?_ _ | refine blk_drew ?_ | refine blk_alloc ?_ _)); exact BK285.out) hb); have n2_ := Abq (below_step Zb5 hb); clear BK281; clear BK285; clear HB; have BK281 := n0_; have BK285 := n1_; have HB := n2_; clear n0_ n1_ n2_; (try clear hb); (try clear hb2); (try clear hk); (try clear hi)) | ((with_reducible refine gate_dst (N := 10) rfl ?_); refine box_event ?hg (N := 10) ?hd (cs := #[.int .i64 0, .int .i64 0]) (t := 25) ?hr ?_; (case hd => rfl); (case hg => rfl); (case hr => first | (go_simp; done) | (go_simp; rfl)); intro g289 hg w18 hbox hb; have n0_ := Abq (blk_below (g := g281) (o := .cells #[.int .i64 t279, .int .i64 t280] 25 (0, 0)) Zb9 hb); have n1_ := Abq (blk_below (g := g285) (o := .cells #[.int .i64 t282, .int .i64 t283] 25 (0, 0)) Zb10 hb); have n2_ := Abq (below_step Zb5 hb); have n3_ := Abq (hbox); have n4_ := Abq ((by rw [hg]; exact (below_size Zb5) : w.heap.size ≤ g289)); have n5_ := Abq ((by rw [hg]; exact (below_size Zb5) : w.heap.size ≤ g289)); have n6_ := Abq ((by rw [hg]; exact Nat.ne_of_lt (blk_lt (g := g281) (o := .cells #[.int .i64 t279, .int .i64 t280] 25 (0, 0)) Zb9) : g281 ≠ g289)); have n7_ := Abq ((by rw [hg]; exact Nat.ne_of_gt (blk_lt (g := g281) (o := .cells #[.int .i64 t279, .int .i64 t280] 25 (0, 0)) Zb9) : g289 ≠ g281)); have n8_ := Abq ((by rw [hg]; exact Nat.ne_of_lt (blk_lt (g := g285) (o := .cells #[.int .i64 t282, .int .i64 t283] 25 (0, 0)) Zb10) : g285 ≠ g289)); have n9_ := Abq ((by rw [hg]; exact Nat.ne_of_gt (blk_lt (g := g285) (o := .cells #[.int .i64 t282, .int .i64 t283] 25 (0, 0)) Zb10) : g289 ≠ g285)); clear BK281; clear BK285; clear HB; have BK281 := n0_; have BK285 := n1_; have HB := n2_; have BK289 := n3_; have GW289 := n4_; have GE289 := n5_; have NB281_289 := n6_; have NB289_281 := n7_; have NB285_289 := n8_; have NB289_285 := n9_; clear n0_ n1_ n2_ n3_ n4_ n5_ n6_ n7_ n8_ n9_; clear hb hbox hg; have hnb19 := NB289_281.out; have hnc19 := NB281_289.out; have hnb20 := NB289_285.out; have hnc20 := NB285_289.out; have hcz21_0 : w18.cell? ⟨g289, 0, none⟩ = some (.int .i64 0) := (blk_cell BK289.out 0).trans rfl; have hcz21_1 : w18.cell? ⟨g289, 1, none⟩ = some (.int .i64 0) := (blk_cell BK289.out 1).trans rfl; have hfz21_0 := blk_frozen BK289.out 0; have hfz21_1 := blk_frozen BK289.out 1))
  (try simp only [Act.put, y1b, y2b, y3b])
  go_cut [59] (fun v59 wc => ∃ (kq : Nat) (x59_7 : Bool), v59 = .bool x59_7 ∧ Aside0 (laws_FnBoldPlay.j0 kq l1 t277 t278 t284 x59_7 t279 t280 t282 t283 = some r) ∧ Aside0 (kq ≤ k) ∧ Aside0 (wc.heap[g281]? = some (.cells #[.int .i64 t279, .int .i64 t280] 25 (0, 0))) ∧ Aside0 (wc.heap[g285]? = some (.cells #[.int .i64 t282, .int .i64 t283] 25 (0, 0))) ∧ Aside0 (wc.heap[g289]? = some (.cells #[.int .i64 t286, .int .i64 t287] 25 (0, 0))) ∧ Aside0 (Below w.heap.size w wc))
  case first => as_aux_lemma =>
   have H := HC8.out
   clear HC8
   by_cases c22 : (t284 != t288) = true
   ·
    rw [if_pos c22] at H
    have c22b0 : (t284 != t288) = true := c22
    (try (have c22b1 : decide (t284 = t288) = false := by simpa using c22))
    (try (have c22b2 : (t284 == t288) = false := by simpa using c22))
    (try (have c22b3 : ¬ (t284 = t288) := by simpa using c22))
    clear c22
    (first | rw [c22b0] | (simp only [i64_w, i32_w]; rw [c22b0]) | skip)
    exact absurd H (by generalize k = q_; cases q_ <;> simp [laws_FnBoldPlay.j0])
   ·
    rw [if_neg c22] at H
    have c22b0 : (t284 != t288) = false := by simpa using c22
    (try (have c22b1 : decide (t284 = t288) = true := by simpa using c22))
    (try (have c22b2 : (t284 == t288) = true := by simpa using c22))
    clear c22
    (first | rw [c22b0] | (simp only [i64_w, i32_w]; rw [c22b0]) | skip)
    have H' := Abq H
    clear H
    have hnb23 := NB285_281.out
    have hnc23 := NB281_285.out
    have hnb24 := NB285_289.out
    have hnc24 := NB289_285.out
    have hcz25_0 : w18.cell? ⟨g285, 0, none⟩ = some (.int .i64 t282) := (blk_cell BK285.out 0).trans rfl
    have hcz25_1 : w18.cell? ⟨g285, 1, none⟩ = some (.int .i64 t283) := (blk_cell BK285.out 1).trans rfl
    have hfz25_0 := blk_frozen BK285.out 0
    have hfz25_1 := blk_frozen BK285.out 1
    have hnb26 := NB289_281.out
    have hnc26 := NB281_289.out
    have hcz27_0 : w18.cell? ⟨g289, 0, none⟩ = some (.int .i64 0) := (blk_cell BK289.out 0).trans rfl
    have hcz27_1 : w18.cell? ⟨g289, 1, none⟩ = some (.int .i64 0) := (blk_cell BK289.out 1).trans rfl
    have hfz27_0 := blk_frozen BK289.out 0
    have hfz27_1 := blk_frozen BK289.out 1
    as_aux_lemma =>
     go_wp2
     go_meet
     case rel => exact ⟨_, ((!(t282 == t286) || (!(t283 == t287)))), Zb15, H', ⟨by first | omega | exact Nat.le_refl _⟩, ⟨by (with_reducible repeat (first | refine blk_drewN ?_ _ | refine blk_drew ?_ | refine blk_alloc ?_ _)); refine blk_far ?_ NB281_289.out _; (with_reducible repeat (first | refine blk_drewN ?_ _ | refine blk_drew ?_ | refine blk_alloc ?_ _)); refine blk_far ?_ NB281_289.out _; (with_reducible repeat (first | refine blk_drewN ?_ _ | refine blk_drew ?_ | refine blk_alloc ?_ _)); exact BK281.out⟩, ⟨by (with_reducible repeat (first | refine blk_drewN ?_ _ | refine blk_drew ?_ | refine blk_alloc ?_ _)); refine blk_far ?_ NB285_289.out _; (with_reducible repeat (first | refine blk_drewN ?_ _ | refine blk_drew ?_ | refine blk_alloc ?_ _)); refine blk_far ?_ NB285_289.out _; (with_reducible repeat (first | refine blk_drewN ?_ _ | refine blk_drew ?_ | refine blk_alloc ?_ _)); exact BK285.out⟩, ⟨by (with_reducible repeat (first | refine blk_drewN ?_ _ | refine blk_drew ?_ | refine blk_alloc ?_ _)); refine blk_put (cs := #[.int .i64 t286, .int .i64 0]) ?_ 1 _ rfl; (with_reducible repeat (first | refine blk_drewN ?_ _ | refine blk_drew ?_ | refine blk_alloc ?_ _)); refine blk_put (cs := #[.int .i64 0, .int .i64 0]) ?_ 0 _ rfl; (with_reducible repeat (first | refine blk_drewN ?_ _ | refine blk_drew ?_ | refine blk_alloc ?_ _)); exact BK289.out⟩, ⟨by repeat (first | (with_reducible first | exact HB.out | apply below_alloc | apply pw_below_drewN | apply below_drew1 | refine below_set ?_ GE281.out | refine below_set ?_ GE285.out | refine below_set ?_ GE289.out) | exact HB.out)⟩⟩
  case rest => as_aux_lemma =>
   clear HC8
   try clear c1
   try clear c2
   try clear p2
   try clear c3
   try clear c4
   try clear c5
   try clear c6
   try clear c7
   try clear c8
   try clear c14
   try clear c19
   try clear c20
   try clear c22
   try clear c22b0
   try clear c22b1
   try clear c22b2
   try clear c23
   try clear c24
   try clear c26
   try clear hcz11_0
   try clear hcz11_1
   try clear hcz15_0
   try clear hcz15_1
   try clear hcz16_0
   try clear hcz16_1
   try clear hcz21_0
   try clear hcz21_1
   try clear hcz25_0
   try clear hcz25_1
   try clear hcz27_0
   try clear hcz27_1
   try clear hfz11_0
   try clear hfz11_1
   try clear hfz15_0
   try clear hfz15_1
   try clear hfz16_0
   try clear hfz16_1
   try clear hfz21_0
   try clear hfz21_1
   try clear hfz25_0
   try clear hfz25_1
   try clear hfz27_0
   try clear hfz27_1
   obtain ⟨kq, x59_7, rfl, HA, HJ7, BK281, BK285, BK289, HB⟩ := hcut
   cases kq with
   | zero => exact absurd HA.out (by simp [laws_FnBoldPlay.j0])
   | succ kj7 =>
    have H := HA.out
    clear HA
    simp only [laws_FnBoldPlay.j0] at H
    by_cases c28 : x59_7 = true
    ·
     subst c28
     have H1 : (none) = some r := by rw [if_pos rfl] at H; exact H
     clear H
     have H := H1
     clear H1
     exact absurd H (by simp)
    ·
     replace c28 := Bool.eq_false_iff.mpr c28
     subst c28
     have H1 : (if t284 = true then ((impl_WinChance.f kj7 t277 t278 t279 t280).bind fun bt290 => (if bt290.2.2 = true then (if t282 < 0 then (laws_FnBoldPlay.j1 kj7 l1 t277 t278 true t279 t280 t282 t283 bt290.1 bt290.2.1) else (laws_FnBoldPlay.j1 kj7 l1 t277 t278 (decide (t282 > t283)) t279 t280 t282 t283 bt290.1 bt290.2.1)) else (laws_FnBoldPlay.j1 kj7 l1 t277 t278 true t279 t280 t282 t283 bt290.1 bt290.2.1))) else (laws_FnBoldPlay.j2 kj7 l1)) = some r := by rw [if_neg (show ¬ (false = true) by decide)] at H; exact H
     clear H
     have H := H1
     clear H1
     have HC29 := Abq H
     clear H
     go_upto_if 60 with (fail)
     go_cut [] (fun wc => ∃ (kq : Nat), Aside0 (laws_FnBoldPlay.j2 kq l1 = some r) ∧ Aside0 (kq ≤ kj7) ∧ Aside0 (wc.heap[g281]? = some (.cells #[.int .i64 t279, .int .i64 t280] 25 (0, 0))) ∧ Aside0 (wc.heap[g285]? = some (.cells #[.int .i64 t282, .int .i64 t283] 25 (0, 0))) ∧ Aside0 (wc.heap[g289]? = some (.cells #[.int .i64 t286, .int .i64 t287] 25 (0, 0))) ∧ Aside0 (Below w.heap.size w wc))
     case first => as_aux_lemma =>
      have H := HC29.out
      clear HC29
      by_cases c30 : t284 = true
      ·
       subst c30
       have H1 : ((impl_WinChance.f kj7 t277 t278 t279 t280).bind fun bt290 => (if bt290.2.2 = true then (if t282 < 0 then (laws_FnBoldPlay.j1 kj7 l1 t277 t278 true t279 t280 t282 t283 bt290.1 bt290.2.1) else (laws_FnBoldPlay.j1 kj7 l1 t277 t278 (decide (t282 > t283)) t279 t280 t282 t283 bt290.1 bt290.2.1)) else (laws_FnBoldPlay.j1 kj7 l1 t277 t278 true t279 t280 t282 t283 bt290.1 bt290.2.1))) = some r := by rw [if_pos rfl] at H; exact H
       clear H
       have H := H1
       clear H1
       replace H := Option.bind_eq_some_iff.mp H
       obtain ⟨⟨t290, t291, t292⟩, A310, H⟩ := H
       replace H : (if t292 = true then (if t282 < 0 then (laws_FnBoldPlay.j1 kj7 l1 t277 t278 true t279 t280 t282 t283 t290 t291) else (laws_FnBoldPlay.j1 kj7 l1 t277 t278 (decide (t282 > t283)) t279 t280 t282 t283 t290 t291)) else (laws_FnBoldPlay.j1 kj7 l1 t277 t278 true t279 t280 t282 t283 t290 t291)) = some r := H
       have A31 := Abq A310
       clear A310
       have HC32 := Abq H
       clear H
       have hnb33 := NB281_285.out
       have hnc33 := NB285_281.out
       have hnb34 := NB281_289.out
       have hnc34 := NB289_281.out
       have hcz35_0 : wc.cell? ⟨g281, 0, none⟩ = some (.int .i64 t279) := (blk_cell BK281.out 0).trans rfl
       have hcz35_1 : wc.cell? ⟨g281, 1, none⟩ = some (.int .i64 t280) := (blk_cell BK281.out 1).trans rfl
       have hfz35_0 := blk_frozen BK281.out 0
       have hfz35_1 := blk_frozen BK281.out 1
       go_upto_region 10 with (first | ((with_reducible refine gate_callee (f := 9) rfl ?_); refine goesL_ (some 65) rfl rfl Try.func9 (by kernel_rfl) rfl #[.int .i64 t277, .int .i64 t278, .agg #[.int .i64 t279, .int .i64 t280]] rfl Zb7 ?_; (with_reducible refine (impl_WinChance.calls kj7 t277 t278 t279 t280 t290 t291 t292 _ A31.out).mono ?_); rintro e w36 ⟨rfl, hb⟩; refine ⟨_, rfl, ?_⟩; have n0_ := Abq (blk_below (g := g281) (o := .cells #[.int .i64 t279, .int .i64 t280] 25 (0, 0)) Zb9 hb); have n1_ := Abq (blk_below (g := g285) (o := .cells #[.int .i64 t282, .int .i64 t283] 25 (0, 0)) Zb10 hb); have n2_ := Abq (blk_below (g := g289) (o := .cells #[.int .i64 t286, .int .i64 t287] 25 (0, 0)) Zb11 hb); have n3_ := Abq (below_step Zb4 hb); clear BK281; clear BK285; clear BK289; clear HB; have BK281 := n0_; have BK285 := n1_; have BK289 := n2_; have HB := n3_; clear n0_ n1_ n2_ n3_; (try clear hb); (try clear hb2); (try clear hk); (try clear hi)) | ((with_reducible refine gate_dst (N := 12) rfl ?_); refine box_event ?hg (N := 12) ?hd (cs := #[.int .i64 0, .int .i64 0]) (t := 25) ?hr ?_; (case hd => rfl); (case hg => rfl); (case hr => first | (go_simp; done) | (go_simp; rfl)); intro g293 hg w37 hbox hb; have n0_ := Abq (blk_below (g := g281) (o := .cells #[.int .i64 t279, .int .i64 t280] 25 (0, 0)) Zb9 hb); have n1_ := Abq (blk_below (g := g285) (o := .cells #[.int .i64 t282, .int .i64 t283] 25 (0, 0)) Zb10 hb); have n2_ := Abq (blk_below (g := g289) (o := .cells #[.int .i64 t286, .int .i64 t287] 25 (0, 0)) Zb11 hb); have n3_ := Abq (below_step Zb4 hb); have n4_ := Abq (hbox); have n5_ := Abq ((by rw [hg]; exact (below_size Zb4) : w.heap.size ≤ g293)); have n6_ := Abq ((by rw [hg]; exact (below_size Zb4) : w.heap.size ≤ g293)); have n7_ := Abq ((by rw [hg]; exact Nat.ne_of_lt (blk_lt (g := g281) (o := .cells #[.int .i64 t279, .int .i64 t280] 25 (0, 0)) Zb9) : g281 ≠ g293)); have n8_ := Abq ((by rw [hg]; exact Nat.ne_of_gt (blk_lt (g := g281) (o := .cells #[.int .i64 t279, .int .i64 t280] 25 (0, 0)) Zb9) : g293 ≠ g281)); have n9_ := Abq ((by rw [hg]; exact Nat.ne_of_lt (blk_lt (g := g285) (o := .cells #[.int .i64 t282, .int .i64 t283] 25 (0, 0)) Zb10) : g285 ≠ g293)); have n10_ := Abq ((by rw [hg]; exact Nat.ne_of_gt (blk_lt (g := g285) (o := .cells #[.int .i64 t282, .int .i64 t283] 25 (0, 0)) Zb10) : g293 ≠ g285)); have n11_ := Abq ((by rw [hg]; exact Nat.ne_of_lt (blk_lt (g := g289) (o := .cells #[.int .i64 t286, .int .i64 t287] 25 (0, 0)) Zb11) : g289 ≠ g293)); have n12_ := Abq ((by rw [hg]; exact Nat.ne_of_gt (blk_lt (g := g289) (o := .cells #[.int .i64 t286, .int .i64 t287] 25 (0, 0)) Zb11) : g293 ≠ g289)); clear BK281; clear BK285; clear BK289; clear HB; have BK281 := n0_; have BK285 := n1_; have BK289 := n2_; have HB := n3_; have BK293 := n4_; have GW293 := n5_; have GE293 := n6_; have NB281_293 := n7_; have NB293_281 := n8_; have NB285_293 := n9_; have NB293_285 := n10_; have NB289_293 := n11_; have NB293_289 := n12_; clear n0_ n1_ n2_ n3_ n4_ n5_ n6_ n7_ n8_ n9_ n10_ n11_ n12_; clear hb hbox hg; have hnb38 := NB293_281.out; have hnc38 := NB281_293.out; have hnb39 := NB293_285.out; have hnc39 := NB285_293.out; have hnb40 := NB293_289.out; have hnc40 := NB289_293.out; have hcz41_0 : w37.cell? ⟨g293, 0, none⟩ = some (.int .i64 0) := (blk_cell BK293.out 0).trans rfl; have hcz41_1 : w37.cell? ⟨g293, 1, none⟩ = some (.int .i64 0) := (blk_cell BK293.out 1).trans rfl; have hfz41_0 := blk_frozen BK293.out 0; have hfz41_1 := blk_frozen BK293.out 1))
       (try simp only [Act.put, y1b, y2b, y3b])
       go_cut [81] (fun v81 wc => ∃ (kq : Nat) (x81_31 : Bool), v81 = .bool x81_31 ∧ Aside0 (laws_FnBoldPlay.j1 kq l1 t277 t278 x81_31 t279 t280 t282 t283 t290 t291 = some r) ∧ Aside0 (kq ≤ kj7) ∧ Aside0 (wc.heap[g281]? = some (.cells #[.int .i64 t279, .int .i64 t280] 25 (0, 0))) ∧ Aside0 (wc.heap[g285]? = some (.cells #[.int .i64 t282, .int .i64 t283] 25 (0, 0))) ∧ Aside0 (wc.heap[g289]? = some (.cells #[.int .i64 t286, .int .i64 t287] 25 (0, 0))) ∧ Aside0 (wc.heap[g293]? = some (.cells #[.int .i64 t290, .int .i64 t291] 25 (0, 0))) ∧ Aside0 (Below w.heap.size w wc))
       case first => as_aux_lemma =>
        have H := HC32.out
        clear HC32
        by_cases c42 : t292 = true
        ·
         subst c42
         have H1 : (if t282 < 0 then (laws_FnBoldPlay.j1 kj7 l1 t277 t278 true t279 t280 t282 t283 t290 t291) else (laws_FnBoldPlay.j1 kj7 l1 t277 t278 (decide (t282 > t283)) t279 t280 t282 t283 t290 t291)) = some r := by rw [if_pos rfl] at H; exact H
         clear H
         have H := H1
         clear H1
         by_cases c43 : t282 < 0
         ·
          rw [if_pos c43] at H
          have c43b0 : decide (t282 < 0) = true := decide_eq_true c43
          clear c43
          (first | rw [c43b0] | (simp only [i64_w, i32_w]; rw [c43b0]) | skip)
          have H' := Abq H
          clear H
          have hnb44 := NB285_281.out
          have hnc44 := NB281_285.out
          have hnb45 := NB285_289.out
          have hnc45 := NB289_285.out
          have hnb46 := NB285_293.out
          have hnc46 := NB293_285.out
          have hcz47_0 : w37.cell? ⟨g285, 0, none⟩ = some (.int .i64 t282) := (blk_cell BK285.out 0).trans rfl
          have hcz47_1 : w37.cell? ⟨g285, 1, none⟩ = some (.int .i64 t283) := (blk_cell BK285.out 1).trans rfl
          have hfz47_0 := blk_frozen BK285.out 0
          have hfz47_1 := blk_frozen BK285.out 1
          as_aux_lemma =>
           go_wp2
           go_meet
           case rel => exact ⟨_, (true), Zb15, H', ⟨by have := HJ7.out; first | omega | exact Nat.le_refl _⟩, ⟨by (with_reducible repeat (first | refine blk_drewN ?_ _ | refine blk_drew ?_ | refine blk_alloc ?_ _)); refine blk_far ?_ NB281_293.out _; (with_reducible repeat (first | refine blk_drewN ?_ _ | refine blk_drew ?_ | refine blk_alloc ?_ _)); refine blk_far ?_ NB281_293.out _; (with_reducible repeat (first | refine blk_drewN ?_ _ | refine blk_drew ?_ | refine blk_alloc ?_ _)); exact BK281.out⟩, ⟨by (with_reducible repeat (first | refine blk_drewN ?_ _ | refine blk_drew ?_ | refine blk_alloc ?_ _)); refine blk_far ?_ NB285_293.out _; (with_reducible repeat (first | refine blk_drewN ?_ _ | refine blk_drew ?_ | refine blk_alloc ?_ _)); refine blk_far ?_ NB285_293.out _; (with_reducible repeat (first | refine blk_drewN ?_ _ | refine blk_drew ?_ | refine blk_alloc ?_ _)); exact BK285.out⟩, ⟨by (with_reducible repeat (first | refine blk_drewN ?_ _ | refine blk_drew ?_ | refine blk_alloc ?_ _)); refine blk_far ?_ NB289_293.out _; (with_reducible repeat (first | refine blk_drewN ?_ _ | refine blk_drew ?_ | refine blk_alloc ?_ _)); refine blk_far ?_ NB289_293.out _; (with_reducible repeat (first | refine blk_drewN ?_ _ | refine blk_drew ?_ | refine blk_alloc ?_ _)); exact BK289.out⟩, ⟨by (with_reducible repeat (first | refine blk_drewN ?_ _ | refine blk_drew ?_ | refine blk_alloc ?_ _)); refine blk_put (cs := #[.int .i64 t290, .int .i64 0]) ?_ 1 _ rfl; (with_reducible repeat (first | refine blk_drewN ?_ _ | refine blk_drew ?_ | refine blk_alloc ?_ _)); refine blk_put (cs := #[.int .i64 0, .int .i64 0]) ?_ 0 _ rfl; (with_reducible repeat (first | refine blk_drewN ?_ _ | refine blk_drew ?_ | refine blk_alloc ?_ _)); exact BK293.out⟩, ⟨by repeat (first | (with_reducible first | exact HB.out | apply below_alloc | apply pw_below_drewN | apply below_drew1 | refine below_set ?_ GE281.out | refine below_set ?_ GE285.out | refine below_set ?_ GE289.out | refine below_set ?_ GE293.out) | exact HB.out)⟩⟩
         ·
          rw [if_neg c43] at H
          have c43b0 : decide (t282 < 0) = false := decide_eq_false c43
          clear c43
          (first | rw [c43b0] | (simp only [i64_w, i32_w]; rw [c43b0]) | skip)
          have H' := Abq H
          clear H
          have hnb48 := NB285_281.out
          have hnc48 := NB281_285.out
          have hnb49 := NB285_289.out
          have hnc49 := NB289_285.out
          have hnb50 := NB285_293.out
          have hnc50 := NB293_285.out
          have hcz51_0 : w37.cell? ⟨g285, 0, none⟩ = some (.int .i64 t282) := (blk_cell BK285.out 0).trans rfl
          have hcz51_1 : w37.cell? ⟨g285, 1, none⟩ = some (.int .i64 t283) := (blk_cell BK285.out 1).trans rfl
          have hfz51_0 := blk_frozen BK285.out 0
          have hfz51_1 := blk_frozen BK285.out 1
          as_aux_lemma =>
           go_wp2
           go_meet
           case rel => exact ⟨_, (decide (t282 > t283)), Zb15, H', ⟨by have := HJ7.out; first | omega | exact Nat.le_refl _⟩, ⟨by (with_reducible repeat (first | refine blk_drewN ?_ _ | refine blk_drew ?_ | refine blk_alloc ?_ _)); refine blk_far ?_ NB281_293.out _; (with_reducible repeat (first | refine blk_drewN ?_ _ | refine blk_drew ?_ | refine blk_alloc ?_ _)); refine blk_far ?_ NB281_293.out _; (with_reducible repeat (first | refine blk_drewN ?_ _ | refine blk_drew ?_ | refine blk_alloc ?_ _)); exact BK281.out⟩, ⟨by (with_reducible repeat (first | refine blk_drewN ?_ _ | refine blk_drew ?_ | refine blk_alloc ?_ _)); refine blk_far ?_ NB285_293.out _; (with_reducible repeat (first | refine blk_drewN ?_ _ | refine blk_drew ?_ | refine blk_alloc ?_ _)); refine blk_far ?_ NB285_293.out _; (with_reducible repeat (first | refine blk_drewN ?_ _ | refine blk_drew ?_ | refine blk_alloc ?_ _)); exact BK285.out⟩, ⟨by (with_reducible repeat (first | refine blk_drewN ?_ _ | refine blk_drew ?_ | refine blk_alloc ?_ _)); refine blk_far ?_ NB289_293.out _; (with_reducible repeat (first | refine blk_drewN ?_ _ | refine blk_drew ?_ | refine blk_alloc ?_ _)); refine blk_far ?_ NB289_293.out _; (with_reducible repeat (first | refine blk_drewN ?_ _ | refine blk_drew ?_ | refine blk_alloc ?_ _)); exact BK289.out⟩, ⟨by (with_reducible repeat (first | refine blk_drewN ?_ _ | refine blk_drew ?_ | refine blk_alloc ?_ _)); refine blk_put (cs := #[.int .i64 t290, .int .i64 0]) ?_ 1 _ rfl; (with_reducible repeat (first | refine blk_drewN ?_ _ | refine blk_drew ?_ | refine blk_alloc ?_ _)); refine blk_put (cs := #[.int .i64 0, .int .i64 0]) ?_ 0 _ rfl; (with_reducible repeat (first | refine blk_drewN ?_ _ | refine blk_drew ?_ | refine blk_alloc ?_ _)); exact BK293.out⟩, ⟨by repeat (first | (with_reducible first | exact HB.out | apply below_alloc | apply pw_below_drewN | apply below_drew1 | refine below_set ?_ GE281.out | refine below_set ?_ GE285.out | refine below_set ?_ GE289.out | refine below_set ?_ GE293.out) | exact HB.out)⟩⟩
        ·
         replace c42 := Bool.eq_false_iff.mpr c42
         subst c42
         have H1 : (laws_FnBoldPlay.j1 kj7 l1 t277 t278 true t279 t280 t282 t283 t290 t291) = some r := by rw [if_neg (show ¬ (false = true) by decide)] at H; exact H
         clear H
         have H := H1
         clear H1
         exact absurd H (by generalize kj7 = q_; cases q_ <;> simp [laws_FnBoldPlay.j1])
       case rest => as_aux_lemma =>
        clear HC32
        try clear c1
        try clear c2
        try clear p2
        try clear c3
        try clear c4
        try clear c5
        try clear c6
        try clear c7
        try clear c8
        try clear c9
        try clear c14
        try clear c19
        try clear c20
        try clear c22
        try clear c22b0
        try clear c22b1
        try clear c22b2
        try clear c23
        try clear c24
        try clear c26
        try clear c28
        try clear c30
        try clear c33
        try clear c34
        try clear c38
        try clear c39
        try clear c40
        try clear c42
        try clear c43
        try clear c43b0
        try clear c44
        try clear c45
        try clear c46
        try clear c48
        try clear c49
        try clear c50
        try clear hcz11_0
        try clear hcz11_1
        try clear hcz15_0
        try clear hcz15_1
        try clear hcz16_0
        try clear hcz16_1
        try clear hcz21_0
        try clear hcz21_1
        try clear hcz25_0
        try clear hcz25_1
        try clear hcz27_0
        try clear hcz27_1
        try clear hcz35_0
        try clear hcz35_1
        try clear hcz41_0
        try clear hcz41_1
        try clear hcz47_0
        try clear hcz47_1
        try clear hcz51_0
        try clear hcz51_1
        try clear hfz11_0
        try clear hfz11_1
        try clear hfz15_0
        try clear hfz15_1
        try clear hfz16_0
        try clear hfz16_1
        try clear hfz21_0
        try clear hfz21_1
        try clear hfz25_0
        try clear hfz25_1
        try clear hfz27_0
        try clear hfz27_1
        try clear hfz35_0
        try clear hfz35_1
        try clear hfz41_0
        try clear hfz41_1
        try clear hfz47_0
        try clear hfz47_1
        try clear hfz51_0
        try clear hfz51_1
        try clear p2
        obtain ⟨kq, x81_31, rfl, HA, HJ31, BK281, BK285, BK289, BK293, HB⟩ := hcut
        cases kq with
        | zero => exact absurd HA.out (by simp [laws_FnBoldPlay.j1])
        | succ kj31 =>
         have H := HA.out
         clear HA
         simp only [laws_FnBoldPlay.j1] at H
         by_cases c52 : x81_31 = true
         ·
          subst c52
          have H1 : (none) = some r := by rw [if_pos rfl] at H; exact H
          clear H
          have H := H1
          clear H1
          exact absurd H (by simp)
         ·
          replace c52 := Bool.eq_false_iff.mpr c52
          subst c52
          have H1 : (if (wrap64 (2 * t279)) = t280 then (if (!(t282 == t290) || (!(t283 == t291))) = true then (none) else (if (wrap64 (2 * t277)) = t278 then (if (!(t282 == t279) || (!(t283 == t280))) = true then (none) else (if t277 = t278 then (if (!(t282 == 1) || (!(t283 == 1))) = true then (none) else (if t277 = 0 then (if t282 = 0 then (laws_FnBoldPlay.j2 kj31 l1) else (none)) else (laws_FnBoldPlay.j2 kj31 l1))) else (if t277 = 0 then (if t282 = 0 then (laws_FnBoldPlay.j2 kj31 l1) else (none)) else (laws_FnBoldPlay.j2 kj31 l1)))) else (if t277 = t278 then (if (!(t282 == 1) || (!(t283 == 1))) = true then (none) else (if t277 = 0 then (if t282 = 0 then (laws_FnBoldPlay.j2 kj31 l1) else (none)) else (laws_FnBoldPlay.j2 kj31 l1))) else (if t277 = 0 then (if t282 = 0 then (laws_FnBoldPlay.j2 kj31 l1) else (none)) else (laws_FnBoldPlay.j2 kj31 l1))))) else (if (wrap64 (2 * t279)) < t280 then (if (wrap64 (t282 * t291)) < (wrap64 (t290 * t283)) then (none) else (if (wrap64 (2 * t277)) = t278 then (if (!(t282 == t279) || (!(t283 == t280))) = true then (none) else (if t277 = t278 then (if (!(t282 == 1) || (!(t283 == 1))) = true then (none) else (if t277 = 0 then (if t282 = 0 then (laws_FnBoldPlay.j2 kj31 l1) else (none)) else (laws_FnBoldPlay.j2 kj31 l1))) else (if t277 = 0 then (if t282 = 0 then (laws_FnBoldPlay.j2 kj31 l1) else (none)) else (laws_FnBoldPlay.j2 kj31 l1)))) else (if t277 = t278 then (if (!(t282 == 1) || (!(t283 == 1))) = true then (none) else (if t277 = 0 then (if t282 = 0 then (laws_FnBoldPlay.j2 kj31 l1) else (none)) else (laws_FnBoldPlay.j2 kj31 l1))) else (if t277 = 0 then (if t282 = 0 then (laws_FnBoldPlay.j2 kj31 l1) else (none)) else (laws_FnBoldPlay.j2 kj31 l1))))) else (if (wrap64 (t282 * t291)) > (wrap64 (t290 * t283)) then (none) else (if (wrap64 (2 * t277)) = t278 then (if (!(t282 == t279) || (!(t283 == t280))) = true then (none) else (if t277 = t278 then (if (!(t282 == 1) || (!(t283 == 1))) = true then (none) else (if t277 = 0 then (if t282 = 0 then (laws_FnBoldPlay.j2 kj31 l1) else (none)) else (laws_FnBoldPlay.j2 kj31 l1))) else (if t277 = 0 then (if t282 = 0 then (laws_FnBoldPlay.j2 kj31 l1) else (none)) else (laws_FnBoldPlay.j2 kj31 l1)))) else (if t277 = t278 then (if (!(t282 == 1) || (!(t283 == 1))) = true then (none) else (if t277 = 0 then (if t282 = 0 then (laws_FnBoldPlay.j2 kj31 l1) else (none)) else (laws_FnBoldPlay.j2 kj31 l1))) else (if t277 = 0 then (if t282 = 0 then (laws_FnBoldPlay.j2 kj31 l1) else (none)) else (laws_FnBoldPlay.j2 kj31 l1))))))) = some r := by rw [if_neg (show ¬ (false = true) by decide)] at H; exact H
          clear H
          have H := H1
          clear H1
          by_cases c53 : (wrap64 (2 * t279)) = t280
          ·
           rw [if_pos c53] at H
           have c53b0 : ((wrap64 (2 * t279)) == t280) = true := beq_iff_eq.mpr c53
           have c53b1 : ((wrap64 (2 * t279)) != t280) = false := bne_eq_false_iff_eq.mpr c53
           clear c53
           by_cases c54 : (!(t282 == t290) || (!(t283 == t291))) = true
           ·
            rw [if_pos c54] at H
            exact absurd H (by simp)
           ·
            rw [if_neg c54] at H
            have c54b0 : (!(t282 == t290) || (!(t283 == t291))) = false := by simpa using c54
            clear c54
            by_cases c55 : (wrap64 (2 * t277)) = t278
            ·
             rw [if_pos c55] at H
             have c55b0 : ((wrap64 (2 * t277)) == t278) = true := beq_iff_eq.mpr c55
             have c55b1 : ((wrap64 (2 * t277)) != t278) = false := bne_eq_false_iff_eq.mpr c55
             clear c55
             by_cases c56 : (!(t282 == t279) || (!(t283 == t280))) = true
             ·
              rw [if_pos c56] at H
              exact absurd H (by simp)
             ·
              rw [if_neg c56] at H
              have c56b0 : (!(t282 == t279) || (!(t283 == t280))) = false := by simpa using c56
              clear c56
              by_cases c57 : t277 = t278
              ·
               rw [if_pos c57] at H
               have c57b0 : (t277 == t278) = true := beq_iff_eq.mpr c57
               have c57b1 : (t277 != t278) = false := bne_eq_false_iff_eq.mpr c57
               clear c57
               by_cases c58 : (!(t282 == 1) || (!(t283 == 1))) = true
               ·
                rw [if_pos c58] at H
                exact absurd H (by simp)
               ·
                rw [if_neg c58] at H
                have c58b0 : (!(t282 == 1) || (!(t283 == 1))) = false := by simpa using c58
                clear c58
                by_cases c59 : t277 = 0
                ·
                 rw [if_pos c59] at H
                 have c59b0 : (t277 == 0) = true := beq_iff_eq.mpr c59
                 have c59b1 : (t277 != 0) = false := bne_eq_false_iff_eq.mpr c59
                 clear c59
                 by_cases c60 : t282 = 0
                 ·
                  rw [if_pos c60] at H
                  have c60b0 : (t282 == 0) = true := beq_iff_eq.mpr c60
                  have c60b1 : (t282 != 0) = false := bne_eq_false_iff_eq.mpr c60
                  clear c60
                  have H' := Abq H
                  clear H
                  have hnb61 := NB281_285.out
                  have hnc61 := NB285_281.out
                  have hnb62 := NB281_289.out
                  have hnc62 := NB289_281.out
                  have hnb63 := NB281_293.out
                  have hnc63 := NB293_281.out
                  have hcz64_0 : wc.cell? ⟨g281, 0, none⟩ = some (.int .i64 t279) := (blk_cell BK281.out 0).trans rfl
                  have hcz64_1 : wc.cell? ⟨g281, 1, none⟩ = some (.int .i64 t280) := (blk_cell BK281.out 1).trans rfl
                  have hfz64_0 := blk_frozen BK281.out 0
                  have hfz64_1 := blk_frozen BK281.out 1
                  have hnb65 := NB285_289.out
                  have hnc65 := NB289_285.out
                  have hnb66 := NB285_293.out
                  have hnc66 := NB293_285.out
                  have hcz67_0 : wc.cell? ⟨g285, 0, none⟩ = some (.int .i64 t282) := (blk_cell BK285.out 0).trans rfl
                  have hcz67_1 : wc.cell? ⟨g285, 1, none⟩ = some (.int .i64 t283) := (blk_cell BK285.out 1).trans rfl
                  have hfz67_0 := blk_frozen BK285.out 0
                  have hfz67_1 := blk_frozen BK285.out 1
                  have hnb68 := NB293_289.out
                  have hnc68 := NB289_293.out
                  have hcz69_0 : wc.cell? ⟨g293, 0, none⟩ = some (.int .i64 t290) := (blk_cell BK293.out 0).trans rfl
                  have hcz69_1 : wc.cell? ⟨g293, 1, none⟩ = some (.int .i64 t291) := (blk_cell BK293.out 1).trans rfl
                  have hfz69_0 := blk_frozen BK293.out 0
                  have hfz69_1 := blk_frozen BK293.out 1
                  as_aux_lemma =>
                   go_wp2
                   go_meet
                   case rel => exact ⟨_, H', ⟨by have := HJ7.out; have := HJ31.out; first | omega | exact Nat.le_refl _⟩, ⟨by (with_reducible repeat (first | refine blk_drewN ?_ _ | refine blk_drew ?_ | refine blk_alloc ?_ _)); exact BK281.out⟩, ⟨by (with_reducible repeat (first | refine blk_drewN ?_ _ | refine blk_drew ?_ | refine blk_alloc ?_ _)); exact BK285.out⟩, ⟨by (with_reducible repeat (first | refine blk_drewN ?_ _ | refine blk_drew ?_ | refine blk_alloc ?_ _)); exact BK289.out⟩, ⟨by repeat (first | (with_reducible first | exact HB.out | apply below_alloc | apply pw_below_drewN | apply below_drew1 | refine below_set ?_ GE281.out | refine below_set ?_ GE285.out | refine below_set ?_ GE289.out | refine below_set ?_ GE293.out) | exact HB.out)⟩⟩
                 ·
                  rw [if_neg c60] at H
                  exact absurd H (by simp)
                ·
                 rw [if_neg c59] at H
                 have c59b0 : (t277 == 0) = false := beq_eq_false_iff_ne.mpr c59
                 have c59b1 : (t277 != 0) = true := bne_iff_ne.mpr c59
                 have H' := Abq H
                 clear H
                 have hnb70 := NB281_285.out
                 have hnc70 := NB285_281.out
                 have hnb71 := NB281_289.out
                 have hnc71 := NB289_281.out
                 have hnb72 := NB281_293.out
                 have hnc72 := NB293_281.out
                 have hcz73_0 : wc.cell? ⟨g281, 0, none⟩ = some (.int .i64 t279) := (blk_cell BK281.out 0).trans rfl
                 have hcz73_1 : wc.cell? ⟨g281, 1, none⟩ = some (.int .i64 t280) := (blk_cell BK281.out 1).trans rfl
                 have hfz73_0 := blk_frozen BK281.out 0
                 have hfz73_1 := blk_frozen BK281.out 1
                 have hnb74 := NB285_289.out
                 have hnc74 := NB289_285.out
                 have hnb75 := NB285_293.out
                 have hnc75 := NB293_285.out
                 have hcz76_0 : wc.cell? ⟨g285, 0, none⟩ = some (.int .i64 t282) := (blk_cell BK285.out 0).trans rfl
                 have hcz76_1 : wc.cell? ⟨g285, 1, none⟩ = some (.int .i64 t283) := (blk_cell BK285.out 1).trans rfl
                 have hfz76_0 := blk_frozen BK285.out 0
                 have hfz76_1 := blk_frozen BK285.out 1
                 have hnb77 := NB293_289.out
                 have hnc77 := NB289_293.out
                 have hcz78_0 : wc.cell? ⟨g293, 0, none⟩ = some (.int .i64 t290) := (blk_cell BK293.out 0).trans rfl
                 have hcz78_1 : wc.cell? ⟨g293, 1, none⟩ = some (.int .i64 t291) := (blk_cell BK293.out 1).trans rfl
                 have hfz78_0 := blk_frozen BK293.out 0
                 have hfz78_1 := blk_frozen BK293.out 1
                 as_aux_lemma =>
                  go_wp2
                  go_meet
                  case rel => exact ⟨_, H', ⟨by have := HJ7.out; have := HJ31.out; first | omega | exact Nat.le_refl _⟩, ⟨by (with_reducible repeat (first | refine blk_drewN ?_ _ | refine blk_drew ?_ | refine blk_alloc ?_ _)); exact BK281.out⟩, ⟨by (with_reducible repeat (first | refine blk_drewN ?_ _ | refine blk_drew ?_ | refine blk_alloc ?_ _)); exact BK285.out⟩, ⟨by (with_reducible repeat (first | refine blk_drewN ?_ _ | refine blk_drew ?_ | refine blk_alloc ?_ _)); exact BK289.out⟩, ⟨by repeat (first | (with_reducible first | exact HB.out | apply below_alloc | apply pw_below_drewN | apply below_drew1 | refine below_set ?_ GE281.out | refine below_set ?_ GE285.out | refine below_set ?_ GE289.out | refine below_set ?_ GE293.out) | exact HB.out)⟩⟩
              ·
               rw [if_neg c57] at H
               have c57b0 : (t277 == t278) = false := beq_eq_false_iff_ne.mpr c57
               have c57b1 : (t277 != t278) = true := bne_iff_ne.mpr c57
               by_cases c79 : t277 = 0
               ·
                rw [if_pos c79] at H
                have c79b0 : (t277 == 0) = true := beq_iff_eq.mpr c79
                have c79b1 : (t277 != 0) = false := bne_eq_false_iff_eq.mpr c79
                clear c79
                by_cases c80 : t282 = 0
                ·
                 rw [if_pos c80] at H
                 have c80b0 : (t282 == 0) = true := beq_iff_eq.mpr c80
                 have c80b1 : (t282 != 0) = false := bne_eq_false_iff_eq.mpr c80
                 clear c80
                 have H' := Abq H
                 clear H
                 have hnb81 := NB281_285.out
                 have hnc81 := NB285_281.out
                 have hnb82 := NB281_289.out
                 have hnc82 := NB289_281.out
                 have hnb83 := NB281_293.out
                 have hnc83 := NB293_281.out
                 have hcz84_0 : wc.cell? ⟨g281, 0, none⟩ = some (.int .i64 t279) := (blk_cell BK281.out 0).trans rfl
                 have hcz84_1 : wc.cell? ⟨g281, 1, none⟩ = some (.int .i64 t280) := (blk_cell BK281.out 1).trans rfl
                 have hfz84_0 := blk_frozen BK281.out 0
                 have hfz84_1 := blk_frozen BK281.out 1
                 have hnb85 := NB285_289.out
                 have hnc85 := NB289_285.out
                 have hnb86 := NB285_293.out
                 have hnc86 := NB293_285.out
                 have hcz87_0 : wc.cell? ⟨g285, 0, none⟩ = some (.int .i64 t282) := (blk_cell BK285.out 0).trans rfl
                 have hcz87_1 : wc.cell? ⟨g285, 1, none⟩ = some (.int .i64 t283) := (blk_cell BK285.out 1).trans rfl
                 have hfz87_0 := blk_frozen BK285.out 0
                 have hfz87_1 := blk_frozen BK285.out 1
                 have hnb88 := NB293_289.out
                 have hnc88 := NB289_293.out
                 have hcz89_0 : wc.cell? ⟨g293, 0, none⟩ = some (.int .i64 t290) := (blk_cell BK293.out 0).trans rfl
                 have hcz89_1 : wc.cell? ⟨g293, 1, none⟩ = some (.int .i64 t291) := (blk_cell BK293.out 1).trans rfl
                 have hfz89_0 := blk_frozen BK293.out 0
                 have hfz89_1 := blk_frozen BK293.out 1
                 as_aux_lemma =>
                  go_wp2
                  go_meet
                  case rel => exact ⟨_, H', ⟨by have := HJ7.out; have := HJ31.out; first | omega | exact Nat.le_refl _⟩, ⟨by (with_reducible repeat (first | refine blk_drewN ?_ _ | refine blk_drew ?_ | refine blk_alloc ?_ _)); exact BK281.out⟩, ⟨by (with_reducible repeat (first | refine blk_drewN ?_ _ | refine blk_drew ?_ | refine blk_alloc ?_ _)); exact BK285.out⟩, ⟨by (with_reducible repeat (first | refine blk_drewN ?_ _ | refine blk_drew ?_ | refine blk_alloc ?_ _)); exact BK289.out⟩, ⟨by repeat (first | (with_reducible first | exact HB.out | apply below_alloc | apply pw_below_drewN | apply below_drew1 | refine below_set ?_ GE281.out | refine below_set ?_ GE285.out | refine below_set ?_ GE289.out | refine below_set ?_ GE293.out) | exact HB.out)⟩⟩
                ·
                 rw [if_neg c80] at H
                 exact absurd H (by simp)
               ·
                rw [if_neg c79] at H
                have c79b0 : (t277 == 0) = false := beq_eq_false_iff_ne.mpr c79
                have c79b1 : (t277 != 0) = true := bne_iff_ne.mpr c79
                have H' := Abq H
                clear H
                have hnb90 := NB281_285.out
                have hnc90 := NB285_281.out
                have hnb91 := NB281_289.out
                have hnc91 := NB289_281.out
                have hnb92 := NB281_293.out
                have hnc92 := NB293_281.out
                have hcz93_0 : wc.cell? ⟨g281, 0, none⟩ = some (.int .i64 t279) := (blk_cell BK281.out 0).trans rfl
                have hcz93_1 : wc.cell? ⟨g281, 1, none⟩ = some (.int .i64 t280) := (blk_cell BK281.out 1).trans rfl
                have hfz93_0 := blk_frozen BK281.out 0
                have hfz93_1 := blk_frozen BK281.out 1
                have hnb94 := NB285_289.out
                have hnc94 := NB289_285.out
                have hnb95 := NB285_293.out
                have hnc95 := NB293_285.out
                have hcz96_0 : wc.cell? ⟨g285, 0, none⟩ = some (.int .i64 t282) := (blk_cell BK285.out 0).trans rfl
                have hcz96_1 : wc.cell? ⟨g285, 1, none⟩ = some (.int .i64 t283) := (blk_cell BK285.out 1).trans rfl
                have hfz96_0 := blk_frozen BK285.out 0
                have hfz96_1 := blk_frozen BK285.out 1
                have hnb97 := NB293_289.out
                have hnc97 := NB289_293.out
                have hcz98_0 : wc.cell? ⟨g293, 0, none⟩ = some (.int .i64 t290) := (blk_cell BK293.out 0).trans rfl
                have hcz98_1 : wc.cell? ⟨g293, 1, none⟩ = some (.int .i64 t291) := (blk_cell BK293.out 1).trans rfl
                have hfz98_0 := blk_frozen BK293.out 0
                have hfz98_1 := blk_frozen BK293.out 1
                as_aux_lemma =>
                 go_wp2
                 go_meet
                 case rel => exact ⟨_, H', ⟨by have := HJ7.out; have := HJ31.out; first | omega | exact Nat.le_refl _⟩, ⟨by (with_reducible repeat (first | refine blk_drewN ?_ _ | refine blk_drew ?_ | refine blk_alloc ?_ _)); exact BK281.out⟩, ⟨by (with_reducible repeat (first | refine blk_drewN ?_ _ | refine blk_drew ?_ | refine blk_alloc ?_ _)); exact BK285.out⟩, ⟨by (with_reducible repeat (first | refine blk_drewN ?_ _ | refine blk_drew ?_ | refine blk_alloc ?_ _)); exact BK289.out⟩, ⟨by repeat (first | (with_reducible first | exact HB.out | apply below_alloc | apply pw_below_drewN | apply below_drew1 | refine below_set ?_ GE281.out | refine below_set ?_ GE285.out | refine below_set ?_ GE289.out | refine below_set ?_ GE293.out) | exact HB.out)⟩⟩
            ·
             rw [if_neg c55] at H
             have c55b0 : ((wrap64 (2 * t277)) == t278) = false := beq_eq_false_iff_ne.mpr c55
             have c55b1 : ((wrap64 (2 * t277)) != t278) = true := bne_iff_ne.mpr c55
             try clear c55
             by_cases c99 : t277 = t278
             ·
              rw [if_pos c99] at H
              have c99b0 : (t277 == t278) = true := beq_iff_eq.mpr c99
              have c99b1 : (t277 != t278) = false := bne_eq_false_iff_eq.mpr c99
              clear c99
              by_cases c100 : (!(t282 == 1) || (!(t283 == 1))) = true
              ·
               rw [if_pos c100] at H
               exact absurd H (by simp)
              ·
               rw [if_neg c100] at H
               have c100b0 : (!(t282 == 1) || (!(t283 == 1))) = false := by simpa using c100
               clear c100
               by_cases c101 : t277 = 0
               ·
                rw [if_pos c101] at H
                have c101b0 : (t277 == 0) = true := beq_iff_eq.mpr c101
                have c101b1 : (t277 != 0) = false := bne_eq_false_iff_eq.mpr c101
                clear c101
                by_cases c102 : t282 = 0
                ·
                 rw [if_pos c102] at H
                 have c102b0 : (t282 == 0) = true := beq_iff_eq.mpr c102
                 have c102b1 : (t282 != 0) = false := bne_eq_false_iff_eq.mpr c102
                 clear c102
                 have H' := Abq H
                 clear H
                 have hnb103 := NB281_285.out
                 have hnc103 := NB285_281.out
                 have hnb104 := NB281_289.out
                 have hnc104 := NB289_281.out
                 have hnb105 := NB281_293.out
                 have hnc105 := NB293_281.out
                 have hcz106_0 : wc.cell? ⟨g281, 0, none⟩ = some (.int .i64 t279) := (blk_cell BK281.out 0).trans rfl
                 have hcz106_1 : wc.cell? ⟨g281, 1, none⟩ = some (.int .i64 t280) := (blk_cell BK281.out 1).trans rfl
                 have hfz106_0 := blk_frozen BK281.out 0
                 have hfz106_1 := blk_frozen BK281.out 1
                 have hnb107 := NB285_289.out
                 have hnc107 := NB289_285.out
                 have hnb108 := NB285_293.out
                 have hnc108 := NB293_285.out
                 have hcz109_0 : wc.cell? ⟨g285, 0, none⟩ = some (.int .i64 t282) := (blk_cell BK285.out 0).trans rfl
                 have hcz109_1 : wc.cell? ⟨g285, 1, none⟩ = some (.int .i64 t283) := (blk_cell BK285.out 1).trans rfl
                 have hfz109_0 := blk_frozen BK285.out 0
                 have hfz109_1 := blk_frozen BK285.out 1
                 have hnb110 := NB293_289.out
                 have hnc110 := NB289_293.out
                 have hcz111_0 : wc.cell? ⟨g293, 0, none⟩ = some (.int .i64 t290) := (blk_cell BK293.out 0).trans rfl
                 have hcz111_1 : wc.cell? ⟨g293, 1, none⟩ = some (.int .i64 t291) := (blk_cell BK293.out 1).trans rfl
                 have hfz111_0 := blk_frozen BK293.out 0
                 have hfz111_1 := blk_frozen BK293.out 1
                 as_aux_lemma =>
                  go_wp2
                  go_meet
                  case rel => exact ⟨_, H', ⟨by have := HJ7.out; have := HJ31.out; first | omega | exact Nat.le_refl _⟩, ⟨by (with_reducible repeat (first | refine blk_drewN ?_ _ | refine blk_drew ?_ | refine blk_alloc ?_ _)); exact BK281.out⟩, ⟨by (with_reducible repeat (first | refine blk_drewN ?_ _ | refine blk_drew ?_ | refine blk_alloc ?_ _)); exact BK285.out⟩, ⟨by (with_reducible repeat (first | refine blk_drewN ?_ _ | refine blk_drew ?_ | refine blk_alloc ?_ _)); exact BK289.out⟩, ⟨by repeat (first | (with_reducible first | exact HB.out | apply below_alloc | apply pw_below_drewN | apply below_drew1 | refine below_set ?_ GE281.out | refine below_set ?_ GE285.out | refine below_set ?_ GE289.out | refine below_set ?_ GE293.out) | exact HB.out)⟩⟩
                ·
                 rw [if_neg c102] at H
                 exact absurd H (by simp)
               ·
                rw [if_neg c101] at H
                have c101b0 : (t277 == 0) = false := beq_eq_false_iff_ne.mpr c101
                have c101b1 : (t277 != 0) = true := bne_iff_ne.mpr c101
                have H' := Abq H
                clear H
                have hnb112 := NB281_285.out
                have hnc112 := NB285_281.out
                have hnb113 := NB281_289.out
                have hnc113 := NB289_281.out
                have hnb114 := NB281_293.out
                have hnc114 := NB293_281.out
                have hcz115_0 : wc.cell? ⟨g281, 0, none⟩ = some (.int .i64 t279) := (blk_cell BK281.out 0).trans rfl
                have hcz115_1 : wc.cell? ⟨g281, 1, none⟩ = some (.int .i64 t280) := (blk_cell BK281.out 1).trans rfl
                have hfz115_0 := blk_frozen BK281.out 0
                have hfz115_1 := blk_frozen BK281.out 1
                have hnb116 := NB285_289.out
                have hnc116 := NB289_285.out
                have hnb117 := NB285_293.out
                have hnc117 := NB293_285.out
                have hcz118_0 : wc.cell? ⟨g285, 0, none⟩ = some (.int .i64 t282) := (blk_cell BK285.out 0).trans rfl
                have hcz118_1 : wc.cell? ⟨g285, 1, none⟩ = some (.int .i64 t283) := (blk_cell BK285.out 1).trans rfl
                have hfz118_0 := blk_frozen BK285.out 0
                have hfz118_1 := blk_frozen BK285.out 1
                have hnb119 := NB293_289.out
                have hnc119 := NB289_293.out
                have hcz120_0 : wc.cell? ⟨g293, 0, none⟩ = some (.int .i64 t290) := (blk_cell BK293.out 0).trans rfl
                have hcz120_1 : wc.cell? ⟨g293, 1, none⟩ = some (.int .i64 t291) := (blk_cell BK293.out 1).trans rfl
                have hfz120_0 := blk_frozen BK293.out 0
                have hfz120_1 := blk_frozen BK293.out 1
                as_aux_lemma =>
                 go_wp2
                 go_meet
                 case rel => exact ⟨_, H', ⟨by have := HJ7.out; have := HJ31.out; first | omega | exact Nat.le_refl _⟩, ⟨by (with_reducible repeat (first | refine blk_drewN ?_ _ | refine blk_drew ?_ | refine blk_alloc ?_ _)); exact BK281.out⟩, ⟨by (with_reducible repeat (first | refine blk_drewN ?_ _ | refine blk_drew ?_ | refine blk_alloc ?_ _)); exact BK285.out⟩, ⟨by (with_reducible repeat (first | refine blk_drewN ?_ _ | refine blk_drew ?_ | refine blk_alloc ?_ _)); exact BK289.out⟩, ⟨by repeat (first | (with_reducible first | exact HB.out | apply below_alloc | apply pw_below_drewN | apply below_drew1 | refine below_set ?_ GE281.out | refine below_set ?_ GE285.out | refine below_set ?_ GE289.out | refine below_set ?_ GE293.out) | exact HB.out)⟩⟩
             ·
              rw [if_neg c99] at H
              have c99b0 : (t277 == t278) = false := beq_eq_false_iff_ne.mpr c99
              have c99b1 : (t277 != t278) = true := bne_iff_ne.mpr c99
              by_cases c121 : t277 = 0
              ·
               rw [if_pos c121] at H
               have c121b0 : (t277 == 0) = true := beq_iff_eq.mpr c121
               have c121b1 : (t277 != 0) = false := bne_eq_false_iff_eq.mpr c121
               clear c121
               by_cases c122 : t282 = 0
               ·
                rw [if_pos c122] at H
                have c122b0 : (t282 == 0) = true := beq_iff_eq.mpr c122
                have c122b1 : (t282 != 0) = false := bne_eq_false_iff_eq.mpr c122
                clear c122
                have H' := Abq H
                clear H
                have hnb123 := NB281_285.out
                have hnc123 := NB285_281.out
                have hnb124 := NB281_289.out
                have hnc124 := NB289_281.out
                have hnb125 := NB281_293.out
                have hnc125 := NB293_281.out
                have hcz126_0 : wc.cell? ⟨g281, 0, none⟩ = some (.int .i64 t279) := (blk_cell BK281.out 0).trans rfl
                have hcz126_1 : wc.cell? ⟨g281, 1, none⟩ = some (.int .i64 t280) := (blk_cell BK281.out 1).trans rfl
                have hfz126_0 := blk_frozen BK281.out 0
                have hfz126_1 := blk_frozen BK281.out 1
                have hnb127 := NB285_289.out
                have hnc127 := NB289_285.out
                have hnb128 := NB285_293.out
                have hnc128 := NB293_285.out
                have hcz129_0 : wc.cell? ⟨g285, 0, none⟩ = some (.int .i64 t282) := (blk_cell BK285.out 0).trans rfl
                have hcz129_1 : wc.cell? ⟨g285, 1, none⟩ = some (.int .i64 t283) := (blk_cell BK285.out 1).trans rfl
                have hfz129_0 := blk_frozen BK285.out 0
                have hfz129_1 := blk_frozen BK285.out 1
                have hnb130 := NB293_289.out
                have hnc130 := NB289_293.out
                have hcz131_0 : wc.cell? ⟨g293, 0, none⟩ = some (.int .i64 t290) := (blk_cell BK293.out 0).trans rfl
                have hcz131_1 : wc.cell? ⟨g293, 1, none⟩ = some (.int .i64 t291) := (blk_cell BK293.out 1).trans rfl
                have hfz131_0 := blk_frozen BK293.out 0
                have hfz131_1 := blk_frozen BK293.out 1
                as_aux_lemma =>
                 go_wp2
                 go_meet
                 case rel => exact ⟨_, H', ⟨by have := HJ7.out; have := HJ31.out; first | omega | exact Nat.le_refl _⟩, ⟨by (with_reducible repeat (first | refine blk_drewN ?_ _ | refine blk_drew ?_ | refine blk_alloc ?_ _)); exact BK281.out⟩, ⟨by (with_reducible repeat (first | refine blk_drewN ?_ _ | refine blk_drew ?_ | refine blk_alloc ?_ _)); exact BK285.out⟩, ⟨by (with_reducible repeat (first | refine blk_drewN ?_ _ | refine blk_drew ?_ | refine blk_alloc ?_ _)); exact BK289.out⟩, ⟨by repeat (first | (with_reducible first | exact HB.out | apply below_alloc | apply pw_below_drewN | apply below_drew1 | refine below_set ?_ GE281.out | refine below_set ?_ GE285.out | refine below_set ?_ GE289.out | refine below_set ?_ GE293.out) | exact HB.out)⟩⟩
               ·
                rw [if_neg c122] at H
                exact absurd H (by simp)
              ·
               rw [if_neg c121] at H
               have c121b0 : (t277 == 0) = false := beq_eq_false_iff_ne.mpr c121
               have c121b1 : (t277 != 0) = true := bne_iff_ne.mpr c121
               have H' := Abq H
               clear H
               have hnb132 := NB281_285.out
               have hnc132 := NB285_281.out
               have hnb133 := NB281_289.out
               have hnc133 := NB289_281.out
               have hnb134 := NB281_293.out
               have hnc134 := NB293_281.out
               have hcz135_0 : wc.cell? ⟨g281, 0, none⟩ = some (.int .i64 t279) := (blk_cell BK281.out 0).trans rfl
               have hcz135_1 : wc.cell? ⟨g281, 1, none⟩ = some (.int .i64 t280) := (blk_cell BK281.out 1).trans rfl
               have hfz135_0 := blk_frozen BK281.out 0
               have hfz135_1 := blk_frozen BK281.out 1
               have hnb136 := NB285_289.out
               have hnc136 := NB289_285.out
               have hnb137 := NB285_293.out
               have hnc137 := NB293_285.out
               have hcz138_0 : wc.cell? ⟨g285, 0, none⟩ = some (.int .i64 t282) := (blk_cell BK285.out 0).trans rfl
               have hcz138_1 : wc.cell? ⟨g285, 1, none⟩ = some (.int .i64 t283) := (blk_cell BK285.out 1).trans rfl
               have hfz138_0 := blk_frozen BK285.out 0
               have hfz138_1 := blk_frozen BK285.out 1
               have hnb139 := NB293_289.out
               have hnc139 := NB289_293.out
               have hcz140_0 : wc.cell? ⟨g293, 0, none⟩ = some (.int .i64 t290) := (blk_cell BK293.out 0).trans rfl
               have hcz140_1 : wc.cell? ⟨g293, 1, none⟩ = some (.int .i64 t291) := (blk_cell BK293.out 1).trans rfl
               have hfz140_0 := blk_frozen BK293.out 0
               have hfz140_1 := blk_frozen BK293.out 1
               as_aux_lemma =>
                go_wp2
                go_meet
                case rel => exact ⟨_, H', ⟨by have := HJ7.out; have := HJ31.out; first | omega | exact Nat.le_refl _⟩, ⟨by (with_reducible repeat (first | refine blk_drewN ?_ _ | refine blk_drew ?_ | refine blk_alloc ?_ _)); exact BK281.out⟩, ⟨by (with_reducible repeat (first | refine blk_drewN ?_ _ | refine blk_drew ?_ | refine blk_alloc ?_ _)); exact BK285.out⟩, ⟨by (with_reducible repeat (first | refine blk_drewN ?_ _ | refine blk_drew ?_ | refine blk_alloc ?_ _)); exact BK289.out⟩, ⟨by repeat (first | (with_reducible first | exact HB.out | apply below_alloc | apply pw_below_drewN | apply below_drew1 | refine below_set ?_ GE281.out | refine below_set ?_ GE285.out | refine below_set ?_ GE289.out | refine below_set ?_ GE293.out) | exact HB.out)⟩⟩
          ·
           rw [if_neg c53] at H
           have c53b0 : ((wrap64 (2 * t279)) == t280) = false := beq_eq_false_iff_ne.mpr c53
           have c53b1 : ((wrap64 (2 * t279)) != t280) = true := bne_iff_ne.mpr c53
           try clear c53
           by_cases c141 : (wrap64 (2 * t279)) < t280
           ·
            rw [if_pos c141] at H
            have c141b0 : decide ((wrap64 (2 * t279)) < t280) = true := decide_eq_true c141
            clear c141
            by_cases c142 : (wrap64 (t282 * t291)) < (wrap64 (t290 * t283))
            ·
             rw [if_pos c142] at H
             exact absurd H (by simp)
            ·
             rw [if_neg c142] at H
             have c142b0 : decide ((wrap64 (t282 * t291)) < (wrap64 (t290 * t283))) = false := decide_eq_false c142
             clear c142
             by_cases c143 : (wrap64 (2 * t277)) = t278
             ·
              rw [if_pos c143] at H
              have c143b0 : ((wrap64 (2 * t277)) == t278) = true := beq_iff_eq.mpr c143
              have c143b1 : ((wrap64 (2 * t277)) != t278) = false := bne_eq_false_iff_eq.mpr c143
              clear c143
              by_cases c144 : (!(t282 == t279) || (!(t283 == t280))) = true
              ·
               rw [if_pos c144] at H
               exact absurd H (by simp)
              ·
               rw [if_neg c144] at H
               have c144b0 : (!(t282 == t279) || (!(t283 == t280))) = false := by simpa using c144
               clear c144
               by_cases c145 : t277 = t278
               ·
                rw [if_pos c145] at H
                have c145b0 : (t277 == t278) = true := beq_iff_eq.mpr c145
                have c145b1 : (t277 != t278) = false := bne_eq_false_iff_eq.mpr c145
                clear c145
                by_cases c146 : (!(t282 == 1) || (!(t283 == 1))) = true
                ·
                 rw [if_pos c146] at H
                 exact absurd H (by simp)
                ·
                 rw [if_neg c146] at H
                 have c146b0 : (!(t282 == 1) || (!(t283 == 1))) = false := by simpa using c146
                 clear c146
                 by_cases c147 : t277 = 0
                 ·
                  rw [if_pos c147] at H
                  have c147b0 : (t277 == 0) = true := beq_iff_eq.mpr c147
                  have c147b1 : (t277 != 0) = false := bne_eq_false_iff_eq.mpr c147
                  clear c147
                  by_cases c148 : t282 = 0
                  ·
                   rw [if_pos c148] at H
                   have c148b0 : (t282 == 0) = true := beq_iff_eq.mpr c148
                   have c148b1 : (t282 != 0) = false := bne_eq_false_iff_eq.mpr c148
                   clear c148
                   have H' := Abq H
                   clear H
                   have hnb149 := NB281_285.out
                   have hnc149 := NB285_281.out
                   have hnb150 := NB281_289.out
                   have hnc150 := NB289_281.out
                   have hnb151 := NB281_293.out
                   have hnc151 := NB293_281.out
                   have hcz152_0 : wc.cell? ⟨g281, 0, none⟩ = some (.int .i64 t279) := (blk_cell BK281.out 0).trans rfl
                   have hcz152_1 : wc.cell? ⟨g281, 1, none⟩ = some (.int .i64 t280) := (blk_cell BK281.out 1).trans rfl
                   have hfz152_0 := blk_frozen BK281.out 0
                   have hfz152_1 := blk_frozen BK281.out 1
                   have hnb153 := NB285_289.out
                   have hnc153 := NB289_285.out
                   have hnb154 := NB285_293.out
                   have hnc154 := NB293_285.out
                   have hcz155_0 : wc.cell? ⟨g285, 0, none⟩ = some (.int .i64 t282) := (blk_cell BK285.out 0).trans rfl
                   have hcz155_1 : wc.cell? ⟨g285, 1, none⟩ = some (.int .i64 t283) := (blk_cell BK285.out 1).trans rfl
                   have hfz155_0 := blk_frozen BK285.out 0
                   have hfz155_1 := blk_frozen BK285.out 1
                   have hnb156 := NB293_289.out
                   have hnc156 := NB289_293.out
                   have hcz157_0 : wc.cell? ⟨g293, 0, none⟩ = some (.int .i64 t290) := (blk_cell BK293.out 0).trans rfl
                   have hcz157_1 : wc.cell? ⟨g293, 1, none⟩ = some (.int .i64 t291) := (blk_cell BK293.out 1).trans rfl
                   have hfz157_0 := blk_frozen BK293.out 0
                   have hfz157_1 := blk_frozen BK293.out 1
                   as_aux_lemma =>
                    go_wp2
                    go_meet
                    case rel => exact ⟨_, H', ⟨by have := HJ7.out; have := HJ31.out; first | omega | exact Nat.le_refl _⟩, ⟨by (with_reducible repeat (first | refine blk_drewN ?_ _ | refine blk_drew ?_ | refine blk_alloc ?_ _)); exact BK281.out⟩, ⟨by (with_reducible repeat (first | refine blk_drewN ?_ _ | refine blk_drew ?_ | refine blk_alloc ?_ _)); exact BK285.out⟩, ⟨by (with_reducible repeat (first | refine blk_drewN ?_ _ | refine blk_drew ?_ | refine blk_alloc ?_ _)); exact BK289.out⟩, ⟨by repeat (first | (with_reducible first | exact HB.out | apply below_alloc | apply pw_below_drewN | apply below_drew1 | refine below_set ?_ GE281.out | refine below_set ?_ GE285.out | refine below_set ?_ GE289.out | refine below_set ?_ GE293.out) | exact HB.out)⟩⟩
                  ·
                   rw [if_neg c148] at H
                   exact absurd H (by simp)
                 ·
                  rw [if_neg c147] at H
                  have c147b0 : (t277 == 0) = false := beq_eq_false_iff_ne.mpr c147
                  have c147b1 : (t277 != 0) = true := bne_iff_ne.mpr c147
                  have H' := Abq H
                  clear H
                  have hnb158 := NB281_285.out
                  have hnc158 := NB285_281.out
                  have hnb159 := NB281_289.out
                  have hnc159 := NB289_281.out
                  have hnb160 := NB281_293.out
                  have hnc160 := NB293_281.out
                  have hcz161_0 : wc.cell? ⟨g281, 0, none⟩ = some (.int .i64 t279) := (blk_cell BK281.out 0).trans rfl
                  have hcz161_1 : wc.cell? ⟨g281, 1, none⟩ = some (.int .i64 t280) := (blk_cell BK281.out 1).trans rfl
                  have hfz161_0 := blk_frozen BK281.out 0
                  have hfz161_1 := blk_frozen BK281.out 1
                  have hnb162 := NB285_289.out
                  have hnc162 := NB289_285.out
                  have hnb163 := NB285_293.out
                  have hnc163 := NB293_285.out
                  have hcz164_0 : wc.cell? ⟨g285, 0, none⟩ = some (.int .i64 t282) := (blk_cell BK285.out 0).trans rfl
                  have hcz164_1 : wc.cell? ⟨g285, 1, none⟩ = some (.int .i64 t283) := (blk_cell BK285.out 1).trans rfl
                  have hfz164_0 := blk_frozen BK285.out 0
                  have hfz164_1 := blk_frozen BK285.out 1
                  have hnb165 := NB293_289.out
                  have hnc165 := NB289_293.out
                  have hcz166_0 : wc.cell? ⟨g293, 0, none⟩ = some (.int .i64 t290) := (blk_cell BK293.out 0).trans rfl
                  have hcz166_1 : wc.cell? ⟨g293, 1, none⟩ = some (.int .i64 t291) := (blk_cell BK293.out 1).trans rfl
                  have hfz166_0 := blk_frozen BK293.out 0
                  have hfz166_1 := blk_frozen BK293.out 1
                  as_aux_lemma =>
                   go_wp2
                   go_meet
                   case rel => exact ⟨_, H', ⟨by have := HJ7.out; have := HJ31.out; first | omega | exact Nat.le_refl _⟩, ⟨by (with_reducible repeat (first | refine blk_drewN ?_ _ | refine blk_drew ?_ | refine blk_alloc ?_ _)); exact BK281.out⟩, ⟨by (with_reducible repeat (first | refine blk_drewN ?_ _ | refine blk_drew ?_ | refine blk_alloc ?_ _)); exact BK285.out⟩, ⟨by (with_reducible repeat (first | refine blk_drewN ?_ _ | refine blk_drew ?_ | refine blk_alloc ?_ _)); exact BK289.out⟩, ⟨by repeat (first | (with_reducible first | exact HB.out | apply below_alloc | apply pw_below_drewN | apply below_drew1 | refine below_set ?_ GE281.out | refine below_set ?_ GE285.out | refine below_set ?_ GE289.out | refine below_set ?_ GE293.out) | exact HB.out)⟩⟩
               ·
                rw [if_neg c145] at H
                have c145b0 : (t277 == t278) = false := beq_eq_false_iff_ne.mpr c145
                have c145b1 : (t277 != t278) = true := bne_iff_ne.mpr c145
                by_cases c167 : t277 = 0
                ·
                 rw [if_pos c167] at H
                 have c167b0 : (t277 == 0) = true := beq_iff_eq.mpr c167
                 have c167b1 : (t277 != 0) = false := bne_eq_false_iff_eq.mpr c167
                 clear c167
                 by_cases c168 : t282 = 0
                 ·
                  rw [if_pos c168] at H
                  have c168b0 : (t282 == 0) = true := beq_iff_eq.mpr c168
                  have c168b1 : (t282 != 0) = false := bne_eq_false_iff_eq.mpr c168
                  clear c168
                  have H' := Abq H
                  clear H
                  have hnb169 := NB281_285.out
                  have hnc169 := NB285_281.out
                  have hnb170 := NB281_289.out
                  have hnc170 := NB289_281.out
                  have hnb171 := NB281_293.out
                  have hnc171 := NB293_281.out
                  have hcz172_0 : wc.cell? ⟨g281, 0, none⟩ = some (.int .i64 t279) := (blk_cell BK281.out 0).trans rfl
                  have hcz172_1 : wc.cell? ⟨g281, 1, none⟩ = some (.int .i64 t280) := (blk_cell BK281.out 1).trans rfl
                  have hfz172_0 := blk_frozen BK281.out 0
                  have hfz172_1 := blk_frozen BK281.out 1
                  have hnb173 := NB285_289.out
                  have hnc173 := NB289_285.out
                  have hnb174 := NB285_293.out
                  have hnc174 := NB293_285.out
                  have hcz175_0 : wc.cell? ⟨g285, 0, none⟩ = some (.int .i64 t282) := (blk_cell BK285.out 0).trans rfl
                  have hcz175_1 : wc.cell? ⟨g285, 1, none⟩ = some (.int .i64 t283) := (blk_cell BK285.out 1).trans rfl
                  have hfz175_0 := blk_frozen BK285.out 0
                  have hfz175_1 := blk_frozen BK285.out 1
                  have hnb176 := NB293_289.out
                  have hnc176 := NB289_293.out
                  have hcz177_0 : wc.cell? ⟨g293, 0, none⟩ = some (.int .i64 t290) := (blk_cell BK293.out 0).trans rfl
                  have hcz177_1 : wc.cell? ⟨g293, 1, none⟩ = some (.int .i64 t291) := (blk_cell BK293.out 1).trans rfl
                  have hfz177_0 := blk_frozen BK293.out 0
                  have hfz177_1 := blk_frozen BK293.out 1
                  as_aux_lemma =>
                   go_wp2
                   go_meet
                   case rel => exact ⟨_, H', ⟨by have := HJ7.out; have := HJ31.out; first | omega | exact Nat.le_refl _⟩, ⟨by (with_reducible repeat (first | refine blk_drewN ?_ _ | refine blk_drew ?_ | refine blk_alloc ?_ _)); exact BK281.out⟩, ⟨by (with_reducible repeat (first | refine blk_drewN ?_ _ | refine blk_drew ?_ | refine blk_alloc ?_ _)); exact BK285.out⟩, ⟨by (with_reducible repeat (first | refine blk_drewN ?_ _ | refine blk_drew ?_ | refine blk_alloc ?_ _)); exact BK289.out⟩, ⟨by repeat (first | (with_reducible first | exact HB.out | apply below_alloc | apply pw_below_drewN | apply below_drew1 | refine below_set ?_ GE281.out | refine below_set ?_ GE285.out | refine below_set ?_ GE289.out | refine below_set ?_ GE293.out) | exact HB.out)⟩⟩
                 ·
                  rw [if_neg c168] at H
                  exact absurd H (by simp)
                ·
                 rw [if_neg c167] at H
                 have c167b0 : (t277 == 0) = false := beq_eq_false_iff_ne.mpr c167
                 have c167b1 : (t277 != 0) = true := bne_iff_ne.mpr c167
                 have H' := Abq H
                 clear H
                 have hnb178 := NB281_285.out
                 have hnc178 := NB285_281.out
                 have hnb179 := NB281_289.out
                 have hnc179 := NB289_281.out
                 have hnb180 := NB281_293.out
                 have hnc180 := NB293_281.out
                 have hcz181_0 : wc.cell? ⟨g281, 0, none⟩ = some (.int .i64 t279) := (blk_cell BK281.out 0).trans rfl
                 have hcz181_1 : wc.cell? ⟨g281, 1, none⟩ = some (.int .i64 t280) := (blk_cell BK281.out 1).trans rfl
                 have hfz181_0 := blk_frozen BK281.out 0
                 have hfz181_1 := blk_frozen BK281.out 1
                 have hnb182 := NB285_289.out
                 have hnc182 := NB289_285.out
                 have hnb183 := NB285_293.out
                 have hnc183 := NB293_285.out
                 have hcz184_0 : wc.cell? ⟨g285, 0, none⟩ = some (.int .i64 t282) := (blk_cell BK285.out 0).trans rfl
                 have hcz184_1 : wc.cell? ⟨g285, 1, none⟩ = some (.int .i64 t283) := (blk_cell BK285.out 1).trans rfl
                 have hfz184_0 := blk_frozen BK285.out 0
                 have hfz184_1 := blk_frozen BK285.out 1
                 have hnb185 := NB293_289.out
                 have hnc185 := NB289_293.out
                 have hcz186_0 : wc.cell? ⟨g293, 0, none⟩ = some (.int .i64 t290) := (blk_cell BK293.out 0).trans rfl
                 have hcz186_1 : wc.cell? ⟨g293, 1, none⟩ = some (.int .i64 t291) := (blk_cell BK293.out 1).trans rfl
                 have hfz186_0 := blk_frozen BK293.out 0
                 have hfz186_1 := blk_frozen BK293.out 1
                 as_aux_lemma =>
                  go_wp2
                  go_meet
                  case rel => exact ⟨_, H', ⟨by have := HJ7.out; have := HJ31.out; first | omega | exact Nat.le_refl _⟩, ⟨by (with_reducible repeat (first | refine blk_drewN ?_ _ | refine blk_drew ?_ | refine blk_alloc ?_ _)); exact BK281.out⟩, ⟨by (with_reducible repeat (first | refine blk_drewN ?_ _ | refine blk_drew ?_ | refine blk_alloc ?_ _)); exact BK285.out⟩, ⟨by (with_reducible repeat (first | refine blk_drewN ?_ _ | refine blk_drew ?_ | refine blk_alloc ?_ _)); exact BK289.out⟩, ⟨by repeat (first | (with_reducible first | exact HB.out | apply below_alloc | apply pw_below_drewN | apply below_drew1 | refine below_set ?_ GE281.out | refine below_set ?_ GE285.out | refine below_set ?_ GE289.out | refine below_set ?_ GE293.out) | exact HB.out)⟩⟩
             ·
              rw [if_neg c143] at H
              have c143b0 : ((wrap64 (2 * t277)) == t278) = false := beq_eq_false_iff_ne.mpr c143
              have c143b1 : ((wrap64 (2 * t277)) != t278) = true := bne_iff_ne.mpr c143
              try clear c143
              by_cases c187 : t277 = t278
              ·
               rw [if_pos c187] at H
               have c187b0 : (t277 == t278) = true := beq_iff_eq.mpr c187
               have c187b1 : (t277 != t278) = false := bne_eq_false_iff_eq.mpr c187
               clear c187
               by_cases c188 : (!(t282 == 1) || (!(t283 == 1))) = true
               ·
                rw [if_pos c188] at H
                exact absurd H (by simp)
               ·
                rw [if_neg c188] at H
                have c188b0 : (!(t282 == 1) || (!(t283 == 1))) = false := by simpa using c188
                clear c188
                by_cases c189 : t277 = 0
                ·
                 rw [if_pos c189] at H
                 have c189b0 : (t277 == 0) = true := beq_iff_eq.mpr c189
                 have c189b1 : (t277 != 0) = false := bne_eq_false_iff_eq.mpr c189
                 clear c189
                 by_cases c190 : t282 = 0
                 ·
                  rw [if_pos c190] at H
                  have c190b0 : (t282 == 0) = true := beq_iff_eq.mpr c190
                  have c190b1 : (t282 != 0) = false := bne_eq_false_iff_eq.mpr c190
                  clear c190
                  have H' := Abq H
                  clear H
                  have hnb191 := NB281_285.out
                  have hnc191 := NB285_281.out
                  have hnb192 := NB281_289.out
                  have hnc192 := NB289_281.out
                  have hnb193 := NB281_293.out
                  have hnc193 := NB293_281.out
                  have hcz194_0 : wc.cell? ⟨g281, 0, none⟩ = some (.int .i64 t279) := (blk_cell BK281.out 0).trans rfl
                  have hcz194_1 : wc.cell? ⟨g281, 1, none⟩ = some (.int .i64 t280) := (blk_cell BK281.out 1).trans rfl
                  have hfz194_0 := blk_frozen BK281.out 0
                  have hfz194_1 := blk_frozen BK281.out 1
                  have hnb195 := NB285_289.out
                  have hnc195 := NB289_285.out
                  have hnb196 := NB285_293.out
                  have hnc196 := NB293_285.out
                  have hcz197_0 : wc.cell? ⟨g285, 0, none⟩ = some (.int .i64 t282) := (blk_cell BK285.out 0).trans rfl
                  have hcz197_1 : wc.cell? ⟨g285, 1, none⟩ = some (.int .i64 t283) := (blk_cell BK285.out 1).trans rfl
                  have hfz197_0 := blk_frozen BK285.out 0
                  have hfz197_1 := blk_frozen BK285.out 1
                  have hnb198 := NB293_289.out
                  have hnc198 := NB289_293.out
                  have hcz199_0 : wc.cell? ⟨g293, 0, none⟩ = some (.int .i64 t290) := (blk_cell BK293.out 0).trans rfl
                  have hcz199_1 : wc.cell? ⟨g293, 1, none⟩ = some (.int .i64 t291) := (blk_cell BK293.out 1).trans rfl
                  have hfz199_0 := blk_frozen BK293.out 0
                  have hfz199_1 := blk_frozen BK293.out 1
                  as_aux_lemma =>
                   go_wp2
                   go_meet
                   case rel => exact ⟨_, H', ⟨by have := HJ7.out; have := HJ31.out; first | omega | exact Nat.le_refl _⟩, ⟨by (with_reducible repeat (first | refine blk_drewN ?_ _ | refine blk_drew ?_ | refine blk_alloc ?_ _)); exact BK281.out⟩, ⟨by (with_reducible repeat (first | refine blk_drewN ?_ _ | refine blk_drew ?_ | refine blk_alloc ?_ _)); exact BK285.out⟩, ⟨by (with_reducible repeat (first | refine blk_drewN ?_ _ | refine blk_drew ?_ | refine blk_alloc ?_ _)); exact BK289.out⟩, ⟨by repeat (first | (with_reducible first | exact HB.out | apply below_alloc | apply pw_below_drewN | apply below_drew1 | refine below_set ?_ GE281.out | refine below_set ?_ GE285.out | refine below_set ?_ GE289.out | refine below_set ?_ GE293.out) | exact HB.out)⟩⟩
                 ·
                  rw [if_neg c190] at H
                  exact absurd H (by simp)
                ·
                 rw [if_neg c189] at H
                 have c189b0 : (t277 == 0) = false := beq_eq_false_iff_ne.mpr c189
                 have c189b1 : (t277 != 0) = true := bne_iff_ne.mpr c189
                 have H' := Abq H
                 clear H
                 have hnb200 := NB281_285.out
                 have hnc200 := NB285_281.out
                 have hnb201 := NB281_289.out
                 have hnc201 := NB289_281.out
                 have hnb202 := NB281_293.out
                 have hnc202 := NB293_281.out
                 have hcz203_0 : wc.cell? ⟨g281, 0, none⟩ = some (.int .i64 t279) := (blk_cell BK281.out 0).trans rfl
                 have hcz203_1 : wc.cell? ⟨g281, 1, none⟩ = some (.int .i64 t280) := (blk_cell BK281.out 1).trans rfl
                 have hfz203_0 := blk_frozen BK281.out 0
                 have hfz203_1 := blk_frozen BK281.out 1
                 have hnb204 := NB285_289.out
                 have hnc204 := NB289_285.out
                 have hnb205 := NB285_293.out
                 have hnc205 := NB293_285.out
                 have hcz206_0 : wc.cell? ⟨g285, 0, none⟩ = some (.int .i64 t282) := (blk_cell BK285.out 0).trans rfl
                 have hcz206_1 : wc.cell? ⟨g285, 1, none⟩ = some (.int .i64 t283) := (blk_cell BK285.out 1).trans rfl
                 have hfz206_0 := blk_frozen BK285.out 0
                 have hfz206_1 := blk_frozen BK285.out 1
                 have hnb207 := NB293_289.out
                 have hnc207 := NB289_293.out
                 have hcz208_0 : wc.cell? ⟨g293, 0, none⟩ = some (.int .i64 t290) := (blk_cell BK293.out 0).trans rfl
                 have hcz208_1 : wc.cell? ⟨g293, 1, none⟩ = some (.int .i64 t291) := (blk_cell BK293.out 1).trans rfl
                 have hfz208_0 := blk_frozen BK293.out 0
                 have hfz208_1 := blk_frozen BK293.out 1
                 as_aux_lemma =>
                  go_wp2
                  go_meet
                  case rel => exact ⟨_, H', ⟨by have := HJ7.out; have := HJ31.out; first | omega | exact Nat.le_refl _⟩, ⟨by (with_reducible repeat (first | refine blk_drewN ?_ _ | refine blk_drew ?_ | refine blk_alloc ?_ _)); exact BK281.out⟩, ⟨by (with_reducible repeat (first | refine blk_drewN ?_ _ | refine blk_drew ?_ | refine blk_alloc ?_ _)); exact BK285.out⟩, ⟨by (with_reducible repeat (first | refine blk_drewN ?_ _ | refine blk_drew ?_ | refine blk_alloc ?_ _)); exact BK289.out⟩, ⟨by repeat (first | (with_reducible first | exact HB.out | apply below_alloc | apply pw_below_drewN | apply below_drew1 | refine below_set ?_ GE281.out | refine below_set ?_ GE285.out | refine below_set ?_ GE289.out | refine below_set ?_ GE293.out) | exact HB.out)⟩⟩
              ·
               rw [if_neg c187] at H
               have c187b0 : (t277 == t278) = false := beq_eq_false_iff_ne.mpr c187
               have c187b1 : (t277 != t278) = true := bne_iff_ne.mpr c187
               by_cases c209 : t277 = 0
               ·
                rw [if_pos c209] at H
                have c209b0 : (t277 == 0) = true := beq_iff_eq.mpr c209
                have c209b1 : (t277 != 0) = false := bne_eq_false_iff_eq.mpr c209
                clear c209
                by_cases c210 : t282 = 0
                ·
                 rw [if_pos c210] at H
                 have c210b0 : (t282 == 0) = true := beq_iff_eq.mpr c210
                 have c210b1 : (t282 != 0) = false := bne_eq_false_iff_eq.mpr c210
                 clear c210
                 have H' := Abq H
                 clear H
                 have hnb211 := NB281_285.out
                 have hnc211 := NB285_281.out
                 have hnb212 := NB281_289.out
                 have hnc212 := NB289_281.out
                 have hnb213 := NB281_293.out
                 have hnc213 := NB293_281.out
                 have hcz214_0 : wc.cell? ⟨g281, 0, none⟩ = some (.int .i64 t279) := (blk_cell BK281.out 0).trans rfl
                 have hcz214_1 : wc.cell? ⟨g281, 1, none⟩ = some (.int .i64 t280) := (blk_cell BK281.out 1).trans rfl
                 have hfz214_0 := blk_frozen BK281.out 0
                 have hfz214_1 := blk_frozen BK281.out 1
                 have hnb215 := NB285_289.out
                 have hnc215 := NB289_285.out
                 have hnb216 := NB285_293.out
                 have hnc216 := NB293_285.out
                 have hcz217_0 : wc.cell? ⟨g285, 0, none⟩ = some (.int .i64 t282) := (blk_cell BK285.out 0).trans rfl
                 have hcz217_1 : wc.cell? ⟨g285, 1, none⟩ = some (.int .i64 t283) := (blk_cell BK285.out 1).trans rfl
                 have hfz217_0 := blk_frozen BK285.out 0
                 have hfz217_1 := blk_frozen BK285.out 1
                 have hnb218 := NB293_289.out
                 have hnc218 := NB289_293.out
                 have hcz219_0 : wc.cell? ⟨g293, 0, none⟩ = some (.int .i64 t290) := (blk_cell BK293.out 0).trans rfl
                 have hcz219_1 : wc.cell? ⟨g293, 1, none⟩ = some (.int .i64 t291) := (blk_cell BK293.out 1).trans rfl
                 have hfz219_0 := blk_frozen BK293.out 0
                 have hfz219_1 := blk_frozen BK293.out 1
                 as_aux_lemma =>
                  go_wp2
                  go_meet
                  case rel => exact ⟨_, H', ⟨by have := HJ7.out; have := HJ31.out; first | omega | exact Nat.le_refl _⟩, ⟨by (with_reducible repeat (first | refine blk_drewN ?_ _ | refine blk_drew ?_ | refine blk_alloc ?_ _)); exact BK281.out⟩, ⟨by (with_reducible repeat (first | refine blk_drewN ?_ _ | refine blk_drew ?_ | refine blk_alloc ?_ _)); exact BK285.out⟩, ⟨by (with_reducible repeat (first | refine blk_drewN ?_ _ | refine blk_drew ?_ | refine blk_alloc ?_ _)); exact BK289.out⟩, ⟨by repeat (first | (with_reducible first | exact HB.out | apply below_alloc | apply pw_below_drewN | apply below_drew1 | refine below_set ?_ GE281.out | refine below_set ?_ GE285.out | refine below_set ?_ GE289.out | refine below_set ?_ GE293.out) | exact HB.out)⟩⟩
                ·
                 rw [if_neg c210] at H
                 exact absurd H (by simp)
               ·
                rw [if_neg c209] at H
                have c209b0 : (t277 == 0) = false := beq_eq_false_iff_ne.mpr c209
                have c209b1 : (t277 != 0) = true := bne_iff_ne.mpr c209
                have H' := Abq H
                clear H
                have hnb220 := NB281_285.out
                have hnc220 := NB285_281.out
                have hnb221 := NB281_289.out
                have hnc221 := NB289_281.out
                have hnb222 := NB281_293.out
                have hnc222 := NB293_281.out
                have hcz223_0 : wc.cell? ⟨g281, 0, none⟩ = some (.int .i64 t279) := (blk_cell BK281.out 0).trans rfl
                have hcz223_1 : wc.cell? ⟨g281, 1, none⟩ = some (.int .i64 t280) := (blk_cell BK281.out 1).trans rfl
                have hfz223_0 := blk_frozen BK281.out 0
                have hfz223_1 := blk_frozen BK281.out 1
                have hnb224 := NB285_289.out
                have hnc224 := NB289_285.out
                have hnb225 := NB285_293.out
                have hnc225 := NB293_285.out
                have hcz226_0 : wc.cell? ⟨g285, 0, none⟩ = some (.int .i64 t282) := (blk_cell BK285.out 0).trans rfl
                have hcz226_1 : wc.cell? ⟨g285, 1, none⟩ = some (.int .i64 t283) := (blk_cell BK285.out 1).trans rfl
                have hfz226_0 := blk_frozen BK285.out 0
                have hfz226_1 := blk_frozen BK285.out 1
                have hnb227 := NB293_289.out
                have hnc227 := NB289_293.out
                have hcz228_0 : wc.cell? ⟨g293, 0, none⟩ = some (.int .i64 t290) := (blk_cell BK293.out 0).trans rfl
                have hcz228_1 : wc.cell? ⟨g293, 1, none⟩ = some (.int .i64 t291) := (blk_cell BK293.out 1).trans rfl
                have hfz228_0 := blk_frozen BK293.out 0
                have hfz228_1 := blk_frozen BK293.out 1
                as_aux_lemma =>
                 go_wp2
                 go_meet
                 case rel => exact ⟨_, H', ⟨by have := HJ7.out; have := HJ31.out; first | omega | exact Nat.le_refl _⟩, ⟨by (with_reducible repeat (first | refine blk_drewN ?_ _ | refine blk_drew ?_ | refine blk_alloc ?_ _)); exact BK281.out⟩, ⟨by (with_reducible repeat (first | refine blk_drewN ?_ _ | refine blk_drew ?_ | refine blk_alloc ?_ _)); exact BK285.out⟩, ⟨by (with_reducible repeat (first | refine blk_drewN ?_ _ | refine blk_drew ?_ | refine blk_alloc ?_ _)); exact BK289.out⟩, ⟨by repeat (first | (with_reducible first | exact HB.out | apply below_alloc | apply pw_below_drewN | apply below_drew1 | refine below_set ?_ GE281.out | refine below_set ?_ GE285.out | refine below_set ?_ GE289.out | refine below_set ?_ GE293.out) | exact HB.out)⟩⟩
           ·
            rw [if_neg c141] at H
            have c141b0 : decide ((wrap64 (2 * t279)) < t280) = false := decide_eq_false c141
            clear c141
            by_cases c229 : (wrap64 (t282 * t291)) > (wrap64 (t290 * t283))
            ·
             rw [if_pos c229] at H
             exact absurd H (by simp)
            ·
             rw [if_neg c229] at H
             have c229b0 : decide ((wrap64 (t290 * t283)) < (wrap64 (t282 * t291))) = false := decide_eq_false c229
             clear c229
             by_cases c230 : (wrap64 (2 * t277)) = t278
             ·
              rw [if_pos c230] at H
              have c230b0 : ((wrap64 (2 * t277)) == t278) = true := beq_iff_eq.mpr c230
              have c230b1 : ((wrap64 (2 * t277)) != t278) = false := bne_eq_false_iff_eq.mpr c230
              clear c230
              by_cases c231 : (!(t282 == t279) || (!(t283 == t280))) = true
              ·
               rw [if_pos c231] at H
               exact absurd H (by simp)
              ·
               rw [if_neg c231] at H
               have c231b0 : (!(t282 == t279) || (!(t283 == t280))) = false := by simpa using c231
               clear c231
               by_cases c232 : t277 = t278
               ·
                rw [if_pos c232] at H
                have c232b0 : (t277 == t278) = true := beq_iff_eq.mpr c232
                have c232b1 : (t277 != t278) = false := bne_eq_false_iff_eq.mpr c232
                clear c232
                by_cases c233 : (!(t282 == 1) || (!(t283 == 1))) = true
                ·
                 rw [if_pos c233] at H
                 exact absurd H (by simp)
                ·
                 rw [if_neg c233] at H
                 have c233b0 : (!(t282 == 1) || (!(t283 == 1))) = false := by simpa using c233
                 clear c233
                 by_cases c234 : t277 = 0
                 ·
                  rw [if_pos c234] at H
                  have c234b0 : (t277 == 0) = true := beq_iff_eq.mpr c234
                  have c234b1 : (t277 != 0) = false := bne_eq_false_iff_eq.mpr c234
                  clear c234
                  by_cases c235 : t282 = 0
                  ·
                   rw [if_pos c235] at H
                   have c235b0 : (t282 == 0) = true := beq_iff_eq.mpr c235
                   have c235b1 : (t282 != 0) = false := bne_eq_false_iff_eq.mpr c235
                   clear c235
                   have H' := Abq H
                   clear H
                   have hnb236 := NB281_285.out
                   have hnc236 := NB285_281.out
                   have hnb237 := NB281_289.out
                   have hnc237 := NB289_281.out
                   have hnb238 := NB281_293.out
                   have hnc238 := NB293_281.out
                   have hcz239_0 : wc.cell? ⟨g281, 0, none⟩ = some (.int .i64 t279) := (blk_cell BK281.out 0).trans rfl
                   have hcz239_1 : wc.cell? ⟨g281, 1, none⟩ = some (.int .i64 t280) := (blk_cell BK281.out 1).trans rfl
                   have hfz239_0 := blk_frozen BK281.out 0
                   have hfz239_1 := blk_frozen BK281.out 1
                   have hnb240 := NB285_289.out
                   have hnc240 := NB289_285.out
                   have hnb241 := NB285_293.out
                   have hnc241 := NB293_285.out
                   have hcz242_0 : wc.cell? ⟨g285, 0, none⟩ = some (.int .i64 t282) := (blk_cell BK285.out 0).trans rfl
                   have hcz242_1 : wc.cell? ⟨g285, 1, none⟩ = some (.int .i64 t283) := (blk_cell BK285.out 1).trans rfl
                   have hfz242_0 := blk_frozen BK285.out 0
                   have hfz242_1 := blk_frozen BK285.out 1
                   have hnb243 := NB293_289.out
                   have hnc243 := NB289_293.out
                   have hcz244_0 : wc.cell? ⟨g293, 0, none⟩ = some (.int .i64 t290) := (blk_cell BK293.out 0).trans rfl
                   have hcz244_1 : wc.cell? ⟨g293, 1, none⟩ = some (.int .i64 t291) := (blk_cell BK293.out 1).trans rfl
                   have hfz244_0 := blk_frozen BK293.out 0
                   have hfz244_1 := blk_frozen BK293.out 1
                   as_aux_lemma =>
                    go_wp2
                    go_meet
                    case rel => exact ⟨_, H', ⟨by have := HJ7.out; have := HJ31.out; first | omega | exact Nat.le_refl _⟩, ⟨by (with_reducible repeat (first | refine blk_drewN ?_ _ | refine blk_drew ?_ | refine blk_alloc ?_ _)); exact BK281.out⟩, ⟨by (with_reducible repeat (first | refine blk_drewN ?_ _ | refine blk_drew ?_ | refine blk_alloc ?_ _)); exact BK285.out⟩, ⟨by (with_reducible repeat (first | refine blk_drewN ?_ _ | refine blk_drew ?_ | refine blk_alloc ?_ _)); exact BK289.out⟩, ⟨by repeat (first | (with_reducible first | exact HB.out | apply below_alloc | apply pw_below_drewN | apply below_drew1 | refine below_set ?_ GE281.out | refine below_set ?_ GE285.out | refine below_set ?_ GE289.out | refine below_set ?_ GE293.out) | exact HB.out)⟩⟩
                  ·
                   rw [if_neg c235] at H
                   exact absurd H (by simp)
                 ·
                  rw [if_neg c234] at H
                  have c234b0 : (t277 == 0) = false := beq_eq_false_iff_ne.mpr c234
                  have c234b1 : (t277 != 0) = true := bne_iff_ne.mpr c234
                  have H' := Abq H
                  clear H
                  have hnb245 := NB281_285.out
                  have hnc245 := NB285_281.out
                  have hnb246 := NB281_289.out
                  have hnc246 := NB289_281.out
                  have hnb247 := NB281_293.out
                  have hnc247 := NB293_281.out
                  have hcz248_0 : wc.cell? ⟨g281, 0, none⟩ = some (.int .i64 t279) := (blk_cell BK281.out 0).trans rfl
                  have hcz248_1 : wc.cell? ⟨g281, 1, none⟩ = some (.int .i64 t280) := (blk_cell BK281.out 1).trans rfl
                  have hfz248_0 := blk_frozen BK281.out 0
                  have hfz248_1 := blk_frozen BK281.out 1
                  have hnb249 := NB285_289.out
                  have hnc249 := NB289_285.out
                  have hnb250 := NB285_293.out
                  have hnc250 := NB293_285.out
                  have hcz251_0 : wc.cell? ⟨g285, 0, none⟩ = some (.int .i64 t282) := (blk_cell BK285.out 0).trans rfl
                  have hcz251_1 : wc.cell? ⟨g285, 1, none⟩ = some (.int .i64 t283) := (blk_cell BK285.out 1).trans rfl
                  have hfz251_0 := blk_frozen BK285.out 0
                  have hfz251_1 := blk_frozen BK285.out 1
                  have hnb252 := NB293_289.out
                  have hnc252 := NB289_293.out
                  have hcz253_0 : wc.cell? ⟨g293, 0, none⟩ = some (.int .i64 t290) := (blk_cell BK293.out 0).trans rfl
                  have hcz253_1 : wc.cell? ⟨g293, 1, none⟩ = some (.int .i64 t291) := (blk_cell BK293.out 1).trans rfl
                  have hfz253_0 := blk_frozen BK293.out 0
                  have hfz253_1 := blk_frozen BK293.out 1
                  as_aux_lemma =>
                   go_wp2
                   go_meet
                   case rel => exact ⟨_, H', ⟨by have := HJ7.out; have := HJ31.out; first | omega | exact Nat.le_refl _⟩, ⟨by (with_reducible repeat (first | refine blk_drewN ?_ _ | refine blk_drew ?_ | refine blk_alloc ?_ _)); exact BK281.out⟩, ⟨by (with_reducible repeat (first | refine blk_drewN ?_ _ | refine blk_drew ?_ | refine blk_alloc ?_ _)); exact BK285.out⟩, ⟨by (with_reducible repeat (first | refine blk_drewN ?_ _ | refine blk_drew ?_ | refine blk_alloc ?_ _)); exact BK289.out⟩, ⟨by repeat (first | (with_reducible first | exact HB.out | apply below_alloc | apply pw_below_drewN | apply below_drew1 | refine below_set ?_ GE281.out | refine below_set ?_ GE285.out | refine below_set ?_ GE289.out | refine below_set ?_ GE293.out) | exact HB.out)⟩⟩
               ·
                rw [if_neg c232] at H
                have c232b0 : (t277 == t278) = false := beq_eq_false_iff_ne.mpr c232
                have c232b1 : (t277 != t278) = true := bne_iff_ne.mpr c232
                by_cases c254 : t277 = 0
                ·
                 rw [if_pos c254] at H
                 have c254b0 : (t277 == 0) = true := beq_iff_eq.mpr c254
                 have c254b1 : (t277 != 0) = false := bne_eq_false_iff_eq.mpr c254
                 clear c254
                 by_cases c255 : t282 = 0
                 ·
                  rw [if_pos c255] at H
                  have c255b0 : (t282 == 0) = true := beq_iff_eq.mpr c255
                  have c255b1 : (t282 != 0) = false := bne_eq_false_iff_eq.mpr c255
                  clear c255
                  have H' := Abq H
                  clear H
                  have hnb256 := NB281_285.out
                  have hnc256 := NB285_281.out
                  have hnb257 := NB281_289.out
                  have hnc257 := NB289_281.out
                  have hnb258 := NB281_293.out
                  have hnc258 := NB293_281.out
                  have hcz259_0 : wc.cell? ⟨g281, 0, none⟩ = some (.int .i64 t279) := (blk_cell BK281.out 0).trans rfl
                  have hcz259_1 : wc.cell? ⟨g281, 1, none⟩ = some (.int .i64 t280) := (blk_cell BK281.out 1).trans rfl
                  have hfz259_0 := blk_frozen BK281.out 0
                  have hfz259_1 := blk_frozen BK281.out 1
                  have hnb260 := NB285_289.out
                  have hnc260 := NB289_285.out
                  have hnb261 := NB285_293.out
                  have hnc261 := NB293_285.out
                  have hcz262_0 : wc.cell? ⟨g285, 0, none⟩ = some (.int .i64 t282) := (blk_cell BK285.out 0).trans rfl
                  have hcz262_1 : wc.cell? ⟨g285, 1, none⟩ = some (.int .i64 t283) := (blk_cell BK285.out 1).trans rfl
                  have hfz262_0 := blk_frozen BK285.out 0
                  have hfz262_1 := blk_frozen BK285.out 1
                  have hnb263 := NB293_289.out
                  have hnc263 := NB289_293.out
                  have hcz264_0 : wc.cell? ⟨g293, 0, none⟩ = some (.int .i64 t290) := (blk_cell BK293.out 0).trans rfl
                  have hcz264_1 : wc.cell? ⟨g293, 1, none⟩ = some (.int .i64 t291) := (blk_cell BK293.out 1).trans rfl
                  have hfz264_0 := blk_frozen BK293.out 0
                  have hfz264_1 := blk_frozen BK293.out 1
                  as_aux_lemma =>
                   go_wp2
                   go_meet
                   case rel => exact ⟨_, H', ⟨by have := HJ7.out; have := HJ31.out; first | omega | exact Nat.le_refl _⟩, ⟨by (with_reducible repeat (first | refine blk_drewN ?_ _ | refine blk_drew ?_ | refine blk_alloc ?_ _)); exact BK281.out⟩, ⟨by (with_reducible repeat (first | refine blk_drewN ?_ _ | refine blk_drew ?_ | refine blk_alloc ?_ _)); exact BK285.out⟩, ⟨by (with_reducible repeat (first | refine blk_drewN ?_ _ | refine blk_drew ?_ | refine blk_alloc ?_ _)); exact BK289.out⟩, ⟨by repeat (first | (with_reducible first | exact HB.out | apply below_alloc | apply pw_below_drewN | apply below_drew1 | refine below_set ?_ GE281.out | refine below_set ?_ GE285.out | refine below_set ?_ GE289.out | refine below_set ?_ GE293.out) | exact HB.out)⟩⟩
                 ·
                  rw [if_neg c255] at H
                  exact absurd H (by simp)
                ·
                 rw [if_neg c254] at H
                 have c254b0 : (t277 == 0) = false := beq_eq_false_iff_ne.mpr c254
                 have c254b1 : (t277 != 0) = true := bne_iff_ne.mpr c254
                 have H' := Abq H
                 clear H
                 have hnb265 := NB281_285.out
                 have hnc265 := NB285_281.out
                 have hnb266 := NB281_289.out
                 have hnc266 := NB289_281.out
                 have hnb267 := NB281_293.out
                 have hnc267 := NB293_281.out
                 have hcz268_0 : wc.cell? ⟨g281, 0, none⟩ = some (.int .i64 t279) := (blk_cell BK281.out 0).trans rfl
                 have hcz268_1 : wc.cell? ⟨g281, 1, none⟩ = some (.int .i64 t280) := (blk_cell BK281.out 1).trans rfl
                 have hfz268_0 := blk_frozen BK281.out 0
                 have hfz268_1 := blk_frozen BK281.out 1
                 have hnb269 := NB285_289.out
                 have hnc269 := NB289_285.out
                 have hnb270 := NB285_293.out
                 have hnc270 := NB293_285.out
                 have hcz271_0 : wc.cell? ⟨g285, 0, none⟩ = some (.int .i64 t282) := (blk_cell BK285.out 0).trans rfl
                 have hcz271_1 : wc.cell? ⟨g285, 1, none⟩ = some (.int .i64 t283) := (blk_cell BK285.out 1).trans rfl
                 have hfz271_0 := blk_frozen BK285.out 0
                 have hfz271_1 := blk_frozen BK285.out 1
                 have hnb272 := NB293_289.out
                 have hnc272 := NB289_293.out
                 have hcz273_0 : wc.cell? ⟨g293, 0, none⟩ = some (.int .i64 t290) := (blk_cell BK293.out 0).trans rfl
                 have hcz273_1 : wc.cell? ⟨g293, 1, none⟩ = some (.int .i64 t291) := (blk_cell BK293.out 1).trans rfl
                 have hfz273_0 := blk_frozen BK293.out 0
                 have hfz273_1 := blk_frozen BK293.out 1
                 as_aux_lemma =>
                  go_wp2
                  go_meet
                  case rel => exact ⟨_, H', ⟨by have := HJ7.out; have := HJ31.out; first | omega | exact Nat.le_refl _⟩, ⟨by (with_reducible repeat (first | refine blk_drewN ?_ _ | refine blk_drew ?_ | refine blk_alloc ?_ _)); exact BK281.out⟩, ⟨by (with_reducible repeat (first | refine blk_drewN ?_ _ | refine blk_drew ?_ | refine blk_alloc ?_ _)); exact BK285.out⟩, ⟨by (with_reducible repeat (first | refine blk_drewN ?_ _ | refine blk_drew ?_ | refine blk_alloc ?_ _)); exact BK289.out⟩, ⟨by repeat (first | (with_reducible first | exact HB.out | apply below_alloc | apply pw_below_drewN | apply below_drew1 | refine below_set ?_ GE281.out | refine below_set ?_ GE285.out | refine below_set ?_ GE289.out | refine below_set ?_ GE293.out) | exact HB.out)⟩⟩
             ·
              rw [if_neg c230] at H
              have c230b0 : ((wrap64 (2 * t277)) == t278) = false := beq_eq_false_iff_ne.mpr c230
              have c230b1 : ((wrap64 (2 * t277)) != t278) = true := bne_iff_ne.mpr c230
              try clear c230
              by_cases c274 : t277 = t278
              ·
               rw [if_pos c274] at H
               have c274b0 : (t277 == t278) = true := beq_iff_eq.mpr c274
               have c274b1 : (t277 != t278) = false := bne_eq_false_iff_eq.mpr c274
               clear c274
               by_cases c275 : (!(t282 == 1) || (!(t283 == 1))) = true
               ·
                rw [if_pos c275] at H
                exact absurd H (by simp)
               ·
                rw [if_neg c275] at H
                have c275b0 : (!(t282 == 1) || (!(t283 == 1))) = false := by simpa using c275
                clear c275
                by_cases c276 : t277 = 0
                ·
                 rw [if_pos c276] at H
                 have c276b0 : (t277 == 0) = true := beq_iff_eq.mpr c276
                 have c276b1 : (t277 != 0) = false := bne_eq_false_iff_eq.mpr c276
                 clear c276
                 by_cases c277 : t282 = 0
                 ·
                  rw [if_pos c277] at H
                  have c277b0 : (t282 == 0) = true := beq_iff_eq.mpr c277
                  have c277b1 : (t282 != 0) = false := bne_eq_false_iff_eq.mpr c277
                  clear c277
                  have H' := Abq H
                  clear H
                  have hnb278 := NB281_285.out
                  have hnc278 := NB285_281.out
                  have hnb279 := NB281_289.out
                  have hnc279 := NB289_281.out
                  have hnb280 := NB281_293.out
                  have hnc280 := NB293_281.out
                  have hcz281_0 : wc.cell? ⟨g281, 0, none⟩ = some (.int .i64 t279) := (blk_cell BK281.out 0).trans rfl
                  have hcz281_1 : wc.cell? ⟨g281, 1, none⟩ = some (.int .i64 t280) := (blk_cell BK281.out 1).trans rfl
                  have hfz281_0 := blk_frozen BK281.out 0
                  have hfz281_1 := blk_frozen BK281.out 1
                  have hnb282 := NB285_289.out
                  have hnc282 := NB289_285.out
                  have hnb283 := NB285_293.out
                  have hnc283 := NB293_285.out
                  have hcz284_0 : wc.cell? ⟨g285, 0, none⟩ = some (.int .i64 t282) := (blk_cell BK285.out 0).trans rfl
                  have hcz284_1 : wc.cell? ⟨g285, 1, none⟩ = some (.int .i64 t283) := (blk_cell BK285.out 1).trans rfl
                  have hfz284_0 := blk_frozen BK285.out 0
                  have hfz284_1 := blk_frozen BK285.out 1
                  have hnb285 := NB293_289.out
                  have hnc285 := NB289_293.out
                  have hcz286_0 : wc.cell? ⟨g293, 0, none⟩ = some (.int .i64 t290) := (blk_cell BK293.out 0).trans rfl
                  have hcz286_1 : wc.cell? ⟨g293, 1, none⟩ = some (.int .i64 t291) := (blk_cell BK293.out 1).trans rfl
                  have hfz286_0 := blk_frozen BK293.out 0
                  have hfz286_1 := blk_frozen BK293.out 1
                  as_aux_lemma =>
                   go_wp2
                   go_meet
                   case rel => exact ⟨_, H', ⟨by have := HJ7.out; have := HJ31.out; first | omega | exact Nat.le_refl _⟩, ⟨by (with_reducible repeat (first | refine blk_drewN ?_ _ | refine blk_drew ?_ | refine blk_alloc ?_ _)); exact BK281.out⟩, ⟨by (with_reducible repeat (first | refine blk_drewN ?_ _ | refine blk_drew ?_ | refine blk_alloc ?_ _)); exact BK285.out⟩, ⟨by (with_reducible repeat (first | refine blk_drewN ?_ _ | refine blk_drew ?_ | refine blk_alloc ?_ _)); exact BK289.out⟩, ⟨by repeat (first | (with_reducible first | exact HB.out | apply below_alloc | apply pw_below_drewN | apply below_drew1 | refine below_set ?_ GE281.out | refine below_set ?_ GE285.out | refine below_set ?_ GE289.out | refine below_set ?_ GE293.out) | exact HB.out)⟩⟩
                 ·
                  rw [if_neg c277] at H
                  exact absurd H (by simp)
                ·
                 rw [if_neg c276] at H
                 have c276b0 : (t277 == 0) = false := beq_eq_false_iff_ne.mpr c276
                 have c276b1 : (t277 != 0) = true := bne_iff_ne.mpr c276
                 have H' := Abq H
                 clear H
                 have hnb287 := NB281_285.out
                 have hnc287 := NB285_281.out
                 have hnb288 := NB281_289.out
                 have hnc288 := NB289_281.out
                 have hnb289 := NB281_293.out
                 have hnc289 := NB293_281.out
                 have hcz290_0 : wc.cell? ⟨g281, 0, none⟩ = some (.int .i64 t279) := (blk_cell BK281.out 0).trans rfl
                 have hcz290_1 : wc.cell? ⟨g281, 1, none⟩ = some (.int .i64 t280) := (blk_cell BK281.out 1).trans rfl
                 have hfz290_0 := blk_frozen BK281.out 0
                 have hfz290_1 := blk_frozen BK281.out 1
                 have hnb291 := NB285_289.out
                 have hnc291 := NB289_285.out
                 have hnb292 := NB285_293.out
                 have hnc292 := NB293_285.out
                 have hcz293_0 : wc.cell? ⟨g285, 0, none⟩ = some (.int .i64 t282) := (blk_cell BK285.out 0).trans rfl
                 have hcz293_1 : wc.cell? ⟨g285, 1, none⟩ = some (.int .i64 t283) := (blk_cell BK285.out 1).trans rfl
                 have hfz293_0 := blk_frozen BK285.out 0
                 have hfz293_1 := blk_frozen BK285.out 1
                 have hnb294 := NB293_289.out
                 have hnc294 := NB289_293.out
                 have hcz295_0 : wc.cell? ⟨g293, 0, none⟩ = some (.int .i64 t290) := (blk_cell BK293.out 0).trans rfl
                 have hcz295_1 : wc.cell? ⟨g293, 1, none⟩ = some (.int .i64 t291) := (blk_cell BK293.out 1).trans rfl
                 have hfz295_0 := blk_frozen BK293.out 0
                 have hfz295_1 := blk_frozen BK293.out 1
                 as_aux_lemma =>
                  go_wp2
                  go_meet
                  case rel => exact ⟨_, H', ⟨by have := HJ7.out; have := HJ31.out; first | omega | exact Nat.le_refl _⟩, ⟨by (with_reducible repeat (first | refine blk_drewN ?_ _ | refine blk_drew ?_ | refine blk_alloc ?_ _)); exact BK281.out⟩, ⟨by (with_reducible repeat (first | refine blk_drewN ?_ _ | refine blk_drew ?_ | refine blk_alloc ?_ _)); exact BK285.out⟩, ⟨by (with_reducible repeat (first | refine blk_drewN ?_ _ | refine blk_drew ?_ | refine blk_alloc ?_ _)); exact BK289.out⟩, ⟨by repeat (first | (with_reducible first | exact HB.out | apply below_alloc | apply pw_below_drewN | apply below_drew1 | refine below_set ?_ GE281.out | refine below_set ?_ GE285.out | refine below_set ?_ GE289.out | refine below_set ?_ GE293.out) | exact HB.out)⟩⟩
              ·
               rw [if_neg c274] at H
               have c274b0 : (t277 == t278) = false := beq_eq_false_iff_ne.mpr c274
               have c274b1 : (t277 != t278) = true := bne_iff_ne.mpr c274
               by_cases c296 : t277 = 0
               ·
                rw [if_pos c296] at H
                have c296b0 : (t277 == 0) = true := beq_iff_eq.mpr c296
                have c296b1 : (t277 != 0) = false := bne_eq_false_iff_eq.mpr c296
                clear c296
                by_cases c297 : t282 = 0
                ·
                 rw [if_pos c297] at H
                 have c297b0 : (t282 == 0) = true := beq_iff_eq.mpr c297
                 have c297b1 : (t282 != 0) = false := bne_eq_false_iff_eq.mpr c297
                 clear c297
                 have H' := Abq H
                 clear H
                 have hnb298 := NB281_285.out
                 have hnc298 := NB285_281.out
                 have hnb299 := NB281_289.out
                 have hnc299 := NB289_281.out
                 have hnb300 := NB281_293.out
                 have hnc300 := NB293_281.out
                 have hcz301_0 : wc.cell? ⟨g281, 0, none⟩ = some (.int .i64 t279) := (blk_cell BK281.out 0).trans rfl
                 have hcz301_1 : wc.cell? ⟨g281, 1, none⟩ = some (.int .i64 t280) := (blk_cell BK281.out 1).trans rfl
                 have hfz301_0 := blk_frozen BK281.out 0
                 have hfz301_1 := blk_frozen BK281.out 1
                 have hnb302 := NB285_289.out
                 have hnc302 := NB289_285.out
                 have hnb303 := NB285_293.out
                 have hnc303 := NB293_285.out
                 have hcz304_0 : wc.cell? ⟨g285, 0, none⟩ = some (.int .i64 t282) := (blk_cell BK285.out 0).trans rfl
                 have hcz304_1 : wc.cell? ⟨g285, 1, none⟩ = some (.int .i64 t283) := (blk_cell BK285.out 1).trans rfl
                 have hfz304_0 := blk_frozen BK285.out 0
                 have hfz304_1 := blk_frozen BK285.out 1
                 have hnb305 := NB293_289.out
                 have hnc305 := NB289_293.out
                 have hcz306_0 : wc.cell? ⟨g293, 0, none⟩ = some (.int .i64 t290) := (blk_cell BK293.out 0).trans rfl
                 have hcz306_1 : wc.cell? ⟨g293, 1, none⟩ = some (.int .i64 t291) := (blk_cell BK293.out 1).trans rfl
                 have hfz306_0 := blk_frozen BK293.out 0
                 have hfz306_1 := blk_frozen BK293.out 1
                 as_aux_lemma =>
                  go_wp2
                  go_meet
                  case rel => exact ⟨_, H', ⟨by have := HJ7.out; have := HJ31.out; first | omega | exact Nat.le_refl _⟩, ⟨by (with_reducible repeat (first | refine blk_drewN ?_ _ | refine blk_drew ?_ | refine blk_alloc ?_ _)); exact BK281.out⟩, ⟨by (with_reducible repeat (first | refine blk_drewN ?_ _ | refine blk_drew ?_ | refine blk_alloc ?_ _)); exact BK285.out⟩, ⟨by (with_reducible repeat (first | refine blk_drewN ?_ _ | refine blk_drew ?_ | refine blk_alloc ?_ _)); exact BK289.out⟩, ⟨by repeat (first | (with_reducible first | exact HB.out | apply below_alloc | apply pw_below_drewN | apply below_drew1 | refine below_set ?_ GE281.out | refine below_set ?_ GE285.out | refine below_set ?_ GE289.out | refine below_set ?_ GE293.out) | exact HB.out)⟩⟩
                ·
                 rw [if_neg c297] at H
                 exact absurd H (by simp)
               ·
                rw [if_neg c296] at H
                have c296b0 : (t277 == 0) = false := beq_eq_false_iff_ne.mpr c296
                have c296b1 : (t277 != 0) = true := bne_iff_ne.mpr c296
                have H' := Abq H
                clear H
                have hnb307 := NB281_285.out
                have hnc307 := NB285_281.out
                have hnb308 := NB281_289.out
                have hnc308 := NB289_281.out
                have hnb309 := NB281_293.out
                have hnc309 := NB293_281.out
                have hcz310_0 : wc.cell? ⟨g281, 0, none⟩ = some (.int .i64 t279) := (blk_cell BK281.out 0).trans rfl
                have hcz310_1 : wc.cell? ⟨g281, 1, none⟩ = some (.int .i64 t280) := (blk_cell BK281.out 1).trans rfl
                have hfz310_0 := blk_frozen BK281.out 0
                have hfz310_1 := blk_frozen BK281.out 1
                have hnb311 := NB285_289.out
                have hnc311 := NB289_285.out
                have hnb312 := NB285_293.out
                have hnc312 := NB293_285.out
                have hcz313_0 : wc.cell? ⟨g285, 0, none⟩ = some (.int .i64 t282) := (blk_cell BK285.out 0).trans rfl
                have hcz313_1 : wc.cell? ⟨g285, 1, none⟩ = some (.int .i64 t283) := (blk_cell BK285.out 1).trans rfl
                have hfz313_0 := blk_frozen BK285.out 0
                have hfz313_1 := blk_frozen BK285.out 1
                have hnb314 := NB293_289.out
                have hnc314 := NB289_293.out
                have hcz315_0 : wc.cell? ⟨g293, 0, none⟩ = some (.int .i64 t290) := (blk_cell BK293.out 0).trans rfl
                have hcz315_1 : wc.cell? ⟨g293, 1, none⟩ = some (.int .i64 t291) := (blk_cell BK293.out 1).trans rfl
                have hfz315_0 := blk_frozen BK293.out 0
                have hfz315_1 := blk_frozen BK293.out 1
                as_aux_lemma =>
                 go_wp2
                 go_meet
                 case rel => exact ⟨_, H', ⟨by have := HJ7.out; have := HJ31.out; first | omega | exact Nat.le_refl _⟩, ⟨by (with_reducible repeat (first | refine blk_drewN ?_ _ | refine blk_drew ?_ | refine blk_alloc ?_ _)); exact BK281.out⟩, ⟨by (with_reducible repeat (first | refine blk_drewN ?_ _ | refine blk_drew ?_ | refine blk_alloc ?_ _)); exact BK285.out⟩, ⟨by (with_reducible repeat (first | refine blk_drewN ?_ _ | refine blk_drew ?_ | refine blk_alloc ?_ _)); exact BK289.out⟩, ⟨by repeat (first | (with_reducible first | exact HB.out | apply below_alloc | apply pw_below_drewN | apply below_drew1 | refine below_set ?_ GE281.out | refine below_set ?_ GE285.out | refine below_set ?_ GE289.out | refine below_set ?_ GE293.out) | exact HB.out)⟩⟩
      ·
       replace c30 := Bool.eq_false_iff.mpr c30
       subst c30
       have H1 : (laws_FnBoldPlay.j2 kj7 l1) = some r := by rw [if_neg (show ¬ (false = true) by decide)] at H; exact H
       clear H
       have H := H1
       clear H1
       have H' := Abq H
       clear H
       as_aux_lemma =>
        go_wp2
        go_meet
        case rel => exact ⟨_, H', ⟨by have := HJ7.out; first | omega | exact Nat.le_refl _⟩, ⟨by (with_reducible repeat (first | refine blk_drewN ?_ _ | refine blk_drew ?_ | refine blk_alloc ?_ _)); exact BK281.out⟩, ⟨by (with_reducible repeat (first | refine blk_drewN ?_ _ | refine blk_drew ?_ | refine blk_alloc ?_ _)); exact BK285.out⟩, ⟨by (with_reducible repeat (first | refine blk_drewN ?_ _ | refine blk_drew ?_ | refine blk_alloc ?_ _)); exact BK289.out⟩, ⟨by repeat (first | (with_reducible first | exact HB.out | apply below_alloc | apply pw_below_drewN | apply below_drew1 | refine below_set ?_ GE281.out | refine below_set ?_ GE285.out | refine below_set ?_ GE289.out) | exact HB.out)⟩⟩
     case rest => as_aux_lemma =>
      clear HC29
      try clear c1
      try clear c2
      try clear p2
      try clear c3
      try clear p6
      try clear c14
      try clear c16
      try clear c17
      try clear c18
      try clear c19
      try clear c20
      try clear c21
      try clear c22
      try clear c23
      try clear c24
      try clear c25
      try clear c26
      try clear c27
      try clear c28
      try clear c29
      try clear c30
      try clear c31
      try clear p64
      try clear c141
      try clear c141b0
      try clear c143
      try clear c143b0
      try clear c143b1
      try clear c145
      try clear c145b0
      try clear c145b1
      try clear c167
      try clear c167b0
      try clear c167b1
      try clear c168
      try clear c168b0
      try clear c168b1
      try clear c169
      try clear c170
      try clear c171
      try clear c173
      try clear c174
      try clear c176
      try clear c178
      try clear c179
      try clear c180
      try clear c182
      try clear c183
      try clear c185
      try clear c187
      try clear c187b0
      try clear c187b1
      try clear c188
      try clear c188b0
      try clear c189
      try clear c189b0
      try clear c189b1
      try clear c190
      try clear c190b0
      try clear c190b1
      try clear c191
      try clear c192
      try clear c193
      try clear c195
      try clear c196
      try clear c198
      try clear c200
      try clear c201
      try clear c202
      try clear c204
      try clear c205
      try clear c207
      try clear c209
      try clear c209b0
      try clear c209b1
      try clear c210
      try clear c210b0
      try clear c210b1
      try clear c211
      try clear c212
      try clear c213
      try clear c215
      try clear c216
      try clear c218
      try clear c220
      try clear c221
      try clear c222
      try clear c224
      try clear c225
      try clear c227
      try clear c229
      try clear c229b0
      try clear c230
      try clear c230b0
      try clear c230b1
      try clear c231
      try clear c231b0
      try clear c232
      try clear c232b0
      try clear c232b1
      try clear c233
      try clear c233b0
      try clear c234
      try clear c234b0
      try clear c234b1
      try clear c235
      try clear c235b0
      try clear c235b1
      try clear c236
      try clear c237
      try clear c238
      try clear c240
      try clear c241
      try clear c243
      try clear c245
      try clear c246
      try clear c247
      try clear c249
      try clear c250
      try clear c252
      try clear c254
      try clear c254b0
      try clear c254b1
      try clear c255
      try clear c255b0
      try clear c255b1
      try clear c256
      try clear c257
      try clear c258
      try clear c260
      try clear c261
      try clear c263
      try clear c265
      try clear c266
      try clear c267
      try clear c269
      try clear c270
      try clear c272
      try clear c274
      try clear c274b0
      try clear c274b1
      try clear c275
      try clear c275b0
      try clear c276
      try clear c276b0
      try clear c276b1
      try clear c277
      try clear c277b0
      try clear c277b1
      try clear c278
      try clear c279
      try clear c280
      try clear c282
      try clear c283
      try clear c285
      try clear c287
      try clear c288
      try clear c289
      try clear c291
      try clear c292
      try clear c294
      try clear c296
      try clear c296b0
      try clear c296b1
      try clear c297
      try clear c297b0
      try clear c297b1
      try clear c298
      try clear c299
      try clear c300
      try clear c302
      try clear c303
      try clear c305
      try clear c307
      try clear c308
      try clear c309
      try clear c311
      try clear c312
      try clear c314
      try clear hcz172_0
      try clear hcz172_1
      try clear hcz175_0
      try clear hcz175_1
      try clear hcz177_0
      try clear hcz177_1
      try clear hcz181_0
      try clear hcz181_1
      try clear hcz184_0
      try clear hcz184_1
      try clear hcz186_0
      try clear hcz186_1
      try clear hcz194_0
      try clear hcz194_1
      try clear hcz197_0
      try clear hcz197_1
      try clear hcz199_0
      try clear hcz199_1
      try clear hcz203_0
      try clear hcz203_1
      try clear hcz206_0
      try clear hcz206_1
      try clear hcz208_0
      try clear hcz208_1
      try clear hcz214_0
      try clear hcz214_1
      try clear hcz217_0
      try clear hcz217_1
      try clear hcz219_0
      try clear hcz219_1
      try clear hcz223_0
      try clear hcz223_1
      try clear hcz226_0
      try clear hcz226_1
      try clear hcz228_0
      try clear hcz228_1
      try clear hcz239_0
      try clear hcz239_1
      try clear hcz242_0
      try clear hcz242_1
      try clear hcz244_0
      try clear hcz244_1
      try clear hcz248_0
      try clear hcz248_1
      try clear hcz251_0
      try clear hcz251_1
      try clear hcz253_0
      try clear hcz253_1
      try clear hcz259_0
      try clear hcz259_1
      try clear hcz262_0
      try clear hcz262_1
      try clear hcz264_0
      try clear hcz264_1
      try clear hcz268_0
      try clear hcz268_1
      try clear hcz271_0
      try clear hcz271_1
      try clear hcz273_0
      try clear hcz273_1
      try clear hcz281_0
      try clear hcz281_1
      try clear hcz284_0
      try clear hcz284_1
      try clear hcz286_0
      try clear hcz286_1
      try clear hcz290_0
      try clear hcz290_1
      try clear hcz293_0
      try clear hcz293_1
      try clear hcz295_0
      try clear hcz295_1
      try clear hcz301_0
      try clear hcz301_1
      try clear hcz304_0
      try clear hcz304_1
      try clear hcz306_0
      try clear hcz306_1
      try clear hcz310_0
      try clear hcz310_1
      try clear hcz313_0
      try clear hcz313_1
      try clear hcz315_0
      try clear hcz315_1
      try clear hfz166_0
      try clear hfz166_1
      try clear hfz172_0
      try clear hfz172_1
      try clear hfz175_0
      try clear hfz175_1
      try clear hfz177_0
      try clear hfz177_1
      try clear hfz181_0
      try clear hfz181_1
      try clear hfz184_0
      try clear hfz184_1
      try clear hfz186_0
      try clear hfz186_1
      try clear hfz194_0
      try clear hfz194_1
      try clear hfz197_0
      try clear hfz197_1
      try clear hfz199_0
      try clear hfz199_1
      try clear hfz203_0
      try clear hfz203_1
      try clear hfz206_0
      try clear hfz206_1
      try clear hfz208_0
      try clear hfz208_1
      try clear hfz214_0
      try clear hfz214_1
      try clear hfz217_0
      try clear hfz217_1
      try clear hfz219_0
      try clear hfz219_1
      try clear hfz223_0
      try clear hfz223_1
      try clear hfz226_0
      try clear hfz226_1
      try clear hfz228_0
      try clear hfz228_1
      try clear hfz239_0
      try clear hfz239_1
      try clear hfz242_0
      try clear hfz242_1
      try clear hfz244_0
      try clear hfz244_1
      try clear hfz248_0
      try clear hfz248_1
      try clear hfz251_0
      try clear hfz251_1
      try clear hfz253_0
      try clear hfz253_1
      try clear hfz259_0
      try clear hfz259_1
      try clear hfz262_0
      try clear hfz262_1
      try clear hfz264_0
      try clear hfz264_1
      try clear hfz268_0
      try clear hfz268_1
      try clear hfz271_0
      try clear hfz271_1
      try clear hfz273_0
      try clear hfz273_1
      try clear hfz281_0
      try clear hfz281_1
      try clear hfz284_0
      try clear hfz284_1
      try clear hfz286_0
      try clear hfz286_1
      try clear hfz290_0
      try clear hfz290_1
      try clear hfz293_0
      try clear hfz293_1
      try clear hfz295_0
      try clear hfz295_1
      try clear hfz301_0
      try clear hfz301_1
      try clear hfz304_0
      try clear hfz304_1
      try clear hfz306_0
      try clear hfz306_1
      try clear hfz310_0
      try clear hfz310_1
      try clear hfz313_0
      try clear hfz313_1
      try clear hfz315_0
      try clear hfz315_1
      obtain ⟨kq, HA, HJ28, BK281, BK285, BK289, HB⟩ := hcut
      cases kq with
      | zero => exact absurd HA.out (by simp [laws_FnBoldPlay.j2])
      | succ kj28 =>
       have H := HA.out
       clear HA
       simp only [laws_FnBoldPlay.j2] at H
       replace H := Option.bind_eq_some_iff.mp H
       obtain ⟨⟨t294, t295, t296⟩, A3160, H⟩ := H
       replace H : ((impl_FairVisits.f kj28 t294 t295 t296).bind fun bt297 => ((spec_FairVisits.f kj28 t294 t295 t296).bind fun bt301 => (if (bt297.2.2 != bt301.2.2) = true then (laws_FnBoldPlay.j3 kj28 t294 t295 t296 bt297.2.2 true bt297.1 bt297.2.1) else (laws_FnBoldPlay.j3 kj28 t294 t295 t296 bt297.2.2 (!(bt297.1 == bt301.1) || (!(bt297.2.1 == bt301.2.1))) bt297.1 bt297.2.1)))) = some r := H
       have A316 := Abq A3160
       clear A3160
       replace H := Option.bind_eq_some_iff.mp H
       obtain ⟨⟨t297, t298, t299⟩, A3170, H⟩ := H
       replace H : ((spec_FairVisits.f kj28 t294 t295 t296).bind fun bt301 => (if (t299 != bt301.2.2) = true then (laws_FnBoldPlay.j3 kj28 t294 t295 t296 t299 true t297 t298) else (laws_FnBoldPlay.j3 kj28 t294 t295 t296 t299 (!(t297 == bt301.1) || (!(t298 == bt301.2.1))) t297 t298))) = some r := H
       have A317 := Abq A3170
       clear A3170
       replace H := Option.bind_eq_some_iff.mp H
       obtain ⟨⟨t301, t302, t303⟩, A3180, H⟩ := H
       replace H : (if (t299 != t303) = true then (laws_FnBoldPlay.j3 kj28 t294 t295 t296 t299 true t297 t298) else (laws_FnBoldPlay.j3 kj28 t294 t295 t296 t299 (!(t297 == t301) || (!(t298 == t302))) t297 t298)) = some r := H
       have A318 := Abq A3180
       clear A3180
       have HC319 := Abq H
       clear H
       go_upto_region 25 with (first | ((with_reducible refine gate_callee (f := 10) rfl ?_); refine goesL_ (some 151) rfl rfl Try.func10 (by kernel_rfl) rfl #[.slice A1 l1.length c1] rfl Zb7 ?_; (with_reducible refine (spec_DrawFairVisits.calls _ _ l1 t294 t295 t296 _ ?side1 ?side2 A316.out).mono ?_); (case side1 => repeat (first | exact (Kd.C_below HR1.out HB.out) | (with_reducible refine Kd.C_alloc ?_ _) | (with_reducible refine Kd.C_drewN ?_ _) | (with_reducible refine Kd.C_drew ?_))); (case side2 => exact HC1.out); rintro e w320 ⟨rfl, hb⟩; refine ⟨_, rfl, ?_⟩; have n0_ := Abq (blk_below (g := g281) (o := .cells #[.int .i64 t279, .int .i64 t280] 25 (0, 0)) Zb9 hb); have n1_ := Abq (blk_below (g := g285) (o := .cells #[.int .i64 t282, .int .i64 t283] 25 (0, 0)) Zb10 hb); have n2_ := Abq (blk_below (g := g289) (o := .cells #[.int .i64 t286, .int .i64 t287] 25 (0, 0)) Zb11 hb); have n3_ := Abq (below_step Zb4 hb); clear BK281; clear BK285; clear BK289; clear HB; have BK281 := n0_; have BK285 := n1_; have BK289 := n2_; have HB := n3_; clear n0_ n1_ n2_ n3_; (try clear hb); (try clear hb2); (try clear hk); (try clear hi)) | ((with_reducible refine gate_callee (f := 11) rfl ?_); refine goesL_ (some 159) rfl rfl Try.func11 (by kernel_rfl) rfl #[.int .i64 t294, .int .i64 t295, .int .i64 t296] rfl Zb7 ?_; (with_reducible refine (impl_FairVisits.calls kj28 t294 t295 t296 t297 t298 t299 _ A317.out).mono ?_); rintro e w321 ⟨rfl, hb⟩; refine ⟨_, rfl, ?_⟩; have n0_ := Abq (blk_below (g := g281) (o := .cells #[.int .i64 t279, .int .i64 t280] 25 (0, 0)) Zb9 hb); have n1_ := Abq (blk_below (g := g285) (o := .cells #[.int .i64 t282, .int .i64 t283] 25 (0, 0)) Zb10 hb); have n2_ := Abq (blk_below (g := g289) (o := .cells #[.int .i64 t286, .int .i64 t287] 25 (0, 0)) Zb11 hb); have n3_ := Abq (below_step Zb4 hb); clear BK281; clear BK285; clear BK289; clear HB; have BK281 := n0_; have BK285 := n1_; have BK289 := n2_; have HB := n3_; clear n0_ n1_ n2_ n3_; (try clear hb); (try clear hb2); (try clear hk); (try clear hi)) | ((with_reducible refine gate_dst (N := 17) rfl ?_); refine box_event ?hg (N := 17) ?hd (cs := #[.int .i64 0, .int .i64 0]) (t := 25) ?hr ?_; (case hd => rfl); (case hg => rfl); (case hr => first | (go_simp; done) | (go_simp; rfl)); intro g300 hg w322 hbox hb; have n0_ := Abq (blk_below (g := g281) (o := .cells #[.int .i64 t279, .int .i64 t280] 25 (0, 0)) Zb9 hb); have n1_ := Abq (blk_below (g := g285) (o := .cells #[.int .i64 t282, .int .i64 t283] 25 (0, 0)) Zb10 hb); have n2_ := Abq (blk_below (g := g289) (o := .cells #[.int .i64 t286, .int .i64 t287] 25 (0, 0)) Zb11 hb); have n3_ := Abq (below_step Zb4 hb); have n4_ := Abq (hbox); have n5_ := Abq ((by rw [hg]; exact (below_size Zb4) : w.heap.size ≤ g300)); have n6_ := Abq ((by rw [hg]; exact (below_size Zb4) : w.heap.size ≤ g300)); have n7_ := Abq ((by rw [hg]; exact Nat.ne_of_lt (blk_lt (g := g281) (o := .cells #[.int .i64 t279, .int .i64 t280] 25 (0, 0)) Zb9) : g281 ≠ g300)); have n8_ := Abq ((by rw [hg]; exact Nat.ne_of_gt (blk_lt (g := g281) (o := .cells #[.int .i64 t279, .int .i64 t280] 25 (0, 0)) Zb9) : g300 ≠ g281)); have n9_ := Abq ((by rw [hg]; exact Nat.ne_of_lt (blk_lt (g := g285) (o := .cells #[.int .i64 t282, .int .i64 t283] 25 (0, 0)) Zb10) : g285 ≠ g300)); have n10_ := Abq ((by rw [hg]; exact Nat.ne_of_gt (blk_lt (g := g285) (o := .cells #[.int .i64 t282, .int .i64 t283] 25 (0, 0)) Zb10) : g300 ≠ g285)); have n11_ := Abq ((by rw [hg]; exact Nat.ne_of_lt (blk_lt (g := g289) (o := .cells #[.int .i64 t286, .int .i64 t287] 25 (0, 0)) Zb11) : g289 ≠ g300)); have n12_ := Abq ((by rw [hg]; exact Nat.ne_of_gt (blk_lt (g := g289) (o := .cells #[.int .i64 t286, .int .i64 t287] 25 (0, 0)) Zb11) : g300 ≠ g289)); clear BK281; clear BK285; clear BK289; clear HB; have BK281 := n0_; have BK285 := n1_; have BK289 := n2_; have HB := n3_; have BK300 := n4_; have GW300 := n5_; have GE300 := n6_; have NB281_300 := n7_; have NB300_281 := n8_; have NB285_300 := n9_; have NB300_285 := n10_; have NB289_300 := n11_; have NB300_289 := n12_; clear n0_ n1_ n2_ n3_ n4_ n5_ n6_ n7_ n8_ n9_ n10_ n11_ n12_; clear hb hbox hg; have hnb323 := NB300_281.out; have hnc323 := NB281_300.out; have hnb324 := NB300_285.out; have hnc324 := NB285_300.out; have hnb325 := NB300_289.out; have hnc325 := NB289_300.out; have hcz326_0 : w322.cell? ⟨g300, 0, none⟩ = some (.int .i64 0) := (blk_cell BK300.out 0).trans rfl; have hcz326_1 : w322.cell? ⟨g300, 1, none⟩ = some (.int .i64 0) := (blk_cell BK300.out 1).trans rfl; have hfz326_0 := blk_frozen BK300.out 0; have hfz326_1 := blk_frozen BK300.out 1) | ((with_reducible refine gate_callee (f := 12) rfl ?_); refine goesL_ (some 166) rfl rfl Try.func12 (by kernel_rfl) rfl #[.int .i64 t294, .int .i64 t295, .int .i64 t296] rfl Zb7 ?_; (with_reducible refine (spec_FairVisits.calls kj28 t294 t295 t296 t301 t302 t303 _ A318.out).mono ?_); rintro e w327 ⟨rfl, hb⟩; refine ⟨_, rfl, ?_⟩; have n0_ := Abq (blk_below (g := g281) (o := .cells #[.int .i64 t279, .int .i64 t280] 25 (0, 0)) (by (with_reducible repeat (first | refine blk_drewN ?_ _ | refine blk_drew ?_ | refine blk_alloc ?_ _)); refine blk_far ?_ NB281_300.out _; (with_reducible repeat (first | refine blk_drewN ?_ _ | refine blk_drew ?_ | refine blk_alloc ?_ _)); refine blk_far ?_ NB281_300.out _; (with_reducible repeat (first | refine blk_drewN ?_ _ | refine blk_drew ?_ | refine blk_alloc ?_ _)); exact BK281.out) hb); have n1_ := Abq (blk_below (g := g285) (o := .cells #[.int .i64 t282, .int .i64 t283] 25 (0, 0)) (by (with_reducible repeat (first | refine blk_drewN ?_ _ | refine blk_drew ?_ | refine blk_alloc ?_ _)); refine blk_far ?_ NB285_300.out _; (with_reducible repeat (first | refine blk_drewN ?_ _ | refine blk_drew ?_ | refine blk_alloc ?_ _)); refine blk_far ?_ NB285_300.out _; (with_reducible repeat (first | refine blk_drewN ?_ _ | refine blk_drew ?_ | refine blk_alloc ?_ _)); exact BK285.out) hb); have n2_ := Abq (blk_below (g := g289) (o := .cells #[.int .i64 t286, .int .i64 t287] 25 (0, 0)) (by (with_reducible repeat (first | refine blk_drewN ?_ _ | refine blk_drew ?_ | refine blk_alloc ?_ _)); refine blk_far ?_ NB289_300.out _; (with_reducible repeat (first | refine blk_drewN ?_ _ | refine blk_drew ?_ | refine blk_alloc ?_ _)); refine blk_far ?_ NB289_300.out _; (with_reducible repeat (first | refine blk_drewN ?_ _ | refine blk_drew ?_ | refine blk_alloc ?_ _)); exact BK289.out) hb); have n3_ := Abq (blk_below (g := g300) (o := .cells #[.int .i64 t297, .int .i64 t298] 25 (0, 0)) (by (with_reducible repeat (first | refine blk_drewN ?_ _ | refine blk_drew ?_ | refine blk_alloc ?_ _)); refine blk_put (cs := #[.int .i64 t297, .int .i64 0]) ?_ 1 _ rfl; (with_reducible repeat (first | refine blk_drewN ?_ _ | refine blk_drew ?_ | refine blk_alloc ?_ _)); refine blk_put (cs := #[.int .i64 0, .int .i64 0]) ?_ 0 _ rfl; (with_reducible repeat (first | refine blk_drewN ?_ _ | refine blk_drew ?_ | refine blk_alloc ?_ _)); exact BK300.out) hb); have n4_ := Abq (below_step Zb3 hb); clear BK281; clear BK285; clear BK289; clear BK300; clear HB; have BK281 := n0_; have BK285 := n1_; have BK289 := n2_; have BK300 := n3_; have HB := n4_; clear n0_ n1_ n2_ n3_ n4_; (try clear hb); (try clear hb2); (try clear hk); (try clear hi)) | ((with_reducible refine gate_dst (N := 19) rfl ?_); refine box_event ?hg (N := 19) ?hd (cs := #[.int .i64 0, .int .i64 0]) (t := 25) ?hr ?_; (case hd => rfl); (case hg => rfl); (case hr => first | (go_simp; done) | (go_simp; rfl)); intro g304 hg w328 hbox hb; have n0_ := Abq (blk_below (g := g281) (o := .cells #[.int .i64 t279, .int .i64 t280] 25 (0, 0)) Zb9 hb); have n1_ := Abq (blk_below (g := g285) (o := .cells #[.int .i64 t282, .int .i64 t283] 25 (0, 0)) Zb10 hb); have n2_ := Abq (blk_below (g := g289) (o := .cells #[.int .i64 t286, .int .i64 t287] 25 (0, 0)) Zb11 hb); have n3_ := Abq (blk_below (g := g300) (o := .cells #[.int .i64 t297, .int .i64 t298] 25 (0, 0)) Zb12 hb); have n4_ := Abq (below_step Zb3 hb); have n5_ := Abq (hbox); have n6_ := Abq ((by rw [hg]; exact (below_size Zb3) : w.heap.size ≤ g304)); have n7_ := Abq ((by rw [hg]; exact (below_size Zb3) : w.heap.size ≤ g304)); have n8_ := Abq ((by rw [hg]; exact Nat.ne_of_lt (blk_lt (g := g281) (o := .cells #[.int .i64 t279, .int .i64 t280] 25 (0, 0)) Zb9) : g281 ≠ g304)); have n9_ := Abq ((by rw [hg]; exact Nat.ne_of_gt (blk_lt (g := g281) (o := .cells #[.int .i64 t279, .int .i64 t280] 25 (0, 0)) Zb9) : g304 ≠ g281)); have n10_ := Abq ((by rw [hg]; exact Nat.ne_of_lt (blk_lt (g := g285) (o := .cells #[.int .i64 t282, .int .i64 t283] 25 (0, 0)) Zb10) : g285 ≠ g304)); have n11_ := Abq ((by rw [hg]; exact Nat.ne_of_gt (blk_lt (g := g285) (o := .cells #[.int .i64 t282, .int .i64 t283] 25 (0, 0)) Zb10) : g304 ≠ g285)); have n12_ := Abq ((by rw [hg]; exact Nat.ne_of_lt (blk_lt (g := g289) (o := .cells #[.int .i64 t286, .int .i64 t287] 25 (0, 0)) Zb11) : g289 ≠ g304)); have n13_ := Abq ((by rw [hg]; exact Nat.ne_of_gt (blk_lt (g := g289) (o := .cells #[.int .i64 t286, .int .i64 t287] 25 (0, 0)) Zb11) : g304 ≠ g289)); have n14_ := Abq ((by rw [hg]; exact Nat.ne_of_lt (blk_lt (g := g300) (o := .cells #[.int .i64 t297, .int .i64 t298] 25 (0, 0)) Zb12) : g300 ≠ g304)); have n15_ := Abq ((by rw [hg]; exact Nat.ne_of_gt (blk_lt (g := g300) (o := .cells #[.int .i64 t297, .int .i64 t298] 25 (0, 0)) Zb12) : g304 ≠ g300)); clear BK281; clear BK285; clear BK289; clear BK300; clear HB; have BK281 := n0_; have BK285 := n1_; have BK289 := n2_; have BK300 := n3_; have HB := n4_; have BK304 := n5_; have GW304 := n6_; have GE304 := n7_; have NB281_304 := n8_; have NB304_281 := n9_; have NB285_304 := n10_; have NB304_285 := n11_; have NB289_304 := n12_; have NB304_289 := n13_; have NB300_304 := n14_; have NB304_300 := n15_; clear n0_ n1_ n2_ n3_ n4_ n5_ n6_ n7_ n8_ n9_ n10_ n11_ n12_ n13_ n14_ n15_; clear hb hbox hg; have hnb329 := NB304_281.out; have hnc329 := NB281_304.out; have hnb330 := NB304_285.out; have hnc330 := NB285_304.out; have hnb331 := NB304_289.out; have hnc331 := NB289_304.out; have hnb332 := NB304_300.out; have hnc332 := NB300_304.out; have hcz333_0 : w328.cell? ⟨g304, 0, none⟩ = some (.int .i64 0) := (blk_cell BK304.out 0).trans rfl; have hcz333_1 : w328.cell? ⟨g304, 1, none⟩ = some (.int .i64 0) := (blk_cell BK304.out 1).trans rfl; have hfz333_0 := blk_frozen BK304.out 0; have hfz333_1 := blk_frozen BK304.out 1))
       (try simp only [Act.put, y1b, y2b, y3b])
       go_cut [176] (fun v176 wc => ∃ (kq : Nat) (x176_318 : Bool), v176 = .bool x176_318 ∧ Aside0 (laws_FnBoldPlay.j3 kq t294 t295 t296 t299 x176_318 t297 t298 = some r) ∧ Aside0 (kq ≤ kj28) ∧ Aside0 (wc.heap[g281]? = some (.cells #[.int .i64 t279, .int .i64 t280] 25 (0, 0))) ∧ Aside0 (wc.heap[g285]? = some (.cells #[.int .i64 t282, .int .i64 t283] 25 (0, 0))) ∧ Aside0 (wc.heap[g289]? = some (.cells #[.int .i64 t286, .int .i64 t287] 25 (0, 0))) ∧ Aside0 (wc.heap[g300]? = some (.cells #[.int .i64 t297, .int .i64 t298] 25 (0, 0))) ∧ Aside0 (wc.heap[g304]? = some (.cells #[.int .i64 t301, .int .i64 t302] 25 (0, 0))) ∧ Aside0 (Below w.heap.size w wc))
       case first => as_aux_lemma =>
        have H := HC319.out
        clear HC319
        by_cases c334 : (t299 != t303) = true
        ·
         rw [if_pos c334] at H
         have c334b0 : (t299 != t303) = true := c334
         (try (have c334b1 : decide (t299 = t303) = false := by simpa using c334))
         (try (have c334b2 : (t299 == t303) = false := by simpa using c334))
         (try (have c334b3 : ¬ (t299 = t303) := by simpa using c334))
         clear c334
         (first | rw [c334b0] | (simp only [i64_w, i32_w]; rw [c334b0]) | skip)
         exact absurd H (by generalize kj28 = q_; cases q_ <;> simp [laws_FnBoldPlay.j3])
        ·
         rw [if_neg c334] at H
         have c334b0 : (t299 != t303) = false := by simpa using c334
         (try (have c334b1 : decide (t299 = t303) = true := by simpa using c334))
         (try (have c334b2 : (t299 == t303) = true := by simpa using c334))
         clear c334
         (first | rw [c334b0] | (simp only [i64_w, i32_w]; rw [c334b0]) | skip)
         have H' := Abq H
         clear H
         have hnb335 := NB300_281.out
         have hnc335 := NB281_300.out
         have hnb336 := NB300_285.out
         have hnc336 := NB285_300.out
         have hnb337 := NB300_289.out
         have hnc337 := NB289_300.out
         have hnb338 := NB300_304.out
         have hnc338 := NB304_300.out
         have hcz339_0 : w328.cell? ⟨g300, 0, none⟩ = some (.int .i64 t297) := (blk_cell BK300.out 0).trans rfl
         have hcz339_1 : w328.cell? ⟨g300, 1, none⟩ = some (.int .i64 t298) := (blk_cell BK300.out 1).trans rfl
         have hfz339_0 := blk_frozen BK300.out 0
         have hfz339_1 := blk_frozen BK300.out 1
         have hnb340 := NB304_281.out
         have hnc340 := NB281_304.out
         have hnb341 := NB304_285.out
         have hnc341 := NB285_304.out
         have hnb342 := NB304_289.out
         have hnc342 := NB289_304.out
         have hcz343_0 : w328.cell? ⟨g304, 0, none⟩ = some (.int .i64 0) := (blk_cell BK304.out 0).trans rfl
         have hcz343_1 : w328.cell? ⟨g304, 1, none⟩ = some (.int .i64 0) := (blk_cell BK304.out 1).trans rfl
         have hfz343_0 := blk_frozen BK304.out 0
         have hfz343_1 := blk_frozen BK304.out 1
         as_aux_lemma =>
          go_wp2
          go_meet
          case rel => exact ⟨_, ((!(t297 == t301) || (!(t298 == t302)))), Zb15, H', ⟨by have := HJ7.out; have := HJ28.out; first | omega | exact Nat.le_refl _⟩, ⟨by (with_reducible repeat (first | refine blk_drewN ?_ _ | refine blk_drew ?_ | refine blk_alloc ?_ _)); refine blk_far ?_ NB281_304.out _; (with_reducible repeat (first | refine blk_drewN ?_ _ | refine blk_drew ?_ | refine blk_alloc ?_ _)); refine blk_far ?_ NB281_304.out _; (with_reducible repeat (first | refine blk_drewN ?_ _ | refine blk_drew ?_ | refine blk_alloc ?_ _)); exact BK281.out⟩, ⟨by (with_reducible repeat (first | refine blk_drewN ?_ _ | refine blk_drew ?_ | refine blk_alloc ?_ _)); refine blk_far ?_ NB285_304.out _; (with_reducible repeat (first | refine blk_drewN ?_ _ | refine blk_drew ?_ | refine blk_alloc ?_ _)); refine blk_far ?_ NB285_304.out _; (with_reducible repeat (first | refine blk_drewN ?_ _ | refine blk_drew ?_ | refine blk_alloc ?_ _)); exact BK285.out⟩, ⟨by (with_reducible repeat (first | refine blk_drewN ?_ _ | refine blk_drew ?_ | refine blk_alloc ?_ _)); refine blk_far ?_ NB289_304.out _; (with_reducible repeat (first | refine blk_drewN ?_ _ | refine blk_drew ?_ | refine blk_alloc ?_ _)); refine blk_far ?_ NB289_304.out _; (with_reducible repeat (first | refine blk_drewN ?_ _ | refine blk_drew ?_ | refine blk_alloc ?_ _)); exact BK289.out⟩, ⟨by (with_reducible repeat (first | refine blk_drewN ?_ _ | refine blk_drew ?_ | refine blk_alloc ?_ _)); refine blk_far ?_ NB300_304.out _; (with_reducible repeat (first | refine blk_drewN ?_ _ | refine blk_drew ?_ | refine blk_alloc ?_ _)); refine blk_far ?_ NB300_304.out _; (with_reducible repeat (first | refine blk_drewN ?_ _ | refine blk_drew ?_ | refine blk_alloc ?_ _)); exact BK300.out⟩, ⟨by (with_reducible repeat (first | refine blk_drewN ?_ _ | refine blk_drew ?_ | refine blk_alloc ?_ _)); refine blk_put (cs := #[.int .i64 t301, .int .i64 0]) ?_ 1 _ rfl; (with_reducible repeat (first | refine blk_drewN ?_ _ | refine blk_drew ?_ | refine blk_alloc ?_ _)); refine blk_put (cs := #[.int .i64 0, .int .i64 0]) ?_ 0 _ rfl; (with_reducible repeat (first | refine blk_drewN ?_ _ | refine blk_drew ?_ | refine blk_alloc ?_ _)); exact BK304.out⟩, ⟨by repeat (first | (with_reducible first | exact HB.out | apply below_alloc | apply pw_below_drewN | apply below_drew1 | refine below_set ?_ GE281.out | refine below_set ?_ GE285.out | refine below_set ?_ GE289.out | refine below_set ?_ GE300.out | refine below_set ?_ GE304.out) | exact HB.out)⟩⟩
       case rest => as_aux_lemma =>
        clear HC319
        try clear c1
        try clear c2
        try clear p2
        try clear c3
        try clear p6
        try clear c10
        try clear c11
        try clear c12
        try clear c14
        try clear c16
        try clear c17
        try clear c18
        try clear c19
        try clear c20
        try clear c21
        try clear c22
        try clear c23
        try clear c24
        try clear c25
        try clear c26
        try clear c27
        try clear c28
        try clear c29
        try clear c30
        try clear c31
        try clear c32
        try clear c33
        try clear c34
        try clear p64
        try clear c141
        try clear c141b0
        try clear c143
        try clear c143b0
        try clear c143b1
        try clear c145
        try clear c145b0
        try clear c145b1
        try clear c167
        try clear c167b0
        try clear c167b1
        try clear c168
        try clear c168b0
        try clear c168b1
        try clear c169
        try clear c170
        try clear c171
        try clear c173
        try clear c174
        try clear c176
        try clear c178
        try clear c179
        try clear c180
        try clear c182
        try clear c183
        try clear c185
        try clear c187
        try clear c187b0
        try clear c187b1
        try clear c188
        try clear c188b0
        try clear c189
        try clear c189b0
        try clear c189b1
        try clear c190
        try clear c190b0
        try clear c190b1
        try clear c191
        try clear c192
        try clear c193
        try clear c195
        try clear c196
        try clear c198
        try clear c200
        try clear c201
        try clear c202
        try clear c204
        try clear c205
        try clear c207
        try clear c209
        try clear c209b0
        try clear c209b1
        try clear c210
        try clear c210b0
        try clear c210b1
        try clear c211
        try clear c212
        try clear c213
        try clear c215
        try clear c216
        try clear c218
        try clear c220
        try clear c221
        try clear c222
        try clear c224
        try clear c225
        try clear c227
        try clear c229
        try clear c229b0
        try clear c230
        try clear c230b0
        try clear c230b1
        try clear c231
        try clear c231b0
        try clear c232
        try clear c232b0
        try clear c232b1
        try clear c233
        try clear c233b0
        try clear c234
        try clear c234b0
        try clear c234b1
        try clear c235
        try clear c235b0
        try clear c235b1
        try clear c236
        try clear c237
        try clear c238
        try clear c240
        try clear c241
        try clear c243
        try clear c245
        try clear c246
        try clear c247
        try clear c249
        try clear c250
        try clear c252
        try clear c254
        try clear c254b0
        try clear c254b1
        try clear c255
        try clear c255b0
        try clear c255b1
        try clear c256
        try clear c257
        try clear c258
        try clear c260
        try clear c261
        try clear c263
        try clear c265
        try clear c266
        try clear c267
        try clear c269
        try clear c270
        try clear c272
        try clear c274
        try clear c274b0
        try clear c274b1
        try clear c275
        try clear c275b0
        try clear c276
        try clear c276b0
        try clear c276b1
        try clear c277
        try clear c277b0
        try clear c277b1
        try clear c278
        try clear c279
        try clear c280
        try clear c282
        try clear c283
        try clear c285
        try clear c287
        try clear c288
        try clear c289
        try clear c291
        try clear c292
        try clear c294
        try clear c296
        try clear c296b0
        try clear c296b1
        try clear c297
        try clear c297b0
        try clear c297b1
        try clear c298
        try clear c299
        try clear c300
        try clear c302
        try clear c303
        try clear c305
        try clear c307
        try clear c308
        try clear c309
        try clear c311
        try clear c312
        try clear c314
        try clear c323
        try clear c324
        try clear c325
        try clear c329
        try clear c330
        try clear c331
        try clear c332
        try clear c334
        try clear c334b0
        try clear c334b1
        try clear c334b2
        try clear c335
        try clear c336
        try clear c337
        try clear c338
        try clear c340
        try clear c341
        try clear c342
        try clear hcz172_0
        try clear hcz172_1
        try clear hcz175_0
        try clear hcz175_1
        try clear hcz177_0
        try clear hcz177_1
        try clear hcz181_0
        try clear hcz181_1
        try clear hcz184_0
        try clear hcz184_1
        try clear hcz186_0
        try clear hcz186_1
        try clear hcz194_0
        try clear hcz194_1
        try clear hcz197_0
        try clear hcz197_1
        try clear hcz199_0
        try clear hcz199_1
        try clear hcz203_0
        try clear hcz203_1
        try clear hcz206_0
        try clear hcz206_1
        try clear hcz208_0
        try clear hcz208_1
        try clear hcz214_0
        try clear hcz214_1
        try clear hcz217_0
        try clear hcz217_1
        try clear hcz219_0
        try clear hcz219_1
        try clear hcz223_0
        try clear hcz223_1
        try clear hcz226_0
        try clear hcz226_1
        try clear hcz228_0
        try clear hcz228_1
        try clear hcz239_0
        try clear hcz239_1
        try clear hcz242_0
        try clear hcz242_1
        try clear hcz244_0
        try clear hcz244_1
        try clear hcz248_0
        try clear hcz248_1
        try clear hcz251_0
        try clear hcz251_1
        try clear hcz253_0
        try clear hcz253_1
        try clear hcz259_0
        try clear hcz259_1
        try clear hcz262_0
        try clear hcz262_1
        try clear hcz264_0
        try clear hcz264_1
        try clear hcz268_0
        try clear hcz268_1
        try clear hcz271_0
        try clear hcz271_1
        try clear hcz273_0
        try clear hcz273_1
        try clear hcz281_0
        try clear hcz281_1
        try clear hcz284_0
        try clear hcz284_1
        try clear hcz286_0
        try clear hcz286_1
        try clear hcz290_0
        try clear hcz290_1
        try clear hcz293_0
        try clear hcz293_1
        try clear hcz295_0
        try clear hcz295_1
        try clear hcz301_0
        try clear hcz301_1
        try clear hcz304_0
        try clear hcz304_1
        try clear hcz306_0
        try clear hcz306_1
        try clear hcz310_0
        try clear hcz310_1
        try clear hcz313_0
        try clear hcz313_1
        try clear hcz315_0
        try clear hcz315_1
        try clear hcz326_0
        try clear hcz326_1
        try clear hcz333_0
        try clear hcz333_1
        try clear hcz339_0
        try clear hcz339_1
        try clear hcz343_0
        try clear hcz343_1
        try clear hfz166_0
        try clear hfz166_1
        try clear hfz172_0
        try clear hfz172_1
        try clear hfz175_0
        try clear hfz175_1
        try clear hfz177_0
        try clear hfz177_1
        try clear hfz181_0
        try clear hfz181_1
        try clear hfz184_0
        try clear hfz184_1
        try clear hfz186_0
        try clear hfz186_1
        try clear hfz194_0
        try clear hfz194_1
        try clear hfz197_0
        try clear hfz197_1
        try clear hfz199_0
        try clear hfz199_1
        try clear hfz203_0
        try clear hfz203_1
        try clear hfz206_0
        try clear hfz206_1
        try clear hfz208_0
        try clear hfz208_1
        try clear hfz214_0
        try clear hfz214_1
        try clear hfz217_0
        try clear hfz217_1
        try clear hfz219_0
        try clear hfz219_1
        try clear hfz223_0
        try clear hfz223_1
        try clear hfz226_0
        try clear hfz226_1
        try clear hfz228_0
        try clear hfz228_1
        try clear hfz239_0
        try clear hfz239_1
        try clear hfz242_0
        try clear hfz242_1
        try clear hfz244_0
        try clear hfz244_1
        try clear hfz248_0
        try clear hfz248_1
        try clear hfz251_0
        try clear hfz251_1
        try clear hfz253_0
        try clear hfz253_1
        try clear hfz259_0
        try clear hfz259_1
        try clear hfz262_0
        try clear hfz262_1
        try clear hfz264_0
        try clear hfz264_1
        try clear hfz268_0
        try clear hfz268_1
        try clear hfz271_0
        try clear hfz271_1
        try clear hfz273_0
        try clear hfz273_1
        try clear hfz281_0
        try clear hfz281_1
        try clear hfz284_0
        try clear hfz284_1
        try clear hfz286_0
        try clear hfz286_1
        try clear hfz290_0
        try clear hfz290_1
        try clear hfz293_0
        try clear hfz293_1
        try clear hfz295_0
        try clear hfz295_1
        try clear hfz301_0
        try clear hfz301_1
        try clear hfz304_0
        try clear hfz304_1
        try clear hfz306_0
        try clear hfz306_1
        try clear hfz310_0
        try clear hfz310_1
        try clear hfz313_0
        try clear hfz313_1
        try clear hfz315_0
        try clear hfz315_1
        try clear hfz326_0
        try clear hfz326_1
        try clear hfz333_0
        try clear hfz333_1
        try clear hfz339_0
        try clear hfz339_1
        try clear hfz343_0
        try clear hfz343_1
        try clear p2
        try clear p6
        try clear p64
        obtain ⟨kq, x176_318, rfl, HA, HJ318, BK281, BK285, BK289, BK300, BK304, HB⟩ := hcut
        cases kq with
        | zero => exact absurd HA.out (by simp [laws_FnBoldPlay.j3])
        | succ kj318 =>
         have H := HA.out
         clear HA
         simp only [laws_FnBoldPlay.j3] at H
         by_cases c344 : x176_318 = true
         ·
          subst c344
          have H1 : (none) = some r := by rw [if_pos rfl] at H; exact H
          clear H
          have H := H1
          clear H1
          exact absurd H (by simp)
         ·
          replace c344 := Bool.eq_false_iff.mpr c344
          subst c344
          have H1 : (if t299 = true then ((impl_FairVisits.f kj318 t295 t294 t296).bind fun bt305 => (if bt305.2.2 = true then (if (!(bt305.1 == t297) || (!(bt305.2.1 == t298))) = true then (laws_FnBoldPlay.j4 kj318 t294 t296 true) else (laws_FnBoldPlay.j4 kj318 t294 t296 (decide (t297 < 1)))) else (laws_FnBoldPlay.j4 kj318 t294 t296 true))) else (some true)) = some r := by rw [if_neg (show ¬ (false = true) by decide)] at H; exact H
          clear H
          have H := H1
          clear H1
          by_cases c345 : t299 = true
          ·
           subst c345
           have H1 : ((impl_FairVisits.f kj318 t295 t294 t296).bind fun bt305 => (if bt305.2.2 = true then (if (!(bt305.1 == t297) || (!(bt305.2.1 == t298))) = true then (laws_FnBoldPlay.j4 kj318 t294 t296 true) else (laws_FnBoldPlay.j4 kj318 t294 t296 (decide (t297 < 1)))) else (laws_FnBoldPlay.j4 kj318 t294 t296 true))) = some r := by rw [if_pos rfl] at H; exact H
           clear H
           have H := H1
           clear H1
           replace H := Option.bind_eq_some_iff.mp H
           obtain ⟨⟨t305, t306, t307⟩, A3460, H⟩ := H
           replace H : (if t307 = true then (if (!(t305 == t297) || (!(t306 == t298))) = true then (laws_FnBoldPlay.j4 kj318 t294 t296 true) else (laws_FnBoldPlay.j4 kj318 t294 t296 (decide (t297 < 1)))) else (laws_FnBoldPlay.j4 kj318 t294 t296 true)) = some r := H
           have A346 := Abq A3460
           clear A3460
           have HC347 := Abq H
           clear H
           go_upto_region 29 with (first | ((with_reducible refine gate_callee (f := 11) rfl ?_); refine goesL_ (some 182) rfl rfl Try.func11 (by kernel_rfl) rfl #[.int .i64 t295, .int .i64 t294, .int .i64 t296] rfl Zb7 ?_; (with_reducible refine (impl_FairVisits.calls kj318 t295 t294 t296 t305 t306 t307 _ A346.out).mono ?_); rintro e w348 ⟨rfl, hb⟩; refine ⟨_, rfl, ?_⟩; have n0_ := Abq (blk_below (g := g281) (o := .cells #[.int .i64 t279, .int .i64 t280] 25 (0, 0)) Zb9 hb); have n1_ := Abq (blk_below (g := g285) (o := .cells #[.int .i64 t282, .int .i64 t283] 25 (0, 0)) Zb10 hb); have n2_ := Abq (blk_below (g := g289) (o := .cells #[.int .i64 t286, .int .i64 t287] 25 (0, 0)) Zb11 hb); have n3_ := Abq (blk_below (g := g300) (o := .cells #[.int .i64 t297, .int .i64 t298] 25 (0, 0)) Zb12 hb); have n4_ := Abq (blk_below (g := g304) (o := .cells #[.int .i64 t301, .int .i64 t302] 25 (0, 0)) Zb13 hb); have n5_ := Abq (below_step Zb2 hb); clear BK281; clear BK285; clear BK289; clear BK300; clear BK304; clear HB; have BK281 := n0_; have BK285 := n1_; have BK289 := n2_; have BK300 := n3_; have BK304 := n4_; have HB := n5_; clear n0_ n1_ n2_ n3_ n4_ n5_; (try clear hb); (try clear hb2); (try clear hk); (try clear hi)) | ((with_reducible refine gate_dst (N := 21) rfl ?_); refine box_event ?hg (N := 21) ?hd (cs := #[.int .i64 0, .int .i64 0]) (t := 25) ?hr ?_; (case hd => rfl); (case hg => rfl); (case hr => first | (go_simp; done) | (go_simp; rfl)); intro g308 hg w349 hbox hb; have n0_ := Abq (blk_below (g := g281) (o := .cells #[.int .i64 t279, .int .i64 t280] 25 (0, 0)) Zb9 hb); have n1_ := Abq (blk_below (g := g285) (o := .cells #[.int .i64 t282, .int .i64 t283] 25 (0, 0)) Zb10 hb); have n2_ := Abq (blk_below (g := g289) (o := .cells #[.int .i64 t286, .int .i64 t287] 25 (0, 0)) Zb11 hb); have n3_ := Abq (blk_below (g := g300) (o := .cells #[.int .i64 t297, .int .i64 t298] 25 (0, 0)) Zb12 hb); have n4_ := Abq (blk_below (g := g304) (o := .cells #[.int .i64 t301, .int .i64 t302] 25 (0, 0)) Zb13 hb); have n5_ := Abq (below_step Zb2 hb); have n6_ := Abq (hbox); have n7_ := Abq ((by rw [hg]; exact (below_size Zb2) : w.heap.size ≤ g308)); have n8_ := Abq ((by rw [hg]; exact (below_size Zb2) : w.heap.size ≤ g308)); have n9_ := Abq ((by rw [hg]; exact Nat.ne_of_lt (blk_lt (g := g281) (o := .cells #[.int .i64 t279, .int .i64 t280] 25 (0, 0)) Zb9) : g281 ≠ g308)); have n10_ := Abq ((by rw [hg]; exact Nat.ne_of_gt (blk_lt (g := g281) (o := .cells #[.int .i64 t279, .int .i64 t280] 25 (0, 0)) Zb9) : g308 ≠ g281)); have n11_ := Abq ((by rw [hg]; exact Nat.ne_of_lt (blk_lt (g := g285) (o := .cells #[.int .i64 t282, .int .i64 t283] 25 (0, 0)) Zb10) : g285 ≠ g308)); have n12_ := Abq ((by rw [hg]; exact Nat.ne_of_gt (blk_lt (g := g285) (o := .cells #[.int .i64 t282, .int .i64 t283] 25 (0, 0)) Zb10) : g308 ≠ g285)); have n13_ := Abq ((by rw [hg]; exact Nat.ne_of_lt (blk_lt (g := g289) (o := .cells #[.int .i64 t286, .int .i64 t287] 25 (0, 0)) Zb11) : g289 ≠ g308)); have n14_ := Abq ((by rw [hg]; exact Nat.ne_of_gt (blk_lt (g := g289) (o := .cells #[.int .i64 t286, .int .i64 t287] 25 (0, 0)) Zb11) : g308 ≠ g289)); have n15_ := Abq ((by rw [hg]; exact Nat.ne_of_lt (blk_lt (g := g300) (o := .cells #[.int .i64 t297, .int .i64 t298] 25 (0, 0)) Zb12) : g300 ≠ g308)); have n16_ := Abq ((by rw [hg]; exact Nat.ne_of_gt (blk_lt (g := g300) (o := .cells #[.int .i64 t297, .int .i64 t298] 25 (0, 0)) Zb12) : g308 ≠ g300)); have n17_ := Abq ((by rw [hg]; exact Nat.ne_of_lt (blk_lt (g := g304) (o := .cells #[.int .i64 t301, .int .i64 t302] 25 (0, 0)) Zb13) : g304 ≠ g308)); have n18_ := Abq ((by rw [hg]; exact Nat.ne_of_gt (blk_lt (g := g304) (o := .cells #[.int .i64 t301, .int .i64 t302] 25 (0, 0)) Zb13) : g308 ≠ g304)); clear BK281; clear BK285; clear BK289; clear BK300; clear BK304; clear HB; have BK281 := n0_; have BK285 := n1_; have BK289 := n2_; have BK300 := n3_; have BK304 := n4_; have HB := n5_; have BK308 := n6_; have GW308 := n7_; have GE308 := n8_; have NB281_308 := n9_; have NB308_281 := n10_; have NB285_308 := n11_; have NB308_285 := n12_; have NB289_308 := n13_; have NB308_289 := n14_; have NB300_308 := n15_; have NB308_300 := n16_; have NB304_308 := n17_; have NB308_304 := n18_; clear n0_ n1_ n2_ n3_ n4_ n5_ n6_ n7_ n8_ n9_ n10_ n11_ n12_ n13_ n14_ n15_ n16_ n17_ n18_; clear hb hbox hg; have hnb350 := NB308_281.out; have hnc350 := NB281_308.out; have hnb351 := NB308_285.out; have hnc351 := NB285_308.out; have hnb352 := NB308_289.out; have hnc352 := NB289_308.out; have hnb353 := NB308_300.out; have hnc353 := NB300_308.out; have hnb354 := NB308_304.out; have hnc354 := NB304_308.out; have hcz355_0 : w349.cell? ⟨g308, 0, none⟩ = some (.int .i64 0) := (blk_cell BK308.out 0).trans rfl; have hcz355_1 : w349.cell? ⟨g308, 1, none⟩ = some (.int .i64 0) := (blk_cell BK308.out 1).trans rfl; have hfz355_0 := blk_frozen BK308.out 0; have hfz355_1 := blk_frozen BK308.out 1))
           (try simp only [Act.put, y1b, y2b, y3b])
           go_cut [196] (fun v196 wc => ∃ (kq : Nat) (x196_346 : Bool), v196 = .bool x196_346 ∧ Aside0 (laws_FnBoldPlay.j4 kq t294 t296 x196_346 = some r) ∧ Aside0 (kq ≤ kj318) ∧ Aside0 (wc.heap[g281]? = some (.cells #[.int .i64 t279, .int .i64 t280] 25 (0, 0))) ∧ Aside0 (wc.heap[g285]? = some (.cells #[.int .i64 t282, .int .i64 t283] 25 (0, 0))) ∧ Aside0 (wc.heap[g289]? = some (.cells #[.int .i64 t286, .int .i64 t287] 25 (0, 0))) ∧ Aside0 (wc.heap[g300]? = some (.cells #[.int .i64 t297, .int .i64 t298] 25 (0, 0))) ∧ Aside0 (wc.heap[g304]? = some (.cells #[.int .i64 t301, .int .i64 t302] 25 (0, 0))) ∧ Aside0 (wc.heap[g308]? = some (.cells #[.int .i64 t305, .int .i64 t306] 25 (0, 0))) ∧ Aside0 (Below w.heap.size w wc))
           case first => as_aux_lemma =>
            have H := HC347.out
            clear HC347
            by_cases c356 : t307 = true
            ·
             subst c356
             have H1 : (if (!(t305 == t297) || (!(t306 == t298))) = true then (laws_FnBoldPlay.j4 kj318 t294 t296 true) else (laws_FnBoldPlay.j4 kj318 t294 t296 (decide (t297 < 1)))) = some r := by rw [if_pos rfl] at H; exact H
             clear H
             have H := H1
             clear H1
             by_cases c357 : (!(t305 == t297) || (!(t306 == t298))) = true
             ·
              rw [if_pos c357] at H
              have c357b0 : (!(t305 == t297) || (!(t306 == t298))) = true := c357
              clear c357
              (first | rw [c357b0] | (simp only [i64_w, i32_w]; rw [c357b0]) | skip)
              have H' := Abq H
              clear H
              have hnb358 := NB308_281.out
              have hnc358 := NB281_308.out
              have hnb359 := NB308_285.out
              have hnc359 := NB285_308.out
              have hnb360 := NB308_289.out
              have hnc360 := NB289_308.out
              have hnb361 := NB308_300.out
              have hnc361 := NB300_308.out
              have hnb362 := NB308_304.out
              have hnc362 := NB304_308.out
              have hcz363_0 : w349.cell? ⟨g308, 0, none⟩ = some (.int .i64 0) := (blk_cell BK308.out 0).trans rfl
              have hcz363_1 : w349.cell? ⟨g308, 1, none⟩ = some (.int .i64 0) := (blk_cell BK308.out 1).trans rfl
              have hfz363_0 := blk_frozen BK308.out 0
              have hfz363_1 := blk_frozen BK308.out 1
              have hnb364 := NB300_281.out
              have hnc364 := NB281_300.out
              have hnb365 := NB300_285.out
              have hnc365 := NB285_300.out
              have hnb366 := NB300_289.out
              have hnc366 := NB289_300.out
              have hnb367 := NB300_304.out
              have hnc367 := NB304_300.out
              have hcz368_0 : w349.cell? ⟨g300, 0, none⟩ = some (.int .i64 t297) := (blk_cell BK300.out 0).trans rfl
              have hcz368_1 : w349.cell? ⟨g300, 1, none⟩ = some (.int .i64 t298) := (blk_cell BK300.out 1).trans rfl
              have hfz368_0 := blk_frozen BK300.out 0
              have hfz368_1 := blk_frozen BK300.out 1
              as_aux_lemma =>
               go_wp2
               go_meet
               case rel => exact ⟨_, (true), Zb15, H', ⟨by have := HJ7.out; have := HJ28.out; have := HJ318.out; first | omega | exact Nat.le_refl _⟩, ⟨by (with_reducible repeat (first | refine blk_drewN ?_ _ | refine blk_drew ?_ | refine blk_alloc ?_ _)); refine blk_far ?_ NB281_308.out _; (with_reducible repeat (first | refine blk_drewN ?_ _ | refine blk_drew ?_ | refine blk_alloc ?_ _)); refine blk_far ?_ NB281_308.out _; (with_reducible repeat (first | refine blk_drewN ?_ _ | refine blk_drew ?_ | refine blk_alloc ?_ _)); exact BK281.out⟩, ⟨by (with_reducible repeat (first | refine blk_drewN ?_ _ | refine blk_drew ?_ | refine blk_alloc ?_ _)); refine blk_far ?_ NB285_308.out _; (with_reducible repeat (first | refine blk_drewN ?_ _ | refine blk_drew ?_ | refine blk_alloc ?_ _)); refine blk_far ?_ NB285_308.out _; (with_reducible repeat (first | refine blk_drewN ?_ _ | refine blk_drew ?_ | refine blk_alloc ?_ _)); exact BK285.out⟩, ⟨by (with_reducible repeat (first | refine blk_drewN ?_ _ | refine blk_drew ?_ | refine blk_alloc ?_ _)); refine blk_far ?_ NB289_308.out _; (with_reducible repeat (first | refine blk_drewN ?_ _ | refine blk_drew ?_ | refine blk_alloc ?_ _)); refine blk_far ?_ NB289_308.out _; (with_reducible repeat (first | refine blk_drewN ?_ _ | refine blk_drew ?_ | refine blk_alloc ?_ _)); exact BK289.out⟩, ⟨by (with_reducible repeat (first | refine blk_drewN ?_ _ | refine blk_drew ?_ | refine blk_alloc ?_ _)); refine blk_far ?_ NB300_308.out _; (with_reducible repeat (first | refine blk_drewN ?_ _ | refine blk_drew ?_ | refine blk_alloc ?_ _)); refine blk_far ?_ NB300_308.out _; (with_reducible repeat (first | refine blk_drewN ?_ _ | refine blk_drew ?_ | refine blk_alloc ?_ _)); exact BK300.out⟩, ⟨by (with_reducible repeat (first | refine blk_drewN ?_ _ | refine blk_drew ?_ | refine blk_alloc ?_ _)); refine blk_far ?_ NB304_308.out _; (with_reducible repeat (first | refine blk_drewN ?_ _ | refine blk_drew ?_ | refine blk_alloc ?_ _)); refine blk_far ?_ NB304_308.out _; (with_reducible repeat (first | refine blk_drewN ?_ _ | refine blk_drew ?_ | refine blk_alloc ?_ _)); exact BK304.out⟩, ⟨by (with_reducible repeat (first | refine blk_drewN ?_ _ | refine blk_drew ?_ | refine blk_alloc ?_ _)); refine blk_put (cs := #[.int .i64 t305, .int .i64 0]) ?_ 1 _ rfl; (with_reducible repeat (first | refine blk_drewN ?_ _ | refine blk_drew ?_ | refine blk_alloc ?_ _)); refine blk_put (cs := #[.int .i64 0, .int .i64 0]) ?_ 0 _ rfl; (with_reducible repeat (first | refine blk_drewN ?_ _ | refine blk_drew ?_ | refine blk_alloc ?_ _)); exact BK308.out⟩, ⟨by repeat (first | (with_reducible first | exact HB.out | apply below_alloc | apply pw_below_drewN | apply below_drew1 | refine below_set ?_ GE281.out | refine below_set ?_ GE285.out | refine below_set ?_ GE289.out | refine below_set ?_ GE300.out | refine below_set ?_ GE304.out | refine below_set ?_ GE308.out) | exact HB.out)⟩⟩
             ·
              rw [if_neg c357] at H
              have c357b0 : (!(t305 == t297) || (!(t306 == t298))) = false := by simpa using c357
              clear c357
              (first | rw [c357b0] | (simp only [i64_w, i32_w]; rw [c357b0]) | skip)
              have H' := Abq H
              clear H
              have hnb369 := NB308_281.out
              have hnc369 := NB281_308.out
              have hnb370 := NB308_285.out
              have hnc370 := NB285_308.out
              have hnb371 := NB308_289.out
              have hnc371 := NB289_308.out
              have hnb372 := NB308_300.out
              have hnc372 := NB300_308.out
              have hnb373 := NB308_304.out
              have hnc373 := NB304_308.out
              have hcz374_0 : w349.cell? ⟨g308, 0, none⟩ = some (.int .i64 0) := (blk_cell BK308.out 0).trans rfl
              have hcz374_1 : w349.cell? ⟨g308, 1, none⟩ = some (.int .i64 0) := (blk_cell BK308.out 1).trans rfl
              have hfz374_0 := blk_frozen BK308.out 0
              have hfz374_1 := blk_frozen BK308.out 1
              have hnb375 := NB300_281.out
              have hnc375 := NB281_300.out
              have hnb376 := NB300_285.out
              have hnc376 := NB285_300.out
              have hnb377 := NB300_289.out
              have hnc377 := NB289_300.out
              have hnb378 := NB300_304.out
              have hnc378 := NB304_300.out
              have hcz379_0 : w349.cell? ⟨g300, 0, none⟩ = some (.int .i64 t297) := (blk_cell BK300.out 0).trans rfl
              have hcz379_1 : w349.cell? ⟨g300, 1, none⟩ = some (.int .i64 t298) := (blk_cell BK300.out 1).trans rfl
              have hfz379_0 := blk_frozen BK300.out 0
              have hfz379_1 := blk_frozen BK300.out 1
              as_aux_lemma =>
               go_wp2
               go_meet
               case rel => exact ⟨_, (decide (t297 < 1)), Zb15, H', ⟨by have := HJ7.out; have := HJ28.out; have := HJ318.out; first | omega | exact Nat.le_refl _⟩, ⟨by (with_reducible repeat (first | refine blk_drewN ?_ _ | refine blk_drew ?_ | refine blk_alloc ?_ _)); refine blk_far ?_ NB281_308.out _; (with_reducible repeat (first | refine blk_drewN ?_ _ | refine blk_drew ?_ | refine blk_alloc ?_ _)); refine blk_far ?_ NB281_308.out _; (with_reducible repeat (first | refine blk_drewN ?_ _ | refine blk_drew ?_ | refine blk_alloc ?_ _)); exact BK281.out⟩, ⟨by (with_reducible repeat (first | refine blk_drewN ?_ _ | refine blk_drew ?_ | refine blk_alloc ?_ _)); refine blk_far ?_ NB285_308.out _; (with_reducible repeat (first | refine blk_drewN ?_ _ | refine blk_drew ?_ | refine blk_alloc ?_ _)); refine blk_far ?_ NB285_308.out _; (with_reducible repeat (first | refine blk_drewN ?_ _ | refine blk_drew ?_ | refine blk_alloc ?_ _)); exact BK285.out⟩, ⟨by (with_reducible repeat (first | refine blk_drewN ?_ _ | refine blk_drew ?_ | refine blk_alloc ?_ _)); refine blk_far ?_ NB289_308.out _; (with_reducible repeat (first | refine blk_drewN ?_ _ | refine blk_drew ?_ | refine blk_alloc ?_ _)); refine blk_far ?_ NB289_308.out _; (with_reducible repeat (first | refine blk_drewN ?_ _ | refine blk_drew ?_ | refine blk_alloc ?_ _)); exact BK289.out⟩, ⟨by (with_reducible repeat (first | refine blk_drewN ?_ _ | refine blk_drew ?_ | refine blk_alloc ?_ _)); refine blk_far ?_ NB300_308.out _; (with_reducible repeat (first | refine blk_drewN ?_ _ | refine blk_drew ?_ | refine blk_alloc ?_ _)); refine blk_far ?_ NB300_308.out _; (with_reducible repeat (first | refine blk_drewN ?_ _ | refine blk_drew ?_ | refine blk_alloc ?_ _)); exact BK300.out⟩, ⟨by (with_reducible repeat (first | refine blk_drewN ?_ _ | refine blk_drew ?_ | refine blk_alloc ?_ _)); refine blk_far ?_ NB304_308.out _; (with_reducible repeat (first | refine blk_drewN ?_ _ | refine blk_drew ?_ | refine blk_alloc ?_ _)); refine blk_far ?_ NB304_308.out _; (with_reducible repeat (first | refine blk_drewN ?_ _ | refine blk_drew ?_ | refine blk_alloc ?_ _)); exact BK304.out⟩, ⟨by (with_reducible repeat (first | refine blk_drewN ?_ _ | refine blk_drew ?_ | refine blk_alloc ?_ _)); refine blk_put (cs := #[.int .i64 t305, .int .i64 0]) ?_ 1 _ rfl; (with_reducible repeat (first | refine blk_drewN ?_ _ | refine blk_drew ?_ | refine blk_alloc ?_ _)); refine blk_put (cs := #[.int .i64 0, .int .i64 0]) ?_ 0 _ rfl; (with_reducible repeat (first | refine blk_drewN ?_ _ | refine blk_drew ?_ | refine blk_alloc ?_ _)); exact BK308.out⟩, ⟨by repeat (first | (with_reducible first | exact HB.out | apply below_alloc | apply pw_below_drewN | apply below_drew1 | refine below_set ?_ GE281.out | refine below_set ?_ GE285.out | refine below_set ?_ GE289.out | refine below_set ?_ GE300.out | refine below_set ?_ GE304.out | refine below_set ?_ GE308.out) | exact HB.out)⟩⟩
            ·
             replace c356 := Bool.eq_false_iff.mpr c356
             subst c356
             have H1 : (laws_FnBoldPlay.j4 kj318 t294 t296 true) = some r := by rw [if_neg (show ¬ (false = true) by decide)] at H; exact H
             clear H
             have H := H1
             clear H1
             exact absurd H (by generalize kj318 = q_; cases q_ <;> simp [laws_FnBoldPlay.j4])
           case rest => as_aux_lemma =>
            clear HC347
            try clear c1
            try clear c2
            try clear p2
            try clear c3
            try clear p6
            try clear c10
            try clear c11
            try clear c12
            try clear c14
            try clear c16
            try clear c17
            try clear c18
            try clear c19
            try clear c20
            try clear c21
            try clear c22
            try clear c23
            try clear c24
            try clear c25
            try clear c26
            try clear c27
            try clear c28
            try clear c29
            try clear c30
            try clear c31
            try clear c32
            try clear c33
            try clear c34
            try clear c35
            try clear c36
            try clear c37
            try clear p64
            try clear c141
            try clear c141b0
            try clear c143
            try clear c143b0
            try clear c143b1
            try clear c145
            try clear c145b0
            try clear c145b1
            try clear c167
            try clear c167b0
            try clear c167b1
            try clear c168
            try clear c168b0
            try clear c168b1
            try clear c169
            try clear c170
            try clear c171
            try clear c173
            try clear c174
            try clear c176
            try clear c178
            try clear c179
            try clear c180
            try clear c182
            try clear c183
            try clear c185
            try clear c187
            try clear c187b0
            try clear c187b1
            try clear c188
            try clear c188b0
            try clear c189
            try clear c189b0
            try clear c189b1
            try clear c190
            try clear c190b0
            try clear c190b1
            try clear c191
            try clear c192
            try clear c193
            try clear c195
            try clear c196
            try clear c198
            try clear c200
            try clear c201
            try clear c202
            try clear c204
            try clear c205
            try clear c207
            try clear c209
            try clear c209b0
            try clear c209b1
            try clear c210
            try clear c210b0
            try clear c210b1
            try clear c211
            try clear c212
            try clear c213
            try clear c215
            try clear c216
            try clear c218
            try clear c220
            try clear c221
            try clear c222
            try clear c224
            try clear c225
            try clear c227
            try clear c229
            try clear c229b0
            try clear c230
            try clear c230b0
            try clear c230b1
            try clear c231
            try clear c231b0
            try clear c232
            try clear c232b0
            try clear c232b1
            try clear c233
            try clear c233b0
            try clear c234
            try clear c234b0
            try clear c234b1
            try clear c235
            try clear c235b0
            try clear c235b1
            try clear c236
            try clear c237
            try clear c238
            try clear c240
            try clear c241
            try clear c243
            try clear c245
            try clear c246
            try clear c247
            try clear c249
            try clear c250
            try clear c252
            try clear c254
            try clear c254b0
            try clear c254b1
            try clear c255
            try clear c255b0
            try clear c255b1
            try clear c256
            try clear c257
            try clear c258
            try clear c260
            try clear c261
            try clear c263
            try clear c265
            try clear c266
            try clear c267
            try clear c269
            try clear c270
            try clear c272
            try clear c274
            try clear c274b0
            try clear c274b1
            try clear c275
            try clear c275b0
            try clear c276
            try clear c276b0
            try clear c276b1
            try clear c277
            try clear c277b0
            try clear c277b1
            try clear c278
            try clear c279
            try clear c280
            try clear c282
            try clear c283
            try clear c285
            try clear c287
            try clear c288
            try clear c289
            try clear c291
            try clear c292
            try clear c294
            try clear c296
            try clear c296b0
            try clear c296b1
            try clear c297
            try clear c297b0
            try clear c297b1
            try clear c298
            try clear c299
            try clear c300
            try clear c302
            try clear c303
            try clear c305
            try clear c307
            try clear c308
            try clear c309
            try clear c311
            try clear c312
            try clear c314
            try clear c323
            try clear c324
            try clear c325
            try clear c329
            try clear c330
            try clear c331
            try clear c332
            try clear c334
            try clear c334b0
            try clear c334b1
            try clear c334b2
            try clear c335
            try clear c336
            try clear c337
            try clear c338
            try clear c340
            try clear c341
            try clear c342
            try clear c344
            try clear c345
            try clear c350
            try clear c351
            try clear c352
            try clear c353
            try clear c354
            try clear c356
            try clear c357
            try clear c357b0
            try clear c358
            try clear c359
            try clear c360
            try clear c361
            try clear c362
            try clear c364
            try clear c365
            try clear c366
            try clear c367
            try clear c369
            try clear c370
            try clear c371
            try clear c372
            try clear c373
            try clear c375
            try clear c376
            try clear c377
            try clear c378
            try clear hcz172_0
            try clear hcz172_1
            try clear hcz175_0
            try clear hcz175_1
            try clear hcz177_0
            try clear hcz177_1
            try clear hcz181_0
            try clear hcz181_1
            try clear hcz184_0
            try clear hcz184_1
            try clear hcz186_0
            try clear hcz186_1
            try clear hcz194_0
            try clear hcz194_1
            try clear hcz197_0
            try clear hcz197_1
            try clear hcz199_0
            try clear hcz199_1
            try clear hcz203_0
            try clear hcz203_1
            try clear hcz206_0
            try clear hcz206_1
            try clear hcz208_0
            try clear hcz208_1
            try clear hcz214_0
            try clear hcz214_1
            try clear hcz217_0
            try clear hcz217_1
            try clear hcz219_0
            try clear hcz219_1
            try clear hcz223_0
            try clear hcz223_1
            try clear hcz226_0
            try clear hcz226_1
            try clear hcz228_0
            try clear hcz228_1
            try clear hcz239_0
            try clear hcz239_1
            try clear hcz242_0
            try clear hcz242_1
            try clear hcz244_0
            try clear hcz244_1
            try clear hcz248_0
            try clear hcz248_1
            try clear hcz251_0
            try clear hcz251_1
            try clear hcz253_0
            try clear hcz253_1
            try clear hcz259_0
            try clear hcz259_1
            try clear hcz262_0
            try clear hcz262_1
            try clear hcz264_0
            try clear hcz264_1
            try clear hcz268_0
            try clear hcz268_1
            try clear hcz271_0
            try clear hcz271_1
            try clear hcz273_0
            try clear hcz273_1
            try clear hcz281_0
            try clear hcz281_1
            try clear hcz284_0
            try clear hcz284_1
            try clear hcz286_0
            try clear hcz286_1
            try clear hcz290_0
            try clear hcz290_1
            try clear hcz293_0
            try clear hcz293_1
            try clear hcz295_0
            try clear hcz295_1
            try clear hcz301_0
            try clear hcz301_1
            try clear hcz304_0
            try clear hcz304_1
            try clear hcz306_0
            try clear hcz306_1
            try clear hcz310_0
            try clear hcz310_1
            try clear hcz313_0
            try clear hcz313_1
            try clear hcz315_0
            try clear hcz315_1
            try clear hcz326_0
            try clear hcz326_1
            try clear hcz333_0
            try clear hcz333_1
            try clear hcz339_0
            try clear hcz339_1
            try clear hcz343_0
            try clear hcz343_1
            try clear hcz355_0
            try clear hcz355_1
            try clear hcz363_0
            try clear hcz363_1
            try clear hcz368_0
            try clear hcz368_1
            try clear hcz374_0
            try clear hcz374_1
            try clear hcz379_0
            try clear hcz379_1
            try clear hfz166_0
            try clear hfz166_1
            try clear hfz172_0
            try clear hfz172_1
            try clear hfz175_0
            try clear hfz175_1
            try clear hfz177_0
            try clear hfz177_1
            try clear hfz181_0
            try clear hfz181_1
            try clear hfz184_0
            try clear hfz184_1
            try clear hfz186_0
            try clear hfz186_1
            try clear hfz194_0
            try clear hfz194_1
            try clear hfz197_0
            try clear hfz197_1
            try clear hfz199_0
            try clear hfz199_1
            try clear hfz203_0
            try clear hfz203_1
            try clear hfz206_0
            try clear hfz206_1
            try clear hfz208_0
            try clear hfz208_1
            try clear hfz214_0
            try clear hfz214_1
            try clear hfz217_0
            try clear hfz217_1
            try clear hfz219_0
            try clear hfz219_1
            try clear hfz223_0
            try clear hfz223_1
            try clear hfz226_0
            try clear hfz226_1
            try clear hfz228_0
            try clear hfz228_1
            try clear hfz239_0
            try clear hfz239_1
            try clear hfz242_0
            try clear hfz242_1
            try clear hfz244_0
            try clear hfz244_1
            try clear hfz248_0
            try clear hfz248_1
            try clear hfz251_0
            try clear hfz251_1
            try clear hfz253_0
            try clear hfz253_1
            try clear hfz259_0
            try clear hfz259_1
            try clear hfz262_0
            try clear hfz262_1
            try clear hfz264_0
            try clear hfz264_1
            try clear hfz268_0
            try clear hfz268_1
            try clear hfz271_0
            try clear hfz271_1
            try clear hfz273_0
            try clear hfz273_1
            try clear hfz281_0
            try clear hfz281_1
            try clear hfz284_0
            try clear hfz284_1
            try clear hfz286_0
            try clear hfz286_1
            try clear hfz290_0
            try clear hfz290_1
            try clear hfz293_0
            try clear hfz293_1
            try clear hfz295_0
            try clear hfz295_1
            try clear hfz301_0
            try clear hfz301_1
            try clear hfz304_0
            try clear hfz304_1
            try clear hfz306_0
            try clear hfz306_1
            try clear hfz310_0
            try clear hfz310_1
            try clear hfz313_0
            try clear hfz313_1
            try clear hfz315_0
            try clear hfz315_1
            try clear hfz326_0
            try clear hfz326_1
            try clear hfz333_0
            try clear hfz333_1
            try clear hfz339_0
            try clear hfz339_1
            try clear hfz343_0
            try clear hfz343_1
            try clear hfz355_0
            try clear hfz355_1
            try clear hfz363_0
            try clear hfz363_1
            try clear hfz368_0
            try clear hfz368_1
            try clear hfz374_0
            try clear hfz374_1
            try clear hfz379_0
            try clear hfz379_1
            try clear p2
            try clear p6
            try clear p64
            obtain ⟨kq, x196_346, rfl, HA, HJ346, BK281, BK285, BK289, BK300, BK304, BK308, HB⟩ := hcut
            cases kq with
            | zero => exact absurd HA.out (by simp [laws_FnBoldPlay.j4])
            | succ kj346 =>
             have H := HA.out
             clear HA
             simp only [laws_FnBoldPlay.j4] at H
             by_cases c380 : x196_346 = true
             ·
              subst c380
              have H1 : (none) = some r := by rw [if_pos rfl] at H; exact H
              clear H
              have H := H1
              clear H1
              exact absurd H (by simp)
             ·
              replace c380 := Bool.eq_false_iff.mpr c380
              subst c380
              have H1 : (laws_FnBoldPlay.l0 kj346 t294 t296 0 1) = some r := by rw [if_neg (show ¬ (false = true) by decide)] at H; exact H
              clear H
              have H := H1
              clear H1
              have H' := Abq H
              clear H
              go_wp2
              go_loopg [23, 24] kj346 (fun kq v23 v24 w' => ∃ (x23_5 : Int) (x24_5 : Int), v23 = .int .i64 x23_5 ∧ v24 = .int .i64 x24_5 ∧ Aside0 (laws_FnBoldPlay.l0 kq t294 t296 x23_5 x24_5 = some r) ∧ Aside0 (kq ≤ kj346) ∧ Aside0 (w'.heap[g281]? = some (.cells #[.int .i64 t279, .int .i64 t280] 25 (0, 0))) ∧ Aside0 (w'.heap[g285]? = some (.cells #[.int .i64 t282, .int .i64 t283] 25 (0, 0))) ∧ Aside0 (w'.heap[g289]? = some (.cells #[.int .i64 t286, .int .i64 t287] 25 (0, 0))) ∧ Aside0 (w'.heap[g300]? = some (.cells #[.int .i64 t297, .int .i64 t298] 25 (0, 0))) ∧ Aside0 (w'.heap[g304]? = some (.cells #[.int .i64 t301, .int .i64 t302] 25 (0, 0))) ∧ Aside0 (w'.heap[g308]? = some (.cells #[.int .i64 t305, .int .i64 t306] 25 (0, 0))) ∧ Aside0 (Below w.heap.size w w'))
              case atStart => exact ⟨(0), (1), Zb15, Zb15, H', ⟨Nat.le_refl _⟩, ⟨by (with_reducible repeat (first | refine blk_drewN ?_ _ | refine blk_drew ?_ | refine blk_alloc ?_ _)); exact BK281.out⟩, ⟨by (with_reducible repeat (first | refine blk_drewN ?_ _ | refine blk_drew ?_ | refine blk_alloc ?_ _)); exact BK285.out⟩, ⟨by (with_reducible repeat (first | refine blk_drewN ?_ _ | refine blk_drew ?_ | refine blk_alloc ?_ _)); exact BK289.out⟩, ⟨by (with_reducible repeat (first | refine blk_drewN ?_ _ | refine blk_drew ?_ | refine blk_alloc ?_ _)); exact BK300.out⟩, ⟨by (with_reducible repeat (first | refine blk_drewN ?_ _ | refine blk_drew ?_ | refine blk_alloc ?_ _)); exact BK304.out⟩, ⟨by (with_reducible repeat (first | refine blk_drewN ?_ _ | refine blk_drew ?_ | refine blk_alloc ?_ _)); exact BK308.out⟩, ⟨by repeat (first | (with_reducible first | exact HB.out | apply below_alloc | apply pw_below_drewN | apply below_drew1 | refine below_set ?_ GE281.out | refine below_set ?_ GE285.out | refine below_set ?_ GE289.out | refine below_set ?_ GE300.out | refine below_set ?_ GE304.out | refine below_set ?_ GE308.out) | exact HB.out)⟩⟩
              case round =>
               clear H'
               try clear c1
               try clear c2
               try clear p2
               try clear c3
               try clear p6
               try clear c10
               try clear c11
               try clear c12
               try clear c14
               try clear c16
               try clear c17
               try clear c18
               try clear c19
               try clear c20
               try clear c21
               try clear c22
               try clear c23
               try clear c24
               try clear c25
               try clear c26
               try clear c27
               try clear c28
               try clear c29
               try clear c30
               try clear c31
               try clear c32
               try clear c33
               try clear c34
               try clear c35
               try clear c36
               try clear c37
               try clear c38
               try clear p64
               try clear c141
               try clear c141b0
               try clear c143
               try clear c143b0
               try clear c143b1
               try clear c145
               try clear c145b0
               try clear c145b1
               try clear c167
               try clear c167b0
               try clear c167b1
               try clear c168
               try clear c168b0
               try clear c168b1
               try clear c169
               try clear c170
               try clear c171
               try clear c173
               try clear c174
               try clear c176
               try clear c178
               try clear c179
               try clear c180
               try clear c182
               try clear c183
               try clear c185
               try clear c187
               try clear c187b0
               try clear c187b1
               try clear c188
               try clear c188b0
               try clear c189
               try clear c189b0
               try clear c189b1
               try clear c190
               try clear c190b0
               try clear c190b1
               try clear c191
               try clear c192
               try clear c193
               try clear c195
               try clear c196
               try clear c198
               try clear c200
               try clear c201
               try clear c202
               try clear c204
               try clear c205
               try clear c207
               try clear c209
               try clear c209b0
               try clear c209b1
               try clear c210
               try clear c210b0
               try clear c210b1
               try clear c211
               try clear c212
               try clear c213
               try clear c215
               try clear c216
               try clear c218
               try clear c220
               try clear c221
               try clear c222
               try clear c224
               try clear c225
               try clear c227
               try clear c229
               try clear c229b0
               try clear c230
               try clear c230b0
               try clear c230b1
               try clear c231
               try clear c231b0
               try clear c232
               try clear c232b0
               try clear c232b1
               try clear c233
               try clear c233b0
               try clear c234
               try clear c234b0
               try clear c234b1
               try clear c235
               try clear c235b0
               try clear c235b1
               try clear c236
               try clear c237
               try clear c238
               try clear c240
               try clear c241
               try clear c243
               try clear c245
               try clear c246
               try clear c247
               try clear c249
               try clear c250
               try clear c252
               try clear c254
               try clear c254b0
               try clear c254b1
               try clear c255
               try clear c255b0
               try clear c255b1
               try clear c256
               try clear c257
               try clear c258
               try clear c260
               try clear c261
               try clear c263
               try clear c265
               try clear c266
               try clear c267
               try clear c269
               try clear c270
               try clear c272
               try clear c274
               try clear c274b0
               try clear c274b1
               try clear c275
               try clear c275b0
               try clear c276
               try clear c276b0
               try clear c276b1
               try clear c277
               try clear c277b0
               try clear c277b1
               try clear c278
               try clear c279
               try clear c280
               try clear c282
               try clear c283
               try clear c285
               try clear c287
               try clear c288
               try clear c289
               try clear c291
               try clear c292
               try clear c294
               try clear c296
               try clear c296b0
               try clear c296b1
               try clear c297
               try clear c297b0
               try clear c297b1
               try clear c298
               try clear c299
               try clear c300
               try clear c302
               try clear c303
               try clear c305
               try clear c307
               try clear c308
               try clear c309
               try clear c311
               try clear c312
               try clear c314
               try clear c323
               try clear c324
               try clear c325
               try clear c329
               try clear c330
               try clear c331
               try clear c332
               try clear c334
               try clear c334b0
               try clear c334b1
               try clear c334b2
               try clear c335
               try clear c336
               try clear c337
               try clear c338
               try clear c340
               try clear c341
               try clear c342
               try clear c344
               try clear c345
               try clear c350
               try clear c351
               try clear c352
               try clear c353
               try clear c354
               try clear c356
               try clear c357
               try clear c357b0
               try clear c358
               try clear c359
               try clear c360
               try clear c361
               try clear c362
               try clear c364
               try clear c365
               try clear c366
               try clear c367
               try clear c369
               try clear c370
               try clear c371
               try clear c372
               try clear c373
               try clear c375
               try clear c376
               try clear c377
               try clear c378
               try clear c380
               try clear hcz172_0
               try clear hcz172_1
               try clear hcz175_0
               try clear hcz175_1
               try clear hcz177_0
               try clear hcz177_1
               try clear hcz181_0
               try clear hcz181_1
               try clear hcz184_0
               try clear hcz184_1
               try clear hcz186_0
               try clear hcz186_1
               try clear hcz194_0
               try clear hcz194_1
               try clear hcz197_0
               try clear hcz197_1
               try clear hcz199_0
               try clear hcz199_1
               try clear hcz203_0
               try clear hcz203_1
               try clear hcz206_0
               try clear hcz206_1
               try clear hcz208_0
               try clear hcz208_1
               try clear hcz214_0
               try clear hcz214_1
               try clear hcz217_0
               try clear hcz217_1
               try clear hcz219_0
               try clear hcz219_1
               try clear hcz223_0
               try clear hcz223_1
               try clear hcz226_0
               try clear hcz226_1
               try clear hcz228_0
               try clear hcz228_1
               try clear hcz239_0
               try clear hcz239_1
               try clear hcz242_0
               try clear hcz242_1
               try clear hcz244_0
               try clear hcz244_1
               try clear hcz248_0
               try clear hcz248_1
               try clear hcz251_0
               try clear hcz251_1
               try clear hcz253_0
               try clear hcz253_1
               try clear hcz259_0
               try clear hcz259_1
               try clear hcz262_0
               try clear hcz262_1
               try clear hcz264_0
               try clear hcz264_1
               try clear hcz268_0
               try clear hcz268_1
               try clear hcz271_0
               try clear hcz271_1
               try clear hcz273_0
               try clear hcz273_1
               try clear hcz281_0
               try clear hcz281_1
               try clear hcz284_0
               try clear hcz284_1
               try clear hcz286_0
               try clear hcz286_1
               try clear hcz290_0
               try clear hcz290_1
               try clear hcz293_0
               try clear hcz293_1
               try clear hcz295_0
               try clear hcz295_1
               try clear hcz301_0
               try clear hcz301_1
               try clear hcz304_0
               try clear hcz304_1
               try clear hcz306_0
               try clear hcz306_1
               try clear hcz310_0
               try clear hcz310_1
               try clear hcz313_0
               try clear hcz313_1
               try clear hcz315_0
               try clear hcz315_1
               try clear hcz326_0
               try clear hcz326_1
               try clear hcz333_0
               try clear hcz333_1
               try clear hcz339_0
               try clear hcz339_1
               try clear hcz343_0
               try clear hcz343_1
               try clear hcz355_0
               try clear hcz355_1
               try clear hcz363_0
               try clear hcz363_1
               try clear hcz368_0
               try clear hcz368_1
               try clear hcz374_0
               try clear hcz374_1
               try clear hcz379_0
               try clear hcz379_1
               try clear hfz166_0
               try clear hfz166_1
               try clear hfz172_0
               try clear hfz172_1
               try clear hfz175_0
               try clear hfz175_1
               try clear hfz177_0
               try clear hfz177_1
               try clear hfz181_0
               try clear hfz181_1
               try clear hfz184_0
               try clear hfz184_1
               try clear hfz186_0
               try clear hfz186_1
               try clear hfz194_0
               try clear hfz194_1
               try clear hfz197_0
               try clear hfz197_1
               try clear hfz199_0
               try clear hfz199_1
               try clear hfz203_0
               try clear hfz203_1
               try clear hfz206_0
               try clear hfz206_1
               try clear hfz208_0
               try clear hfz208_1
               try clear hfz214_0
               try clear hfz214_1
               try clear hfz217_0
               try clear hfz217_1
               try clear hfz219_0
               try clear hfz219_1
               try clear hfz223_0
               try clear hfz223_1
               try clear hfz226_0
               try clear hfz226_1
               try clear hfz228_0
               try clear hfz228_1
               try clear hfz239_0
               try clear hfz239_1
               try clear hfz242_0
               try clear hfz242_1
               try clear hfz244_0
               try clear hfz244_1
               try clear hfz248_0
               try clear hfz248_1
               try clear hfz251_0
               try clear hfz251_1
               try clear hfz253_0
               try clear hfz253_1
               try clear hfz259_0
               try clear hfz259_1
               try clear hfz262_0
               try clear hfz262_1
               try clear hfz264_0
               try clear hfz264_1
               try clear hfz268_0
               try clear hfz268_1
               try clear hfz271_0
               try clear hfz271_1
               try clear hfz273_0
               try clear hfz273_1
               try clear hfz281_0
               try clear hfz281_1
               try clear hfz284_0
               try clear hfz284_1
               try clear hfz286_0
               try clear hfz286_1
               try clear hfz290_0
               try clear hfz290_1
               try clear hfz293_0
               try clear hfz293_1
               try clear hfz295_0
               try clear hfz295_1
               try clear hfz301_0
               try clear hfz301_1
               try clear hfz304_0
               try clear hfz304_1
               try clear hfz306_0
               try clear hfz306_1
               try clear hfz310_0
               try clear hfz310_1
               try clear hfz313_0
               try clear hfz313_1
               try clear hfz315_0
               try clear hfz315_1
               try clear hfz326_0
               try clear hfz326_1
               try clear hfz333_0
               try clear hfz333_1
               try clear hfz339_0
               try clear hfz339_1
               try clear hfz343_0
               try clear hfz343_1
               try clear hfz355_0
               try clear hfz355_1
               try clear hfz363_0
               try clear hfz363_1
               try clear hfz368_0
               try clear hfz368_1
               try clear hfz374_0
               try clear hfz374_1
               try clear hfz379_0
               try clear hfz379_1
               try clear p2
               try clear p6
               try clear p64
               obtain ⟨x23_5, x24_5, rfl, rfl, HA, HK5, BK281, BK285, BK289, BK300, BK304, BK308, HB⟩ := hrel
               cases gk with
               | zero => exact absurd HA.out (by simp [laws_FnBoldPlay.l0])
               | succ k5 =>
                have H := HA.out
                clear HA
                simp only [laws_FnBoldPlay.l0] at H
                by_cases c381 : x24_5 < t296
                ·
                 rw [if_pos c381] at H
                 have c381b0 : decide (x24_5 < t296) = true := decide_eq_true c381
                 clear c381
                 replace H := Option.bind_eq_some_iff.mp H
                 obtain ⟨⟨t313, t314, t315⟩, A3820, H⟩ := H
                 replace H : (if t315 = true then ((laws_yTimes.f t313 t314 t296).bind fun t317 => (if t317 < 0 then (none) else ((laws_yTimes.f t313 t314 t296).bind fun t318 => (laws_FnBoldPlay.l0 k5 t294 t296 (wrap64 (x23_5 + t318)) (wrap64 (x24_5 + 1)))))) else (none)) = some r := H
                 have A382 := Abq A3820
                 clear A3820
                 by_cases c383 : t315 = true
                 ·
                  subst c383
                  have H1 : ((laws_yTimes.f t313 t314 t296).bind fun t317 => (if t317 < 0 then (none) else ((laws_yTimes.f t313 t314 t296).bind fun t318 => (laws_FnBoldPlay.l0 k5 t294 t296 (wrap64 (x23_5 + t318)) (wrap64 (x24_5 + 1)))))) = some r := by rw [if_pos rfl] at H; exact H
                  clear H
                  have H := H1
                  clear H1
                  replace H := Option.bind_eq_some_iff.mp H
                  obtain ⟨t317, A3840, H⟩ := H
                  replace H : (if t317 < 0 then (none) else ((laws_yTimes.f t313 t314 t296).bind fun t318 => (laws_FnBoldPlay.l0 k5 t294 t296 (wrap64 (x23_5 + t318)) (wrap64 (x24_5 + 1))))) = some r := H
                  have A384 := Abq A3840
                  clear A3840
                  by_cases c385 : t317 < 0
                  ·
                   rw [if_pos c385] at H
                   exact absurd H (by simp)
                  ·
                   rw [if_neg c385] at H
                   have c385b0 : decide (t317 < 0) = false := decide_eq_false c385
                   clear c385
                   replace H := Option.bind_eq_some_iff.mp H
                   obtain ⟨t318, A3860, H⟩ := H
                   replace H : (laws_FnBoldPlay.l0 k5 t294 t296 (wrap64 (x23_5 + t318)) (wrap64 (x24_5 + 1))) = some r := H
                   have A386 := Abq A3860
                   clear A3860
                   have H' := Abq H
                   clear H
                   go_wp2_with (first | ((with_reducible refine gate_callee (f := 11) rfl ?_); refine goesL_ (some 206) rfl rfl Try.func11 (by kernel_rfl) rfl #[.int .i64 t294, .int .i64 x24_5, .int .i64 t296] rfl Zb7 ?_; (with_reducible refine (impl_FairVisits.calls k5 t294 x24_5 t296 t313 t314 true _ A382.out).mono ?_); rintro e w387 ⟨rfl, hb⟩; refine ⟨_, rfl, ?_⟩; have n0_ := Abq (blk_below (g := g281) (o := .cells #[.int .i64 t279, .int .i64 t280] 25 (0, 0)) Zb9 hb); have n1_ := Abq (blk_below (g := g285) (o := .cells #[.int .i64 t282, .int .i64 t283] 25 (0, 0)) Zb10 hb); have n2_ := Abq (blk_below (g := g289) (o := .cells #[.int .i64 t286, .int .i64 t287] 25 (0, 0)) Zb11 hb); have n3_ := Abq (blk_below (g := g300) (o := .cells #[.int .i64 t297, .int .i64 t298] 25 (0, 0)) Zb12 hb); have n4_ := Abq (blk_below (g := g304) (o := .cells #[.int .i64 t301, .int .i64 t302] 25 (0, 0)) Zb13 hb); have n5_ := Abq (blk_below (g := g308) (o := .cells #[.int .i64 t305, .int .i64 t306] 25 (0, 0)) Zb14 hb); have n6_ := Abq (below_step Zb1 hb); clear BK281; clear BK285; clear BK289; clear BK300; clear BK304; clear BK308; clear HB; have BK281 := n0_; have BK285 := n1_; have BK289 := n2_; have BK300 := n3_; have BK304 := n4_; have BK308 := n5_; have HB := n6_; clear n0_ n1_ n2_ n3_ n4_ n5_ n6_; (try clear hb); (try clear hb2); (try clear hk); (try clear hi)) | ((with_reducible refine gate_dst (N := 25) rfl ?_); refine box_event ?hg (N := 25) ?hd (cs := #[.int .i64 0, .int .i64 0]) (t := 25) ?hr ?_; (case hd => rfl); (case hg => rfl); (case hr => first | (go_simp; done) | (go_simp; rfl)); intro g316 hg w388 hbox hb; have n0_ := Abq (blk_below (g := g281) (o := .cells #[.int .i64 t279, .int .i64 t280] 25 (0, 0)) Zb9 hb); have n1_ := Abq (blk_below (g := g285) (o := .cells #[.int .i64 t282, .int .i64 t283] 25 (0, 0)) Zb10 hb); have n2_ := Abq (blk_below (g := g289) (o := .cells #[.int .i64 t286, .int .i64 t287] 25 (0, 0)) Zb11 hb); have n3_ := Abq (blk_below (g := g300) (o := .cells #[.int .i64 t297, .int .i64 t298] 25 (0, 0)) Zb12 hb); have n4_ := Abq (blk_below (g := g304) (o := .cells #[.int .i64 t301, .int .i64 t302] 25 (0, 0)) Zb13 hb); have n5_ := Abq (blk_below (g := g308) (o := .cells #[.int .i64 t305, .int .i64 t306] 25 (0, 0)) Zb14 hb); have n6_ := Abq (below_step Zb1 hb); have n7_ := Abq (hbox); have n8_ := Abq ((by rw [hg]; exact (below_size Zb1) : w.heap.size ≤ g316)); have n9_ := Abq ((by rw [hg]; exact (below_size Zb1) : w.heap.size ≤ g316)); have n10_ := Abq ((by rw [hg]; exact Nat.ne_of_lt (blk_lt (g := g281) (o := .cells #[.int .i64 t279, .int .i64 t280] 25 (0, 0)) Zb9) : g281 ≠ g316)); have n11_ := Abq ((by rw [hg]; exact Nat.ne_of_gt (blk_lt (g := g281) (o := .cells #[.int .i64 t279, .int .i64 t280] 25 (0, 0)) Zb9) : g316 ≠ g281)); have n12_ := Abq ((by rw [hg]; exact Nat.ne_of_lt (blk_lt (g := g285) (o := .cells #[.int .i64 t282, .int .i64 t283] 25 (0, 0)) Zb10) : g285 ≠ g316)); have n13_ := Abq ((by rw [hg]; exact Nat.ne_of_gt (blk_lt (g := g285) (o := .cells #[.int .i64 t282, .int .i64 t283] 25 (0, 0)) Zb10) : g316 ≠ g285)); have n14_ := Abq ((by rw [hg]; exact Nat.ne_of_lt (blk_lt (g := g289) (o := .cells #[.int .i64 t286, .int .i64 t287] 25 (0, 0)) Zb11) : g289 ≠ g316)); have n15_ := Abq ((by rw [hg]; exact Nat.ne_of_gt (blk_lt (g := g289) (o := .cells #[.int .i64 t286, .int .i64 t287] 25 (0, 0)) Zb11) : g316 ≠ g289)); have n16_ := Abq ((by rw [hg]; exact Nat.ne_of_lt (blk_lt (g := g300) (o := .cells #[.int .i64 t297, .int .i64 t298] 25 (0, 0)) Zb12) : g300 ≠ g316)); have n17_ := Abq ((by rw [hg]; exact Nat.ne_of_gt (blk_lt (g := g300) (o := .cells #[.int .i64 t297, .int .i64 t298] 25 (0, 0)) Zb12) : g316 ≠ g300)); have n18_ := Abq ((by rw [hg]; exact Nat.ne_of_lt (blk_lt (g := g304) (o := .cells #[.int .i64 t301, .int .i64 t302] 25 (0, 0)) Zb13) : g304 ≠ g316)); have n19_ := Abq ((by rw [hg]; exact Nat.ne_of_gt (blk_lt (g := g304) (o := .cells #[.int .i64 t301, .int .i64 t302] 25 (0, 0)) Zb13) : g316 ≠ g304)); have n20_ := Abq ((by rw [hg]; exact Nat.ne_of_lt (blk_lt (g := g308) (o := .cells #[.int .i64 t305, .int .i64 t306] 25 (0, 0)) Zb14) : g308 ≠ g316)); have n21_ := Abq ((by rw [hg]; exact Nat.ne_of_gt (blk_lt (g := g308) (o := .cells #[.int .i64 t305, .int .i64 t306] 25 (0, 0)) Zb14) : g316 ≠ g308)); clear BK281; clear BK285; clear BK289; clear BK300; clear BK304; clear BK308; clear HB; have BK281 := n0_; have BK285 := n1_; have BK289 := n2_; have BK300 := n3_; have BK304 := n4_; have BK308 := n5_; have HB := n6_; have BK316 := n7_; have GW316 := n8_; have GE316 := n9_; have NB281_316 := n10_; have NB316_281 := n11_; have NB285_316 := n12_; have NB316_285 := n13_; have NB289_316 := n14_; have NB316_289 := n15_; have NB300_316 := n16_; have NB316_300 := n17_; have NB304_316 := n18_; have NB316_304 := n19_; have NB308_316 := n20_; have NB316_308 := n21_; clear n0_ n1_ n2_ n3_ n4_ n5_ n6_ n7_ n8_ n9_ n10_ n11_ n12_ n13_ n14_ n15_ n16_ n17_ n18_ n19_ n20_ n21_; clear hb hbox hg; have hnb389 := NB316_281.out; have hnc389 := NB281_316.out; have hnb390 := NB316_285.out; have hnc390 := NB285_316.out; have hnb391 := NB316_289.out; have hnc391 := NB289_316.out; have hnb392 := NB316_300.out; have hnc392 := NB300_316.out; have hnb393 := NB316_304.out; have hnc393 := NB304_316.out; have hnb394 := NB316_308.out; have hnc394 := NB308_316.out; have hcz395_0 : w388.cell? ⟨g316, 0, none⟩ = some (.int .i64 0) := (blk_cell BK316.out 0).trans rfl; have hcz395_1 : w388.cell? ⟨g316, 1, none⟩ = some (.int .i64 0) := (blk_cell BK316.out 1).trans rfl; have hfz395_0 := blk_frozen BK316.out 0; have hfz395_1 := blk_frozen BK316.out 1) | (go_at_call 13; (with_reducible refine (laws_yTimes.calls t313 t314 t296 t317 _ A384.out).mono ?_); rintro e w396 ⟨rfl, hb⟩; have n0_ := Abq (blk_below (g := g281) (o := .cells #[.int .i64 t279, .int .i64 t280] 25 (0, 0)) (by (with_reducible repeat (first | refine blk_drewN ?_ _ | refine blk_drew ?_ | refine blk_alloc ?_ _)); refine blk_far ?_ NB281_316.out _; (with_reducible repeat (first | refine blk_drewN ?_ _ | refine blk_drew ?_ | refine blk_alloc ?_ _)); refine blk_far ?_ NB281_316.out _; (with_reducible repeat (first | refine blk_drewN ?_ _ | refine blk_drew ?_ | refine blk_alloc ?_ _)); exact BK281.out) hb); have n1_ := Abq (blk_below (g := g285) (o := .cells #[.int .i64 t282, .int .i64 t283] 25 (0, 0)) (by (with_reducible repeat (first | refine blk_drewN ?_ _ | refine blk_drew ?_ | refine blk_alloc ?_ _)); refine blk_far ?_ NB285_316.out _; (with_reducible repeat (first | refine blk_drewN ?_ _ | refine blk_drew ?_ | refine blk_alloc ?_ _)); refine blk_far ?_ NB285_316.out _; (with_reducible repeat (first | refine blk_drewN ?_ _ | refine blk_drew ?_ | refine blk_alloc ?_ _)); exact BK285.out) hb); have n2_ := Abq (blk_below (g := g289) (o := .cells #[.int .i64 t286, .int .i64 t287] 25 (0, 0)) (by (with_reducible repeat (first | refine blk_drewN ?_ _ | refine blk_drew ?_ | refine blk_alloc ?_ _)); refine blk_far ?_ NB289_316.out _; (with_reducible repeat (first | refine blk_drewN ?_ _ | refine blk_drew ?_ | refine blk_alloc ?_ _)); refine blk_far ?_ NB289_316.out _; (with_reducible repeat (first | refine blk_drewN ?_ _ | refine blk_drew ?_ | refine blk_alloc ?_ _)); exact BK289.out) hb); have n3_ := Abq (blk_below (g := g300) (o := .cells #[.int .i64 t297, .int .i64 t298] 25 (0, 0)) (by (with_reducible repeat (first | refine blk_drewN ?_ _ | refine blk_drew ?_ | refine blk_alloc ?_ _)); refine blk_far ?_ NB300_316.out _; (with_reducible repeat (first | refine blk_drewN ?_ _ | refine blk_drew ?_ | refine blk_alloc ?_ _)); refine blk_far ?_ NB300_316.out _; (with_reducible repeat (first | refine blk_drewN ?_ _ | refine blk_drew ?_ | refine blk_alloc ?_ _)); exact BK300.out) hb); have n4_ := Abq (blk_below (g := g304) (o := .cells #[.int .i64 t301, .int .i64 t302] 25 (0, 0)) (by (with_reducible repeat (first | refine blk_drewN ?_ _ | refine blk_drew ?_ | refine blk_alloc ?_ _)); refine blk_far ?_ NB304_316.out _; (with_reducible repeat (first | refine blk_drewN ?_ _ | refine blk_drew ?_ | refine blk_alloc ?_ _)); refine blk_far ?_ NB304_316.out _; (with_reducible repeat (first | refine blk_drewN ?_ _ | refine blk_drew ?_ | refine blk_alloc ?_ _)); exact BK304.out) hb); have n5_ := Abq (blk_below (g := g308) (o := .cells #[.int .i64 t305, .int .i64 t306] 25 (0, 0)) (by (with_reducible repeat (first | refine blk_drewN ?_ _ | refine blk_drew ?_ | refine blk_alloc ?_ _)); refine blk_far ?_ NB308_316.out _; (with_reducible repeat (first | refine blk_drewN ?_ _ | refine blk_drew ?_ | refine blk_alloc ?_ _)); refine blk_far ?_ NB308_316.out _; (with_reducible repeat (first | refine blk_drewN ?_ _ | refine blk_drew ?_ | refine blk_alloc ?_ _)); exact BK308.out) hb); have n6_ := Abq (blk_below (g := g316) (o := .cells #[.int .i64 t313, .int .i64 t314] 25 (0, 0)) (by (with_reducible repeat (first | refine blk_drewN ?_ _ | refine blk_drew ?_ | refine blk_alloc ?_ _)); refine blk_put (cs := #[.int .i64 t313, .int .i64 0]) ?_ 1 _ rfl; (with_reducible repeat (first | refine blk_drewN ?_ _ | refine blk_drew ?_ | refine blk_alloc ?_ _)); refine blk_put (cs := #[.int .i64 0, .int .i64 0]) ?_ 0 _ rfl; (with_reducible repeat (first | refine blk_drewN ?_ _ | refine blk_drew ?_ | refine blk_alloc ?_ _)); exact BK316.out) hb); have n7_ := Abq (below_step (by repeat (first | (with_reducible first | exact HB.out | apply below_alloc | apply pw_below_drewN | apply below_drew1 | refine below_set ?_ GE281.out | refine below_set ?_ GE285.out | refine below_set ?_ GE289.out | refine below_set ?_ GE300.out | refine below_set ?_ GE304.out | refine below_set ?_ GE308.out | refine below_set ?_ GE316.out) | exact HB.out)) hb); clear BK281; clear BK285; clear BK289; clear BK300; clear BK304; clear BK308; clear BK316; clear HB; have BK281 := n0_; have BK285 := n1_; have BK289 := n2_; have BK300 := n3_; have BK304 := n4_; have BK308 := n5_; have BK316 := n6_; have HB := n7_; clear n0_ n1_ n2_ n3_ n4_ n5_ n6_ n7_; (try clear hb); (try clear hb2); (try clear hk); (try clear hi); have hcz397_0 : w396.cell? ⟨g316, 0, none⟩ = some (.int .i64 t313) := (blk_cell BK316.out 0).trans rfl; have hcz397_1 : w396.cell? ⟨g316, 1, none⟩ = some (.int .i64 t314) := (blk_cell BK316.out 1).trans rfl; have hfz397_0 := blk_frozen BK316.out 0; have hfz397_1 := blk_frozen BK316.out 1) | ((with_reducible refine gate_callee (f := 13) rfl ?_); refine goesL_ (some 220) rfl rfl Try.func13 (by kernel_rfl) rfl #[.agg #[.int .i64 t313, .int .i64 t314], .int .i64 t296] rfl Zb7 ?_; (with_reducible refine (laws_yTimes.calls t313 t314 t296 t318 _ A386.out).mono ?_); rintro e w398 ⟨rfl, hb⟩; refine ⟨_, rfl, ?_⟩; have n0_ := Abq (blk_below (g := g281) (o := .cells #[.int .i64 t279, .int .i64 t280] 25 (0, 0)) Zb9 hb); have n1_ := Abq (blk_below (g := g285) (o := .cells #[.int .i64 t282, .int .i64 t283] 25 (0, 0)) Zb10 hb); have n2_ := Abq (blk_below (g := g289) (o := .cells #[.int .i64 t286, .int .i64 t287] 25 (0, 0)) Zb11 hb); have n3_ := Abq (blk_below (g := g300) (o := .cells #[.int .i64 t297, .int .i64 t298] 25 (0, 0)) Zb12 hb); have n4_ := Abq (blk_below (g := g304) (o := .cells #[.int .i64 t301, .int .i64 t302] 25 (0, 0)) Zb13 hb); have n5_ := Abq (blk_below (g := g308) (o := .cells #[.int .i64 t305, .int .i64 t306] 25 (0, 0)) Zb14 hb); have n6_ := Abq (blk_below (g := g316) (o := .cells #[.int .i64 t313, .int .i64 t314] 25 (0, 0)) (by (with_reducible repeat (first | refine blk_drewN ?_ _ | refine blk_drew ?_ | refine blk_alloc ?_ _)); exact BK316.out) hb); have n7_ := Abq (below_step (by repeat (first | (with_reducible first | exact HB.out | apply below_alloc | apply pw_below_drewN | apply below_drew1 | refine below_set ?_ GE281.out | refine below_set ?_ GE285.out | refine below_set ?_ GE289.out | refine below_set ?_ GE300.out | refine below_set ?_ GE304.out | refine below_set ?_ GE308.out | refine below_set ?_ GE316.out) | exact HB.out)) hb); clear BK281; clear BK285; clear BK289; clear BK300; clear BK304; clear BK308; clear BK316; clear HB; have BK281 := n0_; have BK285 := n1_; have BK289 := n2_; have BK300 := n3_; have BK304 := n4_; have BK308 := n5_; have BK316 := n6_; have HB := n7_; clear n0_ n1_ n2_ n3_ n4_ n5_ n6_ n7_; (try clear hb); (try clear hb2); (try clear hk); (try clear hi)))
                   go_roundg k5
                   case measure => have := HJ7.out; have := HJ28.out; have := HJ318.out; have := HJ346.out; have := HK5.out; omega
                   case rel => exact ⟨(wrap64 (x23_5 + t318)), (wrap64 (x24_5 + 1)), Zb15, Zb15, H', ⟨by have := HJ7.out; have := HJ28.out; have := HJ318.out; have := HJ346.out; have := HK5.out; omega⟩, ⟨by (with_reducible repeat (first | refine blk_drewN ?_ _ | refine blk_drew ?_ | refine blk_alloc ?_ _)); exact BK281.out⟩, ⟨by (with_reducible repeat (first | refine blk_drewN ?_ _ | refine blk_drew ?_ | refine blk_alloc ?_ _)); exact BK285.out⟩, ⟨by (with_reducible repeat (first | refine blk_drewN ?_ _ | refine blk_drew ?_ | refine blk_alloc ?_ _)); exact BK289.out⟩, ⟨by (with_reducible repeat (first | refine blk_drewN ?_ _ | refine blk_drew ?_ | refine blk_alloc ?_ _)); exact BK300.out⟩, ⟨by (with_reducible repeat (first | refine blk_drewN ?_ _ | refine blk_drew ?_ | refine blk_alloc ?_ _)); exact BK304.out⟩, ⟨by (with_reducible repeat (first | refine blk_drewN ?_ _ | refine blk_drew ?_ | refine blk_alloc ?_ _)); exact BK308.out⟩, ⟨by repeat (first | (with_reducible first | exact HB.out | apply below_alloc | apply pw_below_drewN | apply below_drew1 | refine below_set ?_ GE281.out | refine below_set ?_ GE285.out | refine below_set ?_ GE289.out | refine below_set ?_ GE300.out | refine below_set ?_ GE304.out | refine below_set ?_ GE308.out | refine below_set ?_ GE316.out) | exact HB.out)⟩⟩
                 ·
                  replace c383 := Bool.eq_false_iff.mpr c383
                  subst c383
                  have H1 : (none) = some r := by rw [if_neg (show ¬ (false = true) by decide)] at H; exact H
                  clear H
                  have H := H1
                  clear H1
                  exact absurd H (by simp)
                ·
                 rw [if_neg c381] at H
                 have c381b0 : decide (x24_5 < t296) = false := decide_eq_false c381
                 clear c381
                 replace H := Option.bind_eq_some_iff.mp H
                 obtain ⟨⟨t309, t310, t311⟩, A3990, H⟩ := H
                 replace H : (if t311 = true then (if t310 = 1 then (some (x23_5 == (wrap64 (t309 * t296)))) else (none)) else (none)) = some r := H
                 have A399 := Abq A3990
                 clear A3990
                 by_cases c400 : t311 = true
                 ·
                  subst c400
                  have H1 : (if t310 = 1 then (some (x23_5 == (wrap64 (t309 * t296)))) else (none)) = some r := by rw [if_pos rfl] at H; exact H
                  clear H
                  have H := H1
                  clear H1
                  by_cases c401 : t310 = 1
                  ·
                   rw [if_pos c401] at H
                   have c401b0 : (t310 == 1) = true := beq_iff_eq.mpr c401
                   have c401b1 : (t310 != 1) = false := bne_eq_false_iff_eq.mpr c401
                   clear c401
                   obtain rfl := Option.some.inj H
                   go_wp2_with (first | ((with_reducible refine gate_callee (f := 14) rfl ?_); refine goesL_ (some 226) rfl rfl Try.func14 (by kernel_rfl) rfl #[.int .i64 t294, .int .i64 t296, .agg #[.int .i64 1, .int .i64 2]] rfl Zb7 ?_; (with_reducible refine (impl_MeanGames.calls k5 t294 t296 1 2 t309 t310 true _ A399.out).mono ?_); rintro e w402 ⟨rfl, hb⟩; refine ⟨_, rfl, ?_⟩; have n0_ := Abq (blk_below (g := g281) (o := .cells #[.int .i64 t279, .int .i64 t280] 25 (0, 0)) Zb9 hb); have n1_ := Abq (blk_below (g := g285) (o := .cells #[.int .i64 t282, .int .i64 t283] 25 (0, 0)) Zb10 hb); have n2_ := Abq (blk_below (g := g289) (o := .cells #[.int .i64 t286, .int .i64 t287] 25 (0, 0)) Zb11 hb); have n3_ := Abq (blk_below (g := g300) (o := .cells #[.int .i64 t297, .int .i64 t298] 25 (0, 0)) Zb12 hb); have n4_ := Abq (blk_below (g := g304) (o := .cells #[.int .i64 t301, .int .i64 t302] 25 (0, 0)) Zb13 hb); have n5_ := Abq (blk_below (g := g308) (o := .cells #[.int .i64 t305, .int .i64 t306] 25 (0, 0)) Zb14 hb); have n6_ := Abq (below_step Zb1 hb); clear BK281; clear BK285; clear BK289; clear BK300; clear BK304; clear BK308; clear HB; have BK281 := n0_; have BK285 := n1_; have BK289 := n2_; have BK300 := n3_; have BK304 := n4_; have BK308 := n5_; have HB := n6_; clear n0_ n1_ n2_ n3_ n4_ n5_ n6_; (try clear hb); (try clear hb2); (try clear hk); (try clear hi)) | ((with_reducible refine gate_dst (N := 27) rfl ?_); refine box_event ?hg (N := 27) ?hd (cs := #[.int .i64 0, .int .i64 0]) (t := 25) ?hr ?_; (case hd => rfl); (case hg => rfl); (case hr => first | (go_simp; done) | (go_simp; rfl)); intro g312 hg w403 hbox hb; have n0_ := Abq (blk_below (g := g281) (o := .cells #[.int .i64 t279, .int .i64 t280] 25 (0, 0)) Zb9 hb); have n1_ := Abq (blk_below (g := g285) (o := .cells #[.int .i64 t282, .int .i64 t283] 25 (0, 0)) Zb10 hb); have n2_ := Abq (blk_below (g := g289) (o := .cells #[.int .i64 t286, .int .i64 t287] 25 (0, 0)) Zb11 hb); have n3_ := Abq (blk_below (g := g300) (o := .cells #[.int .i64 t297, .int .i64 t298] 25 (0, 0)) Zb12 hb); have n4_ := Abq (blk_below (g := g304) (o := .cells #[.int .i64 t301, .int .i64 t302] 25 (0, 0)) Zb13 hb); have n5_ := Abq (blk_below (g := g308) (o := .cells #[.int .i64 t305, .int .i64 t306] 25 (0, 0)) Zb14 hb); have n6_ := Abq (below_step Zb1 hb); have n7_ := Abq (hbox); have n8_ := Abq ((by rw [hg]; exact (below_size Zb1) : w.heap.size ≤ g312)); have n9_ := Abq ((by rw [hg]; exact (below_size Zb1) : w.heap.size ≤ g312)); have n10_ := Abq ((by rw [hg]; exact Nat.ne_of_lt (blk_lt (g := g281) (o := .cells #[.int .i64 t279, .int .i64 t280] 25 (0, 0)) Zb9) : g281 ≠ g312)); have n11_ := Abq ((by rw [hg]; exact Nat.ne_of_gt (blk_lt (g := g281) (o := .cells #[.int .i64 t279, .int .i64 t280] 25 (0, 0)) Zb9) : g312 ≠ g281)); have n12_ := Abq ((by rw [hg]; exact Nat.ne_of_lt (blk_lt (g := g285) (o := .cells #[.int .i64 t282, .int .i64 t283] 25 (0, 0)) Zb10) : g285 ≠ g312)); have n13_ := Abq ((by rw [hg]; exact Nat.ne_of_gt (blk_lt (g := g285) (o := .cells #[.int .i64 t282, .int .i64 t283] 25 (0, 0)) Zb10) : g312 ≠ g285)); have n14_ := Abq ((by rw [hg]; exact Nat.ne_of_lt (blk_lt (g := g289) (o := .cells #[.int .i64 t286, .int .i64 t287] 25 (0, 0)) Zb11) : g289 ≠ g312)); have n15_ := Abq ((by rw [hg]; exact Nat.ne_of_gt (blk_lt (g := g289) (o := .cells #[.int .i64 t286, .int .i64 t287] 25 (0, 0)) Zb11) : g312 ≠ g289)); have n16_ := Abq ((by rw [hg]; exact Nat.ne_of_lt (blk_lt (g := g300) (o := .cells #[.int .i64 t297, .int .i64 t298] 25 (0, 0)) Zb12) : g300 ≠ g312)); have n17_ := Abq ((by rw [hg]; exact Nat.ne_of_gt (blk_lt (g := g300) (o := .cells #[.int .i64 t297, .int .i64 t298] 25 (0, 0)) Zb12) : g312 ≠ g300)); have n18_ := Abq ((by rw [hg]; exact Nat.ne_of_lt (blk_lt (g := g304) (o := .cells #[.int .i64 t301, .int .i64 t302] 25 (0, 0)) Zb13) : g304 ≠ g312)); have n19_ := Abq ((by rw [hg]; exact Nat.ne_of_gt (blk_lt (g := g304) (o := .cells #[.int .i64 t301, .int .i64 t302] 25 (0, 0)) Zb13) : g312 ≠ g304)); have n20_ := Abq ((by rw [hg]; exact Nat.ne_of_lt (blk_lt (g := g308) (o := .cells #[.int .i64 t305, .int .i64 t306] 25 (0, 0)) Zb14) : g308 ≠ g312)); have n21_ := Abq ((by rw [hg]; exact Nat.ne_of_gt (blk_lt (g := g308) (o := .cells #[.int .i64 t305, .int .i64 t306] 25 (0, 0)) Zb14) : g312 ≠ g308)); clear BK281; clear BK285; clear BK289; clear BK300; clear BK304; clear BK308; clear HB; have BK281 := n0_; have BK285 := n1_; have BK289 := n2_; have BK300 := n3_; have BK304 := n4_; have BK308 := n5_; have HB := n6_; have BK312 := n7_; have GW312 := n8_; have GE312 := n9_; have NB281_312 := n10_; have NB312_281 := n11_; have NB285_312 := n12_; have NB312_285 := n13_; have NB289_312 := n14_; have NB312_289 := n15_; have NB300_312 := n16_; have NB312_300 := n17_; have NB304_312 := n18_; have NB312_304 := n19_; have NB308_312 := n20_; have NB312_308 := n21_; clear n0_ n1_ n2_ n3_ n4_ n5_ n6_ n7_ n8_ n9_ n10_ n11_ n12_ n13_ n14_ n15_ n16_ n17_ n18_ n19_ n20_ n21_; clear hb hbox hg; have hnb404 := NB312_281.out; have hnc404 := NB281_312.out; have hnb405 := NB312_285.out; have hnc405 := NB285_312.out; have hnb406 := NB312_289.out; have hnc406 := NB289_312.out; have hnb407 := NB312_300.out; have hnc407 := NB300_312.out; have hnb408 := NB312_304.out; have hnc408 := NB304_312.out; have hnb409 := NB312_308.out; have hnc409 := NB308_312.out; have hcz410_0 : w403.cell? ⟨g312, 0, none⟩ = some (.int .i64 0) := (blk_cell BK312.out 0).trans rfl; have hcz410_1 : w403.cell? ⟨g312, 1, none⟩ = some (.int .i64 0) := (blk_cell BK312.out 1).trans rfl; have hfz410_0 := blk_frozen BK312.out 0; have hfz410_1 := blk_frozen BK312.out 1))
                   go_ret
                   exact ⟨by first | rfl | (simp [errW_none, errW_some] <;> rfl) | (simp [*, errW_none, errW_some] <;> rfl), by repeat (first | (with_reducible first | exact HB.out | apply below_alloc | apply pw_below_drewN | apply below_drew1 | refine below_set ?_ GE281.out | refine below_set ?_ GE285.out | refine below_set ?_ GE289.out | refine below_set ?_ GE300.out | refine below_set ?_ GE304.out | refine below_set ?_ GE308.out | refine below_set ?_ GE312.out) | exact HB.out)⟩
                  ·
                   rw [if_neg c401] at H
                   exact absurd H (by simp)
                 ·
                  replace c400 := Bool.eq_false_iff.mpr c400
                  subst c400
                  have H1 : (none) = some r := by rw [if_neg (show ¬ (false = true) by decide)] at H; exact H
                  clear H
                  have H := H1
                  clear H1
                  exact absurd H (by simp)
          ·
           replace c345 := Bool.eq_false_iff.mpr c345
           subst c345
           have H1 : (some true) = some r := by rw [if_neg (show ¬ (false = true) by decide)] at H; exact H
           clear H
           have H := H1
           clear H1
           obtain rfl := Option.some.inj H
           go_wp2
           go_ret
           exact ⟨by first | rfl | (simp [errW_none, errW_some] <;> rfl) | (simp [*, errW_none, errW_some] <;> rfl), by repeat (first | (with_reducible first | exact HB.out | apply below_alloc | apply pw_below_drewN | apply below_drew1 | refine below_set ?_ GE281.out | refine below_set ?_ GE285.out | refine below_set ?_ GE289.out | refine below_set ?_ GE300.out | refine below_set ?_ GE304.out) | exact HB.out)⟩

/-- THE ONE PURE STATEMENT of laws_FnBoldPlay: yours. -/
def laws_FnBoldPlay.Pure : Prop := ∀ (l0 : List Int) (l1 : List Int), l0.length ≤ maxLen → l0.length * 1 ≤ 140737488351232 → (∀ x ∈ l0, (Lit.int .u8 x).wf = true) → l1.length ≤ maxLen → l1.length * 1 ≤ 140737488351232 → (∀ x ∈ l1, (Lit.int .u8 x).wf = true) → ∃ k, laws_FnBoldPlay.f k l0 l1 = some true
theorem laws_FnBoldPlay.walk (P : laws_FnBoldPlay.Pure) (a0 : Option Addr) (len0 cap0 : Nat) (z0 : List Int) (a1 : Option Addr) (len1 cap1 : Nat) (z1 : List Int) (w : World) (w0 : (a0 = none ∧ len0 = 0 ∧ cap0 = 0 ∧ z0 = []) ∨ ∃ x, a0 = some x ∧ len0 ≤ cap0 ∧ cap0 ≤ maxLen ∧ z0.length = cap0 ∧ (∀ i, i < z0.length → w.cell? (x.add i) = some (.int .u8 (z0.getD i 0))) ∧ ∀ n ∈ z0, (Lit.int .u8 n).wf = true) (y0 : len0 * 1 ≤ 140737488351232) (w1 : (a1 = none ∧ len1 = 0 ∧ cap1 = 0 ∧ z1 = []) ∨ ∃ x, a1 = some x ∧ len1 ≤ cap1 ∧ cap1 ≤ maxLen ∧ z1.length = cap1 ∧ (∀ i, i < z1.length → w.cell? (x.add i) = some (.int .u8 (z1.getD i 0))) ∧ ∀ n ∈ z1, (Lit.int .u8 n).wf = true) (y1 : len1 * 1 ≤ 140737488351232) :
    Calls Try.prog 3 #[.slice a0 len0 cap0, .slice a1 len1 cap1] w fun e w' => e = .returned (.bool true) ∧ Below w.heap.size w w' := by
  obtain ⟨l0, rfl, hr0, hm0, hw0, hc0⟩ := ReadsInt.ofRowC w0
  obtain ⟨l1, rfl, hr1, hm1, hw1, hc1⟩ := ReadsInt.ofRowC w1
  obtain ⟨k, h⟩ := P l0 l1 hm0 y0 hw0 hm1 y1 hw1
  refine (laws_FnBoldPlay.calls k _ _ l0 _ _ l1 true w (Kd.C_of_reads (d := (0 : Int)) (h1 := fun _ => rfl) hr0) hc0 (Kd.C_of_reads (d := (0 : Int)) (h1 := fun _ => rfl) hr1) hc1 h).mono ?_
  rintro e w' ⟨rfl, hd⟩
  exact ⟨rfl, hd⟩

end Go.Proofs.Ytfembmnagkdnhaa.OFnBoldPlay
