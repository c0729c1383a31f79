/- The functions that 'FnRuinInTime' runs, each as a function over numbers and lists, with the proof that the Go text comes to its answers. No condition. -/
import Derived.Test.YtoglhflnfkmkcaaOFnRuinInTimex0
import Derived.Test.YtoglhflnfkmkcaaOFnRuinInTimex1
import Derived.Test.YtoglhflnfkmkcaaOFnRuinInTimex2
import Derived.Test.YtoglhflnfkmkcaaOFnRuinInTimex3
import Derived.Test.YtoglhflnfkmkcaaOFnRuinInTimex5
import Derived.Test.YtoglhflnfkmkcaaOFnRuinInTimex8
import Derived.Test.YtoglhflnfkmkcaaOFnRuinInTimex9
import Derived.Test.YtoglhflnfkmkcaaOFnRuinInTimex10
import Derived.Test.YtoglhflnfkmkcaaOFnRuinInTimex11
import Derived.Test.YtoglhflnfkmkcaaOFnRuinInTimex12
namespace Go.Proofs.Ytoglhflnfkmkcaa.OFnRuinInTime
open Go.Proofs.Ytoglhflnfkmkcaa.Stub
open Go.RowKit Go.Proofs.YtoglhflnfkmkcaaW.PrintWords Go.Proofs.YtoglhflnfkmkcaaW.PrintLast Go.Proofs.YtoglhflnfkmkcaaW.PrintMore
attribute [local go_sem] max2_int min2_int max_two min_two max_three min_three max_four min_four   -- for this text's walks alone
set_option linter.unusedVariables false
set_option linter.unusedSimpArgs false
attribute [local go_sem high] eqA25
theorem HL {p : Prop} (h : p := by repeat (first | (with_reducible first | exact HB.out | apply below_alloc | apply pw_below_drewN | apply below_drew1 | refine below_set ?_ GE402.out | refine below_set ?_ GE414.out | refine below_set ?_ GE418.out | refine below_set ?_ GE422.out | refine below_set ?_ GE426.out | refine below_set ?_ GE430.out | refine below_set ?_ GE434.out | refine below_set ?_ GE438.out | refine below_set ?_ GE446.out | refine below_set ?_ GE450.out | refine below_set ?_ GE460.out) | exact HB.out)) : p := h
theorem bL {w0 w w1 : World} {g : Nat} {o : Obj} (_ : Aside0 (w0.heap[g]? = some o)) (h : w.heap[g]? = some o) (hb : Below w.heap.size w w1) : Aside0 (w1.heap[g]? = some o) := Aside0.mk (blk_below h hb)
theorem nL {w0 w : World} {g q : Nat} {o : Obj} (_ : Aside0 (w0.heap[g]? = some o)) (h : w.heap[g]? = some o) (hg : q = w.heap.size) : Aside0 (g ≠ q) := Aside0.mk (by rw [hg]; exact Nat.ne_of_lt (blk_lt h))
theorem mL {w0 w : World} {g q : Nat} {o : Obj} (_ : Aside0 (w0.heap[g]? = some o)) (h : w.heap[g]? = some o) (hg : q = w.heap.size) : Aside0 (q ≠ g) := Aside0.mk (by rw [hg]; exact Nat.ne_of_gt (blk_lt h))
theorem sL {w w1 : World} {q : Nat} (h : Below w.heap.size w w1) (hg : q = w1.heap.size) : Aside0 (w.heap.size ≤ q) := Aside0.mk (by rw [hg]; exact below_size h)
theorem tL {w w1 w2 : World} (h : Below w.heap.size w w1) (hb : Below w1.heap.size w1 w2) : Aside0 (Below w.heap.size w w2) := Aside0.mk (below_step h hb)
theorem UL402 {p : Prop} (h : p := by repeat (first | (with_reducible first | exact BK402.out | refine blk_drewN ?_ _ | refine blk_drew ?_ | refine blk_alloc ?_ _) | refine blk_far ?_ NB402_414.out _ | refine blk_far ?_ NB402_418.out _ | refine blk_far ?_ NB402_422.out _ | refine blk_far ?_ NB402_426.out _ | refine blk_far ?_ NB402_430.out _ | refine blk_far ?_ NB402_434.out _ | refine blk_far ?_ NB402_438.out _ | refine blk_far ?_ NB402_446.out _ | refine blk_far ?_ NB402_450.out _ | refine blk_far ?_ NB402_460.out _ | exact BK402.out)) : p := h
theorem UL414 {p : Prop} (h : p := by repeat (first | (with_reducible first | exact BK414.out | refine blk_drewN ?_ _ | refine blk_drew ?_ | refine blk_alloc ?_ _) | refine blk_far ?_ NB414_418.out _ | refine blk_far ?_ NB414_422.out _ | refine blk_far ?_ NB414_426.out _ | refine blk_far ?_ NB414_430.out _ | refine blk_far ?_ NB414_434.out _ | refine blk_far ?_ NB414_438.out _ | refine blk_far ?_ NB414_446.out _ | refine blk_far ?_ NB414_450.out _ | refine blk_far ?_ NB414_460.out _ | exact BK414.out)) : p := h
theorem UL418 {p : Prop} (h : p := by repeat (first | (with_reducible first | exact BK418.out | refine blk_drewN ?_ _ | refine blk_drew ?_ | refine blk_alloc ?_ _) | refine blk_far ?_ NB418_422.out _ | refine blk_far ?_ NB418_426.out _ | refine blk_far ?_ NB418_430.out _ | refine blk_far ?_ NB418_434.out _ | refine blk_far ?_ NB418_438.out _ | refine blk_far ?_ NB418_446.out _ | refine blk_far ?_ NB418_450.out _ | refine blk_far ?_ NB418_460.out _ | exact BK418.out)) : p := h
theorem UL422 {p : Prop} (h : p := by repeat (first | (with_reducible first | exact BK422.out | refine blk_drewN ?_ _ | refine blk_drew ?_ | refine blk_alloc ?_ _) | refine blk_far ?_ NB422_426.out _ | refine blk_far ?_ NB422_430.out _ | refine blk_far ?_ NB422_434.out _ | refine blk_far ?_ NB422_438.out _ | refine blk_far ?_ NB422_446.out _ | refine blk_far ?_ NB422_450.out _ | refine blk_far ?_ NB422_460.out _ | exact BK422.out)) : p := h
theorem UL426 {p : Prop} (h : p := by repeat (first | (with_reducible first | exact BK426.out | refine blk_drewN ?_ _ | refine blk_drew ?_ | refine blk_alloc ?_ _) | refine blk_far ?_ NB426_430.out _ | refine blk_far ?_ NB426_434.out _ | refine blk_far ?_ NB426_438.out _ | refine blk_far ?_ NB426_446.out _ | refine blk_far ?_ NB426_450.out _ | refine blk_far ?_ NB426_460.out _ | exact BK426.out)) : p := h
theorem UL430 {p : Prop} (h : p := by repeat (first | (with_reducible first | exact BK430.out | refine blk_drewN ?_ _ | refine blk_drew ?_ | refine blk_alloc ?_ _) | refine blk_far ?_ NB430_434.out _ | refine blk_far ?_ NB430_438.out _ | refine blk_far ?_ NB430_446.out _ | refine blk_far ?_ NB430_450.out _ | refine blk_far ?_ NB430_460.out _ | exact BK430.out)) : p := h
theorem UL434 {p : Prop} (h : p := by repeat (first | (with_reducible first | exact BK434.out | refine blk_drewN ?_ _ | refine blk_drew ?_ | refine blk_alloc ?_ _) | refine blk_far ?_ NB434_438.out _ | refine blk_far ?_ NB434_446.out _ | refine blk_far ?_ NB434_450.out _ | refine blk_far ?_ NB434_460.out _ | exact BK434.out)) : p := h
theorem UL438 {p : Prop} (h : p := by repeat (first | (with_reducible first | exact BK438.out | refine blk_drewN ?_ _ | refine blk_drew ?_ | refine blk_alloc ?_ _) | exact BK438.out)) : p := h
theorem UL446 {p : Prop} (h : p := by repeat (first | (with_reducible first | exact BK446.out | refine blk_drewN ?_ _ | refine blk_drew ?_ | refine blk_alloc ?_ _) | refine blk_far ?_ NB446_450.out _ | exact BK446.out)) : p := h
theorem UL450 {p : Prop} (h : p := by repeat (first | (with_reducible first | exact BK450.out | refine blk_drewN ?_ _ | refine blk_drew ?_ | refine blk_alloc ?_ _) | exact BK450.out)) : p := h
theorem UL460 {p : Prop} (h : p := by repeat (first | (with_reducible first | exact BK460.out | refine blk_drewN ?_ _ | refine blk_drew ?_ | refine blk_alloc ?_ _) | exact BK460.out)) : p := h
/-! ### laws_FnRuinInTime: function 3 -/
mutual
def laws_FnRuinInTime.j0 : Nat → List Int → Int → Int → Int → List (S25) → Bool → Bool → Int → Int → Int → Int → Int → Int → Int → Int → Option (Bool)
  | 0, _, _, _, _, _, _, _, _, _, _, _, _, _, _, _ => none
  | k + 1, x1, x5, x6, x8, x9, x10, x177, x403000, x403001, x415000, x415001, x423000, x423001, x431000, x431001 => if x177 = true then (none) else (if x10 = true then ((laws_yPower.f k x403001 x8).bind fun t436 => (laws_FnRuinInTime.l0 k x1 x5 x6 x8 x9 t436 0 0 x9 (x9.length : Int) 0 x403000 x403001 x415000 x415001 x423000 x423001 x431000 x431001)) else (laws_FnRuinInTime.j8 k x1))
def laws_FnRuinInTime.j8 : Nat → List Int → Option (Bool)
  | 0, _ => none
  | k + 1, x1 => (spec_DrawCountWins.f x1).bind fun bt462 => ((impl_CountWins.f k bt462.1 bt462.2.1 bt462.2.2).bind fun bt465 => ((spec_CountWins.f k bt462.1 bt462.2.1 bt462.2.2).bind fun bt467 => (if (bt465.2 != bt467.2) = true then (laws_FnRuinInTime.j9 k bt462.1 bt462.2.1 bt462.2.2 bt465.1 bt465.2 true) else (laws_FnRuinInTime.j9 k bt462.1 bt462.2.1 bt462.2.2 bt465.1 bt465.2 (bt465.1 != bt467.1)))))
def laws_FnRuinInTime.j9 : Nat → Int → Int → Int → Int → Bool → Bool → Option (Bool)
  | 0, _, _, _, _, _, _ => none
  | k + 1, x40, x41, x42, x43, x44, x384 => if x384 = true then (none) else (if x44 = true then (if x42 > 0 then (laws_FnRuinInTime.j10 k x40 x41 x42 x43 (decide ((wrap64 (x41 - 1)) ≤ 40))) else (laws_FnRuinInTime.j10 k x40 x41 x42 x43 false)) else (laws_FnRuinInTime.j10 k x40 x41 x42 x43 false))
def laws_FnRuinInTime.j10 : Nat → Int → Int → Int → Int → Bool → Option (Bool)
  | 0, _, _, _, _, _ => none
  | k + 1, x40, x41, x42, x43, x394 => if x394 = true then (if (Int.tmod (wrap64 ((wrap64 (x42 + x41)) - x40)) 2) = 0 then (laws_FnRuinInTime.j11 k x40 x41 x42 x43 (decide (x42 ≥ (wrap64 (x41 - x40))))) else (laws_FnRuinInTime.j11 k x40 x41 x42 x43 false)) else (some true)
def laws_FnRuinInTime.j11 : Nat → Int → Int → Int → Int → Bool → Option (Bool)
  | 0, _, _, _, _, _ => none
  | k + 1, x40, x41, x42, x43, x408 => if x408 = true then ((impl_CountBetween.f k (wrap64 ((wrap64 (x42 - (wrap64 (Int.tdiv (wrap64 (x42 - (wrap64 (x41 - x40)))) 2)))) - 1)) (wrap64 (Int.tdiv (wrap64 (x42 - (wrap64 (x41 - x40)))) 2)) (wrap64 (1 - x40)) (wrap64 ((wrap64 (x41 - x40)) - 1))).bind fun bt469 => (if bt469.2 = true then (if bt469.1 = x43 then (some true) else (none)) else (none))) else (if x43 = 0 then (some true) else (none))
def laws_FnRuinInTime.l0 : Nat → List Int → Int → Int → Int → List (S25) → Int → Int → Int → List (S25) → Int → Int → Int → Int → Int → Int → Int → Int → Int → Int → Option (Bool)
  | 0, _, _, _, _, _, _, _, _, _, _, _, _, _, _, _, _, _, _, _ => none
  | k + 1, x1, x5, x6, x8, x9, x25, x26, x27, x183, x184, x185, x403000, x403001, x415000, x415001, x423000, x423001, x431000, x431001 => if x185 < x184 then (if 0 ≤ x185 then (if x185 < (x183.length : Int) then ((laws_yTimes.f ((rd_T25 x183 x185).f0) ((rd_T25 x183 x185).f1) x25).bind fun t439 => (if t439 < 0 then (none) else (if x185 > 0 then (laws_FnRuinInTime.j2 k x1 x5 x6 x8 x9 x25 (wrap64 (x26 + t439)) x27 x185 t439 x183 x184 x185 (decide (x185 < x6)) x403000 x403001 x415000 x415001 x423000 x423001 x431000 x431001) else (laws_FnRuinInTime.j2 k x1 x5 x6 x8 x9 x25 (wrap64 (x26 + t439)) x27 x185 t439 x183 x184 x185 false x403000 x403001 x415000 x415001 x423000 x423001 x431000 x431001)))) else (none)) else (none)) else (if (x9.length : Int) = (wrap64 (x6 + 1)) then (if x26 = x25 then (if 0 < (x9.length : Int) then (if (!(((rd_T25 x9 0).f0) == x423000) || (!(((rd_T25 x9 0).f1) == x423001))) = true then (laws_FnRuinInTime.j3 k x1 x5 x6 x8 x9 x25 true x403000 x403001 x415000 x415001 x423000 x423001) else (if 0 ≤ x6 then (if x6 < (x9.length : Int) then (if (!(((rd_T25 x9 x6).f0) == x415000) || (!(((rd_T25 x9 x6).f1) == x415001))) = true then (laws_FnRuinInTime.j3 k x1 x5 x6 x8 x9 x25 true x403000 x403001 x415000 x415001 x423000 x423001) else ((laws_yTimes.f x431000 x431001 x25).bind fun t442 => (laws_FnRuinInTime.j3 k x1 x5 x6 x8 x9 x25 (t442 != x27) x403000 x403001 x415000 x415001 x423000 x423001))) else (none)) else (none))) else (none)) else (laws_FnRuinInTime.j3 k x1 x5 x6 x8 x9 x25 true x403000 x403001 x415000 x415001 x423000 x423001)) else (laws_FnRuinInTime.j3 k x1 x5 x6 x8 x9 x25 true x403000 x403001 x415000 x415001 x423000 x423001))
def laws_FnRuinInTime.j2 : Nat → List Int → Int → Int → Int → List (S25) → Int → Int → Int → Int → Int → List (S25) → Int → Int → Bool → Int → Int → Int → Int → Int → Int → Int → Int → Option (Bool)
  | 0, _, _, _, _, _, _, _, _, _, _, _, _, _, _, _, _, _, _, _, _, _, _ => none
  | k + 1, x1, x5, x6, x8, x9, x25, x26, x27, x28, x30, x183, x184, x185, x204, x403000, x403001, x415000, x415001, x423000, x423001, x431000, x431001 => if x204 = true then (if x30 > 0 then (if (Int.tmod (wrap64 ((wrap64 (x28 - x5)) - x8)) 2) = 0 then (laws_FnRuinInTime.l0 k x1 x5 x6 x8 x9 x25 x26 (wrap64 (x27 + x30)) x183 x184 (wrap64 (x185 + 1)) x403000 x403001 x415000 x415001 x423000 x423001 x431000 x431001) else (none)) else (laws_FnRuinInTime.l0 k x1 x5 x6 x8 x9 x25 x26 (wrap64 (x27 + x30)) x183 x184 (wrap64 (x185 + 1)) x403000 x403001 x415000 x415001 x423000 x423001 x431000 x431001)) else (laws_FnRuinInTime.l0 k x1 x5 x6 x8 x9 x25 x26 x27 x183 x184 (wrap64 (x185 + 1)) x403000 x403001 x415000 x415001 x423000 x423001 x431000 x431001)
def laws_FnRuinInTime.j3 : Nat → List Int → Int → Int → Int → List (S25) → Int → Bool → Int → Int → Int → Int → Int → Int → Option (Bool)
  | 0, _, _, _, _, _, _, _, _, _, _, _, _, _ => none
  | k + 1, x1, x5, x6, x8, x9, x25, x251, x403000, x403001, x415000, x415001, x423000, x423001 => if x251 = true then (none) else (if x8 > 0 then ((impl_WinWithin.f k x5 x6 x403000 x403001 (wrap64 (x8 - 1))).bind fun bt443 => ((impl_RuinWithin.f k x5 x6 x403000 x403001 (wrap64 (x8 - 1))).bind fun bt447 => (if bt443.2.2 = true then ((laws_yTimes.f bt443.1 bt443.2.1 x25).bind fun t451 => ((laws_yTimes.f x415000 x415001 x25).bind fun t452 => (if t451 > t452 then (laws_FnRuinInTime.j4 k x1 x5 x6 x8 x9 x25 true x403000 x403001 x415000 x415001 bt443.1 bt443.2.1) else (if bt447.2.2 = true then ((laws_yTimes.f bt447.1 bt447.2.1 x25).bind fun t453 => ((laws_yTimes.f x423000 x423001 x25).bind fun t454 => (laws_FnRuinInTime.j4 k x1 x5 x6 x8 x9 x25 (decide (t453 > t454)) x403000 x403001 x415000 x415001 bt443.1 bt443.2.1))) else (laws_FnRuinInTime.j4 k x1 x5 x6 x8 x9 x25 true x403000 x403001 x415000 x415001 bt443.1 bt443.2.1))))) else (laws_FnRuinInTime.j4 k x1 x5 x6 x8 x9 x25 true x403000 x403001 x415000 x415001 bt443.1 bt443.2.1)))) else (laws_FnRuinInTime.j6 k x1 x5 x9 x25 x403000 x403001))
def laws_FnRuinInTime.j6 : Nat → List Int → Int → List (S25) → Int → Int → Int → Option (Bool)
  | 0, _, _, _, _, _, _ => none
  | k + 1, x1, x5, x9, x25, x403000, x403001 => if (wrap64 (2 * x403000)) = x403001 then (laws_FnRuinInTime.l1 k x1 x5 x25 0 x9 (x9.length : Int) 0) else (laws_FnRuinInTime.j8 k x1)
def laws_FnRuinInTime.l1 : Nat → List Int → Int → Int → Int → List (S25) → Int → Int → Option (Bool)
  | 0, _, _, _, _, _, _, _ => none
  | k + 1, x1, x5, x25, x37, x337, x338, x339 => if x339 < x338 then (if 0 ≤ x339 then (if x339 < (x337.length : Int) then ((laws_yTimes.f ((rd_T25 x337 x339).f0) ((rd_T25 x337 x339).f1) x25).bind fun t461 => (laws_FnRuinInTime.l1 k x1 x5 x25 (wrap64 (x37 + (wrap64 (x339 * t461)))) x337 x338 (wrap64 (x339 + 1)))) else (none)) else (none)) else (if x37 = (wrap64 (x5 * x25)) then (laws_FnRuinInTime.j8 k x1) else (none))
def laws_FnRuinInTime.j4 : Nat → List Int → Int → Int → Int → List (S25) → Int → Bool → Int → Int → Int → Int → Int → Int → Option (Bool)
  | 0, _, _, _, _, _, _, _, _, _, _, _, _, _ => none
  | k + 1, x1, x5, x6, x8, x9, x25, x295, x403000, x403001, x415000, x415001, x447000, x447001 => if x295 = true then (none) else (if (wrap64 (2 * x403000)) = x403001 then (if x5 > 0 then (laws_FnRuinInTime.j5 k x1 x5 x6 x8 x9 x25 (decide (x5 < x6)) x403000 x403001 x415000 x415001 x447000 x447001) else (laws_FnRuinInTime.j5 k x1 x5 x6 x8 x9 x25 false x403000 x403001 x415000 x415001 x447000 x447001)) else (laws_FnRuinInTime.j5 k x1 x5 x6 x8 x9 x25 false x403000 x403001 x415000 x415001 x447000 x447001))
def laws_FnRuinInTime.j5 : Nat → List Int → Int → Int → Int → List (S25) → Int → Bool → Int → Int → Int → Int → Int → Int → Option (Bool)
  | 0, _, _, _, _, _, _, _, _, _, _, _, _, _ => none
  | k + 1, x1, x5, x6, x8, x9, x25, x310, x403000, x403001, x415000, x415001, x447000, x447001 => if x310 = true then ((impl_CountWins.f k x5 x6 x8).bind fun bt455 => (if bt455.2 = true then ((laws_yTimes.f x415000 x415001 x25).bind fun t457 => ((laws_yTimes.f x447000 x447001 x25).bind fun t458 => (if (wrap64 (t457 - t458)) = bt455.1 then (laws_FnRuinInTime.j6 k x1 x5 x9 x25 x403000 x403001) else (none)))) else (none))) else (laws_FnRuinInTime.j6 k x1 x5 x9 x25 x403000 x403001)
end
def laws_FnRuinInTime.f (k : Nat) (l0 : List Int) (l1 : List Int) : Option (Bool) := (laws_big.f l0 l1).bind fun t396 => (if t396 = true then (some true) else ((spec_DrawHeldAfter.f k l0).bind fun bt397 => ((impl_HeldAfter.f k bt397.1 bt397.2.1 bt397.2.2.1 bt397.2.2.2.1 bt397.2.2.2.2).bind fun bt403 => ((spec_HeldAfter.f k bt397.1 bt397.2.1 bt397.2.2.1 bt397.2.2.2.1 bt397.2.2.2.2).bind fun bt407 => ((impl_WinWithin.f k bt397.1 bt397.2.1 bt397.2.2.1 bt397.2.2.2.1 bt397.2.2.2.2).bind fun bt411 => ((spec_WinWithin.f k bt397.1 bt397.2.1 bt397.2.2.1 bt397.2.2.2.1 bt397.2.2.2.2).bind fun bt415 => ((impl_RuinWithin.f k bt397.1 bt397.2.1 bt397.2.2.1 bt397.2.2.2.1 bt397.2.2.2.2).bind fun bt419 => ((spec_RuinWithin.f k bt397.1 bt397.2.1 bt397.2.2.1 bt397.2.2.2.1 bt397.2.2.2.2).bind fun bt423 => ((impl_StillPlaying.f k bt397.1 bt397.2.1 bt397.2.2.1 bt397.2.2.2.1 bt397.2.2.2.2).bind fun bt427 => ((spec_StillPlaying.f k bt397.1 bt397.2.1 bt397.2.2.1 bt397.2.2.2.1 bt397.2.2.2.2).bind fun bt431 => (if (bt403.2 != bt407.2) = true then (laws_FnRuinInTime.j0 k l1 bt397.1 bt397.2.1 bt397.2.2.2.2 bt403.1 bt403.2 true bt397.2.2.1 bt397.2.2.2.1 bt411.1 bt411.2.1 bt419.1 bt419.2.1 bt427.1 bt427.2.1) else ((laws_yRatios.f k bt403.1 bt407.1).bind fun t435 => (if t435 = true then (if (bt411.2.2 != bt415.2.2) = true then (laws_FnRuinInTime.j0 k l1 bt397.1 bt397.2.1 bt397.2.2.2.2 bt403.1 bt403.2 true bt397.2.2.1 bt397.2.2.2.1 bt411.1 bt411.2.1 bt419.1 bt419.2.1 bt427.1 bt427.2.1) else (if (!(bt411.1 == bt415.1) || (!(bt411.2.1 == bt415.2.1))) = true then (laws_FnRuinInTime.j0 k l1 bt397.1 bt397.2.1 bt397.2.2.2.2 bt403.1 bt403.2 true bt397.2.2.1 bt397.2.2.2.1 bt411.1 bt411.2.1 bt419.1 bt419.2.1 bt427.1 bt427.2.1) else (if (bt419.2.2 != bt423.2.2) = true then (laws_FnRuinInTime.j0 k l1 bt397.1 bt397.2.1 bt397.2.2.2.2 bt403.1 bt403.2 true bt397.2.2.1 bt397.2.2.2.1 bt411.1 bt411.2.1 bt419.1 bt419.2.1 bt427.1 bt427.2.1) else (if (!(bt419.1 == bt423.1) || (!(bt419.2.1 == bt423.2.1))) = true then (laws_FnRuinInTime.j0 k l1 bt397.1 bt397.2.1 bt397.2.2.2.2 bt403.1 bt403.2 true bt397.2.2.1 bt397.2.2.2.1 bt411.1 bt411.2.1 bt419.1 bt419.2.1 bt427.1 bt427.2.1) else (if (bt427.2.2 != bt431.2.2) = true then (laws_FnRuinInTime.j0 k l1 bt397.1 bt397.2.1 bt397.2.2.2.2 bt403.1 bt403.2 true bt397.2.2.1 bt397.2.2.2.1 bt411.1 bt411.2.1 bt419.1 bt419.2.1 bt427.1 bt427.2.1) else (if (!(bt427.1 == bt431.1) || (!(bt427.2.1 == bt431.2.1))) = true then (laws_FnRuinInTime.j0 k l1 bt397.1 bt397.2.1 bt397.2.2.2.2 bt403.1 bt403.2 true bt397.2.2.1 bt397.2.2.2.1 bt411.1 bt411.2.1 bt419.1 bt419.2.1 bt427.1 bt427.2.1) else (if (bt411.2.2 != bt403.2) = true then (laws_FnRuinInTime.j0 k l1 bt397.1 bt397.2.1 bt397.2.2.2.2 bt403.1 bt403.2 true bt397.2.2.1 bt397.2.2.2.1 bt411.1 bt411.2.1 bt419.1 bt419.2.1 bt427.1 bt427.2.1) else (if (bt419.2.2 != bt403.2) = true then (laws_FnRuinInTime.j0 k l1 bt397.1 bt397.2.1 bt397.2.2.2.2 bt403.1 bt403.2 true bt397.2.2.1 bt397.2.2.2.1 bt411.1 bt411.2.1 bt419.1 bt419.2.1 bt427.1 bt427.2.1) else (laws_FnRuinInTime.j0 k l1 bt397.1 bt397.2.1 bt397.2.2.2.2 bt403.1 bt403.2 (bt427.2.2 != bt403.2) bt397.2.2.1 bt397.2.2.2.1 bt411.1 bt411.2.1 bt419.1 bt419.2.1 bt427.1 bt427.2.1))))))))) else (laws_FnRuinInTime.j0 k l1 bt397.1 bt397.2.1 bt397.2.2.2.2 bt403.1 bt403.2 true bt397.2.2.1 bt397.2.2.2.1 bt411.1 bt411.2.1 bt419.1 bt419.2.1 bt427.1 bt427.2.1))))))))))))))
theorem laws_FnRuinInTime.mono_l : ∀ k, (∀ y0 y1 y2 y3 y4 y5 y6 y7 y8 y9 y10 y11 y12 y13 y14, LeO (laws_FnRuinInTime.j0 k y0 y1 y2 y3 y4 y5 y6 y7 y8 y9 y10 y11 y12 y13 y14) (laws_FnRuinInTime.j0 (k + 1) y0 y1 y2 y3 y4 y5 y6 y7 y8 y9 y10 y11 y12 y13 y14)) ∧ (∀ y0, LeO (laws_FnRuinInTime.j8 k y0) (laws_FnRuinInTime.j8 (k + 1) y0)) ∧ (∀ y0 y1 y2 y3 y4 y5, LeO (laws_FnRuinInTime.j9 k y0 y1 y2 y3 y4 y5) (laws_FnRuinInTime.j9 (k + 1) y0 y1 y2 y3 y4 y5)) ∧ (∀ y0 y1 y2 y3 y4, LeO (laws_FnRuinInTime.j10 k y0 y1 y2 y3 y4) (laws_FnRuinInTime.j10 (k + 1) y0 y1 y2 y3 y4)) ∧ (∀ y0 y1 y2 y3 y4, LeO (laws_FnRuinInTime.j11 k y0 y1 y2 y3 y4) (laws_FnRuinInTime.j11 (k + 1) y0 y1 y2 y3 y4)) ∧ (∀ y0 y1 y2 y3 y4 y5 y6 y7 y8 y9 y10 y11 y12 y13 y14 y15 y16 y17 y18, LeO (laws_FnRuinInTime.l0 k y0 y1 y2 y3 y4 y5 y6 y7 y8 y9 y10 y11 y12 y13 y14 y15 y16 y17 y18) (laws_FnRuinInTime.l0 (k + 1) y0 y1 y2 y3 y4 y5 y6 y7 y8 y9 y10 y11 y12 y13 y14 y15 y16 y17 y18)) ∧ (∀ y0 y1 y2 y3 y4 y5 y6 y7 y8 y9 y10 y11 y12 y13 y14 y15 y16 y17 y18 y19 y20 y21, LeO (laws_FnRuinInTime.j2 k y0 y1 y2 y3 y4 y5 y6 y7 y8 y9 y10 y11 y12 y13 y14 y15 y16 y17 y18 y19 y20 y21) (laws_FnRuinInTime.j2 (k + 1) y0 y1 y2 y3 y4 y5 y6 y7 y8 y9 y10 y11 y12 y13 y14 y15 y16 y17 y18 y19 y20 y21)) ∧ (∀ y0 y1 y2 y3 y4 y5 y6 y7 y8 y9 y10 y11 y12, LeO (laws_FnRuinInTime.j3 k y0 y1 y2 y3 y4 y5 y6 y7 y8 y9 y10 y11 y12) (laws_FnRuinInTime.j3 (k + 1) y0 y1 y2 y3 y4 y5 y6 y7 y8 y9 y10 y11 y12)) ∧ (∀ y0 y1 y2 y3 y4 y5, LeO (laws_FnRuinInTime.j6 k y0 y1 y2 y3 y4 y5) (laws_FnRuinInTime.j6 (k + 1) y0 y1 y2 y3 y4 y5)) ∧ (∀ y0 y1 y2 y3 y4 y5 y6, LeO (laws_FnRuinInTime.l1 k y0 y1 y2 y3 y4 y5 y6) (laws_FnRuinInTime.l1 (k + 1) y0 y1 y2 y3 y4 y5 y6)) ∧ (∀ y0 y1 y2 y3 y4 y5 y6 y7 y8 y9 y10 y11 y12, LeO (laws_FnRuinInTime.j4 k y0 y1 y2 y3 y4 y5 y6 y7 y8 y9 y10 y11 y12) (laws_FnRuinInTime.j4 (k + 1) y0 y1 y2 y3 y4 y5 y6 y7 y8 y9 y10 y11 y12)) ∧ (∀ y0 y1 y2 y3 y4 y5 y6 y7 y8 y9 y10 y11 y12, LeO (laws_FnRuinInTime.j5 k y0 y1 y2 y3 y4 y5 y6 y7 y8 y9 y10 y11 y12) (laws_FnRuinInTime.j5 (k + 1) y0 y1 y2 y3 y4 y5 y6 y7 y8 y9 y10 y11 y12))
  | 0 => ⟨fun _ _ _ _ _ _ _ _ _ _ _ _ _ _ _ r h => by simp [laws_FnRuinInTime.j0] at h, fun _ r h => by simp [laws_FnRuinInTime.j8] at h, fun _ _ _ _ _ _ r h => by simp [laws_FnRuinInTime.j9] at h, fun _ _ _ _ _ r h => by simp [laws_FnRuinInTime.j10] at h, fun _ _ _ _ _ r h => by simp [laws_FnRuinInTime.j11] at h, fun _ _ _ _ _ _ _ _ _ _ _ _ _ _ _ _ _ _ _ r h => by simp [laws_FnRuinInTime.l0] at h, fun _ _ _ _ _ _ _ _ _ _ _ _ _ _ _ _ _ _ _ _ _ _ r h => by simp [laws_FnRuinInTime.j2] at h, fun _ _ _ _ _ _ _ _ _ _ _ _ _ r h => by simp [laws_FnRuinInTime.j3] at h, fun _ _ _ _ _ _ r h => by simp [laws_FnRuinInTime.j6] at h, fun _ _ _ _ _ _ _ r h => by simp [laws_FnRuinInTime.l1] at h, fun _ _ _ _ _ _ _ _ _ _ _ _ _ r h => by simp [laws_FnRuinInTime.j4] at h, fun _ _ _ _ _ _ _ _ _ _ _ _ _ r h => by simp [laws_FnRuinInTime.j5] at h⟩
  | k + 1 => by
    obtain ⟨ih0, ih1, ih2, ih3, ih4, ih5, ih6, ih7, ih8, ih9, ih10, ih11⟩ := laws_FnRuinInTime.mono_l k
    refine ⟨?_, ?_, ?_, ?_, ?_, ?_, ?_, ?_, ?_, ?_, ?_, ?_⟩
    · intro y0 y1 y2 y3 y4 y5 y6 y7 y8 y9 y10 y11 y12 y13 y14
      unfold laws_FnRuinInTime.j0
      repeat' first
      | (with_reducible exact ih0 _ _ _ _ _ _ _ _ _ _ _ _ _ _ _)
      | (with_reducible exact ih1 _)
      | (with_reducible exact ih2 _ _ _ _ _ _)
      | (with_reducible exact ih3 _ _ _ _ _)
      | (with_reducible exact ih4 _ _ _ _ _)
      | (with_reducible exact ih5 _ _ _ _ _ _ _ _ _ _ _ _ _ _ _ _ _ _ _)
      | (with_reducible exact ih6 _ _ _ _ _ _ _ _ _ _ _ _ _ _ _ _ _ _ _ _ _ _)
      | (with_reducible exact ih7 _ _ _ _ _ _ _ _ _ _ _ _ _)
      | (with_reducible exact ih8 _ _ _ _ _ _)
      | (with_reducible exact ih9 _ _ _ _ _ _ _)
      | (with_reducible exact ih10 _ _ _ _ _ _ _ _ _ _ _ _ _)
      | (with_reducible exact ih11 _ _ _ _ _ _ _ _ _ _ _ _ _)
      | (with_reducible exact impl_CountBetween.mono _ _ _ _ _)
      | (with_reducible exact impl_CountWins.mono _ _ _ _)
      | (with_reducible exact impl_HeldAfter.mono _ _ _ _ _ _)
      | (with_reducible exact impl_RuinWithin.mono _ _ _ _ _ _)
      | (with_reducible exact impl_StillPlaying.mono _ _ _ _ _ _)
      | (with_reducible exact impl_WinWithin.mono _ _ _ _ _ _)
      | (with_reducible exact laws_yPower.mono _ _ _)
      | (with_reducible exact laws_yRatios.mono _ _ _)
      | (with_reducible exact spec_CountWins.mono _ _ _ _)
      | (with_reducible exact spec_DrawHeldAfter.mono _ _)
      | (with_reducible exact spec_HeldAfter.mono _ _ _ _ _ _)
      | (with_reducible exact spec_RuinWithin.mono _ _ _ _ _ _)
      | (with_reducible exact spec_StillPlaying.mono _ _ _ _ _ _)
      | (with_reducible exact spec_WinWithin.mono _ _ _ _ _ _)
      | (with_reducible exact LeO.refl _)
      | (with_reducible exact LeO.none _)
      | (with_reducible refine LeO.ite ?_ ?_)
      | (with_reducible refine LeO.bind ?_ (fun _ => ?_))
      | exact ih0 _ _ _ _ _ _ _ _ _ _ _ _ _ _ _
      | exact ih1 _
      | exact ih2 _ _ _ _ _ _
      | exact ih3 _ _ _ _ _
      | exact ih4 _ _ _ _ _
      | exact ih5 _ _ _ _ _ _ _ _ _ _ _ _ _ _ _ _ _ _ _
      | exact ih6 _ _ _ _ _ _ _ _ _ _ _ _ _ _ _ _ _ _ _ _ _ _
      | exact ih7 _ _ _ _ _ _ _ _ _ _ _ _ _
      | exact ih8 _ _ _ _ _ _
      | exact ih9 _ _ _ _ _ _ _
      | exact ih10 _ _ _ _ _ _ _ _ _ _ _ _ _
      | exact ih11 _ _ _ _ _ _ _ _ _ _ _ _ _
      | exact impl_CountBetween.mono _ _ _ _ _
      | exact impl_CountWins.mono _ _ _ _
      | exact impl_HeldAfter.mono _ _ _ _ _ _
      | exact impl_RuinWithin.mono _ _ _ _ _ _
      | exact impl_StillPlaying.mono _ _ _ _ _ _
      | exact impl_WinWithin.mono _ _ _ _ _ _
      | exact laws_yPower.mono _ _ _
      | exact laws_yRatios.mono _ _ _
      | exact spec_CountWins.mono _ _ _ _
      | exact spec_DrawHeldAfter.mono _ _
      | exact spec_HeldAfter.mono _ _ _ _ _ _
      | exact spec_RuinWithin.mono _ _ _ _ _ _
      | exact spec_StillPlaying.mono _ _ _ _ _ _
      | exact spec_WinWithin.mono _ _ _ _ _ _
      | exact LeO.none _
      | refine LeO.ite ?_ ?_
      | refine LeO.bind ?_ (fun _ => ?_)
    · intro y0
      unfold laws_FnRuinInTime.j8
      repeat' first
      | (with_reducible exact ih0 _ _ _ _ _ _ _ _ _ _ _ _ _ _ _)
      | (with_reducible exact ih1 _)
      | (with_reducible exact ih2 _ _ _ _ _ _)
      | (with_reducible exact ih3 _ _ _ _ _)
      | (with_reducible exact ih4 _ _ _ _ _)
      | (with_reducible exact ih5 _ _ _ _ _ _ _ _ _ _ _ _ _ _ _ _ _ _ _)
      | (with_reducible exact ih6 _ _ _ _ _ _ _ _ _ _ _ _ _ _ _ _ _ _ _ _ _ _)
      | (with_reducible exact ih7 _ _ _ _ _ _ _ _ _ _ _ _ _)
      | (with_reducible exact ih8 _ _ _ _ _ _)
      | (with_reducible exact ih9 _ _ _ _ _ _ _)
      | (with_reducible exact ih10 _ _ _ _ _ _ _ _ _ _ _ _ _)
      | (with_reducible exact ih11 _ _ _ _ _ _ _ _ _ _ _ _ _)
      | (with_reducible exact impl_CountBetween.mono _ _ _ _ _)
      | (with_reducible exact impl_CountWins.mono _ _ _ _)
      | (with_reducible exact impl_HeldAfter.mono _ _ _ _ _ _)
      | (with_reducible exact impl_RuinWithin.mono _ _ _ _ _ _)
      | (with_reducible exact impl_StillPlaying.mono _ _ _ _ _ _)
      | (with_reducible exact impl_WinWithin.mono _ _ _ _ _ _)
      | (with_reducible exact laws_yPower.mono _ _ _)
      | (with_reducible exact laws_yRatios.mono _ _ _)
      | (with_reducible exact spec_CountWins.mono _ _ _ _)
      | (with_reducible exact spec_DrawHeldAfter.mono _ _)
      | (with_reducible exact spec_HeldAfter.mono _ _ _ _ _ _)
      | (with_reducible exact spec_RuinWithin.mono _ _ _ _ _ _)
      | (with_reducible exact spec_StillPlaying.mono _ _ _ _ _ _)
      | (with_reducible exact spec_WinWithin.mono _ _ _ _ _ _)
      | (with_reducible exact LeO.refl _)
      | (with_reducible exact LeO.none _)
      | (with_reducible refine LeO.ite ?_ ?_)
      | (with_reducible refine LeO.bind ?_ (fun _ => ?_))
      | exact ih0 _ _ _ _ _ _ _ _ _ _ _ _ _ _ _
      | exact ih1 _
      | exact ih2 _ _ _ _ _ _
      | exact ih3 _ _ _ _ _
      | exact ih4 _ _ _ _ _
      | exact ih5 _ _ _ _ _ _ _ _ _ _ _ _ _ _ _ _ _ _ _
      | exact ih6 _ _ _ _ _ _ _ _ _ _ _ _ _ _ _ _ _ _ _ _ _ _
      | exact ih7 _ _ _ _ _ _ _ _ _ _ _ _ _
      | exact ih8 _ _ _ _ _ _
      | exact ih9 _ _ _ _ _ _ _
      | exact ih10 _ _ _ _ _ _ _ _ _ _ _ _ _
      | exact ih11 _ _ _ _ _ _ _ _ _ _ _ _ _
      | exact impl_CountBetween.mono _ _ _ _ _
      | exact impl_CountWins.mono _ _ _ _
      | exact impl_HeldAfter.mono _ _ _ _ _ _
      | exact impl_RuinWithin.mono _ _ _ _ _ _
      | exact impl_StillPlaying.mono _ _ _ _ _ _
      | exact impl_WinWithin.mono _ _ _ _ _ _
      | exact laws_yPower.mono _ _ _
      | exact laws_yRatios.mono _ _ _
      | exact spec_CountWins.mono _ _ _ _
      | exact spec_DrawHeldAfter.mono _ _
      | exact spec_HeldAfter.mono _ _ _ _ _ _
      | exact spec_RuinWithin.mono _ _ _ _ _ _
      | exact spec_StillPlaying.mono _ _ _ _ _ _
      | exact spec_WinWithin.mono _ _ _ _ _ _
      | exact LeO.none _
      | refine LeO.ite ?_ ?_
      | refine LeO.bind ?_ (fun _ => ?_)
    · intro y0 y1 y2 y3 y4 y5
      unfold laws_FnRuinInTime.j9
      repeat' first
      | (with_reducible exact ih0 _ _ _ _ _ _ _ _ _ _ _ _ _ _ _)
      | (with_reducible exact ih1 _)
      | (with_reducible exact ih2 _ _ _ _ _ _)
      | (with_reducible exact ih3 _ _ _ _ _)
      | (with_reducible exact ih4 _ _ _ _ _)
      | (with_reducible exact ih5 _ _ _ _ _ _ _ _ _ _ _ _ _ _ _ _ _ _ _)
      | (with_reducible exact ih6 _ _ _ _ _ _ _ _ _ _ _ _ _ _ _ _ _ _ _ _ _ _)
      | (with_reducible exact ih7 _ _ _ _ _ _ _ _ _ _ _ _ _)
      | (with_reducible exact ih8 _ _ _ _ _ _)
      | (with_reducible exact ih9 _ _ _ _ _ _ _)
      | (with_reducible exact ih10 _ _ _ _ _ _ _ _ _ _ _ _ _)
      | (with_reducible exact ih11 _ _ _ _ _ _ _ _ _ _ _ _ _)
      | (with_reducible exact impl_CountBetween.mono _ _ _ _ _)
      | (with_reducible exact impl_CountWins.mono _ _ _ _)
      | (with_reducible exact impl_HeldAfter.mono _ _ _ _ _ _)
      | (with_reducible exact impl_RuinWithin.mono _ _ _ _ _ _)
      | (with_reducible exact impl_StillPlaying.mono _ _ _ _ _ _)
      | (with_reducible exact impl_WinWithin.mono _ _ _ _ _ _)
      | (with_reducible exact laws_yPower.mono _ _ _)
      | (with_reducible exact laws_yRatios.mono _ _ _)
      | (with_reducible exact spec_CountWins.mono _ _ _ _)
      | (with_reducible exact spec_DrawHeldAfter.mono _ _)
      | (with_reducible exact spec_HeldAfter.mono _ _ _ _ _ _)
      | (with_reducible exact spec_RuinWithin.mono _ _ _ _ _ _)
      | (with_reducible exact spec_StillPlaying.mono _ _ _ _ _ _)
      | (with_reducible exact spec_WinWithin.mono _ _ _ _ _ _)
      | (with_reducible exact LeO.refl _)
      | (with_reducible exact LeO.none _)
      | (with_reducible refine LeO.ite ?_ ?_)
      | (with_reducible refine LeO.bind ?_ (fun _ => ?_))
      | exact ih0 _ _ _ _ _ _ _ _ _ _ _ _ _ _ _
      | exact ih1 _
      | exact ih2 _ _ _ _ _ _
      | exact ih3 _ _ _ _ _
      | exact ih4 _ _ _ _ _
      | exact ih5 _ _ _ _ _ _ _ _ _ _ _ _ _ _ _ _ _ _ _
      | exact ih6 _ _ _ _ _ _ _ _ _ _ _ _ _ _ _ _ _ _ _ _ _ _
      | exact ih7 _ _ _ _ _ _ _ _ _ _ _ _ _
      | exact ih8 _ _ _ _ _ _
      | exact ih9 _ _ _ _ _ _ _
      | exact ih10 _ _ _ _ _ _ _ _ _ _ _ _ _
      | exact ih11 _ _ _ _ _ _ _ _ _ _ _ _ _
      | exact impl_CountBetween.mono _ _ _ _ _
      | exact impl_CountWins.mono _ _ _ _
      | exact impl_HeldAfter.mono _ _ _ _ _ _
      | exact impl_RuinWithin.mono _ _ _ _ _ _
      | exact impl_StillPlaying.mono _ _ _ _ _ _
      | exact impl_WinWithin.mono _ _ _ _ _ _
      | exact laws_yPower.mono _ _ _
      | exact laws_yRatios.mono _ _ _
      | exact spec_CountWins.mono _ _ _ _
      | exact spec_DrawHeldAfter.mono _ _
      | exact spec_HeldAfter.mono _ _ _ _ _ _
      | exact spec_RuinWithin.mono _ _ _ _ _ _
      | exact spec_StillPlaying.mono _ _ _ _ _ _
      | exact spec_WinWithin.mono _ _ _ _ _ _
      | exact LeO.none _
      | refine LeO.ite ?_ ?_
      | refine LeO.bind ?_ (fun _ => ?_)
    · intro y0 y1 y2 y3 y4
      unfold laws_FnRuinInTime.j10
      repeat' first
      | (with_reducible exact ih0 _ _ _ _ _ _ _ _ _ _ _ _ _ _ _)
      | (with_reducible exact ih1 _)
      | (with_reducible exact ih2 _ _ _ _ _ _)
      | (with_reducible exact ih3 _ _ _ _ _)
      | (with_reducible exact ih4 _ _ _ _ _)
      | (with_reducible exact ih5 _ _ _ _ _ _ _ _ _ _ _ _ _ _ _ _ _ _ _)
      | (with_reducible exact ih6 _ _ _ _ _ _ _ _ _ _ _ _ _ _ _ _ _ _ _ _ _ _)
      | (with_reducible exact ih7 _ _ _ _ _ _ _ _ _ _ _ _ _)
      | (with_reducible exact ih8 _ _ _ _ _ _)
      | (with_reducible exact ih9 _ _ _ _ _ _ _)
      | (with_reducible exact ih10 _ _ _ _ _ _ _ _ _ _ _ _ _)
      | (with_reducible exact ih11 _ _ _ _ _ _ _ _ _ _ _ _ _)
      | (with_reducible exact impl_CountBetween.mono _ _ _ _ _)
      | (with_reducible exact impl_CountWins.mono _ _ _ _)
      | (with_reducible exact impl_HeldAfter.mono _ _ _ _ _ _)
      | (with_reducible exact impl_RuinWithin.mono _ _ _ _ _ _)
      | (with_reducible exact impl_StillPlaying.mono _ _ _ _ _ _)
      | (with_reducible exact impl_WinWithin.mono _ _ _ _ _ _)
      | (with_reducible exact laws_yPower.mono _ _ _)
      | (with_reducible exact laws_yRatios.mono _ _ _)
      | (with_reducible exact spec_CountWins.mono _ _ _ _)
      | (with_reducible exact spec_DrawHeldAfter.mono _ _)
      | (with_reducible exact spec_HeldAfter.mono _ _ _ _ _ _)
      | (with_reducible exact spec_RuinWithin.mono _ _ _ _ _ _)
      | (with_reducible exact spec_StillPlaying.mono _ _ _ _ _ _)
      | (with_reducible exact spec_WinWithin.mono _ _ _ _ _ _)
      | (with_reducible exact LeO.refl _)
      | (with_reducible exact LeO.none _)
      | (with_reducible refine LeO.ite ?_ ?_)
      | (with_reducible refine LeO.bind ?_ (fun _ => ?_))
      | exact ih0 _ _ _ _ _ _ _ _ _ _ _ _ _ _ _
      | exact ih1 _
      | exact ih2 _ _ _ _ _ _
      | exact ih3 _ _ _ _ _
      | exact ih4 _ _ _ _ _
      | exact ih5 _ _ _ _ _ _ _ _ _ _ _ _ _ _ _ _ _ _ _
      | exact ih6 _ _ _ _ _ _ _ _ _ _ _ _ _ _ _ _ _ _ _ _ _ _
      | exact ih7 _ _ _ _ _ _ _ _ _ _ _ _ _
      | exact ih8 _ _ _ _ _ _
      | exact ih9 _ _ _ _ _ _ _
      | exact ih10 _ _ _ _ _ _ _ _ _ _ _ _ _
      | exact ih11 _ _ _ _ _ _ _ _ _ _ _ _ _
      | exact impl_CountBetween.mono _ _ _ _ _
      | exact impl_CountWins.mono _ _ _ _
      | exact impl_HeldAfter.mono _ _ _ _ _ _
      | exact impl_RuinWithin.mono _ _ _ _ _ _
      | exact impl_StillPlaying.mono _ _ _ _ _ _
      | exact impl_WinWithin.mono _ _ _ _ _ _
      | exact laws_yPower.mono _ _ _
      | exact laws_yRatios.mono _ _ _
      | exact spec_CountWins.mono _ _ _ _
      | exact spec_DrawHeldAfter.mono _ _
      | exact spec_HeldAfter.mono _ _ _ _ _ _
      | exact spec_RuinWithin.mono _ _ _ _ _ _
      | exact spec_StillPlaying.mono _ _ _ _ _ _
      | exact spec_WinWithin.mono _ _ _ _ _ _
      | exact LeO.none _
      | refine LeO.ite ?_ ?_
      | refine LeO.bind ?_ (fun _ => ?_)
    · intro y0 y1 y2 y3 y4
      unfold laws_FnRuinInTime.j11
      repeat' first
      | (with_reducible exact ih0 _ _ _ _ _ _ _ _ _ _ _ _ _ _ _)
      | (with_reducible exact ih1 _)
      | (with_reducible exact ih2 _ _ _ _ _ _)
      | (with_reducible exact ih3 _ _ _ _ _)
      | (with_reducible exact ih4 _ _ _ _ _)
      | (with_reducible exact ih5 _ _ _ _ _ _ _ _ _ _ _ _ _ _ _ _ _ _ _)
      | (with_reducible exact ih6 _ _ _ _ _ _ _ _ _ _ _ _ _ _ _ _ _ _ _ _ _ _)
      | (with_reducible exact ih7 _ _ _ _ _ _ _ _ _ _ _ _ _)
      | (with_reducible exact ih8 _ _ _ _ _ _)
      | (with_reducible exact ih9 _ _ _ _ _ _ _)
      | (with_reducible exact ih10 _ _ _ _ _ _ _ _ _ _ _ _ _)
      | (with_reducible exact ih11 _ _ _ _ _ _ _ _ _ _ _ _ _)
      | (with_reducible exact impl_CountBetween.mono _ _ _ _ _)
      | (with_reducible exact impl_CountWins.mono _ _ _ _)
      | (with_reducible exact impl_HeldAfter.mono _ _ _ _ _ _)
      | (with_reducible exact impl_RuinWithin.mono _ _ _ _ _ _)
      | (with_reducible exact impl_StillPlaying.mono _ _ _ _ _ _)
      | (with_reducible exact impl_WinWithin.mono _ _ _ _ _ _)
      | (with_reducible exact laws_yPower.mono _ _ _)
      | (with_reducible exact laws_yRatios.mono _ _ _)
      | (with_reducible exact spec_CountWins.mono _ _ _ _)
      | (with_reducible exact spec_DrawHeldAfter.mono _ _)
      | (with_reducible exact spec_HeldAfter.mono _ _ _ _ _ _)
      | (with_reducible exact spec_RuinWithin.mono _ _ _ _ _ _)
      | (with_reducible exact spec_StillPlaying.mono _ _ _ _ _ _)
      | (with_reducible exact spec_WinWithin.mono _ _ _ _ _ _)
      | (with_reducible exact LeO.refl _)
      | (with_reducible exact LeO.none _)
      | (with_reducible refine LeO.ite ?_ ?_)
      | (with_reducible refine LeO.bind ?_ (fun _ => ?_))
      | exact ih0 _ _ _ _ _ _ _ _ _ _ _ _ _ _ _
      | exact ih1 _
      | exact ih2 _ _ _ _ _ _
      | exact ih3 _ _ _ _ _
      | exact ih4 _ _ _ _ _
      | exact ih5 _ _ _ _ _ _ _ _ _ _ _ _ _ _ _ _ _ _ _
      | exact ih6 _ _ _ _ _ _ _ _ _ _ _ _ _ _ _ _ _ _ _ _ _ _
      | exact ih7 _ _ _ _ _ _ _ _ _ _ _ _ _
      | exact ih8 _ _ _ _ _ _
      | exact ih9 _ _ _ _ _ _ _
      | exact ih10 _ _ _ _ _ _ _ _ _ _ _ _ _
      | exact ih11 _ _ _ _ _ _ _ _ _ _ _ _ _
      | exact impl_CountBetween.mono _ _ _ _ _
      | exact impl_CountWins.mono _ _ _ _
      | exact impl_HeldAfter.mono _ _ _ _ _ _
      | exact impl_RuinWithin.mono _ _ _ _ _ _
      | exact impl_StillPlaying.mono _ _ _ _ _ _
      | exact impl_WinWithin.mono _ _ _ _ _ _
      | exact laws_yPower.mono _ _ _
      | exact laws_yRatios.mono _ _ _
      | exact spec_CountWins.mono _ _ _ _
      | exact spec_DrawHeldAfter.mono _ _
      | exact spec_HeldAfter.mono _ _ _ _ _ _
      | exact spec_RuinWithin.mono _ _ _ _ _ _
      | exact spec_StillPlaying.mono _ _ _ _ _ _
      | exact spec_WinWithin.mono _ _ _ _ _ _
      | exact LeO.none _
      | refine LeO.ite ?_ ?_
      | refine LeO.bind ?_ (fun _ => ?_)
    · intro y0 y1 y2 y3 y4 y5 y6 y7 y8 y9 y10 y11 y12 y13 y14 y15 y16 y17 y18
      unfold laws_FnRuinInTime.l0
      repeat' first
      | (with_reducible exact ih0 _ _ _ _ _ _ _ _ _ _ _ _ _ _ _)
      | (with_reducible exact ih1 _)
      | (with_reducible exact ih2 _ _ _ _ _ _)
      | (with_reducible exact ih3 _ _ _ _ _)
      | (with_reducible exact ih4 _ _ _ _ _)
      | (with_reducible exact ih5 _ _ _ _ _ _ _ _ _ _ _ _ _ _ _ _ _ _ _)
      | (with_reducible exact ih6 _ _ _ _ _ _ _ _ _ _ _ _ _ _ _ _ _ _ _ _ _ _)
      | (with_reducible exact ih7 _ _ _ _ _ _ _ _ _ _ _ _ _)
      | (with_reducible exact ih8 _ _ _ _ _ _)
      | (with_reducible exact ih9 _ _ _ _ _ _ _)
      | (with_reducible exact ih10 _ _ _ _ _ _ _ _ _ _ _ _ _)
      | (with_reducible exact ih11 _ _ _ _ _ _ _ _ _ _ _ _ _)
      | (with_reducible exact impl_CountBetween.mono _ _ _ _ _)
      | (with_reducible exact impl_CountWins.mono _ _ _ _)
      | (with_reducible exact impl_HeldAfter.mono _ _ _ _ _ _)
      | (with_reducible exact impl_RuinWithin.mono _ _ _ _ _ _)
      | (with_reducible exact impl_StillPlaying.mono _ _ _ _ _ _)
      | (with_reducible exact impl_WinWithin.mono _ _ _ _ _ _)
      | (with_reducible exact laws_yPower.mono _ _ _)
      | (with_reducible exact laws_yRatios.mono _ _ _)
      | (with_reducible exact spec_CountWins.mono _ _ _ _)
      | (with_reducible exact spec_DrawHeldAfter.mono _ _)
      | (with_reducible exact spec_HeldAfter.mono _ _ _ _ _ _)
      | (with_reducible exact spec_RuinWithin.mono _ _ _ _ _ _)
      | (with_reducible exact spec_StillPlaying.mono _ _ _ _ _ _)
      | (with_reducible exact spec_WinWithin.mono _ _ _ _ _ _)
      | (with_reducible exact LeO.refl _)
      | (with_reducible exact LeO.none _)
      | (with_reducible refine LeO.ite ?_ ?_)
      | (with_reducible refine LeO.bind ?_ (fun _ => ?_))
      | exact ih0 _ _ _ _ _ _ _ _ _ _ _ _ _ _ _
      | exact ih1 _
      | exact ih2 _ _ _ _ _ _
      | exact ih3 _ _ _ _ _
      | exact ih4 _ _ _ _ _
      | exact ih5 _ _ _ _ _ _ _ _ _ _ _ _ _ _ _ _ _ _ _
      | exact ih6 _ _ _ _ _ _ _ _ _ _ _ _ _ _ _ _ _ _ _ _ _ _
      | exact ih7 _ _ _ _ _ _ _ _ _ _ _ _ _
      | exact ih8 _ _ _ _ _ _
      | exact ih9 _ _ _ _ _ _ _
      | exact ih10 _ _ _ _ _ _ _ _ _ _ _ _ _
      | exact ih11 _ _ _ _ _ _ _ _ _ _ _ _ _
      | exact impl_CountBetween.mono _ _ _ _ _
      | exact impl_CountWins.mono _ _ _ _
      | exact impl_HeldAfter.mono _ _ _ _ _ _
      | exact impl_RuinWithin.mono _ _ _ _ _ _
      | exact impl_StillPlaying.mono _ _ _ _ _ _
      | exact impl_WinWithin.mono _ _ _ _ _ _
      | exact laws_yPower.mono _ _ _
      | exact laws_yRatios.mono _ _ _
      | exact spec_CountWins.mono _ _ _ _
      | exact spec_DrawHeldAfter.mono _ _
      | exact spec_HeldAfter.mono _ _ _ _ _ _
      | exact spec_RuinWithin.mono _ _ _ _ _ _
      | exact spec_StillPlaying.mono _ _ _ _ _ _
      | exact spec_WinWithin.mono _ _ _ _ _ _
      | exact LeO.none _
      | refine LeO.ite ?_ ?_
      | refine LeO.bind ?_ (fun _ => ?_)
    · intro y0 y1 y2 y3 y4 y5 y6 y7 y8 y9 y10 y11 y12 y13 y14 y15 y16 y17 y18 y19 y20 y21
      unfold laws_FnRuinInTime.j2
      repeat' first
      | (with_reducible exact ih0 _ _ _ _ _ _ _ _ _ _ _ _ _ _ _)
      | (with_reducible exact ih1 _)
      | (with_reducible exact ih2 _ _ _ _ _ _)
      | (with_reducible exact ih3 _ _ _ _ _)
      | (with_reducible exact ih4 _ _ _ _ _)
      | (with_reducible exact ih5 _ _ _ _ _ _ _ _ _ _ _ _ _ _ _ _ _ _ _)
      | (with_reducible exact ih6 _ _ _ _ _ _ _ _ _ _ _ _ _ _ _ _ _ _ _ _ _ _)
      | (with_reducible exact ih7 _ _ _ _ _ _ _ _ _ _ _ _ _)
      | (with_reducible exact ih8 _ _ _ _ _ _)
      | (with_reducible exact ih9 _ _ _ _ _ _ _)
      | (with_reducible exact ih10 _ _ _ _ _ _ _ _ _ _ _ _ _)
      | (with_reducible exact ih11 _ _ _ _ _ _ _ _ _ _ _ _ _)
      | (with_reducible exact impl_CountBetween.mono _ _ _ _ _)
      | (with_reducible exact impl_CountWins.mono _ _ _ _)
      | (with_reducible exact impl_HeldAfter.mono _ _ _ _ _ _)
      | (with_reducible exact impl_RuinWithin.mono _ _ _ _ _ _)
      | (with_reducible exact impl_StillPlaying.mono _ _ _ _ _ _)
      | (with_reducible exact impl_WinWithin.mono _ _ _ _ _ _)
      | (with_reducible exact laws_yPower.mono _ _ _)
      | (with_reducible exact laws_yRatios.mono _ _ _)
      | (with_reducible exact spec_CountWins.mono _ _ _ _)
      | (with_reducible exact spec_DrawHeldAfter.mono _ _)
      | (with_reducible exact spec_HeldAfter.mono _ _ _ _ _ _)
      | (with_reducible exact spec_RuinWithin.mono _ _ _ _ _ _)
      | (with_reducible exact spec_StillPlaying.mono _ _ _ _ _ _)
      | (with_reducible exact spec_WinWithin.mono _ _ _ _ _ _)
      | (with_reducible exact LeO.refl _)
      | (with_reducible exact LeO.none _)
      | (with_reducible refine LeO.ite ?_ ?_)
      | (with_reducible refine LeO.bind ?_ (fun _ => ?_))
      | exact ih0 _ _ _ _ _ _ _ _ _ _ _ _ _ _ _
      | exact ih1 _
      | exact ih2 _ _ _ _ _ _
      | exact ih3 _ _ _ _ _
      | exact ih4 _ _ _ _ _
      | exact ih5 _ _ _ _ _ _ _ _ _ _ _ _ _ _ _ _ _ _ _
      | exact ih6 _ _ _ _ _ _ _ _ _ _ _ _ _ _ _ _ _ _ _ _ _ _
      | exact ih7 _ _ _ _ _ _ _ _ _ _ _ _ _
      | exact ih8 _ _ _ _ _ _
      | exact ih9 _ _ _ _ _ _ _
      | exact ih10 _ _ _ _ _ _ _ _ _ _ _ _ _
      | exact ih11 _ _ _ _ _ _ _ _ _ _ _ _ _
      | exact impl_CountBetween.mono _ _ _ _ _
      | exact impl_CountWins.mono _ _ _ _
      | exact impl_HeldAfter.mono _ _ _ _ _ _
      | exact impl_RuinWithin.mono _ _ _ _ _ _
      | exact impl_StillPlaying.mono _ _ _ _ _ _
      | exact impl_WinWithin.mono _ _ _ _ _ _
      | exact laws_yPower.mono _ _ _
      | exact laws_yRatios.mono _ _ _
      | exact spec_CountWins.mono _ _ _ _
      | exact spec_DrawHeldAfter.mono _ _
      | exact spec_HeldAfter.mono _ _ _ _ _ _
      | exact spec_RuinWithin.mono _ _ _ _ _ _
      | exact spec_StillPlaying.mono _ _ _ _ _ _
      | exact spec_WinWithin.mono _ _ _ _ _ _
      | exact LeO.none _
      | refine LeO.ite ?_ ?_
      | refine LeO.bind ?_ (fun _ => ?_)
    · intro y0 y1 y2 y3 y4 y5 y6 y7 y8 y9 y10 y11 y12
      unfold laws_FnRuinInTime.j3
      repeat' first
      | (with_reducible exact ih0 _ _ _ _ _ _ _ _ _ _ _ _ _ _ _)
      | (with_reducible exact ih1 _)
      | (with_reducible exact ih2 _ _ _ _ _ _)
      | (with_reducible exact ih3 _ _ _ _ _)
      | (with_reducible exact ih4 _ _ _ _ _)
      | (with_reducible exact ih5 _ _ _ _ _ _ _ _ _ _ _ _ _ _ _ _ _ _ _)
      | (with_reducible exact ih6 _ _ _ _ _ _ _ _ _ _ _ _ _ _ _ _ _ _ _ _ _ _)
      | (with_reducible exact ih7 _ _ _ _ _ _ _ _ _ _ _ _ _)
      | (with_reducible exact ih8 _ _ _ _ _ _)
      | (with_reducible exact ih9 _ _ _ _ _ _ _)
      | (with_reducible exact ih10 _ _ _ _ _ _ _ _ _ _ _ _ _)
      | (with_reducible exact ih11 _ _ _ _ _ _ _ _ _ _ _ _ _)
      | (with_reducible exact impl_CountBetween.mono _ _ _ _ _)
      | (with_reducible exact impl_CountWins.mono _ _ _ _)
      | (with_reducible exact impl_HeldAfter.mono _ _ _ _ _ _)
      | (with_reducible exact impl_RuinWithin.mono _ _ _ _ _ _)
      | (with_reducible exact impl_StillPlaying.mono _ _ _ _ _ _)
      | (with_reducible exact impl_WinWithin.mono _ _ _ _ _ _)
      | (with_reducible exact laws_yPower.mono _ _ _)
      | (with_reducible exact laws_yRatios.mono _ _ _)
      | (with_reducible exact spec_CountWins.mono _ _ _ _)
      | (with_reducible exact spec_DrawHeldAfter.mono _ _)
      | (with_reducible exact spec_HeldAfter.mono _ _ _ _ _ _)
      | (with_reducible exact spec_RuinWithin.mono _ _ _ _ _ _)
      | (with_reducible exact spec_StillPlaying.mono _ _ _ _ _ _)
      | (with_reducible exact spec_WinWithin.mono _ _ _ _ _ _)
      | (with_reducible exact LeO.refl _)
      | (with_reducible exact LeO.none _)
      | (with_reducible refine LeO.ite ?_ ?_)
      | (with_reducible refine LeO.bind ?_ (fun _ => ?_))
      | exact ih0 _ _ _ _ _ _ _ _ _ _ _ _ _ _ _
      | exact ih1 _
      | exact ih2 _ _ _ _ _ _
      | exact ih3 _ _ _ _ _
      | exact ih4 _ _ _ _ _
      | exact ih5 _ _ _ _ _ _ _ _ _ _ _ _ _ _ _ _ _ _ _
      | exact ih6 _ _ _ _ _ _ _ _ _ _ _ _ _ _ _ _ _ _ _ _ _ _
      | exact ih7 _ _ _ _ _ _ _ _ _ _ _ _ _
      | exact ih8 _ _ _ _ _ _
      | exact ih9 _ _ _ _ _ _ _
      | exact ih10 _ _ _ _ _ _ _ _ _ _ _ _ _
      | exact ih11 _ _ _ _ _ _ _ _ _ _ _ _ _
      | exact impl_CountBetween.mono _ _ _ _ _
      | exact impl_CountWins.mono _ _ _ _
      | exact impl_HeldAfter.mono _ _ _ _ _ _
      | exact impl_RuinWithin.mono _ _ _ _ _ _
      | exact impl_StillPlaying.mono _ _ _ _ _ _
      | exact impl_WinWithin.mono _ _ _ _ _ _
      | exact laws_yPower.mono _ _ _
      | exact laws_yRatios.mono _ _ _
      | exact spec_CountWins.mono _ _ _ _
      | exact spec_DrawHeldAfter.mono _ _
      | exact spec_HeldAfter.mono _ _ _ _ _ _
      | exact spec_RuinWithin.mono _ _ _ _ _ _
      | exact spec_StillPlaying.mono _ _ _ _ _ _
      | exact spec_WinWithin.mono _ _ _ _ _ _
      | exact LeO.none _
      | refine LeO.ite ?_ ?_
      | refine LeO.bind ?_ (fun _ => ?_)
    · intro y0 y1 y2 y3 y4 y5
      unfold laws_FnRuinInTime.j6
      repeat' first
      | (with_reducible exact ih0 _ _ _ _ _ _ _ _ _ _ _ _ _ _ _)
      | (with_reducible exact ih1 _)
      | (with_reducible exact ih2 _ _ _ _ _ _)
      | (with_reducible exact ih3 _ _ _ _ _)
      | (with_reducible exact ih4 _ _ _ _ _)
      | (with_reducible exact ih5 _ _ _ _ _ _ _ _ _ _ _ _ _ _ _ _ _ _ _)
      | (with_reducible exact ih6 _ _ _ _ _ _ _ _ _ _ _ _ _ _ _ _ _ _ _ _ _ _)
      | (with_reducible exact ih7 _ _ _ _ _ _ _ _ _ _ _ _ _)
      | (with_reducible exact ih8 _ _ _ _ _ _)
      | (with_reducible exact ih9 _ _ _ _ _ _ _)
      | (with_reducible exact ih10 _ _ _ _ _ _ _ _ _ _ _ _ _)
      | (with_reducible exact ih11 _ _ _ _ _ _ _ _ _ _ _ _ _)
      | (with_reducible exact impl_CountBetween.mono _ _ _ _ _)
      | (with_reducible exact impl_CountWins.mono _ _ _ _)
      | (with_reducible exact impl_HeldAfter.mono _ _ _ _ _ _)
      | (with_reducible exact impl_RuinWithin.mono _ _ _ _ _ _)
      | (with_reducible exact impl_StillPlaying.mono _ _ _ _ _ _)
      | (with_reducible exact impl_WinWithin.mono _ _ _ _ _ _)
      | (with_reducible exact laws_yPower.mono _ _ _)
      | (with_reducible exact laws_yRatios.mono _ _ _)
      | (with_reducible exact spec_CountWins.mono _ _ _ _)
      | (with_reducible exact spec_DrawHeldAfter.mono _ _)
      | (with_reducible exact spec_HeldAfter.mono _ _ _ _ _ _)
      | (with_reducible exact spec_RuinWithin.mono _ _ _ _ _ _)
      | (with_reducible exact spec_StillPlaying.mono _ _ _ _ _ _)
      | (with_reducible exact spec_WinWithin.mono _ _ _ _ _ _)
      | (with_reducible exact LeO.refl _)
      | (with_reducible exact LeO.none _)
      | (with_reducible refine LeO.ite ?_ ?_)
      | (with_reducible refine LeO.bind ?_ (fun _ => ?_))
      | exact ih0 _ _ _ _ _ _ _ _ _ _ _ _ _ _ _
      | exact ih1 _
      | exact ih2 _ _ _ _ _ _
      | exact ih3 _ _ _ _ _
      | exact ih4 _ _ _ _ _
      | exact ih5 _ _ _ _ _ _ _ _ _ _ _ _ _ _ _ _ _ _ _
      | exact ih6 _ _ _ _ _ _ _ _ _ _ _ _ _ _ _ _ _ _ _ _ _ _
      | exact ih7 _ _ _ _ _ _ _ _ _ _ _ _ _
      | exact ih8 _ _ _ _ _ _
      | exact ih9 _ _ _ _ _ _ _
      | exact ih10 _ _ _ _ _ _ _ _ _ _ _ _ _
      | exact ih11 _ _ _ _ _ _ _ _ _ _ _ _ _
      | exact impl_CountBetween.mono _ _ _ _ _
      | exact impl_CountWins.mono _ _ _ _
      | exact impl_HeldAfter.mono _ _ _ _ _ _
      | exact impl_RuinWithin.mono _ _ _ _ _ _
      | exact impl_StillPlaying.mono _ _ _ _ _ _
      | exact impl_WinWithin.mono _ _ _ _ _ _
      | exact laws_yPower.mono _ _ _
      | exact laws_yRatios.mono _ _ _
      | exact spec_CountWins.mono _ _ _ _
      | exact spec_DrawHeldAfter.mono _ _
      | exact spec_HeldAfter.mono _ _ _ _ _ _
      | exact spec_RuinWithin.mono _ _ _ _ _ _
      | exact spec_StillPlaying.mono _ _ _ _ _ _
      | exact spec_WinWithin.mono _ _ _ _ _ _
      | exact LeO.none _
      | refine LeO.ite ?_ ?_
      | refine LeO.bind ?_ (fun _ => ?_)
    · intro y0 y1 y2 y3 y4 y5 y6
      unfold laws_FnRuinInTime.l1
      repeat' first
      | (with_reducible exact ih0 _ _ _ _ _ _ _ _ _ _ _ _ _ _ _)
      | (with_reducible exact ih1 _)
      | (with_reducible exact ih2 _ _ _ _ _ _)
      | (with_reducible exact ih3 _ _ _ _ _)
      | (with_reducible exact ih4 _ _ _ _ _)
      | (with_reducible exact ih5 _ _ _ _ _ _ _ _ _ _ _ _ _ _ _ _ _ _ _)
      | (with_reducible exact ih6 _ _ _ _ _ _ _ _ _ _ _ _ _ _ _ _ _ _ _ _ _ _)
      | (with_reducible exact ih7 _ _ _ _ _ _ _ _ _ _ _ _ _)
      | (with_reducible exact ih8 _ _ _ _ _ _)
      | (with_reducible exact ih9 _ _ _ _ _ _ _)
      | (with_reducible exact ih10 _ _ _ _ _ _ _ _ _ _ _ _ _)
      | (with_reducible exact ih11 _ _ _ _ _ _ _ _ _ _ _ _ _)
      | (with_reducible exact impl_CountBetween.mono _ _ _ _ _)
      | (with_reducible exact impl_CountWins.mono _ _ _ _)
      | (with_reducible exact impl_HeldAfter.mono _ _ _ _ _ _)
      | (with_reducible exact impl_RuinWithin.mono _ _ _ _ _ _)
      | (with_reducible exact impl_StillPlaying.mono _ _ _ _ _ _)
      | (with_reducible exact impl_WinWithin.mono _ _ _ _ _ _)
      | (with_reducible exact laws_yPower.mono _ _ _)
      | (with_reducible exact laws_yRatios.mono _ _ _)
      | (with_reducible exact spec_CountWins.mono _ _ _ _)
      | (with_reducible exact spec_DrawHeldAfter.mono _ _)
      | (with_reducible exact spec_HeldAfter.mono _ _ _ _ _ _)
      | (with_reducible exact spec_RuinWithin.mono _ _ _ _ _ _)
      | (with_reducible exact spec_StillPlaying.mono _ _ _ _ _ _)
      | (with_reducible exact spec_WinWithin.mono _ _ _ _ _ _)
      | (with_reducible exact LeO.refl _)
      | (with_reducible exact LeO.none _)
      | (with_reducible refine LeO.ite ?_ ?_)
      | (with_reducible refine LeO.bind ?_ (fun _ => ?_))
      | exact ih0 _ _ _ _ _ _ _ _ _ _ _ _ _ _ _
      | exact ih1 _
      | exact ih2 _ _ _ _ _ _
      | exact ih3 _ _ _ _ _
      | exact ih4 _ _ _ _ _
      | exact ih5 _ _ _ _ _ _ _ _ _ _ _ _ _ _ _ _ _ _ _
      | exact ih6 _ _ _ _ _ _ _ _ _ _ _ _ _ _ _ _ _ _ _ _ _ _
      | exact ih7 _ _ _ _ _ _ _ _ _ _ _ _ _
      | exact ih8 _ _ _ _ _ _
      | exact ih9 _ _ _ _ _ _ _
      | exact ih10 _ _ _ _ _ _ _ _ _ _ _ _ _
      | exact ih11 _ _ _ _ _ _ _ _ _ _ _ _ _
      | exact impl_CountBetween.mono _ _ _ _ _
      | exact impl_CountWins.mono _ _ _ _
      | exact impl_HeldAfter.mono _ _ _ _ _ _
      | exact impl_RuinWithin.mono _ _ _ _ _ _
      | exact impl_StillPlaying.mono _ _ _ _ _ _
      | exact impl_WinWithin.mono _ _ _ _ _ _
      | exact laws_yPower.mono _ _ _
      | exact laws_yRatios.mono _ _ _
      | exact spec_CountWins.mono _ _ _ _
      | exact spec_DrawHeldAfter.mono _ _
      | exact spec_HeldAfter.mono _ _ _ _ _ _
      | exact spec_RuinWithin.mono _ _ _ _ _ _
      | exact spec_StillPlaying.mono _ _ _ _ _ _
      | exact spec_WinWithin.mono _ _ _ _ _ _
      | exact LeO.none _
      | refine LeO.ite ?_ ?_
      | refine LeO.bind ?_ (fun _ => ?_)
    · intro y0 y1 y2 y3 y4 y5 y6 y7 y8 y9 y10 y11 y12
      unfold laws_FnRuinInTime.j4
      repeat' first
      | (with_reducible exact ih0 _ _ _ _ _ _ _ _ _ _ _ _ _ _ _)
      | (with_reducible exact ih1 _)
      | (with_reducible exact ih2 _ _ _ _ _ _)
      | (with_reducible exact ih3 _ _ _ _ _)
      | (with_reducible exact ih4 _ _ _ _ _)
      | (with_reducible exact ih5 _ _ _ _ _ _ _ _ _ _ _ _ _ _ _ _ _ _ _)
      | (with_reducible exact ih6 _ _ _ _ _ _ _ _ _ _ _ _ _ _ _ _ _ _ _ _ _ _)
      | (with_reducible exact ih7 _ _ _ _ _ _ _ _ _ _ _ _ _)
      | (with_reducible exact ih8 _ _ _ _ _ _)
      | (with_reducible exact ih9 _ _ _ _ _ _ _)
      | (with_reducible exact ih10 _ _ _ _ _ _ _ _ _ _ _ _ _)
      | (with_reducible exact ih11 _ _ _ _ _ _ _ _ _ _ _ _ _)
      | (with_reducible exact impl_CountBetween.mono _ _ _ _ _)
      | (with_reducible exact impl_CountWins.mono _ _ _ _)
      | (with_reducible exact impl_HeldAfter.mono _ _ _ _ _ _)
      | (with_reducible exact impl_RuinWithin.mono _ _ _ _ _ _)
      | (with_reducible exact impl_StillPlaying.mono _ _ _ _ _ _)
      | (with_reducible exact impl_WinWithin.mono _ _ _ _ _ _)
      | (with_reducible exact laws_yPower.mono _ _ _)
      | (with_reducible exact laws_yRatios.mono _ _ _)
      | (with_reducible exact spec_CountWins.mono _ _ _ _)
      | (with_reducible exact spec_DrawHeldAfter.mono _ _)
      | (with_reducible exact spec_HeldAfter.mono _ _ _ _ _ _)
      | (with_reducible exact spec_RuinWithin.mono _ _ _ _ _ _)
      | (with_reducible exact spec_StillPlaying.mono _ _ _ _ _ _)
      | (with_reducible exact spec_WinWithin.mono _ _ _ _ _ _)
      | (with_reducible exact LeO.refl _)
      | (with_reducible exact LeO.none _)
      | (with_reducible refine LeO.ite ?_ ?_)
      | (with_reducible refine LeO.bind ?_ (fun _ => ?_))
      | exact ih0 _ _ _ _ _ _ _ _ _ _ _ _ _ _ _
      | exact ih1 _
      | exact ih2 _ _ _ _ _ _
      | exact ih3 _ _ _ _ _
      | exact ih4 _ _ _ _ _
      | exact ih5 _ _ _ _ _ _ _ _ _ _ _ _ _ _ _ _ _ _ _
      | exact ih6 _ _ _ _ _ _ _ _ _ _ _ _ _ _ _ _ _ _ _ _ _ _
      | exact ih7 _ _ _ _ _ _ _ _ _ _ _ _ _
      | exact ih8 _ _ _ _ _ _
      | exact ih9 _ _ _ _ _ _ _
      | exact ih10 _ _ _ _ _ _ _ _ _ _ _ _ _
      | exact ih11 _ _ _ _ _ _ _ _ _ _ _ _ _
      | exact impl_CountBetween.mono _ _ _ _ _
      | exact impl_CountWins.mono _ _ _ _
      | exact impl_HeldAfter.mono _ _ _ _ _ _
      | exact impl_RuinWithin.mono _ _ _ _ _ _
      | exact impl_StillPlaying.mono _ _ _ _ _ _
      | exact impl_WinWithin.mono _ _ _ _ _ _
      | exact laws_yPower.mono _ _ _
      | exact laws_yRatios.mono _ _ _
      | exact spec_CountWins.mono _ _ _ _
      | exact spec_DrawHeldAfter.mono _ _
      | exact spec_HeldAfter.mono _ _ _ _ _ _
      | exact spec_RuinWithin.mono _ _ _ _ _ _
      | exact spec_StillPlaying.mono _ _ _ _ _ _
      | exact spec_WinWithin.mono _ _ _ _ _ _
      | exact LeO.none _
      | refine LeO.ite ?_ ?_
      | refine LeO.bind ?_ (fun _ => ?_)
    · intro y0 y1 y2 y3 y4 y5 y6 y7 y8 y9 y10 y11 y12
      unfold laws_FnRuinInTime.j5
      repeat' first
      | (with_reducible exact ih0 _ _ _ _ _ _ _ _ _ _ _ _ _ _ _)
      | (with_reducible exact ih1 _)
      | (with_reducible exact ih2 _ _ _ _ _ _)
      | (with_reducible exact ih3 _ _ _ _ _)
      | (with_reducible exact ih4 _ _ _ _ _)
      | (with_reducible exact ih5 _ _ _ _ _ _ _ _ _ _ _ _ _ _ _ _ _ _ _)
      | (with_reducible exact ih6 _ _ _ _ _ _ _ _ _ _ _ _ _ _ _ _ _ _ _ _ _ _)
      | (with_reducible exact ih7 _ _ _ _ _ _ _ _ _ _ _ _ _)
      | (with_reducible exact ih8 _ _ _ _ _ _)
      | (with_reducible exact ih9 _ _ _ _ _ _ _)
      | (with_reducible exact ih10 _ _ _ _ _ _ _ _ _ _ _ _ _)
      | (with_reducible exact ih11 _ _ _ _ _ _ _ _ _ _ _ _ _)
      | (with_reducible exact impl_CountBetween.mono _ _ _ _ _)
      | (with_reducible exact impl_CountWins.mono _ _ _ _)
      | (with_reducible exact impl_HeldAfter.mono _ _ _ _ _ _)
      | (with_reducible exact impl_RuinWithin.mono _ _ _ _ _ _)
      | (with_reducible exact impl_StillPlaying.mono _ _ _ _ _ _)
      | (with_reducible exact impl_WinWithin.mono _ _ _ _ _ _)
      | (with_reducible exact laws_yPower.mono _ _ _)
      | (with_reducible exact laws_yRatios.mono _ _ _)
      | (with_reducible exact spec_CountWins.mono _ _ _ _)
      | (with_reducible exact spec_DrawHeldAfter.mono _ _)
      | (with_reducible exact spec_HeldAfter.mono _ _ _ _ _ _)
      | (with_reducible exact spec_RuinWithin.mono _ _ _ _ _ _)
      | (with_reducible exact spec_StillPlaying.mono _ _ _ _ _ _)
      | (with_reducible exact spec_WinWithin.mono _ _ _ _ _ _)
      | (with_reducible exact LeO.refl _)
      | (with_reducible exact LeO.none _)
      | (with_reducible refine LeO.ite ?_ ?_)
      | (with_reducible refine LeO.bind ?_ (fun _ => ?_))
      | exact ih0 _ _ _ _ _ _ _ _ _ _ _ _ _ _ _
      | exact ih1 _
      | exact ih2 _ _ _ _ _ _
      | exact ih3 _ _ _ _ _
      | exact ih4 _ _ _ _ _
      | exact ih5 _ _ _ _ _ _ _ _ _ _ _ _ _ _ _ _ _ _ _
      | exact ih6 _ _ _ _ _ _ _ _ _ _ _ _ _ _ _ _ _ _ _ _ _ _
      | exact ih7 _ _ _ _ _ _ _ _ _ _ _ _ _
      | exact ih8 _ _ _ _ _ _
      | exact ih9 _ _ _ _ _ _ _
      | exact ih10 _ _ _ _ _ _ _ _ _ _ _ _ _
      | exact ih11 _ _ _ _ _ _ _ _ _ _ _ _ _
      | exact impl_CountBetween.mono _ _ _ _ _
      | exact impl_CountWins.mono _ _ _ _
      | exact impl_HeldAfter.mono _ _ _ _ _ _
      | exact impl_RuinWithin.mono _ _ _ _ _ _
      | exact impl_StillPlaying.mono _ _ _ _ _ _
      | exact impl_WinWithin.mono _ _ _ _ _ _
      | exact laws_yPower.mono _ _ _
      | exact laws_yRatios.mono _ _ _
      | exact spec_CountWins.mono _ _ _ _
      | exact spec_DrawHeldAfter.mono _ _
      | exact spec_HeldAfter.mono _ _ _ _ _ _
      | exact spec_RuinWithin.mono _ _ _ _ _ _
      | exact spec_StillPlaying.mono _ _ _ _ _ _
      | exact spec_WinWithin.mono _ _ _ _ _ _
      | exact LeO.none _
      | refine LeO.ite ?_ ?_
      | refine LeO.bind ?_ (fun _ => ?_)
theorem laws_FnRuinInTime.mono : ∀ a0 a1 k, LeO (laws_FnRuinInTime.f k a0 a1) (laws_FnRuinInTime.f (k + 1) a0 a1) := by
  intro a0 a1 k
  obtain ⟨ih0, ih1, ih2, ih3, ih4, ih5, ih6, ih7, ih8, ih9, ih10, ih11⟩ := laws_FnRuinInTime.mono_l k
  unfold laws_FnRuinInTime.f
  repeat' first
      | (with_reducible exact ih0 _ _ _ _ _ _ _ _ _ _ _ _ _ _ _)
      | (with_reducible exact ih1 _)
      | (with_reducible exact ih2 _ _ _ _ _ _)
      | (with_reducible exact ih3 _ _ _ _ _)
      | (with_reducible exact ih4 _ _ _ _ _)
      | (with_reducible exact ih5 _ _ _ _ _ _ _ _ _ _ _ _ _ _ _ _ _ _ _)
      | (with_reducible exact ih6 _ _ _ _ _ _ _ _ _ _ _ _ _ _ _ _ _ _ _ _ _ _)
      | (with_reducible exact ih7 _ _ _ _ _ _ _ _ _ _ _ _ _)
      | (with_reducible exact ih8 _ _ _ _ _ _)
      | (with_reducible exact ih9 _ _ _ _ _ _ _)
      | (with_reducible exact ih10 _ _ _ _ _ _ _ _ _ _ _ _ _)
      | (with_reducible exact ih11 _ _ _ _ _ _ _ _ _ _ _ _ _)
      | (with_reducible exact impl_CountBetween.mono _ _ _ _ _)
      | (with_reducible exact impl_CountWins.mono _ _ _ _)
      | (with_reducible exact impl_HeldAfter.mono _ _ _ _ _ _)
      | (with_reducible exact impl_RuinWithin.mono _ _ _ _ _ _)
      | (with_reducible exact impl_StillPlaying.mono _ _ _ _ _ _)
      | (with_reducible exact impl_WinWithin.mono _ _ _ _ _ _)
      | (with_reducible exact laws_yPower.mono _ _ _)
      | (with_reducible exact laws_yRatios.mono _ _ _)
      | (with_reducible exact spec_CountWins.mono _ _ _ _)
      | (with_reducible exact spec_DrawHeldAfter.mono _ _)
      | (with_reducible exact spec_HeldAfter.mono _ _ _ _ _ _)
      | (with_reducible exact spec_RuinWithin.mono _ _ _ _ _ _)
      | (with_reducible exact spec_StillPlaying.mono _ _ _ _ _ _)
      | (with_reducible exact spec_WinWithin.mono _ _ _ _ _ _)
      | (with_reducible exact LeO.refl _)
      | (with_reducible exact LeO.none _)
      | (with_reducible refine LeO.ite ?_ ?_)
      | (with_reducible refine LeO.bind ?_ (fun _ => ?_))
      | exact ih0 _ _ _ _ _ _ _ _ _ _ _ _ _ _ _
      | exact ih1 _
      | exact ih2 _ _ _ _ _ _
      | exact ih3 _ _ _ _ _
      | exact ih4 _ _ _ _ _
      | exact ih5 _ _ _ _ _ _ _ _ _ _ _ _ _ _ _ _ _ _ _
      | exact ih6 _ _ _ _ _ _ _ _ _ _ _ _ _ _ _ _ _ _ _ _ _ _
      | exact ih7 _ _ _ _ _ _ _ _ _ _ _ _ _
      | exact ih8 _ _ _ _ _ _
      | exact ih9 _ _ _ _ _ _ _
      | exact ih10 _ _ _ _ _ _ _ _ _ _ _ _ _
      | exact ih11 _ _ _ _ _ _ _ _ _ _ _ _ _
      | exact impl_CountBetween.mono _ _ _ _ _
      | exact impl_CountWins.mono _ _ _ _
      | exact impl_HeldAfter.mono _ _ _ _ _ _
      | exact impl_RuinWithin.mono _ _ _ _ _ _
      | exact impl_StillPlaying.mono _ _ _ _ _ _
      | exact impl_WinWithin.mono _ _ _ _ _ _
      | exact laws_yPower.mono _ _ _
      | exact laws_yRatios.mono _ _ _
      | exact spec_CountWins.mono _ _ _ _
      | exact spec_DrawHeldAfter.mono _ _
      | exact spec_HeldAfter.mono _ _ _ _ _ _
      | exact spec_RuinWithin.mono _ _ _ _ _ _
      | exact spec_StillPlaying.mono _ _ _ _ _ _
      | exact spec_WinWithin.mono _ _ _ _ _ _
      | exact LeO.none _
      | refine LeO.ite ?_ ?_
      | refine LeO.bind ?_ (fun _ => ?_)
def laws_FnRuinInTime.T29 : Bool × List (List Nat × List Nat) := (true, [([], []), ([0], [0]), ([], []), ([2], [2]), ([1, 3], [1, 3]), ([4], [4]), ([5], [5]), ([5], [5]), ([6, 7, 5], [5, 6, 7]), ([5, 8], [5, 8]), ([9, 5], [9]), ([10], [10]), ([11, 10], [10, 11]), ([12, 10], [10, 12]), ([10], [10]), ([13, 14, 10], [10, 13, 14]), ([10, 15], [10, 15]), ([16, 10], [16]), ([17], [17]), ([17], [17]), ([18, 19, 17], [17, 18, 19]), ([20, 17], [17, 20]), ([17], [17]), ([21, 22, 17], [17, 21, 22]), ([17, 23], [17, 23]), ([24, 17], [24]), ([25], [25]), ([25], [25]), ([26, 27, 25, 25], [25, 26, 27]), ([25], [25]), ([28, 29, 25], [25, 28, 29]), ([25, 30], [25, 30])])
def laws_FnRuinInTime.B29 : List Nat := [0, 1, 0, 4, 15, 31, 63, 63, 255, 511, 1023, 2047, 4095, 8191, 2047, 32767, 65535, 131071, 262143, 262143, 1048575, 2097151, 262143, 8388607, 16777215, 33554431, 67108863, 67108863, 268435455, 67108863, 1073741823, 2147483647]
theorem laws_FnRuinInTime.tab29 : rtab .any (opsOf Try.f3 29) = laws_FnRuinInTime.T29 := by kernel_rfl
theorem laws_FnRuinInTime.bits29 : waitsOk laws_FnRuinInTime.T29.2 laws_FnRuinInTime.B29 = true := by kernel_rfl
def laws_FnRuinInTime.T34 : Bool × List (List Nat × List Nat) := (true, [([], []), ([0], [0]), ([1], [1]), ([2], [2]), ([2], [2]), ([3, 4, 2, 2], [2, 3, 4]), ([2], [2]), ([2], [2]), ([6, 7, 5, 2], [2, 6, 7]), ([5, 8, 2], [2, 5, 8]), ([2, 9], [2, 9]), ([10, 8], [10]), ([11], [11]), ([12, 11], [11, 12]), ([11, 13], [11, 13]), ([14, 11], [14]), ([15], [15]), ([15], [15]), ([16, 17, 15, 15], [15, 16, 17]), ([15], [15]), ([15], [15]), ([19, 20, 18, 15], [15, 19, 20]), ([18, 21, 15], [15, 18, 21]), ([15, 22], [15, 22])])
def laws_FnRuinInTime.B34 : List Nat := [0, 1, 3, 7, 7, 31, 7, 7, 255, 511, 1023, 2047, 4095, 8191, 16383, 32767, 65535, 65535, 262143, 65535, 65535, 2097151, 4194303, 8388607]
theorem laws_FnRuinInTime.tab34 : rtab .any (opsOf Try.f3 34) = laws_FnRuinInTime.T34 := by kernel_rfl
theorem laws_FnRuinInTime.bits34 : waitsOk laws_FnRuinInTime.T34.2 laws_FnRuinInTime.B34 = true := by kernel_rfl
def laws_FnRuinInTime.T38 : Bool × List (List Nat × List Nat) := (true, [([], []), ([0], [0]), ([1], [1]), ([2], [2]), ([2], [2]), ([3, 4, 2, 2], [2, 3, 4]), ([2], [2]), ([2], [2]), ([6, 7, 5, 2], [2, 6, 7]), ([5, 8, 2], [2, 5, 8]), ([2], [2]), ([9, 10, 2], [2, 9, 10]), ([2, 11], [2, 11])])
def laws_FnRuinInTime.B38 : List Nat := [0, 1, 3, 7, 7, 31, 7, 7, 255, 511, 7, 2047, 4095]
theorem laws_FnRuinInTime.tab38 : rtab .any (opsOf Try.f3 38) = laws_FnRuinInTime.T38 := by kernel_rfl
theorem laws_FnRuinInTime.bits38 : waitsOk laws_FnRuinInTime.T38.2 laws_FnRuinInTime.B38 = true := by kernel_rfl
end Go.Proofs.Ytoglhflnfkmkcaa.OFnRuinInTime
