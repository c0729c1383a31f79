/- The functions that 'FnRuinAddsUp' runs, each as a function over numbers and lists, with the proof that the Go text comes to its answers. No condition. -/
import Derived.Test.YtfembmnagkdnhaaOFnRuinAddsUpx0
import Derived.Test.YtfembmnagkdnhaaOFnRuinAddsUpx1
import Derived.Test.YtfembmnagkdnhaaOFnRuinAddsUpx2
import Derived.Test.YtfembmnagkdnhaaOFnRuinAddsUpx3
import Derived.Test.YtfembmnagkdnhaaOFnRuinAddsUpx4
import Derived.Test.YtfembmnagkdnhaaOFnRuinAddsUpx5
import Derived.Test.YtfembmnagkdnhaaOFnRuinAddsUpx7
import Derived.Test.YtfembmnagkdnhaaOFnRuinAddsUpx8
import Derived.Test.YtfembmnagkdnhaaOFnRuinAddsUpx9
import Derived.Test.YtfembmnagkdnhaaOFnRuinAddsUpx10
namespace Go.Proofs.Ytfembmnagkdnhaa.OFnRuinAddsUp
open Go.RowKit Go.Proofs.YtfembmnagkdnhaaW.PrintWords Go.Proofs.YtfembmnagkdnhaaW.PrintLast Go.Proofs.YtfembmnagkdnhaaW.PrintMore
attribute [local go_sem] max2_int min2_int max_two min_two max_three min_three max_four min_four   -- for this text's walks alone
set_option linter.unusedVariables false
set_option linter.unusedSimpArgs false

attribute [local go_sem high] eqA25
theorem HL {p : Prop} (h : p := by repeat (first | (with_reducible first | exact HB.out | apply below_alloc | apply pw_below_drewN | apply below_drew1 | refine below_set ?_ GE404.out | refine below_set ?_ GE408.out | refine below_set ?_ GE412.out | refine below_set ?_ GE416.out | refine below_set ?_ GE420.out | refine below_set ?_ GE424.out | refine below_set ?_ GE428.out | refine below_set ?_ GE432.out | refine below_set ?_ GE436.out | refine below_set ?_ GE440.out | refine below_set ?_ GE444.out | refine below_set ?_ GE450.out | refine below_set ?_ GE454.out | refine below_set ?_ GE458.out | refine below_set ?_ GE462.out | refine below_set ?_ GE466.out | refine below_set ?_ GE470.out | refine below_set ?_ GE474.out | refine below_set ?_ GE478.out | refine below_set ?_ GE482.out | refine below_set ?_ GE486.out | refine below_set ?_ GE489.out | refine below_set ?_ GE494.out | refine below_set ?_ GE495.out) | exact HB.out)) : p := h
theorem bL {w0 w w1 : World} {g : Nat} {o : Obj} (_ : Aside0 (w0.heap[g]? = some o)) (h : w.heap[g]? = some o) (hb : Below w.heap.size w w1) : Aside0 (w1.heap[g]? = some o) := Aside0.mk (blk_below h hb)
theorem nL {w0 w : World} {g q : Nat} {o : Obj} (_ : Aside0 (w0.heap[g]? = some o)) (h : w.heap[g]? = some o) (hg : q = w.heap.size) : Aside0 (g ≠ q) := Aside0.mk (by rw [hg]; exact Nat.ne_of_lt (blk_lt h))
theorem mL {w0 w : World} {g q : Nat} {o : Obj} (_ : Aside0 (w0.heap[g]? = some o)) (h : w.heap[g]? = some o) (hg : q = w.heap.size) : Aside0 (q ≠ g) := Aside0.mk (by rw [hg]; exact Nat.ne_of_gt (blk_lt h))
theorem sL {w w1 : World} {q : Nat} (h : Below w.heap.size w w1) (hg : q = w1.heap.size) : Aside0 (w.heap.size ≤ q) := Aside0.mk (by rw [hg]; exact below_size h)
theorem tL {w w1 w2 : World} (h : Below w.heap.size w w1) (hb : Below w1.heap.size w1 w2) : Aside0 (Below w.heap.size w w2) := Aside0.mk (below_step h hb)
theorem UL404 {p : Prop} (h : p := by repeat (first | (with_reducible first | exact BK404.out | refine blk_drewN ?_ _ | refine blk_drew ?_ | refine blk_alloc ?_ _) | refine blk_far ?_ NB404_408.out _ | refine blk_far ?_ NB404_412.out _ | refine blk_far ?_ NB404_416.out _ | refine blk_far ?_ NB404_420.out _ | refine blk_far ?_ NB404_424.out _ | refine blk_far ?_ NB404_428.out _ | refine blk_far ?_ NB404_432.out _ | refine blk_far ?_ NB404_436.out _ | refine blk_far ?_ NB404_440.out _ | refine blk_far ?_ NB404_444.out _ | refine blk_far ?_ NB404_450.out _ | refine blk_far ?_ NB404_454.out _ | refine blk_far ?_ NB404_458.out _ | refine blk_far ?_ NB404_462.out _ | refine blk_far ?_ NB404_466.out _ | refine blk_far ?_ NB404_470.out _ | refine blk_far ?_ NB404_474.out _ | refine blk_far ?_ NB404_478.out _ | refine blk_far ?_ NB404_482.out _ | refine blk_far ?_ NB404_486.out _ | refine blk_far ?_ NB404_489.out _ | refine blk_far ?_ NB404_494.out _ | refine blk_far ?_ NB404_495.out _ | exact BK404.out)) : p := h
theorem UL408 {p : Prop} (h : p := by repeat (first | (with_reducible first | exact BK408.out | refine blk_drewN ?_ _ | refine blk_drew ?_ | refine blk_alloc ?_ _) | refine blk_far ?_ NB408_412.out _ | refine blk_far ?_ NB408_416.out _ | refine blk_far ?_ NB408_420.out _ | refine blk_far ?_ NB408_424.out _ | refine blk_far ?_ NB408_428.out _ | refine blk_far ?_ NB408_432.out _ | refine blk_far ?_ NB408_436.out _ | refine blk_far ?_ NB408_440.out _ | refine blk_far ?_ NB408_444.out _ | refine blk_far ?_ NB408_450.out _ | refine blk_far ?_ NB408_454.out _ | refine blk_far ?_ NB408_458.out _ | refine blk_far ?_ NB408_462.out _ | refine blk_far ?_ NB408_466.out _ | refine blk_far ?_ NB408_470.out _ | refine blk_far ?_ NB408_474.out _ | refine blk_far ?_ NB408_478.out _ | refine blk_far ?_ NB408_482.out _ | refine blk_far ?_ NB408_486.out _ | refine blk_far ?_ NB408_489.out _ | refine blk_far ?_ NB408_494.out _ | refine blk_far ?_ NB408_495.out _ | exact BK408.out)) : p := h
theorem UL412 {p : Prop} (h : p := by repeat (first | (with_reducible first | exact BK412.out | refine blk_drewN ?_ _ | refine blk_drew ?_ | refine blk_alloc ?_ _) | refine blk_far ?_ NB412_416.out _ | refine blk_far ?_ NB412_420.out _ | refine blk_far ?_ NB412_424.out _ | refine blk_far ?_ NB412_428.out _ | refine blk_far ?_ NB412_432.out _ | refine blk_far ?_ NB412_436.out _ | refine blk_far ?_ NB412_440.out _ | refine blk_far ?_ NB412_444.out _ | refine blk_far ?_ NB412_450.out _ | refine blk_far ?_ NB412_454.out _ | refine blk_far ?_ NB412_458.out _ | refine blk_far ?_ NB412_462.out _ | refine blk_far ?_ NB412_466.out _ | refine blk_far ?_ NB412_470.out _ | refine blk_far ?_ NB412_474.out _ | refine blk_far ?_ NB412_478.out _ | refine blk_far ?_ NB412_482.out _ | refine blk_far ?_ NB412_486.out _ | refine blk_far ?_ NB412_489.out _ | refine blk_far ?_ NB412_494.out _ | refine blk_far ?_ NB412_495.out _ | exact BK412.out)) : p := h
theorem UL416 {p : Prop} (h : p := by repeat (first | (with_reducible first | exact BK416.out | refine blk_drewN ?_ _ | refine blk_drew ?_ | refine blk_alloc ?_ _) | refine blk_far ?_ NB416_420.out _ | refine blk_far ?_ NB416_424.out _ | refine blk_far ?_ NB416_428.out _ | refine blk_far ?_ NB416_432.out _ | refine blk_far ?_ NB416_436.out _ | refine blk_far ?_ NB416_440.out _ | refine blk_far ?_ NB416_444.out _ | refine blk_far ?_ NB416_450.out _ | refine blk_far ?_ NB416_454.out _ | refine blk_far ?_ NB416_458.out _ | refine blk_far ?_ NB416_462.out _ | refine blk_far ?_ NB416_466.out _ | refine blk_far ?_ NB416_470.out _ | refine blk_far ?_ NB416_474.out _ | refine blk_far ?_ NB416_478.out _ | refine blk_far ?_ NB416_482.out _ | refine blk_far ?_ NB416_486.out _ | refine blk_far ?_ NB416_489.out _ | refine blk_far ?_ NB416_494.out _ | refine blk_far ?_ NB416_495.out _ | exact BK416.out)) : p := h
theorem UL420 {p : Prop} (h : p := by repeat (first | (with_reducible first | exact BK420.out | refine blk_drewN ?_ _ | refine blk_drew ?_ | refine blk_alloc ?_ _) | refine blk_far ?_ NB420_424.out _ | refine blk_far ?_ NB420_428.out _ | refine blk_far ?_ NB420_432.out _ | refine blk_far ?_ NB420_436.out _ | refine blk_far ?_ NB420_440.out _ | refine blk_far ?_ NB420_444.out _ | refine blk_far ?_ NB420_450.out _ | refine blk_far ?_ NB420_454.out _ | refine blk_far ?_ NB420_458.out _ | refine blk_far ?_ NB420_462.out _ | refine blk_far ?_ NB420_466.out _ | refine blk_far ?_ NB420_470.out _ | refine blk_far ?_ NB420_474.out _ | refine blk_far ?_ NB420_478.out _ | refine blk_far ?_ NB420_482.out _ | refine blk_far ?_ NB420_486.out _ | refine blk_far ?_ NB420_489.out _ | refine blk_far ?_ NB420_494.out _ | refine blk_far ?_ NB420_495.out _ | exact BK420.out)) : p := h
theorem UL424 {p : Prop} (h : p := by repeat (first | (with_reducible first | exact BK424.out | refine blk_drewN ?_ _ | refine blk_drew ?_ | refine blk_alloc ?_ _) | refine blk_far ?_ NB424_428.out _ | refine blk_far ?_ NB424_432.out _ | refine blk_far ?_ NB424_436.out _ | refine blk_far ?_ NB424_440.out _ | refine blk_far ?_ NB424_444.out _ | refine blk_far ?_ NB424_450.out _ | refine blk_far ?_ NB424_454.out _ | refine blk_far ?_ NB424_458.out _ | refine blk_far ?_ NB424_462.out _ | refine blk_far ?_ NB424_466.out _ | refine blk_far ?_ NB424_470.out _ | refine blk_far ?_ NB424_474.out _ | refine blk_far ?_ NB424_478.out _ | refine blk_far ?_ NB424_482.out _ | refine blk_far ?_ NB424_486.out _ | refine blk_far ?_ NB424_489.out _ | refine blk_far ?_ NB424_494.out _ | refine blk_far ?_ NB424_495.out _ | exact BK424.out)) : p := h
theorem UL428 {p : Prop} (h : p := by repeat (first | (with_reducible first | exact BK428.out | refine blk_drewN ?_ _ | refine blk_drew ?_ | refine blk_alloc ?_ _) | refine blk_far ?_ NB428_432.out _ | refine blk_far ?_ NB428_436.out _ | refine blk_far ?_ NB428_440.out _ | refine blk_far ?_ NB428_444.out _ | refine blk_far ?_ NB428_450.out _ | refine blk_far ?_ NB428_454.out _ | refine blk_far ?_ NB428_458.out _ | refine blk_far ?_ NB428_462.out _ | refine blk_far ?_ NB428_466.out _ | refine blk_far ?_ NB428_470.out _ | refine blk_far ?_ NB428_474.out _ | refine blk_far ?_ NB428_478.out _ | refine blk_far ?_ NB428_482.out _ | refine blk_far ?_ NB428_486.out _ | refine blk_far ?_ NB428_489.out _ | refine blk_far ?_ NB428_494.out _ | refine blk_far ?_ NB428_495.out _ | exact BK428.out)) : p := h
theorem UL432 {p : Prop} (h : p := by repeat (first | (with_reducible first | exact BK432.out | refine blk_drewN ?_ _ | refine blk_drew ?_ | refine blk_alloc ?_ _) | refine blk_far ?_ NB432_436.out _ | refine blk_far ?_ NB432_440.out _ | refine blk_far ?_ NB432_444.out _ | refine blk_far ?_ NB432_450.out _ | refine blk_far ?_ NB432_454.out _ | refine blk_far ?_ NB432_458.out _ | refine blk_far ?_ NB432_462.out _ | refine blk_far ?_ NB432_466.out _ | refine blk_far ?_ NB432_470.out _ | refine blk_far ?_ NB432_474.out _ | refine blk_far ?_ NB432_478.out _ | refine blk_far ?_ NB432_482.out _ | refine blk_far ?_ NB432_486.out _ | refine blk_far ?_ NB432_489.out _ | refine blk_far ?_ NB432_494.out _ | refine blk_far ?_ NB432_495.out _ | exact BK432.out)) : p := h
theorem UL436 {p : Prop} (h : p := by repeat (first | (with_reducible first | exact BK436.out | refine blk_drewN ?_ _ | refine blk_drew ?_ | refine blk_alloc ?_ _) | refine blk_far ?_ NB436_440.out _ | refine blk_far ?_ NB436_444.out _ | refine blk_far ?_ NB436_450.out _ | refine blk_far ?_ NB436_454.out _ | refine blk_far ?_ NB436_458.out _ | refine blk_far ?_ NB436_462.out _ | refine blk_far ?_ NB436_466.out _ | refine blk_far ?_ NB436_470.out _ | refine blk_far ?_ NB436_474.out _ | refine blk_far ?_ NB436_478.out _ | refine blk_far ?_ NB436_482.out _ | refine blk_far ?_ NB436_486.out _ | refine blk_far ?_ NB436_489.out _ | refine blk_far ?_ NB436_494.out _ | refine blk_far ?_ NB436_495.out _ | exact BK436.out)) : p := h
theorem UL440 {p : Prop} (h : p := by repeat (first | (with_reducible first | exact BK440.out | refine blk_drewN ?_ _ | refine blk_drew ?_ | refine blk_alloc ?_ _) | refine blk_far ?_ NB440_444.out _ | refine blk_far ?_ NB440_450.out _ | refine blk_far ?_ NB440_454.out _ | refine blk_far ?_ NB440_458.out _ | refine blk_far ?_ NB440_462.out _ | refine blk_far ?_ NB440_466.out _ | refine blk_far ?_ NB440_470.out _ | refine blk_far ?_ NB440_474.out _ | refine blk_far ?_ NB440_478.out _ | refine blk_far ?_ NB440_482.out _ | refine blk_far ?_ NB440_486.out _ | refine blk_far ?_ NB440_489.out _ | refine blk_far ?_ NB440_494.out _ | refine blk_far ?_ NB440_495.out _ | exact BK440.out)) : p := h
theorem UL444 {p : Prop} (h : p := by repeat (first | (with_reducible first | exact BK444.out | refine blk_drewN ?_ _ | refine blk_drew ?_ | refine blk_alloc ?_ _) | refine blk_far ?_ NB444_450.out _ | refine blk_far ?_ NB444_454.out _ | refine blk_far ?_ NB444_458.out _ | refine blk_far ?_ NB444_462.out _ | refine blk_far ?_ NB444_466.out _ | refine blk_far ?_ NB444_470.out _ | refine blk_far ?_ NB444_474.out _ | refine blk_far ?_ NB444_478.out _ | refine blk_far ?_ NB444_482.out _ | refine blk_far ?_ NB444_486.out _ | refine blk_far ?_ NB444_489.out _ | refine blk_far ?_ NB444_494.out _ | refine blk_far ?_ NB444_495.out _ | exact BK444.out)) : p := h
theorem UL450 {p : Prop} (h : p := by repeat (first | (with_reducible first | exact BK450.out | refine blk_drewN ?_ _ | refine blk_drew ?_ | refine blk_alloc ?_ _) | refine blk_far ?_ NB450_454.out _ | refine blk_far ?_ NB450_458.out _ | exact BK450.out)) : p := h
theorem UL454 {p : Prop} (h : p := by repeat (first | (with_reducible first | exact BK454.out | refine blk_drewN ?_ _ | refine blk_drew ?_ | refine blk_alloc ?_ _) | refine blk_far ?_ NB454_458.out _ | exact BK454.out)) : p := h
theorem UL458 {p : Prop} (h : p := by repeat (first | (with_reducible first | exact BK458.out | refine blk_drewN ?_ _ | refine blk_drew ?_ | refine blk_alloc ?_ _) | exact BK458.out)) : p := h
theorem UL462 {p : Prop} (h : p := by repeat (first | (with_reducible first | exact BK462.out | refine blk_drewN ?_ _ | refine blk_drew ?_ | refine blk_alloc ?_ _) | exact BK462.out)) : p := h
theorem UL466 {p : Prop} (h : p := by repeat (first | (with_reducible first | exact BK466.out | refine blk_drewN ?_ _ | refine blk_drew ?_ | refine blk_alloc ?_ _) | exact BK466.out)) : p := h
theorem UL470 {p : Prop} (h : p := by repeat (first | (with_reducible first | exact BK470.out | refine blk_drewN ?_ _ | refine blk_drew ?_ | refine blk_alloc ?_ _) | refine blk_far ?_ NB470_474.out _ | refine blk_far ?_ NB470_478.out _ | refine blk_far ?_ NB470_482.out _ | refine blk_far ?_ NB470_486.out _ | refine blk_far ?_ NB470_489.out _ | refine blk_far ?_ NB470_494.out _ | refine blk_far ?_ NB470_495.out _ | exact BK470.out)) : p := h
theorem UL474 {p : Prop} (h : p := by repeat (first | (with_reducible first | exact BK474.out | refine blk_drewN ?_ _ | refine blk_drew ?_ | refine blk_alloc ?_ _) | refine blk_far ?_ NB474_478.out _ | refine blk_far ?_ NB474_482.out _ | refine blk_far ?_ NB474_486.out _ | refine blk_far ?_ NB474_489.out _ | refine blk_far ?_ NB474_494.out _ | refine blk_far ?_ NB474_495.out _ | exact BK474.out)) : p := h
theorem UL478 {p : Prop} (h : p := by repeat (first | (with_reducible first | exact BK478.out | refine blk_drewN ?_ _ | refine blk_drew ?_ | refine blk_alloc ?_ _) | refine blk_far ?_ NB478_482.out _ | refine blk_far ?_ NB478_486.out _ | refine blk_far ?_ NB478_489.out _ | refine blk_far ?_ NB478_494.out _ | refine blk_far ?_ NB478_495.out _ | exact BK478.out)) : p := h
theorem UL482 {p : Prop} (h : p := by repeat (first | (with_reducible first | exact BK482.out | refine blk_drewN ?_ _ | refine blk_drew ?_ | refine blk_alloc ?_ _) | exact BK482.out)) : p := h
theorem UL486 {p : Prop} (h : p := by repeat (first | (with_reducible first | exact BK486.out | refine blk_drewN ?_ _ | refine blk_drew ?_ | refine blk_alloc ?_ _) | exact BK486.out)) : p := h
theorem UL489 {p : Prop} (h : p := by repeat (first | (with_reducible first | exact BK489.out | refine blk_drewN ?_ _ | refine blk_drew ?_ | refine blk_alloc ?_ _) | refine blk_far ?_ NB489_494.out _ | refine blk_far ?_ NB489_495.out _ | exact BK489.out)) : p := h
theorem UL494 {p : Prop} (h : p := by repeat (first | (with_reducible first | exact BK494.out | refine blk_drewN ?_ _ | refine blk_drew ?_ | refine blk_alloc ?_ _) | refine blk_far ?_ NB494_495.out _ | exact BK494.out)) : p := h
theorem UL495 {p : Prop} (h : p := by repeat (first | (with_reducible first | exact BK495.out | refine blk_drewN ?_ _ | refine blk_drew ?_ | refine blk_alloc ?_ _) | refine blk_far ?_ NB495_494.out _ | exact BK495.out)) : p := h
/-! ### laws_FnRuinAddsUp: function 4 -/
mutual
def laws_FnRuinAddsUp.j0 : Nat → List Int → Int → Int → Bool → Bool → Int → Int → Int → Int → Int → Int → Int → Int → Int → Int → Int → Int → Option (Bool)
  | 0, _, _, _, _, _, _, _, _, _, _, _, _, _, _, _, _, _ => none
  | k + 1, x1, x5, x6, x9, x218, x405000, x405001, x409000, x409001, x417000, x417001, x425000, x425001, x433000, x433001, x441000, x441001 => if x218 = true then (none) else (if x9 = true then (if x409001 = x417001 then (if (wrap64 (x409000 + x417000)) = x409001 then (if x409000 < 0 then (laws_FnRuinAddsUp.j1 k x1 x5 x6 true x405000 x405001 x409000 x409001 x417000 x417001 x425000 x425001 x441000 x441001) else (if x417000 < 0 then (laws_FnRuinAddsUp.j1 k x1 x5 x6 true x405000 x405001 x409000 x409001 x417000 x417001 x425000 x425001 x441000 x441001) else (if (wrap64 (x433000 * x409001)) = (wrap64 ((wrap64 (x6 * x409000)) * x433001)) then (if x425000 < 0 then (laws_FnRuinAddsUp.j1 k x1 x5 x6 true x405000 x405001 x409000 x409001 x417000 x417001 x425000 x425001 x441000 x441001) else (if x5 = 0 then (laws_FnRuinAddsUp.j1 k x1 x5 x6 ((x425000 == 0) != true) x405000 x405001 x409000 x409001 x417000 x417001 x425000 x425001 x441000 x441001) else (laws_FnRuinAddsUp.j1 k x1 x5 x6 ((x425000 == 0) != (x5 == x6)) x405000 x405001 x409000 x409001 x417000 x417001 x425000 x425001 x441000 x441001))) else (laws_FnRuinAddsUp.j1 k x1 x5 x6 true x405000 x405001 x409000 x409001 x417000 x417001 x425000 x425001 x441000 x441001)))) else (laws_FnRuinAddsUp.j1 k x1 x5 x6 true x405000 x405001 x409000 x409001 x417000 x417001 x425000 x425001 x441000 x441001)) else (laws_FnRuinAddsUp.j1 k x1 x5 x6 true x405000 x405001 x409000 x409001 x417000 x417001 x425000 x425001 x441000 x441001)) else (laws_FnRuinAddsUp.j7 k x1))
def laws_FnRuinAddsUp.j7 : Nat → List Int → Option (Bool)
  | 0, _ => none
  | k + 1, x1 => (spec_DrawEverRuined.f k x1).bind fun bt467 => ((impl_EverRuined.f k bt467.1 bt467.2.1 bt467.2.2).bind fun bt471 => ((spec_EverRuined.f k bt467.1 bt467.2.1 bt467.2.2).bind fun bt475 => (if (bt471.2.2 != bt475.2.2) = true then (laws_FnRuinAddsUp.j8 k x1 bt467.1 bt471.2.2 true bt467.2.1 bt467.2.2 bt471.1 bt471.2.1) else (laws_FnRuinAddsUp.j8 k x1 bt467.1 bt471.2.2 (!(bt471.1 == bt475.1) || (!(bt471.2.1 == bt475.2.1))) bt467.2.1 bt467.2.2 bt471.1 bt471.2.1))))
def laws_FnRuinAddsUp.j8 : Nat → List Int → Int → Bool → Bool → Int → Int → Int → Int → Option (Bool)
  | 0, _, _, _, _, _, _, _, _ => none
  | k + 1, x1, x36, x39, x499, x471000, x471001, x475000, x475001 => if x499 = true then (none) else (if x39 = true then (if (wrap64 (2 * x471000)) ≤ x471001 then (if (!(x475000 == 1) || (!(x475001 == 1))) = true then (laws_FnRuinAddsUp.j9 k x1 x36 true x471000 x471001 x475000 x475001) else (if x475000 < 1 then (laws_FnRuinAddsUp.j9 k x1 x36 true x471000 x471001 x475000 x475001) else (laws_FnRuinAddsUp.j9 k x1 x36 (decide (x475000 > x475001)) x471000 x471001 x475000 x475001))) else (if x475000 < 1 then (laws_FnRuinAddsUp.j9 k x1 x36 true x471000 x471001 x475000 x475001) else (laws_FnRuinAddsUp.j9 k x1 x36 (decide (x475000 > x475001)) x471000 x471001 x475000 x475001))) else (laws_FnRuinAddsUp.j10 k x1))
def laws_FnRuinAddsUp.j10 : Nat → List Int → Option (Bool)
  | 0, _ => none
  | k + 1, x1 => (spec_DrawIsChance.f k x1).bind fun bt487 => ((spec_DrawCompareChances.f k x1).bind fun bt490 => ((impl_CompareChances.f k bt490.1 bt490.2.1 bt490.2.2.1 bt490.2.2.2).bind fun bt496 => ((spec_CompareChances.f k bt490.1 bt490.2.1 bt490.2.2.1 bt490.2.2.2).bind fun bt498 => ((impl_CompareChances.f k bt490.2.2.1 bt490.2.2.2 bt490.1 bt490.2.1).bind fun bt500 => ((impl_IsChance.f k bt487.1 bt487.2).bind fun t502 => ((spec_IsChance.f k bt487.1 bt487.2).bind fun t503 => (if (t502 == t503) = true then (if (bt496.2 == bt498.2) = true then (if bt496.1 = bt498.1 then (if (bt500.2 == bt496.2) = true then (if bt500.1 = (wrap64 (-bt496.1)) then (if bt496.2 = true then (some ((bt496.1 == 0) == (bt490.1 == bt490.2.2.1 && (bt490.2.1 == bt490.2.2.2)))) else (some true)) else (none)) else (none)) else (none)) else (none)) else (none))))))))
def laws_FnRuinAddsUp.j9 : Nat → List Int → Int → Bool → Int → Int → Int → Int → Option (Bool)
  | 0, _, _, _, _, _, _, _ => none
  | k + 1, x1, x36, x523, x471000, x471001, x475000, x475001 => if x523 = true then (none) else (if x36 > 0 then ((impl_EverRuined.f k (wrap64 (x36 - 1)) x471000 x471001).bind fun bt479 => ((impl_EverRuined.f k 1 x471000 x471001).bind fun bt483 => (if bt479.2.2 = true then (if bt483.2.2 = true then (if (wrap64 ((wrap64 (x475000 * bt479.2.1)) * bt483.2.1)) = (wrap64 ((wrap64 (bt479.1 * bt483.1)) * x475001)) then (laws_FnRuinAddsUp.j10 k x1) else (none)) else (none)) else (none)))) else (laws_FnRuinAddsUp.j10 k x1))
def laws_FnRuinAddsUp.j1 : Nat → List Int → Int → Int → Bool → Int → Int → Int → Int → Int → Int → Int → Int → Int → Int → Option (Bool)
  | 0, _, _, _, _, _, _, _, _, _, _, _, _, _, _ => none
  | k + 1, x1, x5, x6, x277, x405000, x405001, x409000, x409001, x417000, x417001, x425000, x425001, x441000, x441001 => if x277 = true then (none) else (if x5 > 0 then (laws_FnRuinAddsUp.j2 k x1 x5 x6 (decide (x5 < x6)) x405000 x405001 x409000 x409001 x417000 x417001 x425000 x425001 x441000 x441001) else (laws_FnRuinAddsUp.j2 k x1 x5 x6 false x405000 x405001 x409000 x409001 x417000 x417001 x425000 x425001 x441000 x441001))
def laws_FnRuinAddsUp.j2 : Nat → List Int → Int → Int → Bool → Int → Int → Int → Int → Int → Int → Int → Int → Int → Int → Option (Bool)
  | 0, _, _, _, _, _, _, _, _, _, _, _, _, _, _ => none
  | k + 1, x1, x5, x6, x284, x405000, x405001, x409000, x409001, x417000, x417001, x425000, x425001, x441000, x441001 => if x284 = true then ((impl_WinChance.f k (wrap64 (x5 + 1)) x6 x405000 x405001).bind fun bt447 => ((impl_WinChance.f k (wrap64 (x5 - 1)) x6 x405000 x405001).bind fun bt451 => ((impl_WinChance.f k 1 x6 x405000 x405001).bind fun bt455 => (if bt447.2.2 = true then (if bt451.2.2 = true then (if bt455.2.2 = true then (if bt455.1 < 1 then (laws_FnRuinAddsUp.j3 k x1 x5 x6 true x405000 x405001 x409000 x409001 x417000 x417001 x425000 x425001 x441000 x441001 bt447.1 bt447.2.1 bt451.1 bt451.2.1) else (if (wrap64 (bt447.1 * x409001)) ≤ (wrap64 (x409000 * bt447.2.1)) then (laws_FnRuinAddsUp.j3 k x1 x5 x6 true x405000 x405001 x409000 x409001 x417000 x417001 x425000 x425001 x441000 x441001 bt447.1 bt447.2.1 bt451.1 bt451.2.1) else (laws_FnRuinAddsUp.j3 k x1 x5 x6 (decide ((wrap64 (x409000 * bt451.2.1)) ≤ (wrap64 (bt451.1 * x409001)))) x405000 x405001 x409000 x409001 x417000 x417001 x425000 x425001 x441000 x441001 bt447.1 bt447.2.1 bt451.1 bt451.2.1))) else (laws_FnRuinAddsUp.j3 k x1 x5 x6 true x405000 x405001 x409000 x409001 x417000 x417001 x425000 x425001 x441000 x441001 bt447.1 bt447.2.1 bt451.1 bt451.2.1)) else (laws_FnRuinAddsUp.j3 k x1 x5 x6 true x405000 x405001 x409000 x409001 x417000 x417001 x425000 x425001 x441000 x441001 bt447.1 bt447.2.1 bt451.1 bt451.2.1)) else (laws_FnRuinAddsUp.j3 k x1 x5 x6 true x405000 x405001 x409000 x409001 x417000 x417001 x425000 x425001 x441000 x441001 bt447.1 bt447.2.1 bt451.1 bt451.2.1))))) else ((impl_WinChance.f k (wrap64 (x6 - x5)) x6 (wrap64 (x405001 - x405000)) x405001).bind fun bt463 => (if bt463.2.2 = true then (if (!(bt463.1 == x417000) || (!(bt463.2.1 == x417001))) = true then (none) else (laws_FnRuinAddsUp.j7 k x1)) else (none)))
def laws_FnRuinAddsUp.j3 : Nat → List Int → Int → Int → Bool → Int → Int → Int → Int → Int → Int → Int → Int → Int → Int → Int → Int → Int → Int → Option (Bool)
  | 0, _, _, _, _, _, _, _, _, _, _, _, _, _, _, _, _, _, _ => none
  | k + 1, x1, x5, x6, x347, x405000, x405001, x409000, x409001, x417000, x417001, x425000, x425001, x441000, x441001, x451000, x451001, x455000, x455001 => if x347 = true then (none) else (if x6 ≤ 6 then (laws_FnRuinAddsUp.j4 k x1 x5 x6 ((wrap64 ((wrap64 ((wrap64 (x405001 * x409000)) * x451001)) * x455001)) != (wrap64 ((wrap64 ((wrap64 ((wrap64 (x405000 * x451000)) * x409001)) * x455001)) + (wrap64 ((wrap64 ((wrap64 ((wrap64 (x405001 - x405000)) * x455000)) * x409001)) * x451001))))) x405000 x405001 x409000 x409001 x417000 x417001 x425000 x425001 x441000 x441001) else (laws_FnRuinAddsUp.j4 k x1 x5 x6 false x405000 x405001 x409000 x409001 x417000 x417001 x425000 x425001 x441000 x441001))
def laws_FnRuinAddsUp.j4 : Nat → List Int → Int → Int → Bool → Int → Int → Int → Int → Int → Int → Int → Int → Int → Int → Option (Bool)
  | 0, _, _, _, _, _, _, _, _, _, _, _, _, _, _ => none
  | k + 1, x1, x5, x6, x389, x405000, x405001, x409000, x409001, x417000, x417001, x425000, x425001, x441000, x441001 => if x389 = true then (none) else (if x441000 < 1 then (laws_FnRuinAddsUp.j5 k x1 x5 x6 true x405000 x405001 x409000 x409001 x417000 x417001 x425000 x425001) else (if x441000 > x441001 then (laws_FnRuinAddsUp.j5 k x1 x5 x6 true x405000 x405001 x409000 x409001 x417000 x417001 x425000 x425001) else (if (wrap64 (x5 + 1)) = x6 then (laws_FnRuinAddsUp.j5 k x1 x5 x6 ((wrap64 ((wrap64 (x441000 * x409000)) * x405001)) != (wrap64 ((wrap64 (x441001 * x405000)) * x409001))) x405000 x405001 x409000 x409001 x417000 x417001 x425000 x425001) else (laws_FnRuinAddsUp.j5 k x1 x5 x6 false x405000 x405001 x409000 x409001 x417000 x417001 x425000 x425001))))
def laws_FnRuinAddsUp.j5 : Nat → List Int → Int → Int → Bool → Int → Int → Int → Int → Int → Int → Int → Int → Option (Bool)
  | 0, _, _, _, _, _, _, _, _, _, _, _, _ => none
  | k + 1, x1, x5, x6, x424, x405000, x405001, x409000, x409001, x417000, x417001, x425000, x425001 => if x424 = true then (none) else (if (wrap64 (2 * x405000)) = x405001 then (if (wrap64 (x409000 * x6)) = (wrap64 (x5 * x409001)) then (laws_FnRuinAddsUp.j6 k x1 x5 x6 (!(x425000 == (wrap64 (x5 * (wrap64 (x6 - x5))))) || (!(x425001 == 1))) x405000 x405001 x417000 x417001) else (laws_FnRuinAddsUp.j6 k x1 x5 x6 true x405000 x405001 x417000 x417001)) else (laws_FnRuinAddsUp.j6 k x1 x5 x6 false x405000 x405001 x417000 x417001))
def laws_FnRuinAddsUp.j6 : Nat → List Int → Int → Int → Bool → Int → Int → Int → Int → Option (Bool)
  | 0, _, _, _, _, _, _, _, _ => none
  | k + 1, x1, x5, x6, x451, x405000, x405001, x417000, x417001 => if x451 = true then (none) else ((impl_WinChance.f k (wrap64 (x6 - x5)) x6 (wrap64 (x405001 - x405000)) x405001).bind fun bt459 => (if bt459.2.2 = true then (if (!(bt459.1 == x417000) || (!(bt459.2.1 == x417001))) = true then (none) else (laws_FnRuinAddsUp.j7 k x1)) else (none)))
end
def laws_FnRuinAddsUp.f (k : Nat) (l0 : List Int) (l1 : List Int) : Option (Bool) := (laws_big.f l0 l1).bind fun t399 => (if t399 = true then (some true) else ((spec_DrawMeanGames.f k l0).bind fun bt400 => ((impl_WinChance.f k bt400.1 bt400.2.1 bt400.2.2.1 bt400.2.2.2).bind fun bt405 => ((spec_WinChance.f k bt400.1 bt400.2.1 bt400.2.2.1 bt400.2.2.2).bind fun bt409 => ((impl_RuinChance.f k bt400.1 bt400.2.1 bt400.2.2.1 bt400.2.2.2).bind fun bt413 => ((spec_RuinChance.f k bt400.1 bt400.2.1 bt400.2.2.1 bt400.2.2.2).bind fun bt417 => ((impl_MeanGames.f k bt400.1 bt400.2.1 bt400.2.2.1 bt400.2.2.2).bind fun bt421 => ((spec_MeanGames.f k bt400.1 bt400.2.1 bt400.2.2.1 bt400.2.2.2).bind fun bt425 => ((impl_MeanHeld.f k bt400.1 bt400.2.1 bt400.2.2.1 bt400.2.2.2).bind fun bt429 => ((spec_MeanHeld.f k bt400.1 bt400.2.1 bt400.2.2.1 bt400.2.2.2).bind fun bt433 => ((impl_FirstWonOfWinners.f k bt400.1 bt400.2.1 bt400.2.2.1 bt400.2.2.2).bind fun bt437 => ((spec_FirstWonOfWinners.f k bt400.1 bt400.2.1 bt400.2.2.1 bt400.2.2.2).bind fun bt441 => (if (bt405.2.2 != bt409.2.2) = true then (laws_FnRuinAddsUp.j0 k l1 bt400.1 bt400.2.1 bt405.2.2 true bt400.2.2.1 bt400.2.2.2 bt405.1 bt405.2.1 bt413.1 bt413.2.1 bt421.1 bt421.2.1 bt429.1 bt429.2.1 bt437.1 bt437.2.1) else (if (!(bt405.1 == bt409.1) || (!(bt405.2.1 == bt409.2.1))) = true then (laws_FnRuinAddsUp.j0 k l1 bt400.1 bt400.2.1 bt405.2.2 true bt400.2.2.1 bt400.2.2.2 bt405.1 bt405.2.1 bt413.1 bt413.2.1 bt421.1 bt421.2.1 bt429.1 bt429.2.1 bt437.1 bt437.2.1) else (if (bt413.2.2 != bt417.2.2) = true then (laws_FnRuinAddsUp.j0 k l1 bt400.1 bt400.2.1 bt405.2.2 true bt400.2.2.1 bt400.2.2.2 bt405.1 bt405.2.1 bt413.1 bt413.2.1 bt421.1 bt421.2.1 bt429.1 bt429.2.1 bt437.1 bt437.2.1) else (if (!(bt413.1 == bt417.1) || (!(bt413.2.1 == bt417.2.1))) = true then (laws_FnRuinAddsUp.j0 k l1 bt400.1 bt400.2.1 bt405.2.2 true bt400.2.2.1 bt400.2.2.2 bt405.1 bt405.2.1 bt413.1 bt413.2.1 bt421.1 bt421.2.1 bt429.1 bt429.2.1 bt437.1 bt437.2.1) else (if (bt421.2.2 != bt425.2.2) = true then (laws_FnRuinAddsUp.j0 k l1 bt400.1 bt400.2.1 bt405.2.2 true bt400.2.2.1 bt400.2.2.2 bt405.1 bt405.2.1 bt413.1 bt413.2.1 bt421.1 bt421.2.1 bt429.1 bt429.2.1 bt437.1 bt437.2.1) else (if (!(bt421.1 == bt425.1) || (!(bt421.2.1 == bt425.2.1))) = true then (laws_FnRuinAddsUp.j0 k l1 bt400.1 bt400.2.1 bt405.2.2 true bt400.2.2.1 bt400.2.2.2 bt405.1 bt405.2.1 bt413.1 bt413.2.1 bt421.1 bt421.2.1 bt429.1 bt429.2.1 bt437.1 bt437.2.1) else (if (bt429.2.2 != bt433.2.2) = true then (laws_FnRuinAddsUp.j0 k l1 bt400.1 bt400.2.1 bt405.2.2 true bt400.2.2.1 bt400.2.2.2 bt405.1 bt405.2.1 bt413.1 bt413.2.1 bt421.1 bt421.2.1 bt429.1 bt429.2.1 bt437.1 bt437.2.1) else (if (!(bt429.1 == bt433.1) || (!(bt429.2.1 == bt433.2.1))) = true then (laws_FnRuinAddsUp.j0 k l1 bt400.1 bt400.2.1 bt405.2.2 true bt400.2.2.1 bt400.2.2.2 bt405.1 bt405.2.1 bt413.1 bt413.2.1 bt421.1 bt421.2.1 bt429.1 bt429.2.1 bt437.1 bt437.2.1) else (if (bt437.2.2 != bt441.2.2) = true then (laws_FnRuinAddsUp.j0 k l1 bt400.1 bt400.2.1 bt405.2.2 true bt400.2.2.1 bt400.2.2.2 bt405.1 bt405.2.1 bt413.1 bt413.2.1 bt421.1 bt421.2.1 bt429.1 bt429.2.1 bt437.1 bt437.2.1) else (if (!(bt437.1 == bt441.1) || (!(bt437.2.1 == bt441.2.1))) = true then (laws_FnRuinAddsUp.j0 k l1 bt400.1 bt400.2.1 bt405.2.2 true bt400.2.2.1 bt400.2.2.2 bt405.1 bt405.2.1 bt413.1 bt413.2.1 bt421.1 bt421.2.1 bt429.1 bt429.2.1 bt437.1 bt437.2.1) else (if (bt413.2.2 != bt405.2.2) = true then (laws_FnRuinAddsUp.j0 k l1 bt400.1 bt400.2.1 bt405.2.2 true bt400.2.2.1 bt400.2.2.2 bt405.1 bt405.2.1 bt413.1 bt413.2.1 bt421.1 bt421.2.1 bt429.1 bt429.2.1 bt437.1 bt437.2.1) else (if (bt421.2.2 != bt405.2.2) = true then (laws_FnRuinAddsUp.j0 k l1 bt400.1 bt400.2.1 bt405.2.2 true bt400.2.2.1 bt400.2.2.2 bt405.1 bt405.2.1 bt413.1 bt413.2.1 bt421.1 bt421.2.1 bt429.1 bt429.2.1 bt437.1 bt437.2.1) else (if (bt429.2.2 != bt405.2.2) = true then (laws_FnRuinAddsUp.j0 k l1 bt400.1 bt400.2.1 bt405.2.2 true bt400.2.2.1 bt400.2.2.2 bt405.1 bt405.2.1 bt413.1 bt413.2.1 bt421.1 bt421.2.1 bt429.1 bt429.2.1 bt437.1 bt437.2.1) else (if bt405.2.2 = true then (if bt400.1 > 0 then (if (bt437.2.2 != (decide (bt400.1 < bt400.2.1))) = true then (laws_FnRuinAddsUp.j0 k l1 bt400.1 bt400.2.1 bt405.2.2 true bt400.2.2.1 bt400.2.2.2 bt405.1 bt405.2.1 bt413.1 bt413.2.1 bt421.1 bt421.2.1 bt429.1 bt429.2.1 bt437.1 bt437.2.1) else ((impl_IsChance.f k bt400.2.2.1 bt400.2.2.2).bind fun t445 => (laws_FnRuinAddsUp.j0 k l1 bt400.1 bt400.2.1 bt405.2.2 (!t445) bt400.2.2.1 bt400.2.2.2 bt405.1 bt405.2.1 bt413.1 bt413.2.1 bt421.1 bt421.2.1 bt429.1 bt429.2.1 bt437.1 bt437.2.1))) else (if (bt437.2.2 != false) = true then (laws_FnRuinAddsUp.j0 k l1 bt400.1 bt400.2.1 bt405.2.2 true bt400.2.2.1 bt400.2.2.2 bt405.1 bt405.2.1 bt413.1 bt413.2.1 bt421.1 bt421.2.1 bt429.1 bt429.2.1 bt437.1 bt437.2.1) else ((impl_IsChance.f k bt400.2.2.1 bt400.2.2.2).bind fun t446 => (laws_FnRuinAddsUp.j0 k l1 bt400.1 bt400.2.1 bt405.2.2 (!t446) bt400.2.2.1 bt400.2.2.2 bt405.1 bt405.2.1 bt413.1 bt413.2.1 bt421.1 bt421.2.1 bt429.1 bt429.2.1 bt437.1 bt437.2.1)))) else (if (bt437.2.2 != false) = true then (laws_FnRuinAddsUp.j0 k l1 bt400.1 bt400.2.1 bt405.2.2 true bt400.2.2.1 bt400.2.2.2 bt405.1 bt405.2.1 bt413.1 bt413.2.1 bt421.1 bt421.2.1 bt429.1 bt429.2.1 bt437.1 bt437.2.1) else (laws_FnRuinAddsUp.j0 k l1 bt400.1 bt400.2.1 bt405.2.2 false bt400.2.2.1 bt400.2.2.2 bt405.1 bt405.2.1 bt413.1 bt413.2.1 bt421.1 bt421.2.1 bt429.1 bt429.2.1 bt437.1 bt437.2.1))))))))))))))))))))))))))))
theorem laws_FnRuinAddsUp.mono_l : ∀ k, (∀ y0 y1 y2 y3 y4 y5 y6 y7 y8 y9 y10 y11 y12 y13 y14 y15 y16, LeO (laws_FnRuinAddsUp.j0 k y0 y1 y2 y3 y4 y5 y6 y7 y8 y9 y10 y11 y12 y13 y14 y15 y16) (laws_FnRuinAddsUp.j0 (k + 1) y0 y1 y2 y3 y4 y5 y6 y7 y8 y9 y10 y11 y12 y13 y14 y15 y16)) ∧ (∀ y0, LeO (laws_FnRuinAddsUp.j7 k y0) (laws_FnRuinAddsUp.j7 (k + 1) y0)) ∧ (∀ y0 y1 y2 y3 y4 y5 y6 y7, LeO (laws_FnRuinAddsUp.j8 k y0 y1 y2 y3 y4 y5 y6 y7) (laws_FnRuinAddsUp.j8 (k + 1) y0 y1 y2 y3 y4 y5 y6 y7)) ∧ (∀ y0, LeO (laws_FnRuinAddsUp.j10 k y0) (laws_FnRuinAddsUp.j10 (k + 1) y0)) ∧ (∀ y0 y1 y2 y3 y4 y5 y6, LeO (laws_FnRuinAddsUp.j9 k y0 y1 y2 y3 y4 y5 y6) (laws_FnRuinAddsUp.j9 (k + 1) y0 y1 y2 y3 y4 y5 y6)) ∧ (∀ y0 y1 y2 y3 y4 y5 y6 y7 y8 y9 y10 y11 y12 y13, LeO (laws_FnRuinAddsUp.j1 k y0 y1 y2 y3 y4 y5 y6 y7 y8 y9 y10 y11 y12 y13) (laws_FnRuinAddsUp.j1 (k + 1) y0 y1 y2 y3 y4 y5 y6 y7 y8 y9 y10 y11 y12 y13)) ∧ (∀ y0 y1 y2 y3 y4 y5 y6 y7 y8 y9 y10 y11 y12 y13, LeO (laws_FnRuinAddsUp.j2 k y0 y1 y2 y3 y4 y5 y6 y7 y8 y9 y10 y11 y12 y13) (laws_FnRuinAddsUp.j2 (k + 1) y0 y1 y2 y3 y4 y5 y6 y7 y8 y9 y10 y11 y12 y13)) ∧ (∀ y0 y1 y2 y3 y4 y5 y6 y7 y8 y9 y10 y11 y12 y13 y14 y15 y16 y17, LeO (laws_FnRuinAddsUp.j3 k y0 y1 y2 y3 y4 y5 y6 y7 y8 y9 y10 y11 y12 y13 y14 y15 y16 y17) (laws_FnRuinAddsUp.j3 (k + 1) y0 y1 y2 y3 y4 y5 y6 y7 y8 y9 y10 y11 y12 y13 y14 y15 y16 y17)) ∧ (∀ y0 y1 y2 y3 y4 y5 y6 y7 y8 y9 y10 y11 y12 y13, LeO (laws_FnRuinAddsUp.j4 k y0 y1 y2 y3 y4 y5 y6 y7 y8 y9 y10 y11 y12 y13) (laws_FnRuinAddsUp.j4 (k + 1) y0 y1 y2 y3 y4 y5 y6 y7 y8 y9 y10 y11 y12 y13)) ∧ (∀ y0 y1 y2 y3 y4 y5 y6 y7 y8 y9 y10 y11, LeO (laws_FnRuinAddsUp.j5 k y0 y1 y2 y3 y4 y5 y6 y7 y8 y9 y10 y11) (laws_FnRuinAddsUp.j5 (k + 1) y0 y1 y2 y3 y4 y5 y6 y7 y8 y9 y10 y11)) ∧ (∀ y0 y1 y2 y3 y4 y5 y6 y7, LeO (laws_FnRuinAddsUp.j6 k y0 y1 y2 y3 y4 y5 y6 y7) (laws_FnRuinAddsUp.j6 (k + 1) y0 y1 y2 y3 y4 y5 y6 y7))
  | 0 => ⟨fun _ _ _ _ _ _ _ _ _ _ _ _ _ _ _ _ _ r h => by simp [laws_FnRuinAddsUp.j0] at h, fun _ r h => by simp [laws_FnRuinAddsUp.j7] at h, fun _ _ _ _ _ _ _ _ r h => by simp [laws_FnRuinAddsUp.j8] at h, fun _ r h => by simp [laws_FnRuinAddsUp.j10] at h, fun _ _ _ _ _ _ _ r h => by simp [laws_FnRuinAddsUp.j9] at h, fun _ _ _ _ _ _ _ _ _ _ _ _ _ _ r h => by simp [laws_FnRuinAddsUp.j1] at h, fun _ _ _ _ _ _ _ _ _ _ _ _ _ _ r h => by simp [laws_FnRuinAddsUp.j2] at h, fun _ _ _ _ _ _ _ _ _ _ _ _ _ _ _ _ _ _ r h => by simp [laws_FnRuinAddsUp.j3] at h, fun _ _ _ _ _ _ _ _ _ _ _ _ _ _ r h => by simp [laws_FnRuinAddsUp.j4] at h, fun _ _ _ _ _ _ _ _ _ _ _ _ r h => by simp [laws_FnRuinAddsUp.j5] at h, fun _ _ _ _ _ _ _ _ r h => by simp [laws_FnRuinAddsUp.j6] at h⟩
  | k + 1 => by
    obtain ⟨ih0, ih1, ih2, ih3, ih4, ih5, ih6, ih7, ih8, ih9, ih10⟩ := laws_FnRuinAddsUp.mono_l k
    refine ⟨?_, ?_, ?_, ?_, ?_, ?_, ?_, ?_, ?_, ?_, ?_⟩
    · intro y0 y1 y2 y3 y4 y5 y6 y7 y8 y9 y10 y11 y12 y13 y14 y15 y16
      unfold laws_FnRuinAddsUp.j0
      repeat' first
      | (with_reducible exact ih0 _ _ _ _ _ _ _ _ _ _ _ _ _ _ _ _ _)
      | (with_reducible exact ih1 _)
      | (with_reducible exact ih2 _ _ _ _ _ _ _ _)
      | (with_reducible exact ih3 _)
      | (with_reducible exact ih4 _ _ _ _ _ _ _)
      | (with_reducible exact ih5 _ _ _ _ _ _ _ _ _ _ _ _ _ _)
      | (with_reducible exact ih6 _ _ _ _ _ _ _ _ _ _ _ _ _ _)
      | (with_reducible exact ih7 _ _ _ _ _ _ _ _ _ _ _ _ _ _ _ _ _ _)
      | (with_reducible exact ih8 _ _ _ _ _ _ _ _ _ _ _ _ _ _)
      | (with_reducible exact ih9 _ _ _ _ _ _ _ _ _ _ _ _)
      | (with_reducible exact ih10 _ _ _ _ _ _ _ _)
      | (with_reducible exact impl_CompareChances.mono _ _ _ _ _)
      | (with_reducible exact impl_EverRuined.mono _ _ _ _)
      | (with_reducible exact impl_FirstWonOfWinners.mono _ _ _ _ _)
      | (with_reducible exact impl_IsChance.mono _ _ _)
      | (with_reducible exact impl_MeanGames.mono _ _ _ _ _)
      | (with_reducible exact impl_MeanHeld.mono _ _ _ _ _)
      | (with_reducible exact impl_RuinChance.mono _ _ _ _ _)
      | (with_reducible exact impl_WinChance.mono _ _ _ _ _)
      | (with_reducible exact spec_CompareChances.mono _ _ _ _ _)
      | (with_reducible exact spec_DrawCompareChances.mono _ _)
      | (with_reducible exact spec_DrawEverRuined.mono _ _)
      | (with_reducible exact spec_DrawIsChance.mono _ _)
      | (with_reducible exact spec_DrawMeanGames.mono _ _)
      | (with_reducible exact spec_EverRuined.mono _ _ _ _)
      | (with_reducible exact spec_FirstWonOfWinners.mono _ _ _ _ _)
      | (with_reducible exact spec_IsChance.mono _ _ _)
      | (with_reducible exact spec_MeanGames.mono _ _ _ _ _)
      | (with_reducible exact spec_MeanHeld.mono _ _ _ _ _)
      | (with_reducible exact spec_RuinChance.mono _ _ _ _ _)
      | (with_reducible exact spec_WinChance.mono _ _ _ _ _)
      | (with_reducible exact LeO.refl _)
      | (with_reducible exact LeO.none _)
      | (with_reducible refine LeO.ite ?_ ?_)
      | (with_reducible refine LeO.bind ?_ (fun _ => ?_))
      | exact ih0 _ _ _ _ _ _ _ _ _ _ _ _ _ _ _ _ _
      | exact ih1 _
      | exact ih2 _ _ _ _ _ _ _ _
      | exact ih3 _
      | exact ih4 _ _ _ _ _ _ _
      | exact ih5 _ _ _ _ _ _ _ _ _ _ _ _ _ _
      | exact ih6 _ _ _ _ _ _ _ _ _ _ _ _ _ _
      | exact ih7 _ _ _ _ _ _ _ _ _ _ _ _ _ _ _ _ _ _
      | exact ih8 _ _ _ _ _ _ _ _ _ _ _ _ _ _
      | exact ih9 _ _ _ _ _ _ _ _ _ _ _ _
      | exact ih10 _ _ _ _ _ _ _ _
      | exact impl_CompareChances.mono _ _ _ _ _
      | exact impl_EverRuined.mono _ _ _ _
      | exact impl_FirstWonOfWinners.mono _ _ _ _ _
      | exact impl_IsChance.mono _ _ _
      | exact impl_MeanGames.mono _ _ _ _ _
      | exact impl_MeanHeld.mono _ _ _ _ _
      | exact impl_RuinChance.mono _ _ _ _ _
      | exact impl_WinChance.mono _ _ _ _ _
      | exact spec_CompareChances.mono _ _ _ _ _
      | exact spec_DrawCompareChances.mono _ _
      | exact spec_DrawEverRuined.mono _ _
      | exact spec_DrawIsChance.mono _ _
      | exact spec_DrawMeanGames.mono _ _
      | exact spec_EverRuined.mono _ _ _ _
      | exact spec_FirstWonOfWinners.mono _ _ _ _ _
      | exact spec_IsChance.mono _ _ _
      | exact spec_MeanGames.mono _ _ _ _ _
      | exact spec_MeanHeld.mono _ _ _ _ _
      | exact spec_RuinChance.mono _ _ _ _ _
      | exact spec_WinChance.mono _ _ _ _ _
      | exact LeO.none _
      | refine LeO.ite ?_ ?_
      | refine LeO.bind ?_ (fun _ => ?_)
    · intro y0
      unfold laws_FnRuinAddsUp.j7
      repeat' first
      | (with_reducible exact ih0 _ _ _ _ _ _ _ _ _ _ _ _ _ _ _ _ _)
      | (with_reducible exact ih1 _)
      | (with_reducible exact ih2 _ _ _ _ _ _ _ _)
      | (with_reducible exact ih3 _)
      | (with_reducible exact ih4 _ _ _ _ _ _ _)
      | (with_reducible exact ih5 _ _ _ _ _ _ _ _ _ _ _ _ _ _)
      | (with_reducible exact ih6 _ _ _ _ _ _ _ _ _ _ _ _ _ _)
      | (with_reducible exact ih7 _ _ _ _ _ _ _ _ _ _ _ _ _ _ _ _ _ _)
      | (with_reducible exact ih8 _ _ _ _ _ _ _ _ _ _ _ _ _ _)
      | (with_reducible exact ih9 _ _ _ _ _ _ _ _ _ _ _ _)
      | (with_reducible exact ih10 _ _ _ _ _ _ _ _)
      | (with_reducible exact impl_CompareChances.mono _ _ _ _ _)
      | (with_reducible exact impl_EverRuined.mono _ _ _ _)
      | (with_reducible exact impl_FirstWonOfWinners.mono _ _ _ _ _)
      | (with_reducible exact impl_IsChance.mono _ _ _)
      | (with_reducible exact impl_MeanGames.mono _ _ _ _ _)
      | (with_reducible exact impl_MeanHeld.mono _ _ _ _ _)
      | (with_reducible exact impl_RuinChance.mono _ _ _ _ _)
      | (with_reducible exact impl_WinChance.mono _ _ _ _ _)
      | (with_reducible exact spec_CompareChances.mono _ _ _ _ _)
      | (with_reducible exact spec_DrawCompareChances.mono _ _)
      | (with_reducible exact spec_DrawEverRuined.mono _ _)
      | (with_reducible exact spec_DrawIsChance.mono _ _)
      | (with_reducible exact spec_DrawMeanGames.mono _ _)
      | (with_reducible exact spec_EverRuined.mono _ _ _ _)
      | (with_reducible exact spec_FirstWonOfWinners.mono _ _ _ _ _)
      | (with_reducible exact spec_IsChance.mono _ _ _)
      | (with_reducible exact spec_MeanGames.mono _ _ _ _ _)
      | (with_reducible exact spec_MeanHeld.mono _ _ _ _ _)
      | (with_reducible exact spec_RuinChance.mono _ _ _ _ _)
      | (with_reducible exact spec_WinChance.mono _ _ _ _ _)
      | (with_reducible exact LeO.refl _)
      | (with_reducible exact LeO.none _)
      | (with_reducible refine LeO.ite ?_ ?_)
      | (with_reducible refine LeO.bind ?_ (fun _ => ?_))
      | exact ih0 _ _ _ _ _ _ _ _ _ _ _ _ _ _ _ _ _
      | exact ih1 _
      | exact ih2 _ _ _ _ _ _ _ _
      | exact ih3 _
      | exact ih4 _ _ _ _ _ _ _
      | exact ih5 _ _ _ _ _ _ _ _ _ _ _ _ _ _
      | exact ih6 _ _ _ _ _ _ _ _ _ _ _ _ _ _
      | exact ih7 _ _ _ _ _ _ _ _ _ _ _ _ _ _ _ _ _ _
      | exact ih8 _ _ _ _ _ _ _ _ _ _ _ _ _ _
      | exact ih9 _ _ _ _ _ _ _ _ _ _ _ _
      | exact ih10 _ _ _ _ _ _ _ _
      | exact impl_CompareChances.mono _ _ _ _ _
      | exact impl_EverRuined.mono _ _ _ _
      | exact impl_FirstWonOfWinners.mono _ _ _ _ _
      | exact impl_IsChance.mono _ _ _
      | exact impl_MeanGames.mono _ _ _ _ _
      | exact impl_MeanHeld.mono _ _ _ _ _
      | exact impl_RuinChance.mono _ _ _ _ _
      | exact impl_WinChance.mono _ _ _ _ _
      | exact spec_CompareChances.mono _ _ _ _ _
      | exact spec_DrawCompareChances.mono _ _
      | exact spec_DrawEverRuined.mono _ _
      | exact spec_DrawIsChance.mono _ _
      | exact spec_DrawMeanGames.mono _ _
      | exact spec_EverRuined.mono _ _ _ _
      | exact spec_FirstWonOfWinners.mono _ _ _ _ _
      | exact spec_IsChance.mono _ _ _
      | exact spec_MeanGames.mono _ _ _ _ _
      | exact spec_MeanHeld.mono _ _ _ _ _
      | exact spec_RuinChance.mono _ _ _ _ _
      | exact spec_WinChance.mono _ _ _ _ _
      | exact LeO.none _
      | refine LeO.ite ?_ ?_
      | refine LeO.bind ?_ (fun _ => ?_)
    · intro y0 y1 y2 y3 y4 y5 y6 y7
      unfold laws_FnRuinAddsUp.j8
      repeat' first
      | (with_reducible exact ih0 _ _ _ _ _ _ _ _ _ _ _ _ _ _ _ _ _)
      | (with_reducible exact ih1 _)
      | (with_reducible exact ih2 _ _ _ _ _ _ _ _)
      | (with_reducible exact ih3 _)
      | (with_reducible exact ih4 _ _ _ _ _ _ _)
      | (with_reducible exact ih5 _ _ _ _ _ _ _ _ _ _ _ _ _ _)
      | (with_reducible exact ih6 _ _ _ _ _ _ _ _ _ _ _ _ _ _)
      | (with_reducible exact ih7 _ _ _ _ _ _ _ _ _ _ _ _ _ _ _ _ _ _)
      | (with_reducible exact ih8 _ _ _ _ _ _ _ _ _ _ _ _ _ _)
      | (with_reducible exact ih9 _ _ _ _ _ _ _ _ _ _ _ _)
      | (with_reducible exact ih10 _ _ _ _ _ _ _ _)
      | (with_reducible exact impl_CompareChances.mono _ _ _ _ _)
      | (with_reducible exact impl_EverRuined.mono _ _ _ _)
      | (with_reducible exact impl_FirstWonOfWinners.mono _ _ _ _ _)
      | (with_reducible exact impl_IsChance.mono _ _ _)
      | (with_reducible exact impl_MeanGames.mono _ _ _ _ _)
      | (with_reducible exact impl_MeanHeld.mono _ _ _ _ _)
      | (with_reducible exact impl_RuinChance.mono _ _ _ _ _)
      | (with_reducible exact impl_WinChance.mono _ _ _ _ _)
      | (with_reducible exact spec_CompareChances.mono _ _ _ _ _)
      | (with_reducible exact spec_DrawCompareChances.mono _ _)
      | (with_reducible exact spec_DrawEverRuined.mono _ _)
      | (with_reducible exact spec_DrawIsChance.mono _ _)
      | (with_reducible exact spec_DrawMeanGames.mono _ _)
      | (with_reducible exact spec_EverRuined.mono _ _ _ _)
      | (with_reducible exact spec_FirstWonOfWinners.mono _ _ _ _ _)
      | (with_reducible exact spec_IsChance.mono _ _ _)
      | (with_reducible exact spec_MeanGames.mono _ _ _ _ _)
      | (with_reducible exact spec_MeanHeld.mono _ _ _ _ _)
      | (with_reducible exact spec_RuinChance.mono _ _ _ _ _)
      | (with_reducible exact spec_WinChance.mono _ _ _ _ _)
      | (with_reducible exact LeO.refl _)
      | (with_reducible exact LeO.none _)
      | (with_reducible refine LeO.ite ?_ ?_)
      | (with_reducible refine LeO.bind ?_ (fun _ => ?_))
      | exact ih0 _ _ _ _ _ _ _ _ _ _ _ _ _ _ _ _ _
      | exact ih1 _
      | exact ih2 _ _ _ _ _ _ _ _
      | exact ih3 _
      | exact ih4 _ _ _ _ _ _ _
      | exact ih5 _ _ _ _ _ _ _ _ _ _ _ _ _ _
      | exact ih6 _ _ _ _ _ _ _ _ _ _ _ _ _ _
      | exact ih7 _ _ _ _ _ _ _ _ _ _ _ _ _ _ _ _ _ _
      | exact ih8 _ _ _ _ _ _ _ _ _ _ _ _ _ _
      | exact ih9 _ _ _ _ _ _ _ _ _ _ _ _
      | exact ih10 _ _ _ _ _ _ _ _
      | exact impl_CompareChances.mono _ _ _ _ _
      | exact impl_EverRuined.mono _ _ _ _
      | exact impl_FirstWonOfWinners.mono _ _ _ _ _
      | exact impl_IsChance.mono _ _ _
      | exact impl_MeanGames.mono _ _ _ _ _
      | exact impl_MeanHeld.mono _ _ _ _ _
      | exact impl_RuinChance.mono _ _ _ _ _
      | exact impl_WinChance.mono _ _ _ _ _
      | exact spec_CompareChances.mono _ _ _ _ _
      | exact spec_DrawCompareChances.mono _ _
      | exact spec_DrawEverRuined.mono _ _
      | exact spec_DrawIsChance.mono _ _
      | exact spec_DrawMeanGames.mono _ _
      | exact spec_EverRuined.mono _ _ _ _
      | exact spec_FirstWonOfWinners.mono _ _ _ _ _
      | exact spec_IsChance.mono _ _ _
      | exact spec_MeanGames.mono _ _ _ _ _
      | exact spec_MeanHeld.mono _ _ _ _ _
      | exact spec_RuinChance.mono _ _ _ _ _
      | exact spec_WinChance.mono _ _ _ _ _
      | exact LeO.none _
      | refine LeO.ite ?_ ?_
      | refine LeO.bind ?_ (fun _ => ?_)
    · intro y0
      unfold laws_FnRuinAddsUp.j10
      repeat' first
      | (with_reducible exact ih0 _ _ _ _ _ _ _ _ _ _ _ _ _ _ _ _ _)
      | (with_reducible exact ih1 _)
      | (with_reducible exact ih2 _ _ _ _ _ _ _ _)
      | (with_reducible exact ih3 _)
      | (with_reducible exact ih4 _ _ _ _ _ _ _)
      | (with_reducible exact ih5 _ _ _ _ _ _ _ _ _ _ _ _ _ _)
      | (with_reducible exact ih6 _ _ _ _ _ _ _ _ _ _ _ _ _ _)
      | (with_reducible exact ih7 _ _ _ _ _ _ _ _ _ _ _ _ _ _ _ _ _ _)
      | (with_reducible exact ih8 _ _ _ _ _ _ _ _ _ _ _ _ _ _)
      | (with_reducible exact ih9 _ _ _ _ _ _ _ _ _ _ _ _)
      | (with_reducible exact ih10 _ _ _ _ _ _ _ _)
      | (with_reducible exact impl_CompareChances.mono _ _ _ _ _)
      | (with_reducible exact impl_EverRuined.mono _ _ _ _)
      | (with_reducible exact impl_FirstWonOfWinners.mono _ _ _ _ _)
      | (with_reducible exact impl_IsChance.mono _ _ _)
      | (with_reducible exact impl_MeanGames.mono _ _ _ _ _)
      | (with_reducible exact impl_MeanHeld.mono _ _ _ _ _)
      | (with_reducible exact impl_RuinChance.mono _ _ _ _ _)
      | (with_reducible exact impl_WinChance.mono _ _ _ _ _)
      | (with_reducible exact spec_CompareChances.mono _ _ _ _ _)
      | (with_reducible exact spec_DrawCompareChances.mono _ _)
      | (with_reducible exact spec_DrawEverRuined.mono _ _)
      | (with_reducible exact spec_DrawIsChance.mono _ _)
      | (with_reducible exact spec_DrawMeanGames.mono _ _)
      | (with_reducible exact spec_EverRuined.mono _ _ _ _)
      | (with_reducible exact spec_FirstWonOfWinners.mono _ _ _ _ _)
      | (with_reducible exact spec_IsChance.mono _ _ _)
      | (with_reducible exact spec_MeanGames.mono _ _ _ _ _)
      | (with_reducible exact spec_MeanHeld.mono _ _ _ _ _)
      | (with_reducible exact spec_RuinChance.mono _ _ _ _ _)
      | (with_reducible exact spec_WinChance.mono _ _ _ _ _)
      | (with_reducible exact LeO.refl _)
      | (with_reducible exact LeO.none _)
      | (with_reducible refine LeO.ite ?_ ?_)
      | (with_reducible refine LeO.bind ?_ (fun _ => ?_))
      | exact ih0 _ _ _ _ _ _ _ _ _ _ _ _ _ _ _ _ _
      | exact ih1 _
      | exact ih2 _ _ _ _ _ _ _ _
      | exact ih3 _
      | exact ih4 _ _ _ _ _ _ _
      | exact ih5 _ _ _ _ _ _ _ _ _ _ _ _ _ _
      | exact ih6 _ _ _ _ _ _ _ _ _ _ _ _ _ _
      | exact ih7 _ _ _ _ _ _ _ _ _ _ _ _ _ _ _ _ _ _
      | exact ih8 _ _ _ _ _ _ _ _ _ _ _ _ _ _
      | exact ih9 _ _ _ _ _ _ _ _ _ _ _ _
      | exact ih10 _ _ _ _ _ _ _ _
      | exact impl_CompareChances.mono _ _ _ _ _
      | exact impl_EverRuined.mono _ _ _ _
      | exact impl_FirstWonOfWinners.mono _ _ _ _ _
      | exact impl_IsChance.mono _ _ _
      | exact impl_MeanGames.mono _ _ _ _ _
      | exact impl_MeanHeld.mono _ _ _ _ _
      | exact impl_RuinChance.mono _ _ _ _ _
      | exact impl_WinChance.mono _ _ _ _ _
      | exact spec_CompareChances.mono _ _ _ _ _
      | exact spec_DrawCompareChances.mono _ _
      | exact spec_DrawEverRuined.mono _ _
      | exact spec_DrawIsChance.mono _ _
      | exact spec_DrawMeanGames.mono _ _
      | exact spec_EverRuined.mono _ _ _ _
      | exact spec_FirstWonOfWinners.mono _ _ _ _ _
      | exact spec_IsChance.mono _ _ _
      | exact spec_MeanGames.mono _ _ _ _ _
      | exact spec_MeanHeld.mono _ _ _ _ _
      | exact spec_RuinChance.mono _ _ _ _ _
      | exact spec_WinChance.mono _ _ _ _ _
      | exact LeO.none _
      | refine LeO.ite ?_ ?_
      | refine LeO.bind ?_ (fun _ => ?_)
    · intro y0 y1 y2 y3 y4 y5 y6
      unfold laws_FnRuinAddsUp.j9
      repeat' first
      | (with_reducible exact ih0 _ _ _ _ _ _ _ _ _ _ _ _ _ _ _ _ _)
      | (with_reducible exact ih1 _)
      | (with_reducible exact ih2 _ _ _ _ _ _ _ _)
      | (with_reducible exact ih3 _)
      | (with_reducible exact ih4 _ _ _ _ _ _ _)
      | (with_reducible exact ih5 _ _ _ _ _ _ _ _ _ _ _ _ _ _)
      | (with_reducible exact ih6 _ _ _ _ _ _ _ _ _ _ _ _ _ _)
      | (with_reducible exact ih7 _ _ _ _ _ _ _ _ _ _ _ _ _ _ _ _ _ _)
      | (with_reducible exact ih8 _ _ _ _ _ _ _ _ _ _ _ _ _ _)
      | (with_reducible exact ih9 _ _ _ _ _ _ _ _ _ _ _ _)
      | (with_reducible exact ih10 _ _ _ _ _ _ _ _)
      | (with_reducible exact impl_CompareChances.mono _ _ _ _ _)
      | (with_reducible exact impl_EverRuined.mono _ _ _ _)
      | (with_reducible exact impl_FirstWonOfWinners.mono _ _ _ _ _)
      | (with_reducible exact impl_IsChance.mono _ _ _)
      | (with_reducible exact impl_MeanGames.mono _ _ _ _ _)
      | (with_reducible exact impl_MeanHeld.mono _ _ _ _ _)
      | (with_reducible exact impl_RuinChance.mono _ _ _ _ _)
      | (with_reducible exact impl_WinChance.mono _ _ _ _ _)
      | (with_reducible exact spec_CompareChances.mono _ _ _ _ _)
      | (with_reducible exact spec_DrawCompareChances.mono _ _)
      | (with_reducible exact spec_DrawEverRuined.mono _ _)
      | (with_reducible exact spec_DrawIsChance.mono _ _)
      | (with_reducible exact spec_DrawMeanGames.mono _ _)
      | (with_reducible exact spec_EverRuined.mono _ _ _ _)
      | (with_reducible exact spec_FirstWonOfWinners.mono _ _ _ _ _)
      | (with_reducible exact spec_IsChance.mono _ _ _)
      | (with_reducible exact spec_MeanGames.mono _ _ _ _ _)
      | (with_reducible exact spec_MeanHeld.mono _ _ _ _ _)
      | (with_reducible exact spec_RuinChance.mono _ _ _ _ _)
      | (with_reducible exact spec_WinChance.mono _ _ _ _ _)
      | (with_reducible exact LeO.refl _)
      | (with_reducible exact LeO.none _)
      | (with_reducible refine LeO.ite ?_ ?_)
      | (with_reducible refine LeO.bind ?_ (fun _ => ?_))
      | exact ih0 _ _ _ _ _ _ _ _ _ _ _ _ _ _ _ _ _
      | exact ih1 _
      | exact ih2 _ _ _ _ _ _ _ _
      | exact ih3 _
      | exact ih4 _ _ _ _ _ _ _
      | exact ih5 _ _ _ _ _ _ _ _ _ _ _ _ _ _
      | exact ih6 _ _ _ _ _ _ _ _ _ _ _ _ _ _
      | exact ih7 _ _ _ _ _ _ _ _ _ _ _ _ _ _ _ _ _ _
      | exact ih8 _ _ _ _ _ _ _ _ _ _ _ _ _ _
      | exact ih9 _ _ _ _ _ _ _ _ _ _ _ _
      | exact ih10 _ _ _ _ _ _ _ _
      | exact impl_CompareChances.mono _ _ _ _ _
      | exact impl_EverRuined.mono _ _ _ _
      | exact impl_FirstWonOfWinners.mono _ _ _ _ _
      | exact impl_IsChance.mono _ _ _
      | exact impl_MeanGames.mono _ _ _ _ _
      | exact impl_MeanHeld.mono _ _ _ _ _
      | exact impl_RuinChance.mono _ _ _ _ _
      | exact impl_WinChance.mono _ _ _ _ _
      | exact spec_CompareChances.mono _ _ _ _ _
      | exact spec_DrawCompareChances.mono _ _
      | exact spec_DrawEverRuined.mono _ _
      | exact spec_DrawIsChance.mono _ _
      | exact spec_DrawMeanGames.mono _ _
      | exact spec_EverRuined.mono _ _ _ _
      | exact spec_FirstWonOfWinners.mono _ _ _ _ _
      | exact spec_IsChance.mono _ _ _
      | exact spec_MeanGames.mono _ _ _ _ _
      | exact spec_MeanHeld.mono _ _ _ _ _
      | exact spec_RuinChance.mono _ _ _ _ _
      | exact spec_WinChance.mono _ _ _ _ _
      | exact LeO.none _
      | refine LeO.ite ?_ ?_
      | refine LeO.bind ?_ (fun _ => ?_)
    · intro y0 y1 y2 y3 y4 y5 y6 y7 y8 y9 y10 y11 y12 y13
      unfold laws_FnRuinAddsUp.j1
      repeat' first
      | (with_reducible exact ih0 _ _ _ _ _ _ _ _ _ _ _ _ _ _ _ _ _)
      | (with_reducible exact ih1 _)
      | (with_reducible exact ih2 _ _ _ _ _ _ _ _)
      | (with_reducible exact ih3 _)
      | (with_reducible exact ih4 _ _ _ _ _ _ _)
      | (with_reducible exact ih5 _ _ _ _ _ _ _ _ _ _ _ _ _ _)
      | (with_reducible exact ih6 _ _ _ _ _ _ _ _ _ _ _ _ _ _)
      | (with_reducible exact ih7 _ _ _ _ _ _ _ _ _ _ _ _ _ _ _ _ _ _)
      | (with_reducible exact ih8 _ _ _ _ _ _ _ _ _ _ _ _ _ _)
      | (with_reducible exact ih9 _ _ _ _ _ _ _ _ _ _ _ _)
      | (with_reducible exact ih10 _ _ _ _ _ _ _ _)
      | (with_reducible exact impl_CompareChances.mono _ _ _ _ _)
      | (with_reducible exact impl_EverRuined.mono _ _ _ _)
      | (with_reducible exact impl_FirstWonOfWinners.mono _ _ _ _ _)
      | (with_reducible exact impl_IsChance.mono _ _ _)
      | (with_reducible exact impl_MeanGames.mono _ _ _ _ _)
      | (with_reducible exact impl_MeanHeld.mono _ _ _ _ _)
      | (with_reducible exact impl_RuinChance.mono _ _ _ _ _)
      | (with_reducible exact impl_WinChance.mono _ _ _ _ _)
      | (with_reducible exact spec_CompareChances.mono _ _ _ _ _)
      | (with_reducible exact spec_DrawCompareChances.mono _ _)
      | (with_reducible exact spec_DrawEverRuined.mono _ _)
      | (with_reducible exact spec_DrawIsChance.mono _ _)
      | (with_reducible exact spec_DrawMeanGames.mono _ _)
      | (with_reducible exact spec_EverRuined.mono _ _ _ _)
      | (with_reducible exact spec_FirstWonOfWinners.mono _ _ _ _ _)
      | (with_reducible exact spec_IsChance.mono _ _ _)
      | (with_reducible exact spec_MeanGames.mono _ _ _ _ _)
      | (with_reducible exact spec_MeanHeld.mono _ _ _ _ _)
      | (with_reducible exact spec_RuinChance.mono _ _ _ _ _)
      | (with_reducible exact spec_WinChance.mono _ _ _ _ _)
      | (with_reducible exact LeO.refl _)
      | (with_reducible exact LeO.none _)
      | (with_reducible refine LeO.ite ?_ ?_)
      | (with_reducible refine LeO.bind ?_ (fun _ => ?_))
      | exact ih0 _ _ _ _ _ _ _ _ _ _ _ _ _ _ _ _ _
      | exact ih1 _
      | exact ih2 _ _ _ _ _ _ _ _
      | exact ih3 _
      | exact ih4 _ _ _ _ _ _ _
      | exact ih5 _ _ _ _ _ _ _ _ _ _ _ _ _ _
      | exact ih6 _ _ _ _ _ _ _ _ _ _ _ _ _ _
      | exact ih7 _ _ _ _ _ _ _ _ _ _ _ _ _ _ _ _ _ _
      | exact ih8 _ _ _ _ _ _ _ _ _ _ _ _ _ _
      | exact ih9 _ _ _ _ _ _ _ _ _ _ _ _
      | exact ih10 _ _ _ _ _ _ _ _
      | exact impl_CompareChances.mono _ _ _ _ _
      | exact impl_EverRuined.mono _ _ _ _
      | exact impl_FirstWonOfWinners.mono _ _ _ _ _
      | exact impl_IsChance.mono _ _ _
      | exact impl_MeanGames.mono _ _ _ _ _
      | exact impl_MeanHeld.mono _ _ _ _ _
      | exact impl_RuinChance.mono _ _ _ _ _
      | exact impl_WinChance.mono _ _ _ _ _
      | exact spec_CompareChances.mono _ _ _ _ _
      | exact spec_DrawCompareChances.mono _ _
      | exact spec_DrawEverRuined.mono _ _
      | exact spec_DrawIsChance.mono _ _
      | exact spec_DrawMeanGames.mono _ _
      | exact spec_EverRuined.mono _ _ _ _
      | exact spec_FirstWonOfWinners.mono _ _ _ _ _
      | exact spec_IsChance.mono _ _ _
      | exact spec_MeanGames.mono _ _ _ _ _
      | exact spec_MeanHeld.mono _ _ _ _ _
      | exact spec_RuinChance.mono _ _ _ _ _
      | exact spec_WinChance.mono _ _ _ _ _
      | exact LeO.none _
      | refine LeO.ite ?_ ?_
      | refine LeO.bind ?_ (fun _ => ?_)
    · intro y0 y1 y2 y3 y4 y5 y6 y7 y8 y9 y10 y11 y12 y13
      unfold laws_FnRuinAddsUp.j2
      repeat' first
      | (with_reducible exact ih0 _ _ _ _ _ _ _ _ _ _ _ _ _ _ _ _ _)
      | (with_reducible exact ih1 _)
      | (with_reducible exact ih2 _ _ _ _ _ _ _ _)
      | (with_reducible exact ih3 _)
      | (with_reducible exact ih4 _ _ _ _ _ _ _)
      | (with_reducible exact ih5 _ _ _ _ _ _ _ _ _ _ _ _ _ _)
      | (with_reducible exact ih6 _ _ _ _ _ _ _ _ _ _ _ _ _ _)
      | (with_reducible exact ih7 _ _ _ _ _ _ _ _ _ _ _ _ _ _ _ _ _ _)
      | (with_reducible exact ih8 _ _ _ _ _ _ _ _ _ _ _ _ _ _)
      | (with_reducible exact ih9 _ _ _ _ _ _ _ _ _ _ _ _)
      | (with_reducible exact ih10 _ _ _ _ _ _ _ _)
      | (with_reducible exact impl_CompareChances.mono _ _ _ _ _)
      | (with_reducible exact impl_EverRuined.mono _ _ _ _)
      | (with_reducible exact impl_FirstWonOfWinners.mono _ _ _ _ _)
      | (with_reducible exact impl_IsChance.mono _ _ _)
      | (with_reducible exact impl_MeanGames.mono _ _ _ _ _)
      | (with_reducible exact impl_MeanHeld.mono _ _ _ _ _)
      | (with_reducible exact impl_RuinChance.mono _ _ _ _ _)
      | (with_reducible exact impl_WinChance.mono _ _ _ _ _)
      | (with_reducible exact spec_CompareChances.mono _ _ _ _ _)
      | (with_reducible exact spec_DrawCompareChances.mono _ _)
      | (with_reducible exact spec_DrawEverRuined.mono _ _)
      | (with_reducible exact spec_DrawIsChance.mono _ _)
      | (with_reducible exact spec_DrawMeanGames.mono _ _)
      | (with_reducible exact spec_EverRuined.mono _ _ _ _)
      | (with_reducible exact spec_FirstWonOfWinners.mono _ _ _ _ _)
      | (with_reducible exact spec_IsChance.mono _ _ _)
      | (with_reducible exact spec_MeanGames.mono _ _ _ _ _)
      | (with_reducible exact spec_MeanHeld.mono _ _ _ _ _)
      | (with_reducible exact spec_RuinChance.mono _ _ _ _ _)
      | (with_reducible exact spec_WinChance.mono _ _ _ _ _)
      | (with_reducible exact LeO.refl _)
      | (with_reducible exact LeO.none _)
      | (with_reducible refine LeO.ite ?_ ?_)
      | (with_reducible refine LeO.bind ?_ (fun _ => ?_))
      | exact ih0 _ _ _ _ _ _ _ _ _ _ _ _ _ _ _ _ _
      | exact ih1 _
      | exact ih2 _ _ _ _ _ _ _ _
      | exact ih3 _
      | exact ih4 _ _ _ _ _ _ _
      | exact ih5 _ _ _ _ _ _ _ _ _ _ _ _ _ _
      | exact ih6 _ _ _ _ _ _ _ _ _ _ _ _ _ _
      | exact ih7 _ _ _ _ _ _ _ _ _ _ _ _ _ _ _ _ _ _
      | exact ih8 _ _ _ _ _ _ _ _ _ _ _ _ _ _
      | exact ih9 _ _ _ _ _ _ _ _ _ _ _ _
      | exact ih10 _ _ _ _ _ _ _ _
      | exact impl_CompareChances.mono _ _ _ _ _
      | exact impl_EverRuined.mono _ _ _ _
      | exact impl_FirstWonOfWinners.mono _ _ _ _ _
      | exact impl_IsChance.mono _ _ _
      | exact impl_MeanGames.mono _ _ _ _ _
      | exact impl_MeanHeld.mono _ _ _ _ _
      | exact impl_RuinChance.mono _ _ _ _ _
      | exact impl_WinChance.mono _ _ _ _ _
      | exact spec_CompareChances.mono _ _ _ _ _
      | exact spec_DrawCompareChances.mono _ _
      | exact spec_DrawEverRuined.mono _ _
      | exact spec_DrawIsChance.mono _ _
      | exact spec_DrawMeanGames.mono _ _
      | exact spec_EverRuined.mono _ _ _ _
      | exact spec_FirstWonOfWinners.mono _ _ _ _ _
      | exact spec_IsChance.mono _ _ _
      | exact spec_MeanGames.mono _ _ _ _ _
      | exact spec_MeanHeld.mono _ _ _ _ _
      | exact spec_RuinChance.mono _ _ _ _ _
      | exact spec_WinChance.mono _ _ _ _ _
      | exact LeO.none _
      | refine LeO.ite ?_ ?_
      | refine LeO.bind ?_ (fun _ => ?_)
    · intro y0 y1 y2 y3 y4 y5 y6 y7 y8 y9 y10 y11 y12 y13 y14 y15 y16 y17
      unfold laws_FnRuinAddsUp.j3
      repeat' first
      | (with_reducible exact ih0 _ _ _ _ _ _ _ _ _ _ _ _ _ _ _ _ _)
      | (with_reducible exact ih1 _)
      | (with_reducible exact ih2 _ _ _ _ _ _ _ _)
      | (with_reducible exact ih3 _)
      | (with_reducible exact ih4 _ _ _ _ _ _ _)
      | (with_reducible exact ih5 _ _ _ _ _ _ _ _ _ _ _ _ _ _)
      | (with_reducible exact ih6 _ _ _ _ _ _ _ _ _ _ _ _ _ _)
      | (with_reducible exact ih7 _ _ _ _ _ _ _ _ _ _ _ _ _ _ _ _ _ _)
      | (with_reducible exact ih8 _ _ _ _ _ _ _ _ _ _ _ _ _ _)
      | (with_reducible exact ih9 _ _ _ _ _ _ _ _ _ _ _ _)
      | (with_reducible exact ih10 _ _ _ _ _ _ _ _)
      | (with_reducible exact impl_CompareChances.mono _ _ _ _ _)
      | (with_reducible exact impl_EverRuined.mono _ _ _ _)
      | (with_reducible exact impl_FirstWonOfWinners.mono _ _ _ _ _)
      | (with_reducible exact impl_IsChance.mono _ _ _)
      | (with_reducible exact impl_MeanGames.mono _ _ _ _ _)
      | (with_reducible exact impl_MeanHeld.mono _ _ _ _ _)
      | (with_reducible exact impl_RuinChance.mono _ _ _ _ _)
      | (with_reducible exact impl_WinChance.mono _ _ _ _ _)
      | (with_reducible exact spec_CompareChances.mono _ _ _ _ _)
      | (with_reducible exact spec_DrawCompareChances.mono _ _)
      | (with_reducible exact spec_DrawEverRuined.mono _ _)
      | (with_reducible exact spec_DrawIsChance.mono _ _)
      | (with_reducible exact spec_DrawMeanGames.mono _ _)
      | (with_reducible exact spec_EverRuined.mono _ _ _ _)
      | (with_reducible exact spec_FirstWonOfWinners.mono _ _ _ _ _)
      | (with_reducible exact spec_IsChance.mono _ _ _)
      | (with_reducible exact spec_MeanGames.mono _ _ _ _ _)
      | (with_reducible exact spec_MeanHeld.mono _ _ _ _ _)
      | (with_reducible exact spec_RuinChance.mono _ _ _ _ _)
      | (with_reducible exact spec_WinChance.mono _ _ _ _ _)
      | (with_reducible exact LeO.refl _)
      | (with_reducible exact LeO.none _)
      | (with_reducible refine LeO.ite ?_ ?_)
      | (with_reducible refine LeO.bind ?_ (fun _ => ?_))
      | exact ih0 _ _ _ _ _ _ _ _ _ _ _ _ _ _ _ _ _
      | exact ih1 _
      | exact ih2 _ _ _ _ _ _ _ _
      | exact ih3 _
      | exact ih4 _ _ _ _ _ _ _
      | exact ih5 _ _ _ _ _ _ _ _ _ _ _ _ _ _
      | exact ih6 _ _ _ _ _ _ _ _ _ _ _ _ _ _
      | exact ih7 _ _ _ _ _ _ _ _ _ _ _ _ _ _ _ _ _ _
      | exact ih8 _ _ _ _ _ _ _ _ _ _ _ _ _ _
      | exact ih9 _ _ _ _ _ _ _ _ _ _ _ _
      | exact ih10 _ _ _ _ _ _ _ _
      | exact impl_CompareChances.mono _ _ _ _ _
      | exact impl_EverRuined.mono _ _ _ _
      | exact impl_FirstWonOfWinners.mono _ _ _ _ _
      | exact impl_IsChance.mono _ _ _
      | exact impl_MeanGames.mono _ _ _ _ _
      | exact impl_MeanHeld.mono _ _ _ _ _
      | exact impl_RuinChance.mono _ _ _ _ _
      | exact impl_WinChance.mono _ _ _ _ _
      | exact spec_CompareChances.mono _ _ _ _ _
      | exact spec_DrawCompareChances.mono _ _
      | exact spec_DrawEverRuined.mono _ _
      | exact spec_DrawIsChance.mono _ _
      | exact spec_DrawMeanGames.mono _ _
      | exact spec_EverRuined.mono _ _ _ _
      | exact spec_FirstWonOfWinners.mono _ _ _ _ _
      | exact spec_IsChance.mono _ _ _
      | exact spec_MeanGames.mono _ _ _ _ _
      | exact spec_MeanHeld.mono _ _ _ _ _
      | exact spec_RuinChance.mono _ _ _ _ _
      | exact spec_WinChance.mono _ _ _ _ _
      | exact LeO.none _
      | refine LeO.ite ?_ ?_
      | refine LeO.bind ?_ (fun _ => ?_)
    · intro y0 y1 y2 y3 y4 y5 y6 y7 y8 y9 y10 y11 y12 y13
      unfold laws_FnRuinAddsUp.j4
      repeat' first
      | (with_reducible exact ih0 _ _ _ _ _ _ _ _ _ _ _ _ _ _ _ _ _)
      | (with_reducible exact ih1 _)
      | (with_reducible exact ih2 _ _ _ _ _ _ _ _)
      | (with_reducible exact ih3 _)
      | (with_reducible exact ih4 _ _ _ _ _ _ _)
      | (with_reducible exact ih5 _ _ _ _ _ _ _ _ _ _ _ _ _ _)
      | (with_reducible exact ih6 _ _ _ _ _ _ _ _ _ _ _ _ _ _)
      | (with_reducible exact ih7 _ _ _ _ _ _ _ _ _ _ _ _ _ _ _ _ _ _)
      | (with_reducible exact ih8 _ _ _ _ _ _ _ _ _ _ _ _ _ _)
      | (with_reducible exact ih9 _ _ _ _ _ _ _ _ _ _ _ _)
      | (with_reducible exact ih10 _ _ _ _ _ _ _ _)
      | (with_reducible exact impl_CompareChances.mono _ _ _ _ _)
      | (with_reducible exact impl_EverRuined.mono _ _ _ _)
      | (with_reducible exact impl_FirstWonOfWinners.mono _ _ _ _ _)
      | (with_reducible exact impl_IsChance.mono _ _ _)
      | (with_reducible exact impl_MeanGames.mono _ _ _ _ _)
      | (with_reducible exact impl_MeanHeld.mono _ _ _ _ _)
      | (with_reducible exact impl_RuinChance.mono _ _ _ _ _)
      | (with_reducible exact impl_WinChance.mono _ _ _ _ _)
      | (with_reducible exact spec_CompareChances.mono _ _ _ _ _)
      | (with_reducible exact spec_DrawCompareChances.mono _ _)
      | (with_reducible exact spec_DrawEverRuined.mono _ _)
      | (with_reducible exact spec_DrawIsChance.mono _ _)
      | (with_reducible exact spec_DrawMeanGames.mono _ _)
      | (with_reducible exact spec_EverRuined.mono _ _ _ _)
      | (with_reducible exact spec_FirstWonOfWinners.mono _ _ _ _ _)
      | (with_reducible exact spec_IsChance.mono _ _ _)
      | (with_reducible exact spec_MeanGames.mono _ _ _ _ _)
      | (with_reducible exact spec_MeanHeld.mono _ _ _ _ _)
      | (with_reducible exact spec_RuinChance.mono _ _ _ _ _)
      | (with_reducible exact spec_WinChance.mono _ _ _ _ _)
      | (with_reducible exact LeO.refl _)
      | (with_reducible exact LeO.none _)
      | (with_reducible refine LeO.ite ?_ ?_)
      | (with_reducible refine LeO.bind ?_ (fun _ => ?_))
      | exact ih0 _ _ _ _ _ _ _ _ _ _ _ _ _ _ _ _ _
      | exact ih1 _
      | exact ih2 _ _ _ _ _ _ _ _
      | exact ih3 _
      | exact ih4 _ _ _ _ _ _ _
      | exact ih5 _ _ _ _ _ _ _ _ _ _ _ _ _ _
      | exact ih6 _ _ _ _ _ _ _ _ _ _ _ _ _ _
      | exact ih7 _ _ _ _ _ _ _ _ _ _ _ _ _ _ _ _ _ _
      | exact ih8 _ _ _ _ _ _ _ _ _ _ _ _ _ _
      | exact ih9 _ _ _ _ _ _ _ _ _ _ _ _
      | exact ih10 _ _ _ _ _ _ _ _
      | exact impl_CompareChances.mono _ _ _ _ _
      | exact impl_EverRuined.mono _ _ _ _
      | exact impl_FirstWonOfWinners.mono _ _ _ _ _
      | exact impl_IsChance.mono _ _ _
      | exact impl_MeanGames.mono _ _ _ _ _
      | exact impl_MeanHeld.mono _ _ _ _ _
      | exact impl_RuinChance.mono _ _ _ _ _
      | exact impl_WinChance.mono _ _ _ _ _
      | exact spec_CompareChances.mono _ _ _ _ _
      | exact spec_DrawCompareChances.mono _ _
      | exact spec_DrawEverRuined.mono _ _
      | exact spec_DrawIsChance.mono _ _
      | exact spec_DrawMeanGames.mono _ _
      | exact spec_EverRuined.mono _ _ _ _
      | exact spec_FirstWonOfWinners.mono _ _ _ _ _
      | exact spec_IsChance.mono _ _ _
      | exact spec_MeanGames.mono _ _ _ _ _
      | exact spec_MeanHeld.mono _ _ _ _ _
      | exact spec_RuinChance.mono _ _ _ _ _
      | exact spec_WinChance.mono _ _ _ _ _
      | exact LeO.none _
      | refine LeO.ite ?_ ?_
      | refine LeO.bind ?_ (fun _ => ?_)
    · intro y0 y1 y2 y3 y4 y5 y6 y7 y8 y9 y10 y11
      unfold laws_FnRuinAddsUp.j5
      repeat' first
      | (with_reducible exact ih0 _ _ _ _ _ _ _ _ _ _ _ _ _ _ _ _ _)
      | (with_reducible exact ih1 _)
      | (with_reducible exact ih2 _ _ _ _ _ _ _ _)
      | (with_reducible exact ih3 _)
      | (with_reducible exact ih4 _ _ _ _ _ _ _)
      | (with_reducible exact ih5 _ _ _ _ _ _ _ _ _ _ _ _ _ _)
      | (with_reducible exact ih6 _ _ _ _ _ _ _ _ _ _ _ _ _ _)
      | (with_reducible exact ih7 _ _ _ _ _ _ _ _ _ _ _ _ _ _ _ _ _ _)
      | (with_reducible exact ih8 _ _ _ _ _ _ _ _ _ _ _ _ _ _)
      | (with_reducible exact ih9 _ _ _ _ _ _ _ _ _ _ _ _)
      | (with_reducible exact ih10 _ _ _ _ _ _ _ _)
      | (with_reducible exact impl_CompareChances.mono _ _ _ _ _)
      | (with_reducible exact impl_EverRuined.mono _ _ _ _)
      | (with_reducible exact impl_FirstWonOfWinners.mono _ _ _ _ _)
      | (with_reducible exact impl_IsChance.mono _ _ _)
      | (with_reducible exact impl_MeanGames.mono _ _ _ _ _)
      | (with_reducible exact impl_MeanHeld.mono _ _ _ _ _)
      | (with_reducible exact impl_RuinChance.mono _ _ _ _ _)
      | (with_reducible exact impl_WinChance.mono _ _ _ _ _)
      | (with_reducible exact spec_CompareChances.mono _ _ _ _ _)
      | (with_reducible exact spec_DrawCompareChances.mono _ _)
      | (with_reducible exact spec_DrawEverRuined.mono _ _)
      | (with_reducible exact spec_DrawIsChance.mono _ _)
      | (with_reducible exact spec_DrawMeanGames.mono _ _)
      | (with_reducible exact spec_EverRuined.mono _ _ _ _)
      | (with_reducible exact spec_FirstWonOfWinners.mono _ _ _ _ _)
      | (with_reducible exact spec_IsChance.mono _ _ _)
      | (with_reducible exact spec_MeanGames.mono _ _ _ _ _)
      | (with_reducible exact spec_MeanHeld.mono _ _ _ _ _)
      | (with_reducible exact spec_RuinChance.mono _ _ _ _ _)
      | (with_reducible exact spec_WinChance.mono _ _ _ _ _)
      | (with_reducible exact LeO.refl _)
      | (with_reducible exact LeO.none _)
      | (with_reducible refine LeO.ite ?_ ?_)
      | (with_reducible refine LeO.bind ?_ (fun _ => ?_))
      | exact ih0 _ _ _ _ _ _ _ _ _ _ _ _ _ _ _ _ _
      | exact ih1 _
      | exact ih2 _ _ _ _ _ _ _ _
      | exact ih3 _
      | exact ih4 _ _ _ _ _ _ _
      | exact ih5 _ _ _ _ _ _ _ _ _ _ _ _ _ _
      | exact ih6 _ _ _ _ _ _ _ _ _ _ _ _ _ _
      | exact ih7 _ _ _ _ _ _ _ _ _ _ _ _ _ _ _ _ _ _
      | exact ih8 _ _ _ _ _ _ _ _ _ _ _ _ _ _
      | exact ih9 _ _ _ _ _ _ _ _ _ _ _ _
      | exact ih10 _ _ _ _ _ _ _ _
      | exact impl_CompareChances.mono _ _ _ _ _
      | exact impl_EverRuined.mono _ _ _ _
      | exact impl_FirstWonOfWinners.mono _ _ _ _ _
      | exact impl_IsChance.mono _ _ _
      | exact impl_MeanGames.mono _ _ _ _ _
      | exact impl_MeanHeld.mono _ _ _ _ _
      | exact impl_RuinChance.mono _ _ _ _ _
      | exact impl_WinChance.mono _ _ _ _ _
      | exact spec_CompareChances.mono _ _ _ _ _
      | exact spec_DrawCompareChances.mono _ _
      | exact spec_DrawEverRuined.mono _ _
      | exact spec_DrawIsChance.mono _ _
      | exact spec_DrawMeanGames.mono _ _
      | exact spec_EverRuined.mono _ _ _ _
      | exact spec_FirstWonOfWinners.mono _ _ _ _ _
      | exact spec_IsChance.mono _ _ _
      | exact spec_MeanGames.mono _ _ _ _ _
      | exact spec_MeanHeld.mono _ _ _ _ _
      | exact spec_RuinChance.mono _ _ _ _ _
      | exact spec_WinChance.mono _ _ _ _ _
      | exact LeO.none _
      | refine LeO.ite ?_ ?_
      | refine LeO.bind ?_ (fun _ => ?_)
    · intro y0 y1 y2 y3 y4 y5 y6 y7
      unfold laws_FnRuinAddsUp.j6
      repeat' first
      | (with_reducible exact ih0 _ _ _ _ _ _ _ _ _ _ _ _ _ _ _ _ _)
      | (with_reducible exact ih1 _)
      | (with_reducible exact ih2 _ _ _ _ _ _ _ _)
      | (with_reducible exact ih3 _)
      | (with_reducible exact ih4 _ _ _ _ _ _ _)
      | (with_reducible exact ih5 _ _ _ _ _ _ _ _ _ _ _ _ _ _)
      | (with_reducible exact ih6 _ _ _ _ _ _ _ _ _ _ _ _ _ _)
      | (with_reducible exact ih7 _ _ _ _ _ _ _ _ _ _ _ _ _ _ _ _ _ _)
      | (with_reducible exact ih8 _ _ _ _ _ _ _ _ _ _ _ _ _ _)
      | (with_reducible exact ih9 _ _ _ _ _ _ _ _ _ _ _ _)
      | (with_reducible exact ih10 _ _ _ _ _ _ _ _)
      | (with_reducible exact impl_CompareChances.mono _ _ _ _ _)
      | (with_reducible exact impl_EverRuined.mono _ _ _ _)
      | (with_reducible exact impl_FirstWonOfWinners.mono _ _ _ _ _)
      | (with_reducible exact impl_IsChance.mono _ _ _)
      | (with_reducible exact impl_MeanGames.mono _ _ _ _ _)
      | (with_reducible exact impl_MeanHeld.mono _ _ _ _ _)
      | (with_reducible exact impl_RuinChance.mono _ _ _ _ _)
      | (with_reducible exact impl_WinChance.mono _ _ _ _ _)
      | (with_reducible exact spec_CompareChances.mono _ _ _ _ _)
      | (with_reducible exact spec_DrawCompareChances.mono _ _)
      | (with_reducible exact spec_DrawEverRuined.mono _ _)
      | (with_reducible exact spec_DrawIsChance.mono _ _)
      | (with_reducible exact spec_DrawMeanGames.mono _ _)
      | (with_reducible exact spec_EverRuined.mono _ _ _ _)
      | (with_reducible exact spec_FirstWonOfWinners.mono _ _ _ _ _)
      | (with_reducible exact spec_IsChance.mono _ _ _)
      | (with_reducible exact spec_MeanGames.mono _ _ _ _ _)
      | (with_reducible exact spec_MeanHeld.mono _ _ _ _ _)
      | (with_reducible exact spec_RuinChance.mono _ _ _ _ _)
      | (with_reducible exact spec_WinChance.mono _ _ _ _ _)
      | (with_reducible exact LeO.refl _)
      | (with_reducible exact LeO.none _)
      | (with_reducible refine LeO.ite ?_ ?_)
      | (with_reducible refine LeO.bind ?_ (fun _ => ?_))
      | exact ih0 _ _ _ _ _ _ _ _ _ _ _ _ _ _ _ _ _
      | exact ih1 _
      | exact ih2 _ _ _ _ _ _ _ _
      | exact ih3 _
      | exact ih4 _ _ _ _ _ _ _
      | exact ih5 _ _ _ _ _ _ _ _ _ _ _ _ _ _
      | exact ih6 _ _ _ _ _ _ _ _ _ _ _ _ _ _
      | exact ih7 _ _ _ _ _ _ _ _ _ _ _ _ _ _ _ _ _ _
      | exact ih8 _ _ _ _ _ _ _ _ _ _ _ _ _ _
      | exact ih9 _ _ _ _ _ _ _ _ _ _ _ _
      | exact ih10 _ _ _ _ _ _ _ _
      | exact impl_CompareChances.mono _ _ _ _ _
      | exact impl_EverRuined.mono _ _ _ _
      | exact impl_FirstWonOfWinners.mono _ _ _ _ _
      | exact impl_IsChance.mono _ _ _
      | exact impl_MeanGames.mono _ _ _ _ _
      | exact impl_MeanHeld.mono _ _ _ _ _
      | exact impl_RuinChance.mono _ _ _ _ _
      | exact impl_WinChance.mono _ _ _ _ _
      | exact spec_CompareChances.mono _ _ _ _ _
      | exact spec_DrawCompareChances.mono _ _
      | exact spec_DrawEverRuined.mono _ _
      | exact spec_DrawIsChance.mono _ _
      | exact spec_DrawMeanGames.mono _ _
      | exact spec_EverRuined.mono _ _ _ _
      | exact spec_FirstWonOfWinners.mono _ _ _ _ _
      | exact spec_IsChance.mono _ _ _
      | exact spec_MeanGames.mono _ _ _ _ _
      | exact spec_MeanHeld.mono _ _ _ _ _
      | exact spec_RuinChance.mono _ _ _ _ _
      | exact spec_WinChance.mono _ _ _ _ _
      | exact LeO.none _
      | refine LeO.ite ?_ ?_
      | refine LeO.bind ?_ (fun _ => ?_)
theorem laws_FnRuinAddsUp.mono : ∀ a0 a1 k, LeO (laws_FnRuinAddsUp.f k a0 a1) (laws_FnRuinAddsUp.f (k + 1) a0 a1) := by
  intro a0 a1 k
  obtain ⟨ih0, ih1, ih2, ih3, ih4, ih5, ih6, ih7, ih8, ih9, ih10⟩ := laws_FnRuinAddsUp.mono_l k
  unfold laws_FnRuinAddsUp.f
  repeat' first
      | (with_reducible exact ih0 _ _ _ _ _ _ _ _ _ _ _ _ _ _ _ _ _)
      | (with_reducible exact ih1 _)
      | (with_reducible exact ih2 _ _ _ _ _ _ _ _)
      | (with_reducible exact ih3 _)
      | (with_reducible exact ih4 _ _ _ _ _ _ _)
      | (with_reducible exact ih5 _ _ _ _ _ _ _ _ _ _ _ _ _ _)
      | (with_reducible exact ih6 _ _ _ _ _ _ _ _ _ _ _ _ _ _)
      | (with_reducible exact ih7 _ _ _ _ _ _ _ _ _ _ _ _ _ _ _ _ _ _)
      | (with_reducible exact ih8 _ _ _ _ _ _ _ _ _ _ _ _ _ _)
      | (with_reducible exact ih9 _ _ _ _ _ _ _ _ _ _ _ _)
      | (with_reducible exact ih10 _ _ _ _ _ _ _ _)
      | (with_reducible exact impl_CompareChances.mono _ _ _ _ _)
      | (with_reducible exact impl_EverRuined.mono _ _ _ _)
      | (with_reducible exact impl_FirstWonOfWinners.mono _ _ _ _ _)
      | (with_reducible exact impl_IsChance.mono _ _ _)
      | (with_reducible exact impl_MeanGames.mono _ _ _ _ _)
      | (with_reducible exact impl_MeanHeld.mono _ _ _ _ _)
      | (with_reducible exact impl_RuinChance.mono _ _ _ _ _)
      | (with_reducible exact impl_WinChance.mono _ _ _ _ _)
      | (with_reducible exact spec_CompareChances.mono _ _ _ _ _)
      | (with_reducible exact spec_DrawCompareChances.mono _ _)
      | (with_reducible exact spec_DrawEverRuined.mono _ _)
      | (with_reducible exact spec_DrawIsChance.mono _ _)
      | (with_reducible exact spec_DrawMeanGames.mono _ _)
      | (with_reducible exact spec_EverRuined.mono _ _ _ _)
      | (with_reducible exact spec_FirstWonOfWinners.mono _ _ _ _ _)
      | (with_reducible exact spec_IsChance.mono _ _ _)
      | (with_reducible exact spec_MeanGames.mono _ _ _ _ _)
      | (with_reducible exact spec_MeanHeld.mono _ _ _ _ _)
      | (with_reducible exact spec_RuinChance.mono _ _ _ _ _)
      | (with_reducible exact spec_WinChance.mono _ _ _ _ _)
      | (with_reducible exact LeO.refl _)
      | (with_reducible exact LeO.none _)
      | (with_reducible refine LeO.ite ?_ ?_)
      | (with_reducible refine LeO.bind ?_ (fun _ => ?_))
      | exact ih0 _ _ _ _ _ _ _ _ _ _ _ _ _ _ _ _ _
      | exact ih1 _
      | exact ih2 _ _ _ _ _ _ _ _
      | exact ih3 _
      | exact ih4 _ _ _ _ _ _ _
      | exact ih5 _ _ _ _ _ _ _ _ _ _ _ _ _ _
      | exact ih6 _ _ _ _ _ _ _ _ _ _ _ _ _ _
      | exact ih7 _ _ _ _ _ _ _ _ _ _ _ _ _ _ _ _ _ _
      | exact ih8 _ _ _ _ _ _ _ _ _ _ _ _ _ _
      | exact ih9 _ _ _ _ _ _ _ _ _ _ _ _
      | exact ih10 _ _ _ _ _ _ _ _
      | exact impl_CompareChances.mono _ _ _ _ _
      | exact impl_EverRuined.mono _ _ _ _
      | exact impl_FirstWonOfWinners.mono _ _ _ _ _
      | exact impl_IsChance.mono _ _ _
      | exact impl_MeanGames.mono _ _ _ _ _
      | exact impl_MeanHeld.mono _ _ _ _ _
      | exact impl_RuinChance.mono _ _ _ _ _
      | exact impl_WinChance.mono _ _ _ _ _
      | exact spec_CompareChances.mono _ _ _ _ _
      | exact spec_DrawCompareChances.mono _ _
      | exact spec_DrawEverRuined.mono _ _
      | exact spec_DrawIsChance.mono _ _
      | exact spec_DrawMeanGames.mono _ _
      | exact spec_EverRuined.mono _ _ _ _
      | exact spec_FirstWonOfWinners.mono _ _ _ _ _
      | exact spec_IsChance.mono _ _ _
      | exact spec_MeanGames.mono _ _ _ _ _
      | exact spec_MeanHeld.mono _ _ _ _ _
      | exact spec_RuinChance.mono _ _ _ _ _
      | exact spec_WinChance.mono _ _ _ _ _
      | exact LeO.none _
      | refine LeO.ite ?_ ?_
      | refine LeO.bind ?_ (fun _ => ?_)
def laws_FnRuinAddsUp.T52 : Bool × List (List Nat × List Nat) := (true, [([], []), ([0], [0]), ([], []), ([2, 1], [2]), ([1, 3], [1, 3]), ([4, 3], [4]), ([5], [5]), ([5], [5]), ([6, 7, 5], [5, 6, 7]), ([5, 8], [5, 8]), ([9, 5], [9]), ([10], [10]), ([10], [10]), ([11, 12, 10], [10, 11, 12]), ([10, 13], [10, 13]), ([14, 10], [14]), ([15], [15]), ([15], [15]), ([16, 17, 15], [15, 16, 17]), ([15, 18], [15, 18]), ([19, 15], [19]), ([20], [20]), ([20], [20]), ([22, 20], [20, 22]), ([21, 23, 20], [20, 21, 23]), ([20, 24], [20, 24]), ([25, 20], [25]), ([26], [26]), ([27, 26], [26, 27]), ([28, 26, 26], [26, 28]), ([29], [29]), ([30, 29], [29, 30]), ([29], [29]), ([29], [29]), ([32, 33, 29], [29, 32, 33]), ([31, 34, 29], [29, 31, 34]), ([29, 35, 26], [26, 29, 35]), ([26, 36], [26, 36]), ([37, 29, 0, 1, 2, 3, 4, 5, 6, 7, 8, 9, 10, 11, 12, 13, 14, 15, 16, 17, 18, 19, 20, 21, 22, 23, 24, 25, 26, 27, 28, 29, 30, 31, 32, 33, 34, 35, 36, 37], [37])])
def laws_FnRuinAddsUp.B52 : List Nat := [0, 1, 0, 7, 15, 31, 63, 63, 255, 511, 1023, 2047, 2047, 8191, 16383, 32767, 65535, 65535, 262143, 524287, 1048575, 2097151, 2097151, 6291455, 16777215, 33554431, 67108863, 134217727, 268435455, 536870911, 1073741823, 2147483647, 1073741823, 1073741823, 13958643711, 34359738367, 68719476735, 137438953471, 274877906943]
theorem laws_FnRuinAddsUp.tab52 : rtab .any (opsOf Try.f4 52) = laws_FnRuinAddsUp.T52 := by kernel_rfl
theorem laws_FnRuinAddsUp.bits52 : waitsOk laws_FnRuinAddsUp.T52.2 laws_FnRuinAddsUp.B52 = true := by kernel_rfl
end Go.Proofs.Ytfembmnagkdnhaa.OFnRuinAddsUp
