/- The functions that 'FnRuinInTime' runs, each as a function over numbers and lists, with the proof that the Go text comes to its answers. No condition. -/
import Derived.Test.YtoglhflnfkmkcaaOFnRuinInTimex0
import Derived.Test.YtoglhflnfkmkcaaOFnRuinInTimex2
import Derived.Test.YtoglhflnfkmkcaaOFnRuinInTimex3
import Derived.Test.YtoglhflnfkmkcaaOFnRuinInTimex4
import Derived.Test.YtoglhflnfkmkcaaOFnRuinInTimex5
import Derived.Test.YtoglhflnfkmkcaaOFnRuinInTimex6
import Derived.Test.YtoglhflnfkmkcaaOFnRuinInTimex7
namespace Go.Proofs.Ytoglhflnfkmkcaa.OFnRuinInTime
open Go.Proofs.Ytoglhflnfkmkcaa.Stub
open Go.RowKit Go.Proofs.YtoglhflnfkmkcaaW.PrintWords Go.Proofs.YtoglhflnfkmkcaaW.PrintLast Go.Proofs.YtoglhflnfkmkcaaW.PrintMore
attribute [local go_sem] max2_int min2_int max_two min_two max_three min_three max_four min_four   -- for this text's walks alone
set_option linter.unusedVariables false
set_option linter.unusedSimpArgs false

theorem y1a8 {α : Type} (l : List α) (i : Nat) (a : α) : l.toArray.setIfInBounds i a = (l.set i a).toArray := List.setIfInBounds_toArray l i a
theorem y2a8 {α : Type} {x : α} {xs : List α} {b : α} : (x :: xs).set 0 b = b :: xs := List.set_cons_zero
theorem y3a8 {α : Type} {x : α} {xs : List α} {n : Nat} {b : α} : (x :: xs).set (n + 1) b = x :: xs.set n b := List.set_cons_succ
theorem Aa8q {p : Prop} (h : p) : Aside0 p := Aside0.mk h
theorem Za81 {p : Prop} (h : p := by (try simp only [List.map_toArray, List.map_cons, List.map_nil]); first | done | rfl | (simp only [List.length_drop, List.length_take]; rfl)) : p := h
theorem Za82 {p : Prop} (h : p := by kernel_rfl) : p := h
theorem Hb8 {p : Prop} (h : p := by repeat (first | (with_reducible first | exact HB.out | apply below_alloc | apply pw_below_drewN | apply below_drew1 | refine below_set ?_ GE270.out | refine below_set ?_ GE282.out | refine below_set ?_ GE283.out | refine below_set ?_ GE292.out | refine below_set ?_ GE293.out) | exact HB.out)) : p := h
theorem bb8 {w0 w w1 : World} {g : Nat} {o : Obj} (_ : Aside0 (w0.heap[g]? = some o)) (h : w.heap[g]? = some o) (hb : Below w.heap.size w w1) : Aside0 (w1.heap[g]? = some o) := Aa8q (blk_below h hb)
theorem nb8 {w0 w : World} {g q : Nat} {o : Obj} (_ : Aside0 (w0.heap[g]? = some o)) (h : w.heap[g]? = some o) (hg : q = w.heap.size) : Aside0 (g ≠ q) := Aa8q (by rw [hg]; exact Nat.ne_of_lt (blk_lt h))
theorem mb8 {w0 w : World} {g q : Nat} {o : Obj} (_ : Aside0 (w0.heap[g]? = some o)) (h : w.heap[g]? = some o) (hg : q = w.heap.size) : Aside0 (q ≠ g) := Aa8q (by rw [hg]; exact Nat.ne_of_gt (blk_lt h))
theorem sb8 {w w1 : World} {q : Nat} (h : Below w.heap.size w w1) (hg : q = w1.heap.size) : Aside0 (w.heap.size ≤ q) := Aa8q (by rw [hg]; exact below_size h)
theorem tb8 {w w1 w2 : World} (h : Below w.heap.size w w1) (hb : Below w1.heap.size w1 w2) : Aside0 (Below w.heap.size w w2) := Aa8q (below_step h hb)
theorem Ub8270 {p : Prop} (h : p := by repeat (first | (with_reducible first | exact BK270.out | refine blk_drewN ?_ _ | refine blk_drew ?_ | refine blk_alloc ?_ _) | exact BK270.out)) : p := h
theorem Ub8282 {p : Prop} (h : p := by repeat (first | (with_reducible first | exact BK282.out | refine blk_drewN ?_ _ | refine blk_drew ?_ | refine blk_alloc ?_ _) | exact BK282.out)) : p := h
theorem Ub8283 {p : Prop} (h : p := by repeat (first | (with_reducible first | exact BK283.out | refine blk_drewN ?_ _ | refine blk_drew ?_ | refine blk_alloc ?_ _) | exact BK283.out)) : p := h
theorem Ub8292 {p : Prop} (h : p := by repeat (first | (with_reducible first | exact BK292.out | refine blk_drewN ?_ _ | refine blk_drew ?_ | refine blk_alloc ?_ _) | exact BK292.out)) : p := h
theorem Ub8293 {p : Prop} (h : p := by repeat (first | (with_reducible first | exact BK293.out | refine blk_drewN ?_ _ | refine blk_drew ?_ | refine blk_alloc ?_ _) | exact BK293.out)) : p := h
/-! ### spec_ruPower: function 29 -/
theorem stronger8 {P : Program} {ops : Array Oper} {Q : Exit → Act → World → Prop} {md : Region.Mode} {S S' : World → Prop} (hi : ∀ w, S' w → S w) :
    ∀ {fuel : Nat} {l : Array Bool} {a : Act} {w : World}, S' w → wpAnyLast P md ops Q S' [] fuel l a w → wpAnyLast P md ops Q S [] fuel l a w
  | 0, _, _, _, _, h => h
  | _ + 1, _, _, _, hS, h => ⟨h.1, fun i hr => wpOp_mono (fun _ _ h' => ⟨fun _ _ => hi _ (h'.1 (by simp) hS), stronger8 hi (h'.1 (by simp) hS) h'.2⟩) (h.2 i hr)⟩
def spec_ruPower.l0 : Nat → Int → Int → Int → Option (Int)
  | 0, _, _, _ => none
  | k + 1, x0, x1, x5 => if x1 > 0 then (spec_ruPower.l0 k x0 (wrap64 (x1 - 1)) (wrap64 (x5 * x0))) else (some x5)
def spec_ruPower.f (k : Nat) (a0 : Int) (a1 : Int) : Option (Int) := spec_ruPower.l0 k a0 a1 1
theorem spec_ruPower.mono_l : ∀ k, (∀ y0 y1 y2, LeO (spec_ruPower.l0 k y0 y1 y2) (spec_ruPower.l0 (k + 1) y0 y1 y2))
  | 0 => fun _ _ _ r h => by simp [spec_ruPower.l0] at h
  | k + 1 => by
    have ih0 := spec_ruPower.mono_l k
    · intro y0 y1 y2
      unfold spec_ruPower.l0
      repeat' first
      | (with_reducible exact ih0 _ _ _)
      | (with_reducible exact LeO.refl _)
      | (with_reducible exact LeO.none _)
      | (with_reducible refine LeO.ite ?_ ?_)
      | (with_reducible refine LeO.bind ?_ (fun _ => ?_))
      | exact ih0 _ _ _
      | exact LeO.none _
      | refine LeO.ite ?_ ?_
      | refine LeO.bind ?_ (fun _ => ?_)
theorem spec_ruPower.mono : ∀ a0 a1 k, LeO (spec_ruPower.f k a0 a1) (spec_ruPower.f (k + 1) a0 a1) := by
  intro a0 a1 k
  have ih0 := spec_ruPower.mono_l k
  unfold spec_ruPower.f
  repeat' first
      | (with_reducible exact ih0 _ _ _)
      | (with_reducible exact LeO.refl _)
      | (with_reducible exact LeO.none _)
      | (with_reducible refine LeO.ite ?_ ?_)
      | (with_reducible refine LeO.bind ?_ (fun _ => ?_))
      | exact ih0 _ _ _
      | exact LeO.none _
      | refine LeO.ite ?_ ?_
      | refine LeO.bind ?_ (fun _ => ?_)
set_option maxHeartbeats 8000000 in
set_option maxRecDepth 100000 in
theorem spec_ruPower.calls (k : Nat) (a0 : Int) (a1 : Int) (r : Int) (w : World) (h : spec_ruPower.f k a0 a1 = some r) :
  Calls Try.prog 29 #[.int .i64 a0, .int .i64 a1] w fun e w' => e = .returned (.int .i64 r) ∧ Drawn0 w w' := by
 have H : (spec_ruPower.l0 k a0 a1 1) = some r := h
 clear h
 have H' := Aa8q H
 clear H
 go_enter Try.func29, Try.ntmps29
 go_wp2
 go_loopg [1, 5] k (fun kq v1 v5 w' => ∃ (x1_1 : Int) (x5_1 : Int), v1 = .int .i64 x1_1 ∧ v5 = .int .i64 x5_1 ∧ Aside0 (spec_ruPower.l0 kq a0 x1_1 x5_1 = some r) ∧ Aside0 (kq ≤ k) ∧ Drawn0 w w')
 case atStart => exact ⟨(a1), (1), (by first | rfl | (simp; done) | (simp [*]; done) | (simp only [i64_w]; done)), (by first | rfl | (simp; done) | (simp [*]; done) | (simp only [i64_w]; done)), H', ⟨Nat.le_refl _⟩, by repeat (first | exact Drawn0.refl _ | apply Drawn0.step)⟩
 clear H'
 try clear c2
 try clear p2
 obtain ⟨x1_1, x5_1, rfl, rfl, HA, HK1, ⟨m1, rfl⟩⟩ := hrel
 obtain _ | k1 := gk
 · exact absurd HA.out (by simp [spec_ruPower.l0])
 have H := HA.out
 clear HA
 simp only [spec_ruPower.l0] at H
 by_cases c3 : x1_1 > 0
 rotate_left
 ·
  rw [if_neg c3] at H
  have c3b0 : decide (0 < x1_1) = false := decide_eq_false c3
  clear c3
  obtain rfl := Option.some.inj H
  go_wp2
  go_ret
  exact ⟨by first | rfl | (simp; done) | (simp [*]; done), by repeat (first | exact Drawn0.refl _ | apply Drawn0.step)⟩
 rw [if_pos c3] at H
 have c3b0 : decide (0 < x1_1) = true := decide_eq_true c3
 clear c3
 have H' := Aa8q H
 clear H
 go_wp2
 go_roundg k1
 case measure => have := HK1.out; omega
 case rel => exact ⟨(wrap64 (x1_1 - 1)), (wrap64 (x5_1 * a0)), (by first | rfl | (simp; done) | (simp [*]; done) | (simp only [i64_w]; done)), (by first | rfl | (simp; done) | (simp [*]; done) | (simp only [i64_w]; done)), H', ⟨by have := HK1.out; omega⟩, by repeat (first | exact Drawn0.refl _ | apply Drawn0.step)⟩
/-! ### spec_HeldAfter: function 7 -/
def spec_HeldAfter.l0 : Nat → Int → List (S25) → List Int → Int → Int → Int → Int → Option ((List (S25)) × Bool)
  | 0, _, _, _, _, _, _, _ => none
  | k + 1, x3, x10, x23, x24, x25, x271000, x271001 => if x25 < x24 then (if 0 ≤ x25 then (if x25 < (x23.length : Int) then ((spec_ruPower.f k x271001 x3).bind fun t276 => ((spec_ruRatio.f k (rd x23 x25) t276).bind fun bt277 => (if x10.length < 8796093022208 then (spec_HeldAfter.l0 k x3 (x10 ++ [(⟨bt277.1, bt277.2⟩ : S25)]) x23 x24 (wrap64 (x25 + 1)) x271000 x271001) else (none)))) else (none)) else (none)) else (some (x10, true))
def spec_HeldAfter.f (k : Nat) (a0 : Int) (a1 : Int) (a2_0 : Int) (a2_1 : Int) (a3 : Int) : Option ((List (S25)) × Bool) := (spec_ruTimes.f k a0 a1 a2_0 a2_1 a3).bind fun t271 => (if t271 = true then ((spec_ruHeld.f k a0 a1 a2_0 a2_1 a3).bind fun t272 => (spec_HeldAfter.l0 k a3 ([] : List (S25)) t272 (t272.length : Int) 0 a2_0 a2_1)) else (some (([] : List (S25)), false)))
theorem spec_HeldAfter.mono_l : ∀ k, (∀ y0 y1 y2 y3 y4 y5 y6, LeO (spec_HeldAfter.l0 k y0 y1 y2 y3 y4 y5 y6) (spec_HeldAfter.l0 (k + 1) y0 y1 y2 y3 y4 y5 y6))
  | 0 => fun _ _ _ _ _ _ _ r h => by simp [spec_HeldAfter.l0] at h
  | k + 1 => by
    have ih0 := spec_HeldAfter.mono_l k
    · intro y0 y1 y2 y3 y4 y5 y6
      unfold spec_HeldAfter.l0
      repeat' first
      | (with_reducible exact ih0 _ _ _ _ _ _ _)
      | (with_reducible exact spec_ruHeld.mono _ _ _ _ _ _)
      | (with_reducible exact spec_ruPower.mono _ _ _)
      | (with_reducible exact spec_ruRatio.mono _ _ _)
      | (with_reducible exact spec_ruTimes.mono _ _ _ _ _ _)
      | (with_reducible exact LeO.refl _)
      | (with_reducible exact LeO.none _)
      | (with_reducible refine LeO.ite ?_ ?_)
      | (with_reducible refine LeO.bind ?_ (fun _ => ?_))
      | exact ih0 _ _ _ _ _ _ _
      | exact spec_ruHeld.mono _ _ _ _ _ _
      | exact spec_ruPower.mono _ _ _
      | exact spec_ruRatio.mono _ _ _
      | exact spec_ruTimes.mono _ _ _ _ _ _
      | exact LeO.none _
      | refine LeO.ite ?_ ?_
      | refine LeO.bind ?_ (fun _ => ?_)
theorem spec_HeldAfter.mono : ∀ a0 a1 a2 a3 a4 k, LeO (spec_HeldAfter.f k a0 a1 a2 a3 a4) (spec_HeldAfter.f (k + 1) a0 a1 a2 a3 a4) := by
  intro a0 a1 a2 a3 a4 k
  have ih0 := spec_HeldAfter.mono_l k
  unfold spec_HeldAfter.f
  repeat' first
      | (with_reducible exact ih0 _ _ _ _ _ _ _)
      | (with_reducible exact spec_ruHeld.mono _ _ _ _ _ _)
      | (with_reducible exact spec_ruPower.mono _ _ _)
      | (with_reducible exact spec_ruRatio.mono _ _ _)
      | (with_reducible exact spec_ruTimes.mono _ _ _ _ _ _)
      | (with_reducible exact LeO.refl _)
      | (with_reducible exact LeO.none _)
      | (with_reducible refine LeO.ite ?_ ?_)
      | (with_reducible refine LeO.bind ?_ (fun _ => ?_))
      | exact ih0 _ _ _ _ _ _ _
      | exact spec_ruHeld.mono _ _ _ _ _ _
      | exact spec_ruPower.mono _ _ _
      | exact spec_ruRatio.mono _ _ _
      | exact spec_ruTimes.mono _ _ _ _ _ _
      | exact LeO.none _
      | refine LeO.ite ?_ ?_
      | refine LeO.bind ?_ (fun _ => ?_)
set_option maxHeartbeats 8000000 in
set_option maxRecDepth 100000 in
theorem spec_HeldAfter.calls (k : Nat) (a0 : Int) (a1 : Int) (a2_0 : Int) (a2_1 : Int) (a3 : Int) (r1 : List (S25)) (r2 : Bool) (w : World) (h : spec_HeldAfter.f k a0 a1 a2_0 a2_1 a3 = some (r1, r2)) :
  Calls Try.prog 7 #[.int .i64 a0, .int .i64 a1, .agg #[.int .i64 a2_0, .int .i64 a2_1], .int .i64 a3] w fun e w' => ∃ v0_ : Value, e = .returned (.tuple #[v0_, .bool r2]) ∧ Kd.R k25 25 w' w.heap.size (fun _ => True) v0_ r1 ∧ Below w.heap.size w w' := by
 have hu25 := Try.underlying25
 have HB := Aa8q (Below.refl w.heap.size w)
 have H : ((spec_ruTimes.f k a0 a1 a2_0 a2_1 a3).bind fun t271 => (if t271 = true then ((spec_ruHeld.f k a0 a1 a2_0 a2_1 a3).bind fun t272 => (spec_HeldAfter.l0 k a3 ([] : List (S25)) t272 (t272.length : Int) 0 a2_0 a2_1)) else (some (([] : List (S25)), false)))) = some (r1, r2) := h
 clear h
 replace H := Option.bind_eq_some_iff.mp H
 obtain ⟨t271, A50, H⟩ := H
 replace H : (if t271 = true then ((spec_ruHeld.f k a0 a1 a2_0 a2_1 a3).bind fun t272 => (spec_HeldAfter.l0 k a3 ([] : List (S25)) t272 (t272.length : Int) 0 a2_0 a2_1)) else (some (([] : List (S25)), false))) = some (r1, r2) := H
 have A5 := Aa8q A50
 clear A50
 by_cases c6 : t271 = true
 rotate_left
 ·
  replace c6 := Bool.eq_false_iff.mpr c6
  subst c6
  have H1 : (some (([] : List (S25)), false)) = some (r1, r2) := by rw [if_neg (show ¬ (false = true) by decide)] at H; exact H
  clear H
  have H := H1
  clear H1
  simp only [Option.some.injEq, Prod.mk.injEq] at H
  obtain ⟨rfl, rfl⟩ := H
  go_enter Try.func7, Try.ntmps7
  go_wp2_with (first | ((with_reducible refine gate_dst (N := 6) rfl ?_); refine box_event ?hg (N := 6) ?hd (cs := #[.int .i64 a2_0, .int .i64 a2_1]) (t := 25) ?hr ?_; (case hd => rfl); (case hg => rfl); (case hr => first | (go_simp; done) | (go_simp; rfl)); intro g270 hg w23 hbox hb; have BK270 := Aa8q (hbox); have GE270 := sb8 Hb8 hg; replace HB := tb8 Hb8 hb; clear hb hbox hg; have hcz24_0 : w23.cell? ⟨g270, 0, none⟩ = some (.int .i64 a2_0) := (blk_cell BK270.out 0).trans rfl; have hcz24_1 : w23.cell? ⟨g270, 1, none⟩ = some (.int .i64 a2_1) := (blk_cell BK270.out 1).trans rfl; have hfz24_0 := blk_frozen BK270.out 0; have hfz24_1 := blk_frozen BK270.out 1) | ((with_reducible refine gate_callee (f := 26) rfl ?_); refine goesL_ (some 17) rfl rfl Try.func26 Za82 rfl #[.int .i64 a0, .int .i64 a1, .agg #[.int .i64 a2_0, .int .i64 a2_1], .int .i64 a3] rfl Za81 ?_; (with_reducible refine (spec_ruTimes.calls k a0 a1 a2_0 a2_1 a3 false _ A5.out).mono ?_); rintro e w25 ⟨rfl, hb⟩; refine ⟨_, rfl, ?_⟩; replace BK270 := bb8 BK270 Ub8270 hb; replace HB := tb8 Hb8 hb; (try clear hb); (try clear hb2); (try clear hk); (try clear hi)))
  go_ret2
  exact ⟨_, by first | rfl | (simp [errW_none, errW_some] <;> rfl) | (simp [*, errW_none, errW_some] <;> rfl), by first | exact Kd.R_nil _ _ _ _ _ | exact Kd.N_nil _ _ _ _ _ | exact Kd.V_nil _ _ _ _ _ | exact Kd.Q_nil _ _ _ _ _ | exact Kd.S_nil _ _ _ _ _, Hb8⟩
 subst c6
 have H1 : ((spec_ruHeld.f k a0 a1 a2_0 a2_1 a3).bind fun t272 => (spec_HeldAfter.l0 k a3 ([] : List (S25)) t272 (t272.length : Int) 0 a2_0 a2_1)) = some (r1, r2) := by rw [if_pos rfl] at H; exact H
 clear H
 have H := H1
 clear H1
 replace H := Option.bind_eq_some_iff.mp H
 obtain ⟨t272, A70, H⟩ := H
 replace H : (spec_HeldAfter.l0 k a3 ([] : List (S25)) t272 (t272.length : Int) 0 a2_0 a2_1) = some (r1, r2) := H
 have A7 := Aa8q A70
 clear A70
 have H' := Aa8q H
 clear H
 go_enter Try.func7, Try.ntmps7
 go_wp2_with (first | ((with_reducible refine gate_dst (N := 6) rfl ?_); refine box_event ?hg (N := 6) ?hd (cs := #[.int .i64 a2_0, .int .i64 a2_1]) (t := 25) ?hr ?_; (case hd => rfl); (case hg => rfl); (case hr => first | (go_simp; done) | (go_simp; rfl)); intro g270 hg w8 hbox hb; have BK270 := Aa8q (hbox); have GE270 := sb8 Hb8 hg; replace HB := tb8 Hb8 hb; clear hb hbox hg; have hcz9_0 : w8.cell? ⟨g270, 0, none⟩ = some (.int .i64 a2_0) := (blk_cell BK270.out 0).trans rfl; have hcz9_1 : w8.cell? ⟨g270, 1, none⟩ = some (.int .i64 a2_1) := (blk_cell BK270.out 1).trans rfl; have hfz9_0 := blk_frozen BK270.out 0; have hfz9_1 := blk_frozen BK270.out 1) | ((with_reducible refine gate_callee (f := 26) rfl ?_); refine goesL_ (some 17) rfl rfl Try.func26 Za82 rfl #[.int .i64 a0, .int .i64 a1, .agg #[.int .i64 a2_0, .int .i64 a2_1], .int .i64 a3] rfl Za81 ?_; (with_reducible refine (spec_ruTimes.calls k a0 a1 a2_0 a2_1 a3 true _ A5.out).mono ?_); rintro e w10 ⟨rfl, hb⟩; refine ⟨_, rfl, ?_⟩; replace BK270 := bb8 BK270 Ub8270 hb; replace HB := tb8 Hb8 hb; (try clear hb); (try clear hb2); (try clear hk); (try clear hi); have hcz11_0 : w10.cell? ⟨g270, 0, none⟩ = some (.int .i64 a2_0) := (blk_cell BK270.out 0).trans rfl; have hcz11_1 : w10.cell? ⟨g270, 1, none⟩ = some (.int .i64 a2_1) := (blk_cell BK270.out 1).trans rfl; have hfz11_0 := blk_frozen BK270.out 0; have hfz11_1 := blk_frozen BK270.out 1) | ((with_reducible refine gate_callee (f := 27) rfl ?_); refine goesL_ (some 23) rfl rfl Try.func27 Za82 rfl #[.int .i64 a0, .int .i64 a1, .agg #[.int .i64 a2_0, .int .i64 a2_1], .int .i64 a3] rfl Za81 ?_; (with_reducible refine (spec_ruHeld.calls k a0 a1 a2_0 a2_1 a3 t272 _ A7.out).mono ?_); rintro e w12 ⟨v273, rfl, ho0, hb⟩; refine ⟨_, rfl, ?_⟩; have HO274 := Aa8q (Kd.R_lower ho0 (below_size Hb8)); replace BK270 := bb8 BK270 Ub8270 hb; replace HB := tb8 Hb8 hb; (try clear hb); (try clear hb2); (try clear hk); (try clear hi); (try clear ho0); obtain ⟨Ao13, co13, eo13⟩ := Kd.R_slice HO274.out; subst eo13))
 go_loopg [10, 25] k (fun kq v10 v25 w' => ∃ (x10_1 : List (S25)) (x25_1 : Int), v25 = .int .i64 x25_1 ∧ Aside0 (spec_HeldAfter.l0 kq a3 x10_1 t272 (t272.length : Int) x25_1 a2_0 a2_1 = some (r1, r2)) ∧ Aside0 (kq ≤ k) ∧ Aside0 (Kd.R k25 25 w' w.heap.size (fun k_ => k_ ≠ g270) v10 x10_1) ∧ Aside0 (Kd.R (Kd.int .i64) 3 w' w.heap.size (fun _ => True) (.slice Ao13 t272.length co13) t272) ∧ Aside0 (w'.heap[g270]? = some (.cells #[.int .i64 a2_0, .int .i64 a2_1] 25 (0, 0))) ∧ Aside0 (Below w.heap.size w w'))
 case atStart => exact ⟨(([] : List (S25))), (0), (by first | rfl | (simp; done) | (simp [*]; done) | (simp only [i64_w]; done)), H', ⟨Nat.le_refl _⟩, ⟨by first | exact Kd.R_nil _ _ _ _ _ | exact Kd.N_nil _ _ _ _ _ | exact Kd.V_nil _ _ _ _ _ | exact Kd.Q_nil _ _ _ _ _ | exact Kd.S_nil _ _ _ _ _⟩, ⟨by (with_reducible repeat (first | apply Kd.R_alloc | apply Kd.R_drewN | apply Kd.R_drew)); exact HO274.out⟩, ⟨Ub8270⟩, ⟨Hb8⟩⟩
 clear H'
 try clear c2
 try clear p2
 try clear c6
 try clear c7
 try clear hcz11_0
 try clear hcz11_1
 try clear hcz9_0
 try clear hcz9_1
 try clear hfz11_0
 try clear hfz11_1
 try clear hfz9_0
 try clear hfz9_1
 obtain ⟨x10_1, x25_1, rfl, HA, HK1, HO_10, HO_23, BK270, HB⟩ := hrel
 obtain _ | k1 := gk
 · exact absurd HA.out (by simp [spec_HeldAfter.l0])
 have H := HA.out
 clear HA
 simp only [spec_HeldAfter.l0] at H
 by_cases c14 : x25_1 < (t272.length : Int)
 rotate_left
 ·
  rw [if_neg c14] at H
  have c14b0 : decide (x25_1 < (t272.length : Int)) = false := decide_eq_false c14
  clear c14
  simp only [Option.some.injEq, Prod.mk.injEq] at H
  obtain ⟨rfl, rfl⟩ := H
  go_wp2
  go_ret2
  exact ⟨_, by first | rfl | (simp [errW_none, errW_some] <;> rfl) | (simp [*, errW_none, errW_some] <;> rfl), by (with_reducible repeat (first | apply Kd.R_alloc | apply Kd.R_drewN | apply Kd.R_drew)); exact Kd.R_mono HO_10.out (fun _ hk => trivial), Hb8⟩
 rw [if_pos c14] at H
 have c14b0 : decide (x25_1 < (t272.length : Int)) = true := decide_eq_true c14
 clear c14
 by_cases c15 : 0 ≤ x25_1
 rotate_left
 ·
  rw [if_neg c15] at H
  exact absurd H (by simp)
 rw [if_pos c15] at H
 have c15b0 : decide (0 ≤ x25_1) = true := decide_eq_true c15
 clear c15
 by_cases c16 : x25_1 < (t272.length : Int)
 rotate_left
 ·
  rw [if_neg c16] at H
  exact absurd H (by simp)
 rw [if_pos c16] at H
 have c16b0 : decide (x25_1 < (t272.length : Int)) = true := decide_eq_true c16
 clear c16
 replace H := Option.bind_eq_some_iff.mp H
 obtain ⟨t276, A170, H⟩ := H
 replace H : ((spec_ruRatio.f k1 (rd t272 x25_1) t276).bind fun bt277 => (if x10_1.length < 8796093022208 then (spec_HeldAfter.l0 k1 a3 (x10_1 ++ [(⟨bt277.1, bt277.2⟩ : S25)]) t272 (t272.length : Int) (wrap64 (x25_1 + 1)) a2_0 a2_1) else (none))) = some (r1, r2) := H
 have A17 := Aa8q A170
 clear A170
 replace H := Option.bind_eq_some_iff.mp H
 obtain ⟨⟨t277, t278⟩, A180, H⟩ := H
 replace H : (if x10_1.length < 8796093022208 then (spec_HeldAfter.l0 k1 a3 (x10_1 ++ [(⟨t277, t278⟩ : S25)]) t272 (t272.length : Int) (wrap64 (x25_1 + 1)) a2_0 a2_1) else (none)) = some (r1, r2) := H
 have A18 := Aa8q A180
 clear A180
 by_cases c19 : x10_1.length < 8796093022208
 rotate_left
 ·
  rw [if_neg c19] at H
  exact absurd H (by simp)
 rw [if_pos c19] at H
 have LMc19 := Aa8q c19
 clear c19
 obtain ⟨y279, hy279⟩ : ∃ y_ : List (S25), y_ = (x10_1 ++ [(⟨t277, t278⟩ : S25)]) := ⟨_, rfl⟩
 replace H : (spec_HeldAfter.l0 k1 a3 y279 t272 (t272.length : Int) (wrap64 (x25_1 + 1)) a2_0 a2_1) = some (r1, r2) := by first | (rw [hy279]; with_reducible exact H) | (have H2_ := (Option.bind_some _ _).symm.trans H; rw [hy279]; with_reducible exact H2_) | (have H2_ := (Option.bind_some _ _).symm.trans H; with_reducible exact H2_) | with_reducible exact H | (rw [hy279]; exact H) | exact H
 have Ny279 := Aa8q hy279
 clear hy279
 have H' := Aa8q H
 clear H
 have p275 : 0 ≤ (x25_1 : Int) := of_decide_eq_true (by first | (with_reducible assumption) | assumption)
 have q275 : x25_1 < (t272.length : Int) := of_decide_eq_true (by first | (with_reducible assumption) | assumption)
 obtain ⟨ad275, e275, hx275_0⟩ := Kd.at_int (Kd.R_reads' HO_23.out).2.2 x25_1 p275 q275
 cases e275
 replace p275 := eq_true p275
 replace q275 := eq_true q275
 have hcz20_0 : wr.cell? ⟨g270, 0, none⟩ = some (.int .i64 a2_0) := (blk_cell BK270.out 0).trans rfl
 have hcz20_1 : wr.cell? ⟨g270, 1, none⟩ = some (.int .i64 a2_1) := (blk_cell BK270.out 1).trans rfl
 have hfz20_0 := blk_frozen BK270.out 0
 have hfz20_1 := blk_frozen BK270.out 1
 go_wp2_with (first | ((with_reducible refine gate_callee (f := 29) rfl ?_); refine goesL_ (some 34) rfl rfl Try.func29 Za82 rfl #[.int .i64 a2_1, .int .i64 a3] rfl Za81 ?_; (with_reducible refine (spec_ruPower.calls k1 a2_1 a3 t276 _ A17.out).mono ?_); rintro e w' ⟨rfl, ⟨nd, rfl⟩⟩; refine ⟨_, rfl, ?_⟩) | ((with_reducible refine gate_callee (f := 28) rfl ?_); refine goesL_ (some 35) rfl rfl Try.func28 Za82 rfl #[.int .i64 (rd t272 x25_1), .int .i64 t276] rfl Za81 ?_; (with_reducible refine (spec_ruRatio.calls k1 (rd t272 x25_1) t276 t277 t278 _ A18.out).mono ?_); rintro e w21 ⟨rfl, hb⟩; refine ⟨_, rfl, ?_⟩; replace HO_10 := Aa8q (Kd.R_below (by (with_reducible repeat (first | apply Kd.R_alloc | apply Kd.R_drewN | apply Kd.R_drew)); exact HO_10.out) hb); replace HO_23 := Aa8q (Kd.R_below (by (with_reducible repeat (first | apply Kd.R_alloc | apply Kd.R_drewN | apply Kd.R_drew)); exact HO_23.out) hb); replace BK270 := bb8 BK270 Ub8270 hb; replace HB := tb8 Hb8 hb; (try clear hb); (try clear hb2); (try clear hk); (try clear hi)) | ((with_reducible refine gate_builtin (b := .append) (xs := #[.tmp 29, .tmp 36]) rfl ?_); at_builtin; refine Kd.R_append k25 (w0 := w) w.heap.size rfl (.tmp 29) (.tmp 36) 28 25 (.agg #[(.int .i64 0), (.int .i64 0)]) 16 rfl Try.underlying28 info25 rfl (by decide) (by omega) u10 x10_1 (⟨t277, t278⟩ : S25) [.int .i64 t277, .int .i64 t278] (fun k_ => k_ ≠ g270) (fun _ => False) rfl rfl ?aP (fun _ hk => hk.elim) ?aF ?aO ?aB ?aS ?aL ?_; (case aP => exact k25_mkM _ _ _ (⟨t277, t278⟩ : S25)); (case aB => exact Hb8); (case aF => exact (fun k_ hk => Kd.freshB (g := g270) (o := .cells #[.int .i64 a2_0, .int .i64 a2_1] 25 (0, 0)) Ub8270 k_ hk)); (case aO => exact (by (with_reducible repeat (first | apply Kd.R_alloc | apply Kd.R_drewN | apply Kd.R_drew)); exact HO_10.out)); (case aS => exact (below_size Hb8)); (case aL => have := LMc19.out; omega); intro v280 w22 ho hb hg hat; rw [← Ny279.out] at ho; have HO281 := Aa8q (ho); replace HO_23 := Aa8q (Kd.R_over' (by (with_reducible repeat (first | apply Kd.R_alloc | apply Kd.R_drewN | apply Kd.R_drew)); exact HO_23.out) (Kd.R_typed (by (with_reducible repeat (first | apply Kd.R_alloc | apply Kd.R_drewN | apply Kd.R_drew)); exact HO_10.out)) (by decide) hg); replace BK270 := Aa8q (blk_grown (g := g270) (o := .cells #[.int .i64 a2_0, .int .i64 a2_1] 25 (0, 0)) Ub8270 hg (Kd.R_away HO_10.out (fun _ hk => hk))); replace HB := Aa8q (hb); clear ho hb hg hat))
 go_roundg k1
 case measure => have := HK1.out; omega
 case rel => exact ⟨(y279), (wrap64 (x25_1 + 1)), (by first | rfl | (simp; done) | (simp [*]; done) | (simp only [i64_w]; done)), H', ⟨by have := HK1.out; omega⟩, ⟨by (with_reducible repeat (first | apply Kd.R_alloc | apply Kd.R_drewN | apply Kd.R_drew)); exact HO281.out⟩, ⟨by (with_reducible repeat (first | apply Kd.R_alloc | apply Kd.R_drewN | apply Kd.R_drew)); exact HO_23.out⟩, ⟨Ub8270⟩, ⟨Hb8⟩⟩
/-! ### impl_WinWithin: function 8 -/
def impl_WinWithin.f (k : Nat) (a0 : Int) (a1 : Int) (a2_0 : Int) (a2_1 : Int) (a3 : Int) : Option (Int × Int × Bool) := (impl_isPart.f k a0 a1 a2_0 a2_1 a3).bind fun t284 => (if t284 = true then ((impl_held.f k a0 a1 a2_0 a2_1 a3).bind fun t285 => (if 0 ≤ a1 then (if a1 < (t285.length : Int) then ((impl_power.f k a2_1 a3).bind fun t289 => ((impl_ratio.f k (rd t285 a1) t289).bind fun bt290 => (some (bt290.1, bt290.2, true)))) else (none)) else (none))) else (some (0, 0, false)))
theorem impl_WinWithin.mono : ∀ a0 a1 a2 a3 a4 k, LeO (impl_WinWithin.f k a0 a1 a2 a3 a4) (impl_WinWithin.f (k + 1) a0 a1 a2 a3 a4) := by
  intro a0 a1 a2 a3 a4 k
  unfold impl_WinWithin.f
  repeat' first
      | (with_reducible exact impl_held.mono _ _ _ _ _ _)
      | (with_reducible exact impl_isPart.mono _ _ _ _ _ _)
      | (with_reducible exact impl_power.mono _ _ _)
      | (with_reducible exact impl_ratio.mono _ _ _)
      | (with_reducible exact LeO.refl _)
      | (with_reducible exact LeO.none _)
      | (with_reducible refine LeO.ite ?_ ?_)
      | (with_reducible refine LeO.bind ?_ (fun _ => ?_))
      | exact impl_held.mono _ _ _ _ _ _
      | exact impl_isPart.mono _ _ _ _ _ _
      | exact impl_power.mono _ _ _
      | exact impl_ratio.mono _ _ _
      | exact LeO.none _
      | refine LeO.ite ?_ ?_
      | refine LeO.bind ?_ (fun _ => ?_)
def impl_WinWithin.T3 : Bool × List (List Nat × List Nat) := (true, [([], []), ([], []), ([], []), ([], []), ([0, 1, 2, 3], [0, 1, 2, 3]), ([], []), ([4, 5], [4, 5]), ([6], [6]), ([], []), ([8], [8]), ([], []), ([9, 10, 4], [9, 10]), ([7, 11, 11], [7, 11]), ([12, 12, 0, 1, 2, 3, 4, 5, 6, 7, 8, 9, 10, 11, 12], [12]), ([13, 0, 1, 2, 3, 4, 5, 6, 7, 8, 9, 10, 11, 12, 13], [])])
def impl_WinWithin.B3 : List Nat := [0, 0, 0, 0, 15, 0, 63, 127, 0, 256, 0, 1823, 4095, 8191, 16383]
theorem impl_WinWithin.tab3 : rtab .any (opsOf Try.f8 3) = impl_WinWithin.T3 := by kernel_rfl
theorem impl_WinWithin.bits3 : waitsOk impl_WinWithin.T3.2 impl_WinWithin.B3 = true := by kernel_rfl
set_option maxHeartbeats 8000000 in
set_option maxRecDepth 100000 in
theorem impl_WinWithin.calls (k : Nat) (a0 : Int) (a1 : Int) (a2_0 : Int) (a2_1 : Int) (a3 : Int) (r1 : Int) (r2 : Int) (r3 : Bool) (w : World) (h : impl_WinWithin.f k a0 a1 a2_0 a2_1 a3 = some (r1, r2, r3)) :
  Calls Try.prog 8 #[.int .i64 a0, .int .i64 a1, .agg #[.int .i64 a2_0, .int .i64 a2_1], .int .i64 a3] w fun e w' => e = .returned (.tuple #[.agg #[.int .i64 r1, .int .i64 r2], .bool r3]) ∧ Below w.heap.size w w' := by
 have hu25 := Try.underlying25
 have HB := Aa8q (Below.refl w.heap.size w)
 have H : ((impl_isPart.f k a0 a1 a2_0 a2_1 a3).bind fun t284 => (if t284 = true then ((impl_held.f k a0 a1 a2_0 a2_1 a3).bind fun t285 => (if 0 ≤ a1 then (if a1 < (t285.length : Int) then ((impl_power.f k a2_1 a3).bind fun t289 => ((impl_ratio.f k (rd t285 a1) t289).bind fun bt290 => (some (bt290.1, bt290.2, true)))) else (none)) else (none))) else (some (0, 0, false)))) = some (r1, r2, r3) := h
 clear h
 replace H := Option.bind_eq_some_iff.mp H
 obtain ⟨t284, A50, H⟩ := H
 replace H : (if t284 = true then ((impl_held.f k a0 a1 a2_0 a2_1 a3).bind fun t285 => (if 0 ≤ a1 then (if a1 < (t285.length : Int) then ((impl_power.f k a2_1 a3).bind fun t289 => ((impl_ratio.f k (rd t285 a1) t289).bind fun bt290 => (some (bt290.1, bt290.2, true)))) else (none)) else (none))) else (some (0, 0, false))) = some (r1, r2, r3) := H
 have A5 := Aa8q A50
 clear A50
 by_cases c6 : t284 = true
 rotate_left
 ·
  replace c6 := Bool.eq_false_iff.mpr c6
  subst c6
  have H1 : (some (0, 0, false)) = some (r1, r2, r3) := by rw [if_neg (show ¬ (false = true) by decide)] at H; exact H
  clear H
  have H := H1
  clear H1
  simp only [Option.some.injEq, Prod.mk.injEq] at H
  obtain ⟨rfl, rfl, rfl⟩ := H
  go_enter Try.func8, Try.ntmps8
  go_wp2_with (first | ((with_reducible refine gate_dst (N := 6) rfl ?_); refine box_event ?hg (N := 6) ?hd (cs := #[.int .i64 a2_0, .int .i64 a2_1]) (t := 25) ?hr ?_; (case hd => rfl); (case hg => rfl); (case hr => first | (go_simp; done) | (go_simp; rfl)); intro g282 hg w23 hbox hb; have BK282 := Aa8q (hbox); have GE282 := sb8 Hb8 hg; replace HB := tb8 Hb8 hb; clear hb hbox hg) | ((with_reducible refine gate_dst (N := 8) rfl ?_); refine box_event ?hg (N := 8) ?hd (cs := #[.int .i64 0, .int .i64 0]) (t := 25) ?hr ?_; (case hd => rfl); (case hg => rfl); (case hr => first | (go_simp; done) | (go_simp; rfl)); intro g283 hg w24 hbox hb; have BK283 := Aa8q (hbox); have GE283 := sb8 Hb8 hg; have NB282_283 := nb8 BK282 Ub8282 hg; have NB283_282 := mb8 BK282 Ub8282 hg; replace BK282 := bb8 BK282 Ub8282 hb; replace HB := tb8 Hb8 hb; clear hb hbox hg; have hcz26_0 : w24.cell? ⟨g282, 0, none⟩ = some (.int .i64 a2_0) := (blk_cell BK282.out 0).trans rfl; have hcz26_1 : w24.cell? ⟨g282, 1, none⟩ = some (.int .i64 a2_1) := (blk_cell BK282.out 1).trans rfl; have hfz26_0 := blk_frozen BK282.out 0; have hfz26_1 := blk_frozen BK282.out 1) | ((with_reducible refine gate_callee (f := 22) rfl ?_); refine goesL_ (some 14) rfl rfl Try.func22 Za82 rfl #[.int .i64 a0, .int .i64 a1, .agg #[.int .i64 a2_0, .int .i64 a2_1], .int .i64 a3] rfl Za81 ?_; (with_reducible refine (impl_isPart.calls k a0 a1 a2_0 a2_1 a3 false _ A5.out).mono ?_); rintro e w27 ⟨rfl, hb⟩; refine ⟨_, rfl, ?_⟩; replace BK282 := bb8 BK282 Ub8282 hb; replace BK283 := bb8 BK283 Ub8283 hb; replace HB := tb8 Hb8 hb; (try clear hb); (try clear hb2); (try clear hk); (try clear hi); have hcz28_0 : w27.cell? ⟨g283, 0, none⟩ = some (.int .i64 0) := (blk_cell BK283.out 0).trans rfl; have hcz28_1 : w27.cell? ⟨g283, 1, none⟩ = some (.int .i64 0) := (blk_cell BK283.out 1).trans rfl; have hfz28_0 := blk_frozen BK283.out 0; have hfz28_1 := blk_frozen BK283.out 1))
  refine bodyPost_ret (results_ct rfl _ _ g283 25 #[.int .i64 0, .int .i64 0] (0, 0) _ rfl (by (with_reducible repeat (first | refine blk_drewN ?_ _ | refine blk_drew ?_ | refine blk_alloc ?_ _)); refine blk_put (cs := #[.int .i64 0, .int .i64 0]) ?_ 1 _ rfl; (with_reducible repeat (first | refine blk_drewN ?_ _ | refine blk_drew ?_ | refine blk_alloc ?_ _)); refine blk_put (cs := #[.int .i64 0, .int .i64 0]) ?_ 0 _ rfl; (with_reducible repeat (first | refine blk_drewN ?_ _ | refine blk_drew ?_ | refine blk_alloc ?_ _)); exact BK283.out) Try.underlying25 rfl Za82) rfl ?_
  exact ⟨by first | rfl | (simp [errW_none, errW_some] <;> rfl) | (simp [*, errW_none, errW_some] <;> rfl), Hb8⟩
 subst c6
 have H1 : ((impl_held.f k a0 a1 a2_0 a2_1 a3).bind fun t285 => (if 0 ≤ a1 then (if a1 < (t285.length : Int) then ((impl_power.f k a2_1 a3).bind fun t289 => ((impl_ratio.f k (rd t285 a1) t289).bind fun bt290 => (some (bt290.1, bt290.2, true)))) else (none)) else (none))) = some (r1, r2, r3) := by rw [if_pos rfl] at H; exact H
 clear H
 have H := H1
 clear H1
 replace H := Option.bind_eq_some_iff.mp H
 obtain ⟨t285, A70, H⟩ := H
 replace H : (if 0 ≤ a1 then (if a1 < (t285.length : Int) then ((impl_power.f k a2_1 a3).bind fun t289 => ((impl_ratio.f k (rd t285 a1) t289).bind fun bt290 => (some (bt290.1, bt290.2, true)))) else (none)) else (none)) = some (r1, r2, r3) := H
 have A7 := Aa8q A70
 clear A70
 by_cases c8 : 0 ≤ a1
 rotate_left
 ·
  rw [if_neg c8] at H
  exact absurd H (by simp)
 rw [if_pos c8] at H
 have c8b0 : decide (0 ≤ a1) = true := decide_eq_true c8
 clear c8
 by_cases c9 : a1 < (t285.length : Int)
 rotate_left
 ·
  rw [if_neg c9] at H
  exact absurd H (by simp)
 rw [if_pos c9] at H
 have c9b0 : decide (a1 < (t285.length : Int)) = true := decide_eq_true c9
 clear c9
 replace H := Option.bind_eq_some_iff.mp H
 obtain ⟨t289, A100, H⟩ := H
 replace H : ((impl_ratio.f k (rd t285 a1) t289).bind fun bt290 => (some (bt290.1, bt290.2, true))) = some (r1, r2, r3) := H
 have A10 := Aa8q A100
 clear A100
 replace H := Option.bind_eq_some_iff.mp H
 obtain ⟨⟨t290, t291⟩, A110, H⟩ := H
 replace H : (some (t290, t291, true)) = some (r1, r2, r3) := H
 have A11 := Aa8q A110
 clear A110
 simp only [Option.some.injEq, Prod.mk.injEq] at H
 obtain ⟨rfl, rfl, rfl⟩ := H
 go_enter Try.func8, Try.ntmps8
 try go_wp2_with (first | ((with_reducible refine gate_dst (N := 6) rfl ?_); refine box_event ?hg (N := 6) ?hd (cs := #[.int .i64 a2_0, .int .i64 a2_1]) (t := 25) ?hr ?_; (case hd => rfl); (case hg => rfl); (case hr => first | (go_simp; done) | (go_simp; rfl)); intro g282 hg w12 hbox hb; have BK282 := Aa8q (hbox); have GE282 := sb8 Hb8 hg; replace HB := tb8 Hb8 hb; clear hb hbox hg) | ((with_reducible refine gate_dst (N := 8) rfl ?_); refine box_event ?hg (N := 8) ?hd (cs := #[.int .i64 0, .int .i64 0]) (t := 25) ?hr ?_; (case hd => rfl); (case hg => rfl); (case hr => first | (go_simp; done) | (go_simp; rfl)); intro g283 hg w13 hbox hb; have BK283 := Aa8q (hbox); have GE283 := sb8 Hb8 hg; have NB282_283 := nb8 BK282 Ub8282 hg; have NB283_282 := mb8 BK282 Ub8282 hg; replace BK282 := bb8 BK282 Ub8282 hb; replace HB := tb8 Hb8 hb; clear hb hbox hg; have hcz15_0 : w13.cell? ⟨g282, 0, none⟩ = some (.int .i64 a2_0) := (blk_cell BK282.out 0).trans rfl; have hcz15_1 : w13.cell? ⟨g282, 1, none⟩ = some (.int .i64 a2_1) := (blk_cell BK282.out 1).trans rfl; have hfz15_0 := blk_frozen BK282.out 0; have hfz15_1 := blk_frozen BK282.out 1) | ((with_reducible refine gate_callee (f := 22) rfl ?_); refine goesL_ (some 14) rfl rfl Try.func22 Za82 rfl #[.int .i64 a0, .int .i64 a1, .agg #[.int .i64 a2_0, .int .i64 a2_1], .int .i64 a3] rfl Za81 ?_; (with_reducible refine (impl_isPart.calls k a0 a1 a2_0 a2_1 a3 true _ A5.out).mono ?_); rintro e w16 ⟨rfl, hb⟩; refine ⟨_, rfl, ?_⟩; replace BK282 := bb8 BK282 Ub8282 hb; replace BK283 := bb8 BK283 Ub8283 hb; replace HB := tb8 Hb8 hb; (try clear hb); (try clear hb2); (try clear hk); (try clear hi)))
 replace BK282 := Aa8q (blk_drew BK282.out)
 replace BK283 := Aa8q (blk_drew BK283.out)
 replace HB := Aa8q (below_drew1 HB.out)
 refine start_ (n := 15) (S := fun w' => w'.cell? ⟨g282, 0, none⟩ = some (.int .i64 a2_0) ∧ w'.cell? ⟨g282, 1, none⟩ = some (.int .i64 a2_1)) (ds := []) #[false, false, false, false, false, false, false, false, false, false, false, false, false, false, false] Za82 rfl rfl ⟨(blk_cell BK282.out 0).trans rfl, (blk_cell BK282.out 1).trans rfl⟩ (fun hHeld => ?_); refine with_tabW impl_WinWithin.tab3 impl_WinWithin.bits3 (fun HT_ HW_ => ?_)
 generalize w16.drew = w17 at BK282 BK283 HB hHeld ⊢
 refine pure_ (i := 0) (N := some 17) (v := ?_) (a' := ?_) #[true, false, false, false, false, false, false, false, false, false, false, false, false, false, false] rfl rfl (any_of HT_.out Za82) (fun _ _ _ h => h) (Or.inl ⟨by rfl, ?_⟩) ?_ ?_
 rotate_left
 ·
  intro w'
  go_simp
  with_reducible rfl
 rotate_left
 ·
  simp only [Act.put, y1a8, y2a8, y3a8, i64_w, i32_w]
  rfl
 refine pure_ (i := 1) (N := some 18) (v := ?_) (a' := ?_) #[true, true, false, false, false, false, false, false, false, false, false, false, false, false, false] rfl rfl (any_of HT_.out Za82) (fun _ _ _ h => h) (Or.inl ⟨by rfl, ?_⟩) ?_ ?_
 rotate_left
 ·
  intro w'
  go_simp
  with_reducible rfl
 rotate_left
 ·
  simp only [Act.put, y1a8, y2a8, y3a8, i64_w, i32_w]
  rfl
 refine pure_ (i := 3) (N := some 20) (v := ?_) (a' := ?_) #[true, true, false, true, false, false, false, false, false, false, false, false, false, false, false] rfl rfl (any_of HT_.out Za82) (fun _ _ _ h => h) (Or.inl ⟨by rfl, ?_⟩) ?_ ?_
 rotate_left
 ·
  intro w'
  go_simp
  with_reducible rfl
 rotate_left
 ·
  simp only [Act.put, y1a8, y2a8, y3a8, i64_w, i32_w]
  rfl
 refine pure_ (i := 5) (N := some 22) (v := ?_) (a' := ?_) #[true, true, false, true, false, true, false, false, false, false, false, false, false, false, false] rfl rfl (any_of HT_.out Za82) (fun _ _ _ h => h) (Or.inl ⟨by rfl, ?_⟩) ?_ ?_
 rotate_left
 ·
  intro w'
  go_simp
  with_reducible rfl
 rotate_left
 ·
  simp only [Act.put, y1a8, y2a8, y3a8, i64_w, i32_w]
  rfl
 refine pure_ (i := 8) (N := some 25) (v := ?_) (a' := ?_) #[true, true, false, true, false, true, false, false, true, false, false, false, false, false, false] rfl rfl (any_of HT_.out Za82) (fun _ _ _ h => h) (Or.inl ⟨by rfl, ?_⟩) ?_ ?_
 rotate_left
 ·
  intro w'
  go_simp
  with_reducible rfl
 rotate_left
 ·
  simp only [Act.put, y1a8, y2a8, y3a8, i64_w, i32_w]
  rfl
 refine pure_ (i := 10) (N := some 27) (v := ?_) (a' := ?_) #[true, true, false, true, false, true, false, false, true, false, true, false, false, false, false] rfl rfl (any_of HT_.out Za82) (fun _ _ _ h => h) (Or.inl ⟨by rfl, ?_⟩) ?_ ?_
 rotate_left
 ·
  intro w'
  go_simp
  with_reducible rfl
 rotate_left
 ·
  simp only [Act.put, y1a8, y2a8, y3a8, i64_w, i32_w]
  rfl
 refine take_ (i := 2) (N := some 19) (v := ?_) (a' := ?_) #[true, true, true, true, false, true, false, false, true, false, true, false, false, false, false] rfl rfl (take_ofW HT_.out HW_.out Za82) (fun _ _ _ h => h) (Or.inl ⟨by rfl, ?_⟩) hHeld ?_ ?_
 rotate_left
 ·
  rintro w' ⟨s0, s1⟩
  go_simp
  with_reducible rfl
 rotate_left
 ·
  simp only [Act.put, y1a8, y2a8, y3a8, i64_w, i32_w]
  rfl
 refine take_ (i := 9) (N := some 26) (v := ?_) (a' := ?_) #[true, true, true, true, false, true, false, false, true, true, true, false, false, false, false] rfl rfl (take_ofW HT_.out HW_.out Za82) (fun _ _ _ h => h) (Or.inl ⟨by rfl, ?_⟩) hHeld ?_ ?_
 rotate_left
 ·
  rintro w' ⟨s0, s1⟩
  go_simp
  with_reducible rfl
 rotate_left
 ·
  simp only [Act.put, y1a8, y2a8, y3a8, i64_w, i32_w]
  rfl
 refine one_ (i := 4) (N := some 21) #[true, true, true, true, true, true, false, false, true, true, true, false, false, false, false] rfl rfl (one_of HT_.out Za82) (by decide) (fun K hK => ?_)
 refine goes_ Try.func23 Za82 rfl #[.int .i64 a0, .int .i64 a1, .agg #[.int .i64 a2_0, .int .i64 a2_1], .int .i64 a3] (by rfl) rfl rfl Za81 ?_
 with_reducible refine (impl_held.calls k a0 a1 a2_0 a2_1 a3 t285 _ A7.out).mono ?_
 rintro e w18 ⟨v286, rfl, ho0, hb⟩
 refine ⟨_, rfl, ?_⟩
 have HO287 := Aa8q (Kd.R_lower ho0 (below_size Hb8))
 replace BK282 := bb8 BK282 Ub8282 hb
 replace BK283 := bb8 BK283 Ub8283 hb
 replace HB := tb8 Hb8 hb
 (try clear hb)
 (try clear hb2)
 (try clear hk)
 (try clear hi)
 (try clear ho0)
 obtain ⟨Ao19, co19, eo19⟩ := Kd.R_slice HO287.out
 (first | subst eo19 | (injection eo19 with f1_ f2_ f3_; have f4_ := f1_.symm; have f5_ := f3_.symm; clear f1_ f2_ f3_; subst f4_; subst f5_))
 have p288 : 0 ≤ (a1 : Int) := of_decide_eq_true (by first | (with_reducible assumption) | assumption)
 have q288 : a1 < (t285.length : Int) := of_decide_eq_true (by first | (with_reducible assumption) | assumption)
 obtain ⟨ad288, e288, hx288_0⟩ := Kd.at_int (Kd.R_reads' HO287.out).2.2 a1 p288 q288
 cases e288
 replace p288 := eq_true p288
 replace q288 := eq_true q288
 refine hK.out _ _ ⟨(blk_cell BK282.out 0).trans rfl, (blk_cell BK282.out 1).trans rfl⟩ (fun hHeld0 => ?_)
 have hHeld := (And.intro (And.left hHeld0) (And.intro (And.right hHeld0) hx288_0))
 refine stronger8 (S' := fun w' => w'.cell? ⟨g282, 0, none⟩ = some (.int .i64 a2_0) ∧ w'.cell? ⟨g282, 1, none⟩ = some (.int .i64 a2_1) ∧ w'.cell? (ad288.add (a1).toNat) = some (.int .i64 (rd t285 a1))) (fun _ h => ⟨h.1, h.2.1⟩) hHeld ?_
 clear hK K
 refine norm_ (a' := ?_) ?_ ?_
 rotate_left
 ·
  show Act.put _ (some 21) _ = _
  simp only [Act.put, y1a8, y2a8, y3a8, i64_w, i32_w]
  rfl
 refine pure_ (i := 6) (N := some 23) (v := ?_) (a' := ?_) #[true, true, true, true, true, true, true, false, true, true, true, false, false, false, false] rfl rfl (any_of HT_.out Za82) (fun _ _ _ h => h) (Or.inl ⟨by rfl, ?_⟩) ?_ ?_
 rotate_left
 ·
  intro w'
  go_simp
  with_reducible rfl
 rotate_left
 ·
  simp only [Act.put, y1a8, y2a8, y3a8, i64_w, i32_w]
  rfl
 refine take_ (i := 7) (N := some 24) (v := ?_) (a' := ?_) #[true, true, true, true, true, true, true, true, true, true, true, false, false, false, false] rfl rfl (take_ofW HT_.out HW_.out Za82) (fun _ _ _ h => h) (Or.inl ⟨by rfl, ?_⟩) hHeld ?_ ?_
 rotate_left
 ·
  rintro w' ⟨s0, s1, s2⟩
  (try simp only [Int.toNat_natCast] at s2)
  go_simp
  with_reducible rfl
 rotate_left
 ·
  simp only [Act.put, y1a8, y2a8, y3a8, i64_w, i32_w]
  rfl
 refine one_ (i := 11) (N := some 28) #[true, true, true, true, true, true, true, true, true, true, true, true, false, false, false] rfl rfl (one_of HT_.out Za82) (by decide) (fun K hK => ?_)
 refine goes_ Try.func25 Za82 rfl #[.int .i64 a2_1, .int .i64 a3] (by rfl) rfl rfl Za81 ?_
 with_reducible refine (impl_power.calls k a2_1 a3 t289 _ A10.out).mono ?_
 rintro e w' ⟨rfl, ⟨nd, rfl⟩⟩
 refine ⟨_, rfl, ?_⟩
 refine hK.out _ _ ⟨(blk_cell BK282.out 0).trans rfl, (blk_cell BK282.out 1).trans rfl, hHeld.2.2⟩ (fun hHeld => ?_)
 clear hK K
 refine norm_ (a' := ?_) ?_ ?_
 rotate_left
 ·
  show Act.put _ (some 28) _ = _
  simp only [Act.put, y1a8, y2a8, y3a8, i64_w, i32_w]
  rfl
 refine one_ (i := 12) (N := some 29) #[true, true, true, true, true, true, true, true, true, true, true, true, true, false, false] rfl rfl (one_of HT_.out Za82) (by decide) (fun K hK => ?_)
 refine goes_ Try.func24 Za82 rfl #[.int .i64 (rd t285 a1), .int .i64 t289] (by rfl) rfl rfl Za81 ?_
 with_reducible refine (impl_ratio.calls k (rd t285 a1) t289 t290 t291 _ A11.out).mono ?_
 rintro e w20 ⟨rfl, hb⟩
 have HS2_ := (hb.cell (World.block_lt_of_cell? _ _ (hHeld.2.2))).trans (hHeld.2.2)
 refine ⟨_, rfl, ?_⟩
 replace HO287 := Aa8q (Kd.R_below (by (with_reducible repeat (first | apply Kd.R_alloc | apply Kd.R_drewN | apply Kd.R_drew)); exact HO287.out) hb)
 replace BK282 := bb8 BK282 Ub8282 hb
 replace BK283 := bb8 BK283 Ub8283 hb
 replace HB := tb8 Hb8 hb
 (try clear hb)
 (try clear hb2)
 (try clear hk)
 (try clear hi)
 refine hK.out _ _ ⟨(blk_cell BK282.out 0).trans rfl, (blk_cell BK282.out 1).trans rfl, HS2_⟩ (fun hHeld => ?_)
 clear hK K
 refine norm_ (a' := ?_) ?_ ?_
 rotate_left
 ·
  show Act.put _ (some 29) _ = _
  simp only [Act.put, y1a8, y2a8, y3a8, i64_w, i32_w]
  rfl
 refine one_ (i := 13) (N := none) #[true, true, true, true, true, true, true, true, true, true, true, true, true, true, false] rfl rfl (one_of HT_.out Za82) (by decide) (fun K hK => ?_)
 have hs21 : w20.cell? ⟨g283, 0, none⟩ = some (.int .i64 0) := (blk_cell BK283.out 0).trans rfl
 have hfs21 := blk_frozen BK283.out 0
 have hns21_0 := NB282_283.out
 have hms21_0 := NB283_282.out
 have hs22 : w20.cell? ⟨g283, 1, none⟩ = some (.int .i64 0) := (blk_cell BK283.out 1).trans rfl
 have hfs22 := blk_frozen BK283.out 1
 have hns22_0 := NB282_283.out
 have hms22_0 := NB283_282.out
 refine skip_ (w1 := ?_) (by rfl) rfl ?_ ?_
 rotate_left
 ·
  go_simp
  rfl
 refine hK.out _ _ ⟨((cell_far (p := ⟨g283, _, none⟩) NB282_283.out _).trans (((cell_far (p := ⟨g283, _, none⟩) NB282_283.out _).trans (hHeld.1)))), ((cell_far (p := ⟨g283, _, none⟩) NB282_283.out _).trans (((cell_far (p := ⟨g283, _, none⟩) NB282_283.out _).trans (hHeld.2.1)))), ((cell_far (p := ⟨g283, _, none⟩) (by first | exact Kd.own_blk (Kd.R_ne HO287.out BK283.out (by decide)) | (rw [add_block]; exact Kd.own_blk (Kd.R_ne HO287.out BK283.out (by decide))) | (show (Addr.add _ _).block ≠ _; rw [add_block]; exact Kd.own_blk (Kd.R_ne HO287.out BK283.out (by decide))) | (dsimp only; exact Kd.own_blk (Kd.R_ne HO287.out BK283.out (by decide)))) _).trans (((cell_far (p := ⟨g283, _, none⟩) (by first | exact Kd.own_blk (Kd.R_ne HO287.out BK283.out (by decide)) | (rw [add_block]; exact Kd.own_blk (Kd.R_ne HO287.out BK283.out (by decide))) | (show (Addr.add _ _).block ≠ _; rw [add_block]; exact Kd.own_blk (Kd.R_ne HO287.out BK283.out (by decide))) | (dsimp only; exact Kd.own_blk (Kd.R_ne HO287.out BK283.out (by decide)))) _).trans (hHeld.2.2))))⟩ (fun hHeld => ?_)
 clear hK K
 refine pure_ (i := 14) (N := some 9) (v := ?_) (a' := ?_) #[true, true, true, true, true, true, true, true, true, true, true, true, true, true, true] rfl rfl (any_of HT_.out Za82) (fun _ _ _ h => h) (Or.inl ⟨by rfl, ?_⟩) ?_ ?_
 rotate_left
 ·
  intro w'
  go_simp
  with_reducible rfl
 rotate_left
 ·
  simp only [Act.put, y1a8, y2a8, y3a8, i64_w, i32_w]
  rfl
 refine done_ (done_of HT_.out Za82) ?_
 try go_wp2
 refine bodyPost_ret (results_ct rfl _ _ g283 25 #[.int .i64 t290, .int .i64 t291] (0, 0) _ rfl (by (with_reducible repeat (first | refine blk_drewN ?_ _ | refine blk_drew ?_ | refine blk_alloc ?_ _)); refine blk_put (cs := #[.int .i64 t290, .int .i64 0]) ?_ 1 _ rfl; (with_reducible repeat (first | refine blk_drewN ?_ _ | refine blk_drew ?_ | refine blk_alloc ?_ _)); refine blk_put (cs := #[.int .i64 0, .int .i64 0]) ?_ 0 _ rfl; (with_reducible repeat (first | refine blk_drewN ?_ _ | refine blk_drew ?_ | refine blk_alloc ?_ _)); exact BK283.out) Try.underlying25 rfl Za82) rfl ?_
 exact ⟨by first | rfl | (simp [errW_none, errW_some] <;> rfl) | (simp [*, errW_none, errW_some] <;> rfl), Hb8⟩
/-! ### spec_WinWithin: function 9 -/
def spec_WinWithin.f (k : Nat) (a0 : Int) (a1 : Int) (a2_0 : Int) (a2_1 : Int) (a3 : Int) : Option (Int × Int × Bool) := (spec_ruTimes.f k a0 a1 a2_0 a2_1 a3).bind fun t294 => (if t294 = true then ((spec_ruHeld.f k a0 a1 a2_0 a2_1 a3).bind fun t295 => (if 0 ≤ a1 then (if a1 < (t295.length : Int) then ((spec_ruPower.f k a2_1 a3).bind fun t299 => ((spec_ruRatio.f k (rd t295 a1) t299).bind fun bt300 => (some (bt300.1, bt300.2, true)))) else (none)) else (none))) else (some (0, 0, false)))
theorem spec_WinWithin.mono : ∀ a0 a1 a2 a3 a4 k, LeO (spec_WinWithin.f k a0 a1 a2 a3 a4) (spec_WinWithin.f (k + 1) a0 a1 a2 a3 a4) := by
  intro a0 a1 a2 a3 a4 k
  unfold spec_WinWithin.f
  repeat' first
      | (with_reducible exact spec_ruHeld.mono _ _ _ _ _ _)
      | (with_reducible exact spec_ruPower.mono _ _ _)
      | (with_reducible exact spec_ruRatio.mono _ _ _)
      | (with_reducible exact spec_ruTimes.mono _ _ _ _ _ _)
      | (with_reducible exact LeO.refl _)
      | (with_reducible exact LeO.none _)
      | (with_reducible refine LeO.ite ?_ ?_)
      | (with_reducible refine LeO.bind ?_ (fun _ => ?_))
      | exact spec_ruHeld.mono _ _ _ _ _ _
      | exact spec_ruPower.mono _ _ _
      | exact spec_ruRatio.mono _ _ _
      | exact spec_ruTimes.mono _ _ _ _ _ _
      | exact LeO.none _
      | refine LeO.ite ?_ ?_
      | refine LeO.bind ?_ (fun _ => ?_)
def spec_WinWithin.T3 : Bool × List (List Nat × List Nat) := (true, [([], []), ([], []), ([], []), ([], []), ([0, 1, 2, 3], [0, 1, 2, 3]), ([], []), ([4, 5], [4, 5]), ([6], [6]), ([], []), ([8], [8]), ([], []), ([9, 10, 4], [9, 10]), ([7, 11, 11], [7, 11]), ([12, 12, 0, 1, 2, 3, 4, 5, 6, 7, 8, 9, 10, 11, 12], [12]), ([13, 0, 1, 2, 3, 4, 5, 6, 7, 8, 9, 10, 11, 12, 13], [])])
def spec_WinWithin.B3 : List Nat := [0, 0, 0, 0, 15, 0, 63, 127, 0, 256, 0, 1823, 4095, 8191, 16383]
theorem spec_WinWithin.tab3 : rtab .any (opsOf Try.f9 3) = spec_WinWithin.T3 := by kernel_rfl
theorem spec_WinWithin.bits3 : waitsOk spec_WinWithin.T3.2 spec_WinWithin.B3 = true := by kernel_rfl
set_option maxHeartbeats 8000000 in
set_option maxRecDepth 100000 in
theorem spec_WinWithin.calls (k : Nat) (a0 : Int) (a1 : Int) (a2_0 : Int) (a2_1 : Int) (a3 : Int) (r1 : Int) (r2 : Int) (r3 : Bool) (w : World) (h : spec_WinWithin.f k a0 a1 a2_0 a2_1 a3 = some (r1, r2, r3)) :
  Calls Try.prog 9 #[.int .i64 a0, .int .i64 a1, .agg #[.int .i64 a2_0, .int .i64 a2_1], .int .i64 a3] w fun e w' => e = .returned (.tuple #[.agg #[.int .i64 r1, .int .i64 r2], .bool r3]) ∧ Below w.heap.size w w' := by
 have hu25 := Try.underlying25
 have HB := Aa8q (Below.refl w.heap.size w)
 have H : ((spec_ruTimes.f k a0 a1 a2_0 a2_1 a3).bind fun t294 => (if t294 = true then ((spec_ruHeld.f k a0 a1 a2_0 a2_1 a3).bind fun t295 => (if 0 ≤ a1 then (if a1 < (t295.length : Int) then ((spec_ruPower.f k a2_1 a3).bind fun t299 => ((spec_ruRatio.f k (rd t295 a1) t299).bind fun bt300 => (some (bt300.1, bt300.2, true)))) else (none)) else (none))) else (some (0, 0, false)))) = some (r1, r2, r3) := h
 clear h
 replace H := Option.bind_eq_some_iff.mp H
 obtain ⟨t294, A50, H⟩ := H
 replace H : (if t294 = true then ((spec_ruHeld.f k a0 a1 a2_0 a2_1 a3).bind fun t295 => (if 0 ≤ a1 then (if a1 < (t295.length : Int) then ((spec_ruPower.f k a2_1 a3).bind fun t299 => ((spec_ruRatio.f k (rd t295 a1) t299).bind fun bt300 => (some (bt300.1, bt300.2, true)))) else (none)) else (none))) else (some (0, 0, false))) = some (r1, r2, r3) := H
 have A5 := Aa8q A50
 clear A50
 by_cases c6 : t294 = true
 rotate_left
 ·
  replace c6 := Bool.eq_false_iff.mpr c6
  subst c6
  have H1 : (some (0, 0, false)) = some (r1, r2, r3) := by rw [if_neg (show ¬ (false = true) by decide)] at H; exact H
  clear H
  have H := H1
  clear H1
  simp only [Option.some.injEq, Prod.mk.injEq] at H
  obtain ⟨rfl, rfl, rfl⟩ := H
  go_enter Try.func9, Try.ntmps9
  go_wp2_with (first | ((with_reducible refine gate_dst (N := 6) rfl ?_); refine box_event ?hg (N := 6) ?hd (cs := #[.int .i64 a2_0, .int .i64 a2_1]) (t := 25) ?hr ?_; (case hd => rfl); (case hg => rfl); (case hr => first | (go_simp; done) | (go_simp; rfl)); intro g292 hg w23 hbox hb; have BK292 := Aa8q (hbox); have GE292 := sb8 Hb8 hg; replace HB := tb8 Hb8 hb; clear hb hbox hg) | ((with_reducible refine gate_dst (N := 8) rfl ?_); refine box_event ?hg (N := 8) ?hd (cs := #[.int .i64 0, .int .i64 0]) (t := 25) ?hr ?_; (case hd => rfl); (case hg => rfl); (case hr => first | (go_simp; done) | (go_simp; rfl)); intro g293 hg w24 hbox hb; have BK293 := Aa8q (hbox); have GE293 := sb8 Hb8 hg; have NB292_293 := nb8 BK292 Ub8292 hg; have NB293_292 := mb8 BK292 Ub8292 hg; replace BK292 := bb8 BK292 Ub8292 hb; replace HB := tb8 Hb8 hb; clear hb hbox hg; have hcz26_0 : w24.cell? ⟨g292, 0, none⟩ = some (.int .i64 a2_0) := (blk_cell BK292.out 0).trans rfl; have hcz26_1 : w24.cell? ⟨g292, 1, none⟩ = some (.int .i64 a2_1) := (blk_cell BK292.out 1).trans rfl; have hfz26_0 := blk_frozen BK292.out 0; have hfz26_1 := blk_frozen BK292.out 1) | ((with_reducible refine gate_callee (f := 26) rfl ?_); refine goesL_ (some 14) rfl rfl Try.func26 Za82 rfl #[.int .i64 a0, .int .i64 a1, .agg #[.int .i64 a2_0, .int .i64 a2_1], .int .i64 a3] rfl Za81 ?_; (with_reducible refine (spec_ruTimes.calls k a0 a1 a2_0 a2_1 a3 false _ A5.out).mono ?_); rintro e w27 ⟨rfl, hb⟩; refine ⟨_, rfl, ?_⟩; replace BK292 := bb8 BK292 Ub8292 hb; replace BK293 := bb8 BK293 Ub8293 hb; replace HB := tb8 Hb8 hb; (try clear hb); (try clear hb2); (try clear hk); (try clear hi); have hcz28_0 : w27.cell? ⟨g293, 0, none⟩ = some (.int .i64 0) := (blk_cell BK293.out 0).trans rfl; have hcz28_1 : w27.cell? ⟨g293, 1, none⟩ = some (.int .i64 0) := (blk_cell BK293.out 1).trans rfl; have hfz28_0 := blk_frozen BK293.out 0; have hfz28_1 := blk_frozen BK293.out 1))
  refine bodyPost_ret (results_ct rfl _ _ g293 25 #[.int .i64 0, .int .i64 0] (0, 0) _ rfl (by (with_reducible repeat (first | refine blk_drewN ?_ _ | refine blk_drew ?_ | refine blk_alloc ?_ _)); refine blk_put (cs := #[.int .i64 0, .int .i64 0]) ?_ 1 _ rfl; (with_reducible repeat (first | refine blk_drewN ?_ _ | refine blk_drew ?_ | refine blk_alloc ?_ _)); refine blk_put (cs := #[.int .i64 0, .int .i64 0]) ?_ 0 _ rfl; (with_reducible repeat (first | refine blk_drewN ?_ _ | refine blk_drew ?_ | refine blk_alloc ?_ _)); exact BK293.out) Try.underlying25 rfl Za82) rfl ?_
  exact ⟨by first | rfl | (simp [errW_none, errW_some] <;> rfl) | (simp [*, errW_none, errW_some] <;> rfl), Hb8⟩
 subst c6
 have H1 : ((spec_ruHeld.f k a0 a1 a2_0 a2_1 a3).bind fun t295 => (if 0 ≤ a1 then (if a1 < (t295.length : Int) then ((spec_ruPower.f k a2_1 a3).bind fun t299 => ((spec_ruRatio.f k (rd t295 a1) t299).bind fun bt300 => (some (bt300.1, bt300.2, true)))) else (none)) else (none))) = some (r1, r2, r3) := by rw [if_pos rfl] at H; exact H
 clear H
 have H := H1
 clear H1
 replace H := Option.bind_eq_some_iff.mp H
 obtain ⟨t295, A70, H⟩ := H
 replace H : (if 0 ≤ a1 then (if a1 < (t295.length : Int) then ((spec_ruPower.f k a2_1 a3).bind fun t299 => ((spec_ruRatio.f k (rd t295 a1) t299).bind fun bt300 => (some (bt300.1, bt300.2, true)))) else (none)) else (none)) = some (r1, r2, r3) := H
 have A7 := Aa8q A70
 clear A70
 by_cases c8 : 0 ≤ a1
 rotate_left
 ·
  rw [if_neg c8] at H
  exact absurd H (by simp)
 rw [if_pos c8] at H
 have c8b0 : decide (0 ≤ a1) = true := decide_eq_true c8
 clear c8
 by_cases c9 : a1 < (t295.length : Int)
 rotate_left
 ·
  rw [if_neg c9] at H
  exact absurd H (by simp)
 rw [if_pos c9] at H
 have c9b0 : decide (a1 < (t295.length : Int)) = true := decide_eq_true c9
 clear c9
 replace H := Option.bind_eq_some_iff.mp H
 obtain ⟨t299, A100, H⟩ := H
 replace H : ((spec_ruRatio.f k (rd t295 a1) t299).bind fun bt300 => (some (bt300.1, bt300.2, true))) = some (r1, r2, r3) := H
 have A10 := Aa8q A100
 clear A100
 replace H := Option.bind_eq_some_iff.mp H
 obtain ⟨⟨t300, t301⟩, A110, H⟩ := H
 replace H : (some (t300, t301, true)) = some (r1, r2, r3) := H
 have A11 := Aa8q A110
 clear A110
 simp only [Option.some.injEq, Prod.mk.injEq] at H
 obtain ⟨rfl, rfl, rfl⟩ := H
 go_enter Try.func9, Try.ntmps9
 try go_wp2_with (first | ((with_reducible refine gate_dst (N := 6) rfl ?_); refine box_event ?hg (N := 6) ?hd (cs := #[.int .i64 a2_0, .int .i64 a2_1]) (t := 25) ?hr ?_; (case hd => rfl); (case hg => rfl); (case hr => first | (go_simp; done) | (go_simp; rfl)); intro g292 hg w12 hbox hb; have BK292 := Aa8q (hbox); have GE292 := sb8 Hb8 hg; replace HB := tb8 Hb8 hb; clear hb hbox hg) | ((with_reducible refine gate_dst (N := 8) rfl ?_); refine box_event ?hg (N := 8) ?hd (cs := #[.int .i64 0, .int .i64 0]) (t := 25) ?hr ?_; (case hd => rfl); (case hg => rfl); (case hr => first | (go_simp; done) | (go_simp; rfl)); intro g293 hg w13 hbox hb; have BK293 := Aa8q (hbox); have GE293 := sb8 Hb8 hg; have NB292_293 := nb8 BK292 Ub8292 hg; have NB293_292 := mb8 BK292 Ub8292 hg; replace BK292 := bb8 BK292 Ub8292 hb; replace HB := tb8 Hb8 hb; clear hb hbox hg; have hcz15_0 : w13.cell? ⟨g292, 0, none⟩ = some (.int .i64 a2_0) := (blk_cell BK292.out 0).trans rfl; have hcz15_1 : w13.cell? ⟨g292, 1, none⟩ = some (.int .i64 a2_1) := (blk_cell BK292.out 1).trans rfl; have hfz15_0 := blk_frozen BK292.out 0; have hfz15_1 := blk_frozen BK292.out 1) | ((with_reducible refine gate_callee (f := 26) rfl ?_); refine goesL_ (some 14) rfl rfl Try.func26 Za82 rfl #[.int .i64 a0, .int .i64 a1, .agg #[.int .i64 a2_0, .int .i64 a2_1], .int .i64 a3] rfl Za81 ?_; (with_reducible refine (spec_ruTimes.calls k a0 a1 a2_0 a2_1 a3 true _ A5.out).mono ?_); rintro e w16 ⟨rfl, hb⟩; refine ⟨_, rfl, ?_⟩; replace BK292 := bb8 BK292 Ub8292 hb; replace BK293 := bb8 BK293 Ub8293 hb; replace HB := tb8 Hb8 hb; (try clear hb); (try clear hb2); (try clear hk); (try clear hi)))
 replace BK292 := Aa8q (blk_drew BK292.out)
 replace BK293 := Aa8q (blk_drew BK293.out)
 replace HB := Aa8q (below_drew1 HB.out)
 refine start_ (n := 15) (S := fun w' => w'.cell? ⟨g292, 0, none⟩ = some (.int .i64 a2_0) ∧ w'.cell? ⟨g292, 1, none⟩ = some (.int .i64 a2_1)) (ds := []) #[false, false, false, false, false, false, false, false, false, false, false, false, false, false, false] Za82 rfl rfl ⟨(blk_cell BK292.out 0).trans rfl, (blk_cell BK292.out 1).trans rfl⟩ (fun hHeld => ?_); refine with_tabW spec_WinWithin.tab3 spec_WinWithin.bits3 (fun HT_ HW_ => ?_)
 generalize w16.drew = w17 at BK292 BK293 HB hHeld ⊢
 refine pure_ (i := 0) (N := some 17) (v := ?_) (a' := ?_) #[true, false, false, false, false, false, false, false, false, false, false, false, false, false, false] rfl rfl (any_of HT_.out Za82) (fun _ _ _ h => h) (Or.inl ⟨by rfl, ?_⟩) ?_ ?_
 rotate_left
 ·
  intro w'
  go_simp
  with_reducible rfl
 rotate_left
 ·
  simp only [Act.put, y1a8, y2a8, y3a8, i64_w, i32_w]
  rfl
 refine pure_ (i := 1) (N := some 18) (v := ?_) (a' := ?_) #[true, true, false, false, false, false, false, false, false, false, false, false, false, false, false] rfl rfl (any_of HT_.out Za82) (fun _ _ _ h => h) (Or.inl ⟨by rfl, ?_⟩) ?_ ?_
 rotate_left
 ·
  intro w'
  go_simp
  with_reducible rfl
 rotate_left
 ·
  simp only [Act.put, y1a8, y2a8, y3a8, i64_w, i32_w]
  rfl
 refine pure_ (i := 3) (N := some 20) (v := ?_) (a' := ?_) #[true, true, false, true, false, false, false, false, false, false, false, false, false, false, false] rfl rfl (any_of HT_.out Za82) (fun _ _ _ h => h) (Or.inl ⟨by rfl, ?_⟩) ?_ ?_
 rotate_left
 ·
  intro w'
  go_simp
  with_reducible rfl
 rotate_left
 ·
  simp only [Act.put, y1a8, y2a8, y3a8, i64_w, i32_w]
  rfl
 refine pure_ (i := 5) (N := some 22) (v := ?_) (a' := ?_) #[true, true, false, true, false, true, false, false, false, false, false, false, false, false, false] rfl rfl (any_of HT_.out Za82) (fun _ _ _ h => h) (Or.inl ⟨by rfl, ?_⟩) ?_ ?_
 rotate_left
 ·
  intro w'
  go_simp
  with_reducible rfl
 rotate_left
 ·
  simp only [Act.put, y1a8, y2a8, y3a8, i64_w, i32_w]
  rfl
 refine pure_ (i := 8) (N := some 25) (v := ?_) (a' := ?_) #[true, true, false, true, false, true, false, false, true, false, false, false, false, false, false] rfl rfl (any_of HT_.out Za82) (fun _ _ _ h => h) (Or.inl ⟨by rfl, ?_⟩) ?_ ?_
 rotate_left
 ·
  intro w'
  go_simp
  with_reducible rfl
 rotate_left
 ·
  simp only [Act.put, y1a8, y2a8, y3a8, i64_w, i32_w]
  rfl
 refine pure_ (i := 10) (N := some 27) (v := ?_) (a' := ?_) #[true, true, false, true, false, true, false, false, true, false, true, false, false, false, false] rfl rfl (any_of HT_.out Za82) (fun _ _ _ h => h) (Or.inl ⟨by rfl, ?_⟩) ?_ ?_
 rotate_left
 ·
  intro w'
  go_simp
  with_reducible rfl
 rotate_left
 ·
  simp only [Act.put, y1a8, y2a8, y3a8, i64_w, i32_w]
  rfl
 refine take_ (i := 2) (N := some 19) (v := ?_) (a' := ?_) #[true, true, true, true, false, true, false, false, true, false, true, false, false, false, false] rfl rfl (take_ofW HT_.out HW_.out Za82) (fun _ _ _ h => h) (Or.inl ⟨by rfl, ?_⟩) hHeld ?_ ?_
 rotate_left
 ·
  rintro w' ⟨s0, s1⟩
  go_simp
  with_reducible rfl
 rotate_left
 ·
  simp only [Act.put, y1a8, y2a8, y3a8, i64_w, i32_w]
  rfl
 refine take_ (i := 9) (N := some 26) (v := ?_) (a' := ?_) #[true, true, true, true, false, true, false, false, true, true, true, false, false, false, false] rfl rfl (take_ofW HT_.out HW_.out Za82) (fun _ _ _ h => h) (Or.inl ⟨by rfl, ?_⟩) hHeld ?_ ?_
 rotate_left
 ·
  rintro w' ⟨s0, s1⟩
  go_simp
  with_reducible rfl
 rotate_left
 ·
  simp only [Act.put, y1a8, y2a8, y3a8, i64_w, i32_w]
  rfl
 refine one_ (i := 4) (N := some 21) #[true, true, true, true, true, true, false, false, true, true, true, false, false, false, false] rfl rfl (one_of HT_.out Za82) (by decide) (fun K hK => ?_)
 refine goes_ Try.func27 Za82 rfl #[.int .i64 a0, .int .i64 a1, .agg #[.int .i64 a2_0, .int .i64 a2_1], .int .i64 a3] (by rfl) rfl rfl Za81 ?_
 with_reducible refine (spec_ruHeld.calls k a0 a1 a2_0 a2_1 a3 t295 _ A7.out).mono ?_
 rintro e w18 ⟨v296, rfl, ho0, hb⟩
 refine ⟨_, rfl, ?_⟩
 have HO297 := Aa8q (Kd.R_lower ho0 (below_size Hb8))
 replace BK292 := bb8 BK292 Ub8292 hb
 replace BK293 := bb8 BK293 Ub8293 hb
 replace HB := tb8 Hb8 hb
 (try clear hb)
 (try clear hb2)
 (try clear hk)
 (try clear hi)
 (try clear ho0)
 obtain ⟨Ao19, co19, eo19⟩ := Kd.R_slice HO297.out
 (first | subst eo19 | (injection eo19 with f1_ f2_ f3_; have f4_ := f1_.symm; have f5_ := f3_.symm; clear f1_ f2_ f3_; subst f4_; subst f5_))
 have p298 : 0 ≤ (a1 : Int) := of_decide_eq_true (by first | (with_reducible assumption) | assumption)
 have q298 : a1 < (t295.length : Int) := of_decide_eq_true (by first | (with_reducible assumption) | assumption)
 obtain ⟨ad298, e298, hx298_0⟩ := Kd.at_int (Kd.R_reads' HO297.out).2.2 a1 p298 q298
 cases e298
 replace p298 := eq_true p298
 replace q298 := eq_true q298
 refine hK.out _ _ ⟨(blk_cell BK292.out 0).trans rfl, (blk_cell BK292.out 1).trans rfl⟩ (fun hHeld0 => ?_)
 have hHeld := (And.intro (And.left hHeld0) (And.intro (And.right hHeld0) hx298_0))
 refine stronger8 (S' := fun w' => w'.cell? ⟨g292, 0, none⟩ = some (.int .i64 a2_0) ∧ w'.cell? ⟨g292, 1, none⟩ = some (.int .i64 a2_1) ∧ w'.cell? (ad298.add (a1).toNat) = some (.int .i64 (rd t295 a1))) (fun _ h => ⟨h.1, h.2.1⟩) hHeld ?_
 clear hK K
 refine norm_ (a' := ?_) ?_ ?_
 rotate_left
 ·
  show Act.put _ (some 21) _ = _
  simp only [Act.put, y1a8, y2a8, y3a8, i64_w, i32_w]
  rfl
 refine pure_ (i := 6) (N := some 23) (v := ?_) (a' := ?_) #[true, true, true, true, true, true, true, false, true, true, true, false, false, false, false] rfl rfl (any_of HT_.out Za82) (fun _ _ _ h => h) (Or.inl ⟨by rfl, ?_⟩) ?_ ?_
 rotate_left
 ·
  intro w'
  go_simp
  with_reducible rfl
 rotate_left
 ·
  simp only [Act.put, y1a8, y2a8, y3a8, i64_w, i32_w]
  rfl
 refine take_ (i := 7) (N := some 24) (v := ?_) (a' := ?_) #[true, true, true, true, true, true, true, true, true, true, true, false, false, false, false] rfl rfl (take_ofW HT_.out HW_.out Za82) (fun _ _ _ h => h) (Or.inl ⟨by rfl, ?_⟩) hHeld ?_ ?_
 rotate_left
 ·
  rintro w' ⟨s0, s1, s2⟩
  (try simp only [Int.toNat_natCast] at s2)
  go_simp
  with_reducible rfl
 rotate_left
 ·
  simp only [Act.put, y1a8, y2a8, y3a8, i64_w, i32_w]
  rfl
 refine one_ (i := 11) (N := some 28) #[true, true, true, true, true, true, true, true, true, true, true, true, false, false, false] rfl rfl (one_of HT_.out Za82) (by decide) (fun K hK => ?_)
 refine goes_ Try.func29 Za82 rfl #[.int .i64 a2_1, .int .i64 a3] (by rfl) rfl rfl Za81 ?_
 with_reducible refine (spec_ruPower.calls k a2_1 a3 t299 _ A10.out).mono ?_
 rintro e w' ⟨rfl, ⟨nd, rfl⟩⟩
 refine ⟨_, rfl, ?_⟩
 refine hK.out _ _ ⟨(blk_cell BK292.out 0).trans rfl, (blk_cell BK292.out 1).trans rfl, hHeld.2.2⟩ (fun hHeld => ?_)
 clear hK K
 refine norm_ (a' := ?_) ?_ ?_
 rotate_left
 ·
  show Act.put _ (some 28) _ = _
  simp only [Act.put, y1a8, y2a8, y3a8, i64_w, i32_w]
  rfl
 refine one_ (i := 12) (N := some 29) #[true, true, true, true, true, true, true, true, true, true, true, true, true, false, false] rfl rfl (one_of HT_.out Za82) (by decide) (fun K hK => ?_)
 refine goes_ Try.func28 Za82 rfl #[.int .i64 (rd t295 a1), .int .i64 t299] (by rfl) rfl rfl Za81 ?_
 with_reducible refine (spec_ruRatio.calls k (rd t295 a1) t299 t300 t301 _ A11.out).mono ?_
 rintro e w20 ⟨rfl, hb⟩
 have HS2_ := (hb.cell (World.block_lt_of_cell? _ _ (hHeld.2.2))).trans (hHeld.2.2)
 refine ⟨_, rfl, ?_⟩
 replace HO297 := Aa8q (Kd.R_below (by (with_reducible repeat (first | apply Kd.R_alloc | apply Kd.R_drewN | apply Kd.R_drew)); exact HO297.out) hb)
 replace BK292 := bb8 BK292 Ub8292 hb
 replace BK293 := bb8 BK293 Ub8293 hb
 replace HB := tb8 Hb8 hb
 (try clear hb)
 (try clear hb2)
 (try clear hk)
 (try clear hi)
 refine hK.out _ _ ⟨(blk_cell BK292.out 0).trans rfl, (blk_cell BK292.out 1).trans rfl, HS2_⟩ (fun hHeld => ?_)
 clear hK K
 refine norm_ (a' := ?_) ?_ ?_
 rotate_left
 ·
  show Act.put _ (some 29) _ = _
  simp only [Act.put, y1a8, y2a8, y3a8, i64_w, i32_w]
  rfl
 refine one_ (i := 13) (N := none) #[true, true, true, true, true, true, true, true, true, true, true, true, true, true, false] rfl rfl (one_of HT_.out Za82) (by decide) (fun K hK => ?_)
 have hs21 : w20.cell? ⟨g293, 0, none⟩ = some (.int .i64 0) := (blk_cell BK293.out 0).trans rfl
 have hfs21 := blk_frozen BK293.out 0
 have hns21_0 := NB292_293.out
 have hms21_0 := NB293_292.out
 have hs22 : w20.cell? ⟨g293, 1, none⟩ = some (.int .i64 0) := (blk_cell BK293.out 1).trans rfl
 have hfs22 := blk_frozen BK293.out 1
 have hns22_0 := NB292_293.out
 have hms22_0 := NB293_292.out
 refine skip_ (w1 := ?_) (by rfl) rfl ?_ ?_
 rotate_left
 ·
  go_simp
  rfl
 refine hK.out _ _ ⟨((cell_far (p := ⟨g293, _, none⟩) NB292_293.out _).trans (((cell_far (p := ⟨g293, _, none⟩) NB292_293.out _).trans (hHeld.1)))), ((cell_far (p := ⟨g293, _, none⟩) NB292_293.out _).trans (((cell_far (p := ⟨g293, _, none⟩) NB292_293.out _).trans (hHeld.2.1)))), ((cell_far (p := ⟨g293, _, none⟩) (by first | exact Kd.own_blk (Kd.R_ne HO297.out BK293.out (by decide)) | (rw [add_block]; exact Kd.own_blk (Kd.R_ne HO297.out BK293.out (by decide))) | (show (Addr.add _ _).block ≠ _; rw [add_block]; exact Kd.own_blk (Kd.R_ne HO297.out BK293.out (by decide))) | (dsimp only; exact Kd.own_blk (Kd.R_ne HO297.out BK293.out (by decide)))) _).trans (((cell_far (p := ⟨g293, _, none⟩) (by first | exact Kd.own_blk (Kd.R_ne HO297.out BK293.out (by decide)) | (rw [add_block]; exact Kd.own_blk (Kd.R_ne HO297.out BK293.out (by decide))) | (show (Addr.add _ _).block ≠ _; rw [add_block]; exact Kd.own_blk (Kd.R_ne HO297.out BK293.out (by decide))) | (dsimp only; exact Kd.own_blk (Kd.R_ne HO297.out BK293.out (by decide)))) _).trans (hHeld.2.2))))⟩ (fun hHeld => ?_)
 clear hK K
 refine pure_ (i := 14) (N := some 9) (v := ?_) (a' := ?_) #[true, true, true, true, true, true, true, true, true, true, true, true, true, true, true] rfl rfl (any_of HT_.out Za82) (fun _ _ _ h => h) (Or.inl ⟨by rfl, ?_⟩) ?_ ?_
 rotate_left
 ·
  intro w'
  go_simp
  with_reducible rfl
 rotate_left
 ·
  simp only [Act.put, y1a8, y2a8, y3a8, i64_w, i32_w]
  rfl
 refine done_ (done_of HT_.out Za82) ?_
 try go_wp2
 refine bodyPost_ret (results_ct rfl _ _ g293 25 #[.int .i64 t300, .int .i64 t301] (0, 0) _ rfl (by (with_reducible repeat (first | refine blk_drewN ?_ _ | refine blk_drew ?_ | refine blk_alloc ?_ _)); refine blk_put (cs := #[.int .i64 t300, .int .i64 0]) ?_ 1 _ rfl; (with_reducible repeat (first | refine blk_drewN ?_ _ | refine blk_drew ?_ | refine blk_alloc ?_ _)); refine blk_put (cs := #[.int .i64 0, .int .i64 0]) ?_ 0 _ rfl; (with_reducible repeat (first | refine blk_drewN ?_ _ | refine blk_drew ?_ | refine blk_alloc ?_ _)); exact BK293.out) Try.underlying25 rfl Za82) rfl ?_
 exact ⟨by first | rfl | (simp [errW_none, errW_some] <;> rfl) | (simp [*, errW_none, errW_some] <;> rfl), Hb8⟩
end Go.Proofs.Ytoglhflnfkmkcaa.OFnRuinInTime
