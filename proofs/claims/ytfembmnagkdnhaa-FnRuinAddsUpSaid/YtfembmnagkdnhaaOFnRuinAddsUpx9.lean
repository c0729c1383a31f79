/- The functions that 'FnRuinAddsUp' runs, each as a function over numbers and lists, with the proof that the Go text comes to its answers. No condition. -/
import Derived.Test.YtfembmnagkdnhaaOFnRuinAddsUpx0
import Derived.Test.YtfembmnagkdnhaaOFnRuinAddsUpx2
import Derived.Test.YtfembmnagkdnhaaOFnRuinAddsUpx3
import Derived.Test.YtfembmnagkdnhaaOFnRuinAddsUpx4
namespace Go.Proofs.Ytfembmnagkdnhaa.OFnRuinAddsUp
open Go.RowKit Go.Proofs.YtfembmnagkdnhaaW.PrintWords Go.Proofs.YtfembmnagkdnhaaW.PrintLast Go.Proofs.YtfembmnagkdnhaaW.PrintMore
attribute [local go_sem] max2_int min2_int max_two min_two max_three min_three max_four min_four   -- for this text's walks alone
set_option linter.unusedVariables false
set_option linter.unusedSimpArgs false

theorem y1a9 {α : Type} (l : List α) (i : Nat) (a : α) : l.toArray.setIfInBounds i a = (l.set i a).toArray := List.setIfInBounds_toArray l i a
theorem y2a9 {α : Type} {x : α} {xs : List α} {b : α} : (x :: xs).set 0 b = b :: xs := List.set_cons_zero
theorem y3a9 {α : Type} {x : α} {xs : List α} {n : Nat} {b : α} : (x :: xs).set (n + 1) b = x :: xs.set n b := List.set_cons_succ
theorem Aa9q {p : Prop} (h : p) : Aside0 p := Aside0.mk h
theorem Za91 {p : Prop} (h : p := by repeat (first | (with_reducible first | exact HB.out | apply below_alloc | apply pw_below_drewN | apply below_drew1 | refine below_set ?_ (IsS46.ge HI354.out) | refine below_set ?_ GE352.out | refine below_set ?_ GE353.out | refine below_set ?_ GE363.out | refine below_set ?_ GE364.out) | exact HB.out)) : p := h
theorem Za92 {p : Prop} (h : p := by repeat (first | (with_reducible first | exact HB.out | apply below_alloc | apply pw_below_drewN | apply below_drew1 | refine below_set ?_ (IsS46.ge HI354.out) | refine below_set ?_ GE352.out | refine below_set ?_ GE353.out | refine below_set ?_ GE363.out) | exact HB.out)) : p := h
theorem Za93 {p : Prop} (h : p := by repeat (first | (with_reducible first | exact HB.out | apply below_alloc | apply pw_below_drewN | apply below_drew1 | refine below_set ?_ (IsS46.ge HI354.out) | refine below_set ?_ GE352.out | refine below_set ?_ GE353.out) | exact HB.out)) : p := h
theorem Za94 {p : Prop} (h : p := by (try simp only [List.map_toArray, List.map_cons, List.map_nil]); first | done | rfl | (simp only [List.length_drop, List.length_take]; rfl)) : p := h
theorem Hb9 {p : Prop} (h : p := by repeat (first | (with_reducible first | exact HB.out | apply below_alloc | apply pw_below_drewN | apply below_drew1 | refine below_set ?_ GE320.out | refine below_set ?_ GE330.out | refine below_set ?_ GE331.out | refine below_set ?_ GE338.out | refine below_set ?_ GE339.out | refine below_set ?_ GE346.out | refine below_set ?_ GE352.out | refine below_set ?_ GE353.out | refine below_set ?_ GE363.out | refine below_set ?_ GE364.out) | exact HB.out)) : p := h
theorem bb9 {w0 w w1 : World} {g : Nat} {o : Obj} (_ : Aside0 (w0.heap[g]? = some o)) (h : w.heap[g]? = some o) (hb : Below w.heap.size w w1) : Aside0 (w1.heap[g]? = some o) := Aa9q (blk_below h hb)
theorem nb9 {w0 w : World} {g q : Nat} {o : Obj} (_ : Aside0 (w0.heap[g]? = some o)) (h : w.heap[g]? = some o) (hg : q = w.heap.size) : Aside0 (g ≠ q) := Aa9q (by rw [hg]; exact Nat.ne_of_lt (blk_lt h))
theorem mb9 {w0 w : World} {g q : Nat} {o : Obj} (_ : Aside0 (w0.heap[g]? = some o)) (h : w.heap[g]? = some o) (hg : q = w.heap.size) : Aside0 (q ≠ g) := Aa9q (by rw [hg]; exact Nat.ne_of_gt (blk_lt h))
theorem sb9 {w w1 : World} {q : Nat} (h : Below w.heap.size w w1) (hg : q = w1.heap.size) : Aside0 (w.heap.size ≤ q) := Aa9q (by rw [hg]; exact below_size h)
theorem tb9 {w w1 w2 : World} (h : Below w.heap.size w w1) (hb : Below w1.heap.size w1 w2) : Aside0 (Below w.heap.size w w2) := Aa9q (below_step h hb)
theorem Ub9320 {p : Prop} (h : p := by repeat (first | (with_reducible first | exact BK320.out | refine blk_drewN ?_ _ | refine blk_drew ?_ | refine blk_alloc ?_ _) | exact BK320.out)) : p := h
theorem Ub9330 {p : Prop} (h : p := by repeat (first | (with_reducible first | exact BK330.out | refine blk_drewN ?_ _ | refine blk_drew ?_ | refine blk_alloc ?_ _) | exact BK330.out)) : p := h
theorem Ub9331 {p : Prop} (h : p := by repeat (first | (with_reducible first | exact BK331.out | refine blk_drewN ?_ _ | refine blk_drew ?_ | refine blk_alloc ?_ _) | exact BK331.out)) : p := h
theorem Ub9338 {p : Prop} (h : p := by repeat (first | (with_reducible first | exact BK338.out | refine blk_drewN ?_ _ | refine blk_drew ?_ | refine blk_alloc ?_ _) | exact BK338.out)) : p := h
theorem Ub9339 {p : Prop} (h : p := by repeat (first | (with_reducible first | exact BK339.out | refine blk_drewN ?_ _ | refine blk_drew ?_ | refine blk_alloc ?_ _) | exact BK339.out)) : p := h
theorem Ub9346 {p : Prop} (h : p := by repeat (first | (with_reducible first | exact BK346.out | refine blk_drewN ?_ _ | refine blk_drew ?_ | refine blk_alloc ?_ _) | exact BK346.out)) : p := h
theorem Ub9352 {p : Prop} (h : p := by repeat (first | (with_reducible first | exact BK352.out | refine blk_drewN ?_ _ | refine blk_drew ?_ | refine blk_alloc ?_ _) | refine blk_far ?_ NB352_353.out _ | refine blk_far ?_ NB352_363.out _ | refine blk_far ?_ NB352_364.out _ | exact BK352.out)) : p := h
theorem Ub9353 {p : Prop} (h : p := by repeat (first | (with_reducible first | exact BK353.out | refine blk_drewN ?_ _ | refine blk_drew ?_ | refine blk_alloc ?_ _) | refine blk_far ?_ NB353_352.out _ | refine blk_far ?_ NB353_363.out _ | refine blk_far ?_ NB353_364.out _ | exact BK353.out)) : p := h
theorem Ub9363 {p : Prop} (h : p := by repeat (first | (with_reducible first | exact BK363.out | refine blk_drewN ?_ _ | refine blk_drew ?_ | refine blk_alloc ?_ _) | refine blk_far ?_ NB363_364.out _ | exact BK363.out)) : p := h
theorem Ub9364 {p : Prop} (h : p := by repeat (first | (with_reducible first | exact BK364.out | refine blk_drewN ?_ _ | refine blk_drew ?_ | refine blk_alloc ?_ _) | refine blk_far ?_ NB364_363.out _ | exact BK364.out)) : p := h
/-! ### spec_DrawEverRuined: function 25 -/
def spec_DrawEverRuined.f (k : Nat) (l0 : List Int) : Option (Int × Int × Int) := (spec_l1Cur_held.f l0 0 0).bind fun bt322 => ((spec_l1Cur_chance.f k l0 bt322.2.2.1 bt322.2.2.2).bind fun bt326 => (some (bt322.1, bt326.1, bt326.2.1)))
theorem spec_DrawEverRuined.mono : ∀ a0 k, LeO (spec_DrawEverRuined.f k a0) (spec_DrawEverRuined.f (k + 1) a0) := by
  intro a0 k
  unfold spec_DrawEverRuined.f
  repeat' first
      | (with_reducible exact spec_l1Cur_chance.mono _ _ _ _)
      | (with_reducible exact LeO.refl _)
      | (with_reducible exact LeO.none _)
      | (with_reducible refine LeO.ite ?_ ?_)
      | (with_reducible refine LeO.bind ?_ (fun _ => ?_))
      | exact spec_l1Cur_chance.mono _ _ _ _
      | exact LeO.none _
      | refine LeO.ite ?_ ?_
      | refine LeO.bind ?_ (fun _ => ?_)
set_option maxHeartbeats 8000000 in
set_option maxRecDepth 100000 in
theorem spec_DrawEverRuined.calls (k : Nat) (A0 : Option Addr) (c0 : Nat) (l0 : List Int) (r1 : Int) (r2 : Int) (r3 : Int) (w : World) (hr0 : Kd.C (Kd.int .u8) w A0 l0.length l0) (hc0 : l0.length ≤ c0) (h : spec_DrawEverRuined.f k l0 = some (r1, r2, r3)) :
  Calls Try.prog 25 #[.slice A0 l0.length c0] w fun e w' => e = .returned (.tuple #[.int .i64 r1, .agg #[.int .i64 r2, .int .i64 r3]]) ∧ Below w.heap.size w w' := by
 have hu25 := Try.underlying25
 have hu46 := Try.underlying46
 have HR0 := Aa9q hr0
 have HC0 := Aa9q hc0
 clear hr0 hc0
 have HB := Aa9q (Below.refl w.heap.size w)
 have H : ((spec_l1Cur_held.f l0 0 0).bind fun bt322 => ((spec_l1Cur_chance.f k l0 bt322.2.2.1 bt322.2.2.2).bind fun bt326 => (some (bt322.1, bt326.1, bt326.2.1)))) = some (r1, r2, r3) := h
 clear h
 replace H := Option.bind_eq_some_iff.mp H
 obtain ⟨⟨t322, t323, t324, t325⟩, A20, H⟩ := H
 replace H : ((spec_l1Cur_chance.f k l0 t324 t325).bind fun bt326 => (some (t322, bt326.1, bt326.2.1))) = some (r1, r2, r3) := H
 have A2 := Aa9q A20
 clear A20
 replace H := Option.bind_eq_some_iff.mp H
 obtain ⟨⟨t326, t327, t328, t329⟩, A30, H⟩ := H
 replace H : (some (t322, t326, t327)) = some (r1, r2, r3) := H
 have A3 := Aa9q A30
 clear A30
 simp only [Option.some.injEq, Prod.mk.injEq] at H
 obtain ⟨rfl, rfl, rfl⟩ := H
 go_enter Try.func25, Try.ntmps25
 go_wp2_with (first | ((with_reducible refine gate_dst (N := 3) rfl ?_); refine box_event ?hg (N := 3) ?hd (cs := #[.int .i64 0, .int .i64 0]) (t := 25) ?hr ?_; (case hd => rfl); (case hg => rfl); (case hr => first | (go_simp; done) | (go_simp; rfl)); intro g320 hg w4 hbox hb; have BK320 := Aa9q (hbox); have GE320 := sb9 Hb9 hg; replace HB := tb9 Hb9 hb; clear hb hbox hg) | ((with_reducible refine gate_dst (N := 9) rfl ?_); refine box_event ?hg (N := 9) ?hd (cs := #[.slice A0 l0.length c0, .int .i64 0, .int .u64 0]) (t := 46) ?hr ?_; (case hd => rfl); (case hg => rfl); (case hr => first | (go_simp; done) | (go_simp; rfl)); intro g321 hg w5 hbox hb; have GE321 := sb9 Hb9 hg; have NB320_321 := nb9 BK320 Ub9320 hg; have NB321_320 := mb9 BK320 Ub9320 hg; have HI321 := Aa9q ((⟨_, _, hbox, (by rw [hg]; exact (below_size Hb9) : w.heap.size ≤ g321), HR0.out⟩ : IsS46 w w5 g321 l0 0 0)); replace BK320 := bb9 BK320 Ub9320 hb; replace HB := tb9 Hb9 hb; clear hb hbox hg) | ((with_reducible refine gate_callee (f := 45) rfl ?_); refine goesL_ (some 12) rfl rfl Try.func45 (by kernel_rfl) rfl #[.pointer (some ⟨g321, 0, none⟩)] rfl Za94 ?_; (with_reducible refine (spec_l1Cur_held.calls g321 l0 0 0 t322 t323 t324 t325 w _ ?side1 ?side2 A2.out).mono ?_); (case side1 => repeat (first | (with_reducible first | exact HI321.out | apply IsS46.alloc | apply IsS46.drewN | apply IsS46.drew | apply IsS46.set_1 | apply IsS46.set_2 | refine IsS46.far ?_ NB321_320.out _) | exact HI321.out)); (case side2 => repeat (first | (with_reducible first | exact HB.out | apply below_alloc | apply pw_below_drewN | apply below_drew1 | refine below_set ?_ (IsS46.ge HI321.out) | refine below_set ?_ GE320.out) | exact HB.out)); rintro e w6 ⟨rfl, hi, hb, hk⟩; refine ⟨_, rfl, ?_⟩; replace BK320 := Aa9q (KeepBut.blk hk (g' := g320) (o := .cells #[.int .i64 0, .int .i64 0] 25 (0, 0)) Ub9320 NB320_321.out (by simp)); replace HB := Aa9q (hb); replace HI321 := Aa9q (hi); (try clear hb); (try clear hb2); (try clear hk); (try clear hi)) | ((with_reducible refine gate_callee (f := 36) rfl ?_); refine goesL_ (some 17) rfl rfl Try.func36 (by kernel_rfl) rfl #[.pointer (some ⟨g321, 0, none⟩)] rfl Za94 ?_; (with_reducible refine (spec_l1Cur_chance.calls k g321 l0 t324 t325 t326 t327 t328 t329 w _ ?side1 ?side2 A3.out).mono ?_); (case side1 => repeat (first | (with_reducible first | exact HI321.out | apply IsS46.alloc | apply IsS46.drewN | apply IsS46.drew | apply IsS46.set_1 | apply IsS46.set_2 | refine IsS46.far ?_ NB321_320.out _) | exact HI321.out)); (case side2 => repeat (first | (with_reducible first | exact HB.out | apply below_alloc | apply pw_below_drewN | apply below_drew1 | refine below_set ?_ (IsS46.ge HI321.out) | refine below_set ?_ GE320.out) | exact HB.out)); rintro e w7 ⟨rfl, hi, hb, hk⟩; refine ⟨_, rfl, ?_⟩; replace BK320 := Aa9q (KeepBut.blk hk (g' := g320) (o := .cells #[.int .i64 0, .int .i64 0] 25 (0, 0)) Ub9320 NB320_321.out (by simp)); replace HB := Aa9q (hb); replace HI321 := Aa9q (hi); (try clear hb); (try clear hb2); (try clear hk); (try clear hi); have hcz9_0 : w7.cell? ⟨g320, 0, none⟩ = some (.int .i64 0) := (blk_cell BK320.out 0).trans rfl; have hcz9_1 : w7.cell? ⟨g320, 1, none⟩ = some (.int .i64 0) := (blk_cell BK320.out 1).trans rfl; have hfz9_0 := blk_frozen BK320.out 0; have hfz9_1 := blk_frozen BK320.out 1))
 refine bodyPost_ret (results_tc rfl _ _ g320 25 #[.int .i64 t326, .int .i64 t327] (0, 0) _ rfl (by (with_reducible repeat (first | refine blk_drewN ?_ _ | refine blk_drew ?_ | refine blk_alloc ?_ _)); refine blk_put (cs := #[.int .i64 t326, .int .i64 0]) ?_ 1 _ rfl; (with_reducible repeat (first | refine blk_drewN ?_ _ | refine blk_drew ?_ | refine blk_alloc ?_ _)); refine blk_put (cs := #[.int .i64 0, .int .i64 0]) ?_ 0 _ rfl; (with_reducible repeat (first | refine blk_drewN ?_ _ | refine blk_drew ?_ | refine blk_alloc ?_ _)); exact BK320.out) Try.underlying25 rfl (by kernel_rfl)) rfl ?_
 exact ⟨by first | rfl | (simp [errW_none, errW_some] <;> rfl) | (simp [*, errW_none, errW_some] <;> rfl), by repeat (first | (with_reducible first | exact HB.out | apply below_alloc | apply pw_below_drewN | apply below_drew1 | refine below_set ?_ (IsS46.ge HI321.out) | refine below_set ?_ GE320.out) | exact HB.out)⟩

/-! ### impl_EverRuined: function 26 -/
def impl_EverRuined.j0 : Nat → Int → Bool → Int → Int → Option (Int × Int × Bool)
  | 0, _, _, _, _ => none
  | k + 1, x0, x15, x331000, x331001 => if x15 = true then (some (0, 0, false)) else (if x331000 ≤ (wrap64 (x331001 - x331000)) then (some (1, 1, true)) else ((impl_power.f k (wrap64 (x331001 - x331000)) x0).bind fun t334 => ((impl_power.f k x331000 x0).bind fun t335 => ((impl_ratio.f k t334 t335).bind fun bt336 => (some (bt336.1, bt336.2, true))))))
def impl_EverRuined.f (k : Nat) (a0 : Int) (a1_0 : Int) (a1_1 : Int) : Option (Int × Int × Bool) := (impl_in.f a0 0 12).bind fun t332 => (if t332 = true then ((impl_IsChance.f k a1_0 a1_1).bind fun t333 => (impl_EverRuined.j0 k a0 (!t333) a1_0 a1_1)) else (impl_EverRuined.j0 k a0 true a1_0 a1_1))
theorem impl_EverRuined.mono_l : ∀ k, (∀ y0 y1 y2 y3, LeO (impl_EverRuined.j0 k y0 y1 y2 y3) (impl_EverRuined.j0 (k + 1) y0 y1 y2 y3))
  | 0 => fun _ _ _ _ r h => by simp [impl_EverRuined.j0] at h
  | k + 1 => by
    have ih0 := impl_EverRuined.mono_l k
    · intro y0 y1 y2 y3
      unfold impl_EverRuined.j0
      repeat' first
      | (with_reducible exact ih0 _ _ _ _)
      | (with_reducible exact impl_IsChance.mono _ _ _)
      | (with_reducible exact impl_power.mono _ _ _)
      | (with_reducible exact impl_ratio.mono _ _ _)
      | (with_reducible exact LeO.refl _)
      | (with_reducible exact LeO.none _)
      | (with_reducible refine LeO.ite ?_ ?_)
      | (with_reducible refine LeO.bind ?_ (fun _ => ?_))
      | exact ih0 _ _ _ _
      | exact impl_IsChance.mono _ _ _
      | exact impl_power.mono _ _ _
      | exact impl_ratio.mono _ _ _
      | exact LeO.none _
      | refine LeO.ite ?_ ?_
      | refine LeO.bind ?_ (fun _ => ?_)
theorem impl_EverRuined.mono : ∀ a0 a1 a2 k, LeO (impl_EverRuined.f k a0 a1 a2) (impl_EverRuined.f (k + 1) a0 a1 a2) := by
  intro a0 a1 a2 k
  have ih0 := impl_EverRuined.mono_l k
  unfold impl_EverRuined.f
  repeat' first
      | (with_reducible exact ih0 _ _ _ _)
      | (with_reducible exact impl_IsChance.mono _ _ _)
      | (with_reducible exact impl_power.mono _ _ _)
      | (with_reducible exact impl_ratio.mono _ _ _)
      | (with_reducible exact LeO.refl _)
      | (with_reducible exact LeO.none _)
      | (with_reducible refine LeO.ite ?_ ?_)
      | (with_reducible refine LeO.bind ?_ (fun _ => ?_))
      | exact ih0 _ _ _ _
      | exact impl_IsChance.mono _ _ _
      | exact impl_power.mono _ _ _
      | exact impl_ratio.mono _ _ _
      | exact LeO.none _
      | refine LeO.ite ?_ ?_
      | refine LeO.bind ?_ (fun _ => ?_)
set_option maxHeartbeats 8000000 in
set_option maxRecDepth 100000 in
theorem impl_EverRuined.calls (k : Nat) (a0 : Int) (a1_0 : Int) (a1_1 : Int) (r1 : Int) (r2 : Int) (r3 : Bool) (w : World) (h : impl_EverRuined.f k a0 a1_0 a1_1 = some (r1, r2, r3)) :
  Calls Try.prog 26 #[.int .i64 a0, .agg #[.int .i64 a1_0, .int .i64 a1_1]] w fun e w' => e = .returned (.tuple #[.agg #[.int .i64 r1, .int .i64 r2], .bool r3]) ∧ Below w.heap.size w w' := by
 have hu25 := Try.underlying25
 have HB := Aa9q (Below.refl w.heap.size w)
 have H : ((impl_in.f a0 0 12).bind fun t332 => (if t332 = true then ((impl_IsChance.f k a1_0 a1_1).bind fun t333 => (impl_EverRuined.j0 k a0 (!t333) a1_0 a1_1)) else (impl_EverRuined.j0 k a0 true a1_0 a1_1))) = some (r1, r2, r3) := h
 clear h
 have HC3 := Aa9q H
 clear H
 go_enter Try.func26, Try.ntmps26
 go_upto_region 1 with (first | ((with_reducible refine gate_dst (N := 3) rfl ?_); refine box_event ?hg (N := 3) ?hd (cs := #[.int .i64 a1_0, .int .i64 a1_1]) (t := 25) ?hr ?_; (case hd => rfl); (case hg => rfl); (case hr => first | (go_simp; done) | (go_simp; rfl)); intro g330 hg w4 hbox hb; have BK330 := Aa9q (hbox); have GE330 := sb9 Hb9 hg; replace HB := tb9 Hb9 hb; clear hb hbox hg) | ((with_reducible refine gate_dst (N := 4) rfl ?_); refine box_event ?hg (N := 4) ?hd (cs := #[.int .i64 0, .int .i64 0]) (t := 25) ?hr ?_; (case hd => rfl); (case hg => rfl); (case hr => first | (go_simp; done) | (go_simp; rfl)); intro g331 hg w5 hbox hb; have BK331 := Aa9q (hbox); have GE331 := sb9 Hb9 hg; have NB330_331 := nb9 BK330 Ub9330 hg; have NB331_330 := mb9 BK330 Ub9330 hg; replace BK330 := bb9 BK330 Ub9330 hb; replace HB := tb9 Hb9 hb; clear hb hbox hg))
 repeat (go_quiet (first | ((with_reducible refine gate_dst (N := 3) rfl ?_); refine box_event ?hg (N := 3) ?hd (cs := #[.int .i64 a1_0, .int .i64 a1_1]) (t := 25) ?hr ?_; (case hd => rfl); (case hg => rfl); (case hr => first | (go_simp; done) | (go_simp; rfl)); intro g330 hg w4 hbox hb; have n0_ := tb9 Hb9 hb; have n1_ := Aa9q (hbox); have n2_ := sb9 Hb9 hg; have n3_ := sb9 Hb9 hg; clear HB; have HB := n0_; have BK330 := n1_; have GW330 := n2_; have GE330 := n3_; clear n0_ n1_ n2_ n3_; clear hb hbox hg) | ((with_reducible refine gate_dst (N := 4) rfl ?_); refine box_event ?hg (N := 4) ?hd (cs := #[.int .i64 0, .int .i64 0]) (t := 25) ?hr ?_; (case hd => rfl); (case hg => rfl); (case hr => first | (go_simp; done) | (go_simp; rfl)); intro g331 hg w5 hbox hb; have n0_ := bb9 BK330 Ub9330 hb; have n1_ := tb9 Hb9 hb; have n2_ := Aa9q (hbox); have n3_ := sb9 Hb9 hg; have n4_ := sb9 Hb9 hg; have n5_ := nb9 BK330 Ub9330 hg; have n6_ := mb9 BK330 Ub9330 hg; clear BK330; clear HB; have BK330 := n0_; have HB := n1_; have BK331 := n2_; have GW331 := n3_; have GE331 := n4_; have NB330_331 := n5_; have NB331_330 := n6_; clear n0_ n1_ n2_ n3_ n4_ n5_ n6_; clear hb hbox hg)); go_upto_region 1 with (first | ((with_reducible refine gate_dst (N := 3) rfl ?_); refine box_event ?hg (N := 3) ?hd (cs := #[.int .i64 a1_0, .int .i64 a1_1]) (t := 25) ?hr ?_; (case hd => rfl); (case hg => rfl); (case hr => first | (go_simp; done) | (go_simp; rfl)); intro g330 hg w4 hbox hb; have n0_ := tb9 Hb9 hb; have n1_ := Aa9q (hbox); have n2_ := sb9 Hb9 hg; have n3_ := sb9 Hb9 hg; clear HB; have HB := n0_; have BK330 := n1_; have GW330 := n2_; have GE330 := n3_; clear n0_ n1_ n2_ n3_; clear hb hbox hg) | ((with_reducible refine gate_dst (N := 4) rfl ?_); refine box_event ?hg (N := 4) ?hd (cs := #[.int .i64 0, .int .i64 0]) (t := 25) ?hr ?_; (case hd => rfl); (case hg => rfl); (case hr => first | (go_simp; done) | (go_simp; rfl)); intro g331 hg w5 hbox hb; have n0_ := bb9 BK330 Ub9330 hb; have n1_ := tb9 Hb9 hb; have n2_ := Aa9q (hbox); have n3_ := sb9 Hb9 hg; have n4_ := sb9 Hb9 hg; have n5_ := nb9 BK330 Ub9330 hg; have n6_ := mb9 BK330 Ub9330 hg; clear BK330; clear HB; have BK330 := n0_; have HB := n1_; have BK331 := n2_; have GW331 := n3_; have GE331 := n4_; have NB330_331 := n5_; have NB331_330 := n6_; clear n0_ n1_ n2_ n3_ n4_ n5_ n6_; clear hb hbox hg)))
 (try simp only [Act.put, y1a9, y2a9, y3a9])
 go_cut [15] (fun v15 wc => ∃ (kq : Nat) (x15_2 : Bool), v15 = .bool x15_2 ∧ Aside0 (impl_EverRuined.j0 kq a0 x15_2 a1_0 a1_1 = some (r1, r2, r3)) ∧ Aside0 (kq ≤ k) ∧ Aside0 (wc.heap[g330]? = some (.cells #[.int .i64 a1_0, .int .i64 a1_1] 25 (0, 0))) ∧ Aside0 (wc.heap[g331]? = some (.cells #[.int .i64 0, .int .i64 0] 25 (0, 0))) ∧ Aside0 (Below w.heap.size w wc))
 case first =>
  have H := HC3.out
  clear HC3
  replace H := Option.bind_eq_some_iff.mp H
  obtain ⟨t332, A60, H⟩ := H
  replace H : (if t332 = true then ((impl_IsChance.f k a1_0 a1_1).bind fun t333 => (impl_EverRuined.j0 k a0 (!t333) a1_0 a1_1)) else (impl_EverRuined.j0 k a0 true a1_0 a1_1)) = some (r1, r2, r3) := H
  have A6 := Aa9q A60
  clear A60
  by_cases c7 : t332 = true
  ·
   subst c7
   have H1 : ((impl_IsChance.f k a1_0 a1_1).bind fun t333 => (impl_EverRuined.j0 k a0 (!t333) a1_0 a1_1)) = some (r1, r2, r3) := by rw [if_pos rfl] at H; exact H
   clear H
   have H := H1
   clear H1
   replace H := Option.bind_eq_some_iff.mp H
   obtain ⟨t333, A80, H⟩ := H
   replace H : (impl_EverRuined.j0 k a0 (!t333) a1_0 a1_1) = some (r1, r2, r3) := H
   have A8 := Aa9q A80
   clear A80
   have H' := Aa9q H
   clear H
   go_wp2_with (first | (go_at_call 47; (with_reducible refine (impl_in.calls a0 0 12 true _ A6.out).mono ?_); rintro e w' ⟨rfl, ⟨nd, rfl⟩⟩; (try first | exact ⟨rfl, _, World.drewN_drewN _ _ _⟩ | exact ⟨rfl, _, Eq.trans (World.drewN_drewN _ _ _) (congrArg (World.drewN _) (Nat.add_assoc _ _ _))⟩); have hcz10_0 : w5.cell? ⟨g330, 0, none⟩ = some (.int .i64 a1_0) := (blk_cell BK330.out 0).trans rfl; have hcz10_1 : w5.cell? ⟨g330, 1, none⟩ = some (.int .i64 a1_1) := (blk_cell BK330.out 1).trans rfl; have hfz10_0 := blk_frozen BK330.out 0; have hfz10_1 := blk_frozen BK330.out 1) | (go_at_call 24; (with_reducible refine (impl_IsChance.calls k a1_0 a1_1 t333 _ A8.out).mono ?_); rintro e w11 ⟨rfl, hb⟩; have n0_ := bb9 BK330 Ub9330 hb; have n1_ := bb9 BK331 Ub9331 hb; have n2_ := tb9 Hb9 hb; clear BK330; clear BK331; clear HB; have BK330 := n0_; have BK331 := n1_; have HB := n2_; clear n0_ n1_ n2_; (try clear hb); (try clear hb2); (try clear hk); (try clear hi)))
   repeat (go_quiet (first | (go_at_call 47; (with_reducible refine (impl_in.calls a0 0 12 true _ A6.out).mono ?_); rintro e w' ⟨rfl, ⟨nd, rfl⟩⟩; (try first | exact ⟨rfl, _, World.drewN_drewN _ _ _⟩ | exact ⟨rfl, _, Eq.trans (World.drewN_drewN _ _ _) (congrArg (World.drewN _) (Nat.add_assoc _ _ _))⟩); have hnb9 := NB330_331.out; have hnc9 := NB331_330.out; have hcz10_0 : w5.cell? ⟨g330, 0, none⟩ = some (.int .i64 a1_0) := (blk_cell BK330.out 0).trans rfl; have hcz10_1 : w5.cell? ⟨g330, 1, none⟩ = some (.int .i64 a1_1) := (blk_cell BK330.out 1).trans rfl; have hfz10_0 := blk_frozen BK330.out 0; have hfz10_1 := blk_frozen BK330.out 1) | (go_at_call 24; (with_reducible refine (impl_IsChance.calls k a1_0 a1_1 t333 _ A8.out).mono ?_); rintro e w11 ⟨rfl, hb⟩; have n0_ := bb9 BK330 Ub9330 hb; have n1_ := bb9 BK331 Ub9331 hb; have n2_ := tb9 Hb9 hb; clear BK330; clear BK331; clear HB; have BK330 := n0_; have BK331 := n1_; have HB := n2_; clear n0_ n1_ n2_; (try clear hb); (try clear hb2); (try clear hk); (try clear hi))); try go_wp2_with (first | (go_at_call 47; (with_reducible refine (impl_in.calls a0 0 12 true _ A6.out).mono ?_); rintro e w' ⟨rfl, ⟨nd, rfl⟩⟩; (try first | exact ⟨rfl, _, World.drewN_drewN _ _ _⟩ | exact ⟨rfl, _, Eq.trans (World.drewN_drewN _ _ _) (congrArg (World.drewN _) (Nat.add_assoc _ _ _))⟩); have hnb9 := NB330_331.out; have hnc9 := NB331_330.out; have hcz10_0 : w5.cell? ⟨g330, 0, none⟩ = some (.int .i64 a1_0) := (blk_cell BK330.out 0).trans rfl; have hcz10_1 : w5.cell? ⟨g330, 1, none⟩ = some (.int .i64 a1_1) := (blk_cell BK330.out 1).trans rfl; have hfz10_0 := blk_frozen BK330.out 0; have hfz10_1 := blk_frozen BK330.out 1) | (go_at_call 24; (with_reducible refine (impl_IsChance.calls k a1_0 a1_1 t333 _ A8.out).mono ?_); rintro e w11 ⟨rfl, hb⟩; have n0_ := bb9 BK330 Ub9330 hb; have n1_ := bb9 BK331 Ub9331 hb; have n2_ := tb9 Hb9 hb; clear BK330; clear BK331; clear HB; have BK330 := n0_; have BK331 := n1_; have HB := n2_; clear n0_ n1_ n2_; (try clear hb); (try clear hb2); (try clear hk); (try clear hi))))
   go_meet
   case rel => exact ⟨_, (!t333), (by first | rfl | (simp; done) | (simp [*]; done) | (simp only [i64_w]; done)), H', ⟨by first | omega | exact Nat.le_refl _⟩, ⟨Ub9330⟩, ⟨Ub9331⟩, ⟨Hb9⟩⟩
  ·
   replace c7 := Bool.eq_false_iff.mpr c7
   subst c7
   have H1 : (impl_EverRuined.j0 k a0 true a1_0 a1_1) = some (r1, r2, r3) := by rw [if_neg (show ¬ (false = true) by decide)] at H; exact H
   clear H
   have H := H1
   clear H1
   have H' := Aa9q H
   clear H
   go_wp2_with (first | (go_at_call 47; (with_reducible refine (impl_in.calls a0 0 12 false _ A6.out).mono ?_); rintro e w' ⟨rfl, ⟨nd, rfl⟩⟩; (try first | exact ⟨rfl, _, World.drewN_drewN _ _ _⟩ | exact ⟨rfl, _, Eq.trans (World.drewN_drewN _ _ _) (congrArg (World.drewN _) (Nat.add_assoc _ _ _))⟩)))
   repeat (go_quiet (first | (go_at_call 47; (with_reducible refine (impl_in.calls a0 0 12 false _ A6.out).mono ?_); rintro e w' ⟨rfl, ⟨nd, rfl⟩⟩; (try first | exact ⟨rfl, _, World.drewN_drewN _ _ _⟩ | exact ⟨rfl, _, Eq.trans (World.drewN_drewN _ _ _) (congrArg (World.drewN _) (Nat.add_assoc _ _ _))⟩))); try go_wp2_with (first | (go_at_call 47; (with_reducible refine (impl_in.calls a0 0 12 false _ A6.out).mono ?_); rintro e w' ⟨rfl, ⟨nd, rfl⟩⟩; (try first | exact ⟨rfl, _, World.drewN_drewN _ _ _⟩ | exact ⟨rfl, _, Eq.trans (World.drewN_drewN _ _ _) (congrArg (World.drewN _) (Nat.add_assoc _ _ _))⟩))))
   go_meet
   case rel => exact ⟨_, (true), (by first | rfl | (simp; done) | (simp [*]; done) | (simp only [i64_w]; done)), H', ⟨by first | omega | exact Nat.le_refl _⟩, ⟨Ub9330⟩, ⟨Ub9331⟩, ⟨Hb9⟩⟩
 case rest =>
  clear HC3
  try clear c2
  try clear p2
  try clear c7
  try clear c9
  try clear hcz10_0
  try clear hcz10_1
  try clear hfz10_0
  try clear hfz10_1
  obtain ⟨kq, x15_2, rfl, HA, HJ2, BK330, BK331, HB⟩ := hcut
  cases kq with
  | zero => exact absurd HA.out (by simp [impl_EverRuined.j0])
  | succ kj2 =>
   have H := HA.out
   clear HA
   simp only [impl_EverRuined.j0] at H
   by_cases c12 : x15_2 = true
   ·
    subst c12
    have H1 : (some (0, 0, false)) = some (r1, r2, r3) := by rw [if_pos rfl] at H; exact H
    clear H
    have H := H1
    clear H1
    simp only [Option.some.injEq, Prod.mk.injEq] at H
    obtain ⟨rfl, rfl, rfl⟩ := H
    have hcz14_0 : wc.cell? ⟨g331, 0, none⟩ = some (.int .i64 0) := (blk_cell BK331.out 0).trans rfl
    have hcz14_1 : wc.cell? ⟨g331, 1, none⟩ = some (.int .i64 0) := (blk_cell BK331.out 1).trans rfl
    have hfz14_0 := blk_frozen BK331.out 0
    have hfz14_1 := blk_frozen BK331.out 1
    go_wp2
    repeat (go_quiet (fail); try go_wp2)
    refine bodyPost_ret (results_ct rfl _ _ g331 25 #[.int .i64 0, .int .i64 0] (0, 0) _ rfl (by (with_reducible repeat (first | refine blk_drewN ?_ _ | refine blk_drew ?_ | refine blk_alloc ?_ _)); refine blk_put (cs := #[.int .i64 0, .int .i64 0]) ?_ 1 _ rfl; (with_reducible repeat (first | refine blk_drewN ?_ _ | refine blk_drew ?_ | refine blk_alloc ?_ _)); refine blk_put (cs := #[.int .i64 0, .int .i64 0]) ?_ 0 _ rfl; (with_reducible repeat (first | refine blk_drewN ?_ _ | refine blk_drew ?_ | refine blk_alloc ?_ _)); exact BK331.out) Try.underlying25 rfl (by kernel_rfl)) rfl ?_
    exact ⟨by first | rfl | (simp [errW_none, errW_some] <;> rfl) | (simp [*, errW_none, errW_some] <;> rfl), Hb9⟩
   ·
    replace c12 := Bool.eq_false_iff.mpr c12
    subst c12
    have H1 : (if a1_0 ≤ (wrap64 (a1_1 - a1_0)) then (some (1, 1, true)) else ((impl_power.f kj2 (wrap64 (a1_1 - a1_0)) a0).bind fun t334 => ((impl_power.f kj2 a1_0 a0).bind fun t335 => ((impl_ratio.f kj2 t334 t335).bind fun bt336 => (some (bt336.1, bt336.2, true)))))) = some (r1, r2, r3) := by rw [if_neg (show ¬ (false = true) by decide)] at H; exact H
    clear H
    have H := H1
    clear H1
    by_cases c15 : a1_0 ≤ (wrap64 (a1_1 - a1_0))
    ·
     rw [if_pos c15] at H
     have c15b0 : decide (a1_0 ≤ (wrap64 (a1_1 - a1_0))) = true := decide_eq_true c15
     clear c15
     simp only [Option.some.injEq, Prod.mk.injEq] at H
     obtain ⟨rfl, rfl, rfl⟩ := H
     have hnb16 := NB330_331.out
     have hnc16 := NB331_330.out
     have hcz17_0 : wc.cell? ⟨g330, 0, none⟩ = some (.int .i64 a1_0) := (blk_cell BK330.out 0).trans rfl
     have hcz17_1 : wc.cell? ⟨g330, 1, none⟩ = some (.int .i64 a1_1) := (blk_cell BK330.out 1).trans rfl
     have hfz17_0 := blk_frozen BK330.out 0
     have hfz17_1 := blk_frozen BK330.out 1
     have hcz18_0 : wc.cell? ⟨g331, 0, none⟩ = some (.int .i64 0) := (blk_cell BK331.out 0).trans rfl
     have hcz18_1 : wc.cell? ⟨g331, 1, none⟩ = some (.int .i64 0) := (blk_cell BK331.out 1).trans rfl
     have hfz18_0 := blk_frozen BK331.out 0
     have hfz18_1 := blk_frozen BK331.out 1
     go_wp2
     repeat (go_quiet (fail); try go_wp2)
     refine bodyPost_ret (results_ct rfl _ _ g331 25 #[.int .i64 1, .int .i64 1] (0, 0) _ rfl (by (with_reducible repeat (first | refine blk_drewN ?_ _ | refine blk_drew ?_ | refine blk_alloc ?_ _)); refine blk_put (cs := #[.int .i64 1, .int .i64 0]) ?_ 1 _ rfl; (with_reducible repeat (first | refine blk_drewN ?_ _ | refine blk_drew ?_ | refine blk_alloc ?_ _)); refine blk_put (cs := #[.int .i64 0, .int .i64 0]) ?_ 0 _ rfl; (with_reducible repeat (first | refine blk_drewN ?_ _ | refine blk_drew ?_ | refine blk_alloc ?_ _)); exact BK331.out) Try.underlying25 rfl (by kernel_rfl)) rfl ?_
     exact ⟨by first | rfl | (simp [errW_none, errW_some] <;> rfl) | (simp [*, errW_none, errW_some] <;> rfl), Hb9⟩
    ·
     rw [if_neg c15] at H
     have c15b0 : decide (a1_0 ≤ (wrap64 (a1_1 - a1_0))) = false := decide_eq_false c15
     clear c15
     replace H := Option.bind_eq_some_iff.mp H
     obtain ⟨t334, A190, H⟩ := H
     replace H : ((impl_power.f kj2 a1_0 a0).bind fun t335 => ((impl_ratio.f kj2 t334 t335).bind fun bt336 => (some (bt336.1, bt336.2, true)))) = some (r1, r2, r3) := H
     have A19 := Aa9q A190
     clear A190
     replace H := Option.bind_eq_some_iff.mp H
     obtain ⟨t335, A200, H⟩ := H
     replace H : ((impl_ratio.f kj2 t334 t335).bind fun bt336 => (some (bt336.1, bt336.2, true))) = some (r1, r2, r3) := H
     have A20 := Aa9q A200
     clear A200
     replace H := Option.bind_eq_some_iff.mp H
     obtain ⟨⟨t336, t337⟩, A210, H⟩ := H
     replace H : (some (t336, t337, true)) = some (r1, r2, r3) := H
     have A21 := Aa9q A210
     clear A210
     simp only [Option.some.injEq, Prod.mk.injEq] at H
     obtain ⟨rfl, rfl, rfl⟩ := H
     have hcz23_0 : wc.cell? ⟨g330, 0, none⟩ = some (.int .i64 a1_0) := (blk_cell BK330.out 0).trans rfl
     have hcz23_1 : wc.cell? ⟨g330, 1, none⟩ = some (.int .i64 a1_1) := (blk_cell BK330.out 1).trans rfl
     have hfz23_0 := blk_frozen BK330.out 0
     have hfz23_1 := blk_frozen BK330.out 1
     go_wp2_with (first | (go_at_call 40; (with_reducible refine (impl_power.calls kj2 (wrap64 (a1_1 - a1_0)) a0 t334 _ A19.out).mono ?_); rintro e w' ⟨rfl, ⟨nd, rfl⟩⟩; (try first | exact ⟨rfl, _, World.drewN_drewN _ _ _⟩ | exact ⟨rfl, _, Eq.trans (World.drewN_drewN _ _ _) (congrArg (World.drewN _) (Nat.add_assoc _ _ _))⟩)) | (go_at_call 40; (with_reducible refine (impl_power.calls kj2 a1_0 a0 t335 _ A20.out).mono ?_); rintro e w' ⟨rfl, ⟨nd, rfl⟩⟩; (try first | exact ⟨rfl, _, World.drewN_drewN _ _ _⟩ | exact ⟨rfl, _, Eq.trans (World.drewN_drewN _ _ _) (congrArg (World.drewN _) (Nat.add_assoc _ _ _))⟩)) | (go_at_call 38; (with_reducible refine (impl_ratio.calls kj2 t334 t335 t336 t337 _ A21.out).mono ?_); rintro e w24 ⟨rfl, hb⟩; have n0_ := bb9 BK330 Ub9330 hb; have n1_ := bb9 BK331 Ub9331 hb; have n2_ := tb9 Hb9 hb; clear BK330; clear BK331; clear HB; have BK330 := n0_; have BK331 := n1_; have HB := n2_; clear n0_ n1_ n2_; (try clear hb); (try clear hb2); (try clear hk); (try clear hi); have hcz25_0 : w24.cell? ⟨g331, 0, none⟩ = some (.int .i64 0) := (blk_cell BK331.out 0).trans rfl; have hcz25_1 : w24.cell? ⟨g331, 1, none⟩ = some (.int .i64 0) := (blk_cell BK331.out 1).trans rfl; have hfz25_0 := blk_frozen BK331.out 0; have hfz25_1 := blk_frozen BK331.out 1))
     repeat (go_quiet (first | (go_at_call 40; (with_reducible refine (impl_power.calls kj2 (wrap64 (a1_1 - a1_0)) a0 t334 _ A19.out).mono ?_); rintro e w' ⟨rfl, ⟨nd, rfl⟩⟩; (try first | exact ⟨rfl, _, World.drewN_drewN _ _ _⟩ | exact ⟨rfl, _, Eq.trans (World.drewN_drewN _ _ _) (congrArg (World.drewN _) (Nat.add_assoc _ _ _))⟩)) | (go_at_call 40; (with_reducible refine (impl_power.calls kj2 a1_0 a0 t335 _ A20.out).mono ?_); rintro e w' ⟨rfl, ⟨nd, rfl⟩⟩; (try first | exact ⟨rfl, _, World.drewN_drewN _ _ _⟩ | exact ⟨rfl, _, Eq.trans (World.drewN_drewN _ _ _) (congrArg (World.drewN _) (Nat.add_assoc _ _ _))⟩)) | (go_at_call 38; (with_reducible refine (impl_ratio.calls kj2 t334 t335 t336 t337 _ A21.out).mono ?_); rintro e w24 ⟨rfl, hb⟩; have n0_ := bb9 BK330 Ub9330 hb; have n1_ := bb9 BK331 Ub9331 hb; have n2_ := tb9 Hb9 hb; clear BK330; clear BK331; clear HB; have BK330 := n0_; have BK331 := n1_; have HB := n2_; clear n0_ n1_ n2_; (try clear hb); (try clear hb2); (try clear hk); (try clear hi); have hcz25_0 : w24.cell? ⟨g331, 0, none⟩ = some (.int .i64 0) := (blk_cell BK331.out 0).trans rfl; have hcz25_1 : w24.cell? ⟨g331, 1, none⟩ = some (.int .i64 0) := (blk_cell BK331.out 1).trans rfl; have hfz25_0 := blk_frozen BK331.out 0; have hfz25_1 := blk_frozen BK331.out 1)); try go_wp2_with (first | (go_at_call 40; (with_reducible refine (impl_power.calls kj2 (wrap64 (a1_1 - a1_0)) a0 t334 _ A19.out).mono ?_); rintro e w' ⟨rfl, ⟨nd, rfl⟩⟩; (try first | exact ⟨rfl, _, World.drewN_drewN _ _ _⟩ | exact ⟨rfl, _, Eq.trans (World.drewN_drewN _ _ _) (congrArg (World.drewN _) (Nat.add_assoc _ _ _))⟩)) | (go_at_call 40; (with_reducible refine (impl_power.calls kj2 a1_0 a0 t335 _ A20.out).mono ?_); rintro e w' ⟨rfl, ⟨nd, rfl⟩⟩; (try first | exact ⟨rfl, _, World.drewN_drewN _ _ _⟩ | exact ⟨rfl, _, Eq.trans (World.drewN_drewN _ _ _) (congrArg (World.drewN _) (Nat.add_assoc _ _ _))⟩)) | (go_at_call 38; (with_reducible refine (impl_ratio.calls kj2 t334 t335 t336 t337 _ A21.out).mono ?_); rintro e w24 ⟨rfl, hb⟩; have n0_ := bb9 BK330 Ub9330 hb; have n1_ := bb9 BK331 Ub9331 hb; have n2_ := tb9 Hb9 hb; clear BK330; clear BK331; clear HB; have BK330 := n0_; have BK331 := n1_; have HB := n2_; clear n0_ n1_ n2_; (try clear hb); (try clear hb2); (try clear hk); (try clear hi); have hcz25_0 : w24.cell? ⟨g331, 0, none⟩ = some (.int .i64 0) := (blk_cell BK331.out 0).trans rfl; have hcz25_1 : w24.cell? ⟨g331, 1, none⟩ = some (.int .i64 0) := (blk_cell BK331.out 1).trans rfl; have hfz25_0 := blk_frozen BK331.out 0; have hfz25_1 := blk_frozen BK331.out 1)))
     refine bodyPost_ret (results_ct rfl _ _ g331 25 #[.int .i64 t336, .int .i64 t337] (0, 0) _ rfl (by (with_reducible repeat (first | refine blk_drewN ?_ _ | refine blk_drew ?_ | refine blk_alloc ?_ _)); refine blk_put (cs := #[.int .i64 t336, .int .i64 0]) ?_ 1 _ rfl; (with_reducible repeat (first | refine blk_drewN ?_ _ | refine blk_drew ?_ | refine blk_alloc ?_ _)); refine blk_put (cs := #[.int .i64 0, .int .i64 0]) ?_ 0 _ rfl; (with_reducible repeat (first | refine blk_drewN ?_ _ | refine blk_drew ?_ | refine blk_alloc ?_ _)); exact BK331.out) Try.underlying25 rfl (by kernel_rfl)) rfl ?_
     exact ⟨by first | rfl | (simp [errW_none, errW_some] <;> rfl) | (simp [*, errW_none, errW_some] <;> rfl), Hb9⟩

/-! ### spec_EverRuined: function 27 -/
def spec_EverRuined.j0 : Nat → Int → Bool → Int → Int → Option (Int × Int × Bool)
  | 0, _, _, _, _ => none
  | k + 1, x0, x15, x339000, x339001 => if x15 = true then (some (0, 0, false)) else (if x339000 ≤ (wrap64 (x339001 - x339000)) then (some (1, 1, true)) else ((spec_ruPower.f k (wrap64 (x339001 - x339000)) x0).bind fun t342 => ((spec_ruPower.f k x339000 x0).bind fun t343 => ((spec_ruRatio.f k t342 t343).bind fun bt344 => (some (bt344.1, bt344.2, true))))))
def spec_EverRuined.f (k : Nat) (a0 : Int) (a1_0 : Int) (a1_1 : Int) : Option (Int × Int × Bool) := (spec_l1In.f a0 0 12).bind fun t340 => (if t340 = true then ((spec_ruIs.f k a1_0 a1_1).bind fun t341 => (spec_EverRuined.j0 k a0 (!t341) a1_0 a1_1)) else (spec_EverRuined.j0 k a0 true a1_0 a1_1))
theorem spec_EverRuined.mono_l : ∀ k, (∀ y0 y1 y2 y3, LeO (spec_EverRuined.j0 k y0 y1 y2 y3) (spec_EverRuined.j0 (k + 1) y0 y1 y2 y3))
  | 0 => fun _ _ _ _ r h => by simp [spec_EverRuined.j0] at h
  | k + 1 => by
    have ih0 := spec_EverRuined.mono_l k
    · intro y0 y1 y2 y3
      unfold spec_EverRuined.j0
      repeat' first
      | (with_reducible exact ih0 _ _ _ _)
      | (with_reducible exact spec_ruIs.mono _ _ _)
      | (with_reducible exact spec_ruPower.mono _ _ _)
      | (with_reducible exact spec_ruRatio.mono _ _ _)
      | (with_reducible exact LeO.refl _)
      | (with_reducible exact LeO.none _)
      | (with_reducible refine LeO.ite ?_ ?_)
      | (with_reducible refine LeO.bind ?_ (fun _ => ?_))
      | exact ih0 _ _ _ _
      | exact spec_ruIs.mono _ _ _
      | exact spec_ruPower.mono _ _ _
      | exact spec_ruRatio.mono _ _ _
      | exact LeO.none _
      | refine LeO.ite ?_ ?_
      | refine LeO.bind ?_ (fun _ => ?_)
theorem spec_EverRuined.mono : ∀ a0 a1 a2 k, LeO (spec_EverRuined.f k a0 a1 a2) (spec_EverRuined.f (k + 1) a0 a1 a2) := by
  intro a0 a1 a2 k
  have ih0 := spec_EverRuined.mono_l k
  unfold spec_EverRuined.f
  repeat' first
      | (with_reducible exact ih0 _ _ _ _)
      | (with_reducible exact spec_ruIs.mono _ _ _)
      | (with_reducible exact spec_ruPower.mono _ _ _)
      | (with_reducible exact spec_ruRatio.mono _ _ _)
      | (with_reducible exact LeO.refl _)
      | (with_reducible exact LeO.none _)
      | (with_reducible refine LeO.ite ?_ ?_)
      | (with_reducible refine LeO.bind ?_ (fun _ => ?_))
      | exact ih0 _ _ _ _
      | exact spec_ruIs.mono _ _ _
      | exact spec_ruPower.mono _ _ _
      | exact spec_ruRatio.mono _ _ _
      | exact LeO.none _
      | refine LeO.ite ?_ ?_
      | refine LeO.bind ?_ (fun _ => ?_)
set_option maxHeartbeats 8000000 in
set_option maxRecDepth 100000 in
theorem spec_EverRuined.calls (k : Nat) (a0 : Int) (a1_0 : Int) (a1_1 : Int) (r1 : Int) (r2 : Int) (r3 : Bool) (w : World) (h : spec_EverRuined.f k a0 a1_0 a1_1 = some (r1, r2, r3)) :
  Calls Try.prog 27 #[.int .i64 a0, .agg #[.int .i64 a1_0, .int .i64 a1_1]] w fun e w' => e = .returned (.tuple #[.agg #[.int .i64 r1, .int .i64 r2], .bool r3]) ∧ Below w.heap.size w w' := by
 have hu25 := Try.underlying25
 have HB := Aa9q (Below.refl w.heap.size w)
 have H : ((spec_l1In.f a0 0 12).bind fun t340 => (if t340 = true then ((spec_ruIs.f k a1_0 a1_1).bind fun t341 => (spec_EverRuined.j0 k a0 (!t341) a1_0 a1_1)) else (spec_EverRuined.j0 k a0 true a1_0 a1_1))) = some (r1, r2, r3) := h
 clear h
 have HC3 := Aa9q H
 clear H
 go_enter Try.func27, Try.ntmps27
 go_upto_region 1 with (first | ((with_reducible refine gate_dst (N := 3) rfl ?_); refine box_event ?hg (N := 3) ?hd (cs := #[.int .i64 a1_0, .int .i64 a1_1]) (t := 25) ?hr ?_; (case hd => rfl); (case hg => rfl); (case hr => first | (go_simp; done) | (go_simp; rfl)); intro g338 hg w4 hbox hb; have BK338 := Aa9q (hbox); have GE338 := sb9 Hb9 hg; replace HB := tb9 Hb9 hb; clear hb hbox hg) | ((with_reducible refine gate_dst (N := 4) rfl ?_); refine box_event ?hg (N := 4) ?hd (cs := #[.int .i64 0, .int .i64 0]) (t := 25) ?hr ?_; (case hd => rfl); (case hg => rfl); (case hr => first | (go_simp; done) | (go_simp; rfl)); intro g339 hg w5 hbox hb; have BK339 := Aa9q (hbox); have GE339 := sb9 Hb9 hg; have NB338_339 := nb9 BK338 Ub9338 hg; have NB339_338 := mb9 BK338 Ub9338 hg; replace BK338 := bb9 BK338 Ub9338 hb; replace HB := tb9 Hb9 hb; clear hb hbox hg))
 repeat (go_quiet (first | ((with_reducible refine gate_dst (N := 3) rfl ?_); refine box_event ?hg (N := 3) ?hd (cs := #[.int .i64 a1_0, .int .i64 a1_1]) (t := 25) ?hr ?_; (case hd => rfl); (case hg => rfl); (case hr => first | (go_simp; done) | (go_simp; rfl)); intro g338 hg w4 hbox hb; have n0_ := tb9 Hb9 hb; have n1_ := Aa9q (hbox); have n2_ := sb9 Hb9 hg; have n3_ := sb9 Hb9 hg; clear HB; have HB := n0_; have BK338 := n1_; have GW338 := n2_; have GE338 := n3_; clear n0_ n1_ n2_ n3_; clear hb hbox hg) | ((with_reducible refine gate_dst (N := 4) rfl ?_); refine box_event ?hg (N := 4) ?hd (cs := #[.int .i64 0, .int .i64 0]) (t := 25) ?hr ?_; (case hd => rfl); (case hg => rfl); (case hr => first | (go_simp; done) | (go_simp; rfl)); intro g339 hg w5 hbox hb; have n0_ := bb9 BK338 Ub9338 hb; have n1_ := tb9 Hb9 hb; have n2_ := Aa9q (hbox); have n3_ := sb9 Hb9 hg; have n4_ := sb9 Hb9 hg; have n5_ := nb9 BK338 Ub9338 hg; have n6_ := mb9 BK338 Ub9338 hg; clear BK338; clear HB; have BK338 := n0_; have HB := n1_; have BK339 := n2_; have GW339 := n3_; have GE339 := n4_; have NB338_339 := n5_; have NB339_338 := n6_; clear n0_ n1_ n2_ n3_ n4_ n5_ n6_; clear hb hbox hg)); go_upto_region 1 with (first | ((with_reducible refine gate_dst (N := 3) rfl ?_); refine box_event ?hg (N := 3) ?hd (cs := #[.int .i64 a1_0, .int .i64 a1_1]) (t := 25) ?hr ?_; (case hd => rfl); (case hg => rfl); (case hr => first | (go_simp; done) | (go_simp; rfl)); intro g338 hg w4 hbox hb; have n0_ := tb9 Hb9 hb; have n1_ := Aa9q (hbox); have n2_ := sb9 Hb9 hg; have n3_ := sb9 Hb9 hg; clear HB; have HB := n0_; have BK338 := n1_; have GW338 := n2_; have GE338 := n3_; clear n0_ n1_ n2_ n3_; clear hb hbox hg) | ((with_reducible refine gate_dst (N := 4) rfl ?_); refine box_event ?hg (N := 4) ?hd (cs := #[.int .i64 0, .int .i64 0]) (t := 25) ?hr ?_; (case hd => rfl); (case hg => rfl); (case hr => first | (go_simp; done) | (go_simp; rfl)); intro g339 hg w5 hbox hb; have n0_ := bb9 BK338 Ub9338 hb; have n1_ := tb9 Hb9 hb; have n2_ := Aa9q (hbox); have n3_ := sb9 Hb9 hg; have n4_ := sb9 Hb9 hg; have n5_ := nb9 BK338 Ub9338 hg; have n6_ := mb9 BK338 Ub9338 hg; clear BK338; clear HB; have BK338 := n0_; have HB := n1_; have BK339 := n2_; have GW339 := n3_; have GE339 := n4_; have NB338_339 := n5_; have NB339_338 := n6_; clear n0_ n1_ n2_ n3_ n4_ n5_ n6_; clear hb hbox hg)))
 (try simp only [Act.put, y1a9, y2a9, y3a9])
 go_cut [15] (fun v15 wc => ∃ (kq : Nat) (x15_2 : Bool), v15 = .bool x15_2 ∧ Aside0 (spec_EverRuined.j0 kq a0 x15_2 a1_0 a1_1 = some (r1, r2, r3)) ∧ Aside0 (kq ≤ k) ∧ Aside0 (wc.heap[g338]? = some (.cells #[.int .i64 a1_0, .int .i64 a1_1] 25 (0, 0))) ∧ Aside0 (wc.heap[g339]? = some (.cells #[.int .i64 0, .int .i64 0] 25 (0, 0))) ∧ Aside0 (Below w.heap.size w wc))
 case first =>
  have H := HC3.out
  clear HC3
  replace H := Option.bind_eq_some_iff.mp H
  obtain ⟨t340, A60, H⟩ := H
  replace H : (if t340 = true then ((spec_ruIs.f k a1_0 a1_1).bind fun t341 => (spec_EverRuined.j0 k a0 (!t341) a1_0 a1_1)) else (spec_EverRuined.j0 k a0 true a1_0 a1_1)) = some (r1, r2, r3) := H
  have A6 := Aa9q A60
  clear A60
  by_cases c7 : t340 = true
  ·
   subst c7
   have H1 : ((spec_ruIs.f k a1_0 a1_1).bind fun t341 => (spec_EverRuined.j0 k a0 (!t341) a1_0 a1_1)) = some (r1, r2, r3) := by rw [if_pos rfl] at H; exact H
   clear H
   have H := H1
   clear H1
   replace H := Option.bind_eq_some_iff.mp H
   obtain ⟨t341, A80, H⟩ := H
   replace H : (spec_EverRuined.j0 k a0 (!t341) a1_0 a1_1) = some (r1, r2, r3) := H
   have A8 := Aa9q A80
   clear A80
   have H' := Aa9q H
   clear H
   go_wp2_with (first | (go_at_call 48; (with_reducible refine (spec_l1In.calls a0 0 12 true _ A6.out).mono ?_); rintro e w' ⟨rfl, ⟨nd, rfl⟩⟩; (try first | exact ⟨rfl, _, World.drewN_drewN _ _ _⟩ | exact ⟨rfl, _, Eq.trans (World.drewN_drewN _ _ _) (congrArg (World.drewN _) (Nat.add_assoc _ _ _))⟩); have hcz10_0 : w5.cell? ⟨g338, 0, none⟩ = some (.int .i64 a1_0) := (blk_cell BK338.out 0).trans rfl; have hcz10_1 : w5.cell? ⟨g338, 1, none⟩ = some (.int .i64 a1_1) := (blk_cell BK338.out 1).trans rfl; have hfz10_0 := blk_frozen BK338.out 0; have hfz10_1 := blk_frozen BK338.out 1) | (go_at_call 53; (with_reducible refine (spec_ruIs.calls k a1_0 a1_1 t341 _ A8.out).mono ?_); rintro e w11 ⟨rfl, hb⟩; have n0_ := bb9 BK338 Ub9338 hb; have n1_ := bb9 BK339 Ub9339 hb; have n2_ := tb9 Hb9 hb; clear BK338; clear BK339; clear HB; have BK338 := n0_; have BK339 := n1_; have HB := n2_; clear n0_ n1_ n2_; (try clear hb); (try clear hb2); (try clear hk); (try clear hi)))
   repeat (go_quiet (first | (go_at_call 48; (with_reducible refine (spec_l1In.calls a0 0 12 true _ A6.out).mono ?_); rintro e w' ⟨rfl, ⟨nd, rfl⟩⟩; (try first | exact ⟨rfl, _, World.drewN_drewN _ _ _⟩ | exact ⟨rfl, _, Eq.trans (World.drewN_drewN _ _ _) (congrArg (World.drewN _) (Nat.add_assoc _ _ _))⟩); have hnb9 := NB338_339.out; have hnc9 := NB339_338.out; have hcz10_0 : w5.cell? ⟨g338, 0, none⟩ = some (.int .i64 a1_0) := (blk_cell BK338.out 0).trans rfl; have hcz10_1 : w5.cell? ⟨g338, 1, none⟩ = some (.int .i64 a1_1) := (blk_cell BK338.out 1).trans rfl; have hfz10_0 := blk_frozen BK338.out 0; have hfz10_1 := blk_frozen BK338.out 1) | (go_at_call 53; (with_reducible refine (spec_ruIs.calls k a1_0 a1_1 t341 _ A8.out).mono ?_); rintro e w11 ⟨rfl, hb⟩; have n0_ := bb9 BK338 Ub9338 hb; have n1_ := bb9 BK339 Ub9339 hb; have n2_ := tb9 Hb9 hb; clear BK338; clear BK339; clear HB; have BK338 := n0_; have BK339 := n1_; have HB := n2_; clear n0_ n1_ n2_; (try clear hb); (try clear hb2); (try clear hk); (try clear hi))); try go_wp2_with (first | (go_at_call 48; (with_reducible refine (spec_l1In.calls a0 0 12 true _ A6.out).mono ?_); rintro e w' ⟨rfl, ⟨nd, rfl⟩⟩; (try first | exact ⟨rfl, _, World.drewN_drewN _ _ _⟩ | exact ⟨rfl, _, Eq.trans (World.drewN_drewN _ _ _) (congrArg (World.drewN _) (Nat.add_assoc _ _ _))⟩); have hnb9 := NB338_339.out; have hnc9 := NB339_338.out; have hcz10_0 : w5.cell? ⟨g338, 0, none⟩ = some (.int .i64 a1_0) := (blk_cell BK338.out 0).trans rfl; have hcz10_1 : w5.cell? ⟨g338, 1, none⟩ = some (.int .i64 a1_1) := (blk_cell BK338.out 1).trans rfl; have hfz10_0 := blk_frozen BK338.out 0; have hfz10_1 := blk_frozen BK338.out 1) | (go_at_call 53; (with_reducible refine (spec_ruIs.calls k a1_0 a1_1 t341 _ A8.out).mono ?_); rintro e w11 ⟨rfl, hb⟩; have n0_ := bb9 BK338 Ub9338 hb; have n1_ := bb9 BK339 Ub9339 hb; have n2_ := tb9 Hb9 hb; clear BK338; clear BK339; clear HB; have BK338 := n0_; have BK339 := n1_; have HB := n2_; clear n0_ n1_ n2_; (try clear hb); (try clear hb2); (try clear hk); (try clear hi))))
   go_meet
   case rel => exact ⟨_, (!t341), (by first | rfl | (simp; done) | (simp [*]; done) | (simp only [i64_w]; done)), H', ⟨by first | omega | exact Nat.le_refl _⟩, ⟨Ub9338⟩, ⟨Ub9339⟩, ⟨Hb9⟩⟩
  ·
   replace c7 := Bool.eq_false_iff.mpr c7
   subst c7
   have H1 : (spec_EverRuined.j0 k a0 true a1_0 a1_1) = some (r1, r2, r3) := by rw [if_neg (show ¬ (false = true) by decide)] at H; exact H
   clear H
   have H := H1
   clear H1
   have H' := Aa9q H
   clear H
   go_wp2_with (first | (go_at_call 48; (with_reducible refine (spec_l1In.calls a0 0 12 false _ A6.out).mono ?_); rintro e w' ⟨rfl, ⟨nd, rfl⟩⟩; (try first | exact ⟨rfl, _, World.drewN_drewN _ _ _⟩ | exact ⟨rfl, _, Eq.trans (World.drewN_drewN _ _ _) (congrArg (World.drewN _) (Nat.add_assoc _ _ _))⟩)))
   repeat (go_quiet (first | (go_at_call 48; (with_reducible refine (spec_l1In.calls a0 0 12 false _ A6.out).mono ?_); rintro e w' ⟨rfl, ⟨nd, rfl⟩⟩; (try first | exact ⟨rfl, _, World.drewN_drewN _ _ _⟩ | exact ⟨rfl, _, Eq.trans (World.drewN_drewN _ _ _) (congrArg (World.drewN _) (Nat.add_assoc _ _ _))⟩))); try go_wp2_with (first | (go_at_call 48; (with_reducible refine (spec_l1In.calls a0 0 12 false _ A6.out).mono ?_); rintro e w' ⟨rfl, ⟨nd, rfl⟩⟩; (try first | exact ⟨rfl, _, World.drewN_drewN _ _ _⟩ | exact ⟨rfl, _, Eq.trans (World.drewN_drewN _ _ _) (congrArg (World.drewN _) (Nat.add_assoc _ _ _))⟩))))
   go_meet
   case rel => exact ⟨_, (true), (by first | rfl | (simp; done) | (simp [*]; done) | (simp only [i64_w]; done)), H', ⟨by first | omega | exact Nat.le_refl _⟩, ⟨Ub9338⟩, ⟨Ub9339⟩, ⟨Hb9⟩⟩
 case rest =>
  clear HC3
  try clear c2
  try clear p2
  try clear c7
  try clear c9
  try clear hcz10_0
  try clear hcz10_1
  try clear hfz10_0
  try clear hfz10_1
  obtain ⟨kq, x15_2, rfl, HA, HJ2, BK338, BK339, HB⟩ := hcut
  cases kq with
  | zero => exact absurd HA.out (by simp [spec_EverRuined.j0])
  | succ kj2 =>
   have H := HA.out
   clear HA
   simp only [spec_EverRuined.j0] at H
   by_cases c12 : x15_2 = true
   ·
    subst c12
    have H1 : (some (0, 0, false)) = some (r1, r2, r3) := by rw [if_pos rfl] at H; exact H
    clear H
    have H := H1
    clear H1
    simp only [Option.some.injEq, Prod.mk.injEq] at H
    obtain ⟨rfl, rfl, rfl⟩ := H
    have hcz14_0 : wc.cell? ⟨g339, 0, none⟩ = some (.int .i64 0) := (blk_cell BK339.out 0).trans rfl
    have hcz14_1 : wc.cell? ⟨g339, 1, none⟩ = some (.int .i64 0) := (blk_cell BK339.out 1).trans rfl
    have hfz14_0 := blk_frozen BK339.out 0
    have hfz14_1 := blk_frozen BK339.out 1
    go_wp2
    repeat (go_quiet (fail); try go_wp2)
    refine bodyPost_ret (results_ct rfl _ _ g339 25 #[.int .i64 0, .int .i64 0] (0, 0) _ rfl (by (with_reducible repeat (first | refine blk_drewN ?_ _ | refine blk_drew ?_ | refine blk_alloc ?_ _)); refine blk_put (cs := #[.int .i64 0, .int .i64 0]) ?_ 1 _ rfl; (with_reducible repeat (first | refine blk_drewN ?_ _ | refine blk_drew ?_ | refine blk_alloc ?_ _)); refine blk_put (cs := #[.int .i64 0, .int .i64 0]) ?_ 0 _ rfl; (with_reducible repeat (first | refine blk_drewN ?_ _ | refine blk_drew ?_ | refine blk_alloc ?_ _)); exact BK339.out) Try.underlying25 rfl (by kernel_rfl)) rfl ?_
    exact ⟨by first | rfl | (simp [errW_none, errW_some] <;> rfl) | (simp [*, errW_none, errW_some] <;> rfl), Hb9⟩
   ·
    replace c12 := Bool.eq_false_iff.mpr c12
    subst c12
    have H1 : (if a1_0 ≤ (wrap64 (a1_1 - a1_0)) then (some (1, 1, true)) else ((spec_ruPower.f kj2 (wrap64 (a1_1 - a1_0)) a0).bind fun t342 => ((spec_ruPower.f kj2 a1_0 a0).bind fun t343 => ((spec_ruRatio.f kj2 t342 t343).bind fun bt344 => (some (bt344.1, bt344.2, true)))))) = some (r1, r2, r3) := by rw [if_neg (show ¬ (false = true) by decide)] at H; exact H
    clear H
    have H := H1
    clear H1
    by_cases c15 : a1_0 ≤ (wrap64 (a1_1 - a1_0))
    ·
     rw [if_pos c15] at H
     have c15b0 : decide (a1_0 ≤ (wrap64 (a1_1 - a1_0))) = true := decide_eq_true c15
     clear c15
     simp only [Option.some.injEq, Prod.mk.injEq] at H
     obtain ⟨rfl, rfl, rfl⟩ := H
     have hnb16 := NB338_339.out
     have hnc16 := NB339_338.out
     have hcz17_0 : wc.cell? ⟨g338, 0, none⟩ = some (.int .i64 a1_0) := (blk_cell BK338.out 0).trans rfl
     have hcz17_1 : wc.cell? ⟨g338, 1, none⟩ = some (.int .i64 a1_1) := (blk_cell BK338.out 1).trans rfl
     have hfz17_0 := blk_frozen BK338.out 0
     have hfz17_1 := blk_frozen BK338.out 1
     have hcz18_0 : wc.cell? ⟨g339, 0, none⟩ = some (.int .i64 0) := (blk_cell BK339.out 0).trans rfl
     have hcz18_1 : wc.cell? ⟨g339, 1, none⟩ = some (.int .i64 0) := (blk_cell BK339.out 1).trans rfl
     have hfz18_0 := blk_frozen BK339.out 0
     have hfz18_1 := blk_frozen BK339.out 1
     go_wp2
     repeat (go_quiet (fail); try go_wp2)
     refine bodyPost_ret (results_ct rfl _ _ g339 25 #[.int .i64 1, .int .i64 1] (0, 0) _ rfl (by (with_reducible repeat (first | refine blk_drewN ?_ _ | refine blk_drew ?_ | refine blk_alloc ?_ _)); refine blk_put (cs := #[.int .i64 1, .int .i64 0]) ?_ 1 _ rfl; (with_reducible repeat (first | refine blk_drewN ?_ _ | refine blk_drew ?_ | refine blk_alloc ?_ _)); refine blk_put (cs := #[.int .i64 0, .int .i64 0]) ?_ 0 _ rfl; (with_reducible repeat (first | refine blk_drewN ?_ _ | refine blk_drew ?_ | refine blk_alloc ?_ _)); exact BK339.out) Try.underlying25 rfl (by kernel_rfl)) rfl ?_
     exact ⟨by first | rfl | (simp [errW_none, errW_some] <;> rfl) | (simp [*, errW_none, errW_some] <;> rfl), Hb9⟩
    ·
     rw [if_neg c15] at H
     have c15b0 : decide (a1_0 ≤ (wrap64 (a1_1 - a1_0))) = false := decide_eq_false c15
     clear c15
     replace H := Option.bind_eq_some_iff.mp H
     obtain ⟨t342, A190, H⟩ := H
     replace H : ((spec_ruPower.f kj2 a1_0 a0).bind fun t343 => ((spec_ruRatio.f kj2 t342 t343).bind fun bt344 => (some (bt344.1, bt344.2, true)))) = some (r1, r2, r3) := H
     have A19 := Aa9q A190
     clear A190
     replace H := Option.bind_eq_some_iff.mp H
     obtain ⟨t343, A200, H⟩ := H
     replace H : ((spec_ruRatio.f kj2 t342 t343).bind fun bt344 => (some (bt344.1, bt344.2, true))) = some (r1, r2, r3) := H
     have A20 := Aa9q A200
     clear A200
     replace H := Option.bind_eq_some_iff.mp H
     obtain ⟨⟨t344, t345⟩, A210, H⟩ := H
     replace H : (some (t344, t345, true)) = some (r1, r2, r3) := H
     have A21 := Aa9q A210
     clear A210
     simp only [Option.some.injEq, Prod.mk.injEq] at H
     obtain ⟨rfl, rfl, rfl⟩ := H
     have hcz23_0 : wc.cell? ⟨g338, 0, none⟩ = some (.int .i64 a1_0) := (blk_cell BK338.out 0).trans rfl
     have hcz23_1 : wc.cell? ⟨g338, 1, none⟩ = some (.int .i64 a1_1) := (blk_cell BK338.out 1).trans rfl
     have hfz23_0 := blk_frozen BK338.out 0
     have hfz23_1 := blk_frozen BK338.out 1
     go_wp2_with (first | (go_at_call 54; (with_reducible refine (spec_ruPower.calls kj2 (wrap64 (a1_1 - a1_0)) a0 t342 _ A19.out).mono ?_); rintro e w' ⟨rfl, ⟨nd, rfl⟩⟩; (try first | exact ⟨rfl, _, World.drewN_drewN _ _ _⟩ | exact ⟨rfl, _, Eq.trans (World.drewN_drewN _ _ _) (congrArg (World.drewN _) (Nat.add_assoc _ _ _))⟩)) | (go_at_call 54; (with_reducible refine (spec_ruPower.calls kj2 a1_0 a0 t343 _ A20.out).mono ?_); rintro e w' ⟨rfl, ⟨nd, rfl⟩⟩; (try first | exact ⟨rfl, _, World.drewN_drewN _ _ _⟩ | exact ⟨rfl, _, Eq.trans (World.drewN_drewN _ _ _) (congrArg (World.drewN _) (Nat.add_assoc _ _ _))⟩)) | (go_at_call 43; (with_reducible refine (spec_ruRatio.calls kj2 t342 t343 t344 t345 _ A21.out).mono ?_); rintro e w24 ⟨rfl, hb⟩; have n0_ := bb9 BK338 Ub9338 hb; have n1_ := bb9 BK339 Ub9339 hb; have n2_ := tb9 Hb9 hb; clear BK338; clear BK339; clear HB; have BK338 := n0_; have BK339 := n1_; have HB := n2_; clear n0_ n1_ n2_; (try clear hb); (try clear hb2); (try clear hk); (try clear hi); have hcz25_0 : w24.cell? ⟨g339, 0, none⟩ = some (.int .i64 0) := (blk_cell BK339.out 0).trans rfl; have hcz25_1 : w24.cell? ⟨g339, 1, none⟩ = some (.int .i64 0) := (blk_cell BK339.out 1).trans rfl; have hfz25_0 := blk_frozen BK339.out 0; have hfz25_1 := blk_frozen BK339.out 1))
     repeat (go_quiet (first | (go_at_call 54; (with_reducible refine (spec_ruPower.calls kj2 (wrap64 (a1_1 - a1_0)) a0 t342 _ A19.out).mono ?_); rintro e w' ⟨rfl, ⟨nd, rfl⟩⟩; (try first | exact ⟨rfl, _, World.drewN_drewN _ _ _⟩ | exact ⟨rfl, _, Eq.trans (World.drewN_drewN _ _ _) (congrArg (World.drewN _) (Nat.add_assoc _ _ _))⟩)) | (go_at_call 54; (with_reducible refine (spec_ruPower.calls kj2 a1_0 a0 t343 _ A20.out).mono ?_); rintro e w' ⟨rfl, ⟨nd, rfl⟩⟩; (try first | exact ⟨rfl, _, World.drewN_drewN _ _ _⟩ | exact ⟨rfl, _, Eq.trans (World.drewN_drewN _ _ _) (congrArg (World.drewN _) (Nat.add_assoc _ _ _))⟩)) | (go_at_call 43; (with_reducible refine (spec_ruRatio.calls kj2 t342 t343 t344 t345 _ A21.out).mono ?_); rintro e w24 ⟨rfl, hb⟩; have n0_ := bb9 BK338 Ub9338 hb; have n1_ := bb9 BK339 Ub9339 hb; have n2_ := tb9 Hb9 hb; clear BK338; clear BK339; clear HB; have BK338 := n0_; have BK339 := n1_; have HB := n2_; clear n0_ n1_ n2_; (try clear hb); (try clear hb2); (try clear hk); (try clear hi); have hcz25_0 : w24.cell? ⟨g339, 0, none⟩ = some (.int .i64 0) := (blk_cell BK339.out 0).trans rfl; have hcz25_1 : w24.cell? ⟨g339, 1, none⟩ = some (.int .i64 0) := (blk_cell BK339.out 1).trans rfl; have hfz25_0 := blk_frozen BK339.out 0; have hfz25_1 := blk_frozen BK339.out 1)); try go_wp2_with (first | (go_at_call 54; (with_reducible refine (spec_ruPower.calls kj2 (wrap64 (a1_1 - a1_0)) a0 t342 _ A19.out).mono ?_); rintro e w' ⟨rfl, ⟨nd, rfl⟩⟩; (try first | exact ⟨rfl, _, World.drewN_drewN _ _ _⟩ | exact ⟨rfl, _, Eq.trans (World.drewN_drewN _ _ _) (congrArg (World.drewN _) (Nat.add_assoc _ _ _))⟩)) | (go_at_call 54; (with_reducible refine (spec_ruPower.calls kj2 a1_0 a0 t343 _ A20.out).mono ?_); rintro e w' ⟨rfl, ⟨nd, rfl⟩⟩; (try first | exact ⟨rfl, _, World.drewN_drewN _ _ _⟩ | exact ⟨rfl, _, Eq.trans (World.drewN_drewN _ _ _) (congrArg (World.drewN _) (Nat.add_assoc _ _ _))⟩)) | (go_at_call 43; (with_reducible refine (spec_ruRatio.calls kj2 t342 t343 t344 t345 _ A21.out).mono ?_); rintro e w24 ⟨rfl, hb⟩; have n0_ := bb9 BK338 Ub9338 hb; have n1_ := bb9 BK339 Ub9339 hb; have n2_ := tb9 Hb9 hb; clear BK338; clear BK339; clear HB; have BK338 := n0_; have BK339 := n1_; have HB := n2_; clear n0_ n1_ n2_; (try clear hb); (try clear hb2); (try clear hk); (try clear hi); have hcz25_0 : w24.cell? ⟨g339, 0, none⟩ = some (.int .i64 0) := (blk_cell BK339.out 0).trans rfl; have hcz25_1 : w24.cell? ⟨g339, 1, none⟩ = some (.int .i64 0) := (blk_cell BK339.out 1).trans rfl; have hfz25_0 := blk_frozen BK339.out 0; have hfz25_1 := blk_frozen BK339.out 1)))
     refine bodyPost_ret (results_ct rfl _ _ g339 25 #[.int .i64 t344, .int .i64 t345] (0, 0) _ rfl (by (with_reducible repeat (first | refine blk_drewN ?_ _ | refine blk_drew ?_ | refine blk_alloc ?_ _)); refine blk_put (cs := #[.int .i64 t344, .int .i64 0]) ?_ 1 _ rfl; (with_reducible repeat (first | refine blk_drewN ?_ _ | refine blk_drew ?_ | refine blk_alloc ?_ _)); refine blk_put (cs := #[.int .i64 0, .int .i64 0]) ?_ 0 _ rfl; (with_reducible repeat (first | refine blk_drewN ?_ _ | refine blk_drew ?_ | refine blk_alloc ?_ _)); exact BK339.out) Try.underlying25 rfl (by kernel_rfl)) rfl ?_
     exact ⟨by first | rfl | (simp [errW_none, errW_some] <;> rfl) | (simp [*, errW_none, errW_some] <;> rfl), Hb9⟩

/-! ### spec_DrawIsChance: function 28 -/
def spec_DrawIsChance.f (k : Nat) (l0 : List Int) : Option (Int × Int) := (spec_l1Cur_chance.f k l0 0 0).bind fun bt348 => (some (bt348.1, bt348.2.1))
theorem spec_DrawIsChance.mono : ∀ a0 k, LeO (spec_DrawIsChance.f k a0) (spec_DrawIsChance.f (k + 1) a0) := by
  intro a0 k
  unfold spec_DrawIsChance.f
  repeat' first
      | (with_reducible exact spec_l1Cur_chance.mono _ _ _ _)
      | (with_reducible exact LeO.refl _)
      | (with_reducible exact LeO.none _)
      | (with_reducible refine LeO.ite ?_ ?_)
      | (with_reducible refine LeO.bind ?_ (fun _ => ?_))
      | exact spec_l1Cur_chance.mono _ _ _ _
      | exact LeO.none _
      | refine LeO.ite ?_ ?_
      | refine LeO.bind ?_ (fun _ => ?_)
set_option maxHeartbeats 8000000 in
set_option maxRecDepth 100000 in
theorem spec_DrawIsChance.calls (k : Nat) (A0 : Option Addr) (c0 : Nat) (l0 : List Int) (r1 : Int) (r2 : Int) (w : World) (hr0 : Kd.C (Kd.int .u8) w A0 l0.length l0) (hc0 : l0.length ≤ c0) (h : spec_DrawIsChance.f k l0 = some (r1, r2)) :
  Calls Try.prog 28 #[.slice A0 l0.length c0] w fun e w' => e = .returned (.agg #[.int .i64 r1, .int .i64 r2]) ∧ Below w.heap.size w w' := by
 have hu25 := Try.underlying25
 have hu46 := Try.underlying46
 have HR0 := Aa9q hr0
 have HC0 := Aa9q hc0
 clear hr0 hc0
 have HB := Aa9q (Below.refl w.heap.size w)
 have H : ((spec_l1Cur_chance.f k l0 0 0).bind fun bt348 => (some (bt348.1, bt348.2.1))) = some (r1, r2) := h
 clear h
 replace H := Option.bind_eq_some_iff.mp H
 obtain ⟨⟨t348, t349, t350, t351⟩, A20, H⟩ := H
 replace H : (some (t348, t349)) = some (r1, r2) := H
 have A2 := Aa9q A20
 clear A20
 simp only [Option.some.injEq, Prod.mk.injEq] at H
 obtain ⟨rfl, rfl⟩ := H
 go_enter Try.func28, Try.ntmps28
 go_wp2_with (first | ((with_reducible refine gate_dst (N := 2) rfl ?_); refine box_event ?hg (N := 2) ?hd (cs := #[.int .i64 0, .int .i64 0]) (t := 25) ?hr ?_; (case hd => rfl); (case hg => rfl); (case hr => first | (go_simp; done) | (go_simp; rfl)); intro g346 hg w3 hbox hb; have BK346 := Aa9q (hbox); have GE346 := sb9 Hb9 hg; replace HB := tb9 Hb9 hb; clear hb hbox hg) | ((with_reducible refine gate_dst (N := 6) rfl ?_); refine box_event ?hg (N := 6) ?hd (cs := #[.slice A0 l0.length c0, .int .i64 0, .int .u64 0]) (t := 46) ?hr ?_; (case hd => rfl); (case hg => rfl); (case hr => first | (go_simp; done) | (go_simp; rfl)); intro g347 hg w4 hbox hb; have GE347 := sb9 Hb9 hg; have NB346_347 := nb9 BK346 Ub9346 hg; have NB347_346 := mb9 BK346 Ub9346 hg; have HI347 := Aa9q ((⟨_, _, hbox, (by rw [hg]; exact (below_size Hb9) : w.heap.size ≤ g347), HR0.out⟩ : IsS46 w w4 g347 l0 0 0)); replace BK346 := bb9 BK346 Ub9346 hb; replace HB := tb9 Hb9 hb; clear hb hbox hg) | ((with_reducible refine gate_callee (f := 36) rfl ?_); refine goesL_ (some 8) rfl rfl Try.func36 (by kernel_rfl) rfl #[.pointer (some ⟨g347, 0, none⟩)] rfl Za94 ?_; (with_reducible refine (spec_l1Cur_chance.calls k g347 l0 0 0 t348 t349 t350 t351 w _ ?side1 ?side2 A2.out).mono ?_); (case side1 => repeat (first | (with_reducible first | exact HI347.out | apply IsS46.alloc | apply IsS46.drewN | apply IsS46.drew | apply IsS46.set_1 | apply IsS46.set_2 | refine IsS46.far ?_ NB347_346.out _) | exact HI347.out)); (case side2 => repeat (first | (with_reducible first | exact HB.out | apply below_alloc | apply pw_below_drewN | apply below_drew1 | refine below_set ?_ (IsS46.ge HI347.out) | refine below_set ?_ GE346.out) | exact HB.out)); rintro e w5 ⟨rfl, hi, hb, hk⟩; refine ⟨_, rfl, ?_⟩; replace BK346 := Aa9q (KeepBut.blk hk (g' := g346) (o := .cells #[.int .i64 0, .int .i64 0] 25 (0, 0)) Ub9346 NB346_347.out (by simp)); replace HB := Aa9q (hb); replace HI347 := Aa9q (hi); (try clear hb); (try clear hb2); (try clear hk); (try clear hi); have hcz7_0 : w5.cell? ⟨g346, 0, none⟩ = some (.int .i64 0) := (blk_cell BK346.out 0).trans rfl; have hcz7_1 : w5.cell? ⟨g346, 1, none⟩ = some (.int .i64 0) := (blk_cell BK346.out 1).trans rfl; have hfz7_0 := blk_frozen BK346.out 0; have hfz7_1 := blk_frozen BK346.out 1))
 refine bodyPost_ret (results_cell_row rfl _ _ g346 25 #[.int .i64 t348, .int .i64 t349] (0, 0) _ rfl (by (with_reducible repeat (first | refine blk_drewN ?_ _ | refine blk_drew ?_ | refine blk_alloc ?_ _)); refine blk_put (cs := #[.int .i64 t348, .int .i64 0]) ?_ 1 _ rfl; (with_reducible repeat (first | refine blk_drewN ?_ _ | refine blk_drew ?_ | refine blk_alloc ?_ _)); refine blk_put (cs := #[.int .i64 0, .int .i64 0]) ?_ 0 _ rfl; (with_reducible repeat (first | refine blk_drewN ?_ _ | refine blk_drew ?_ | refine blk_alloc ?_ _)); exact BK346.out) Try.underlying25 rfl (by kernel_rfl)) rfl ?_
 exact ⟨by first | rfl | (simp [errW_none, errW_some] <;> rfl) | (simp [*, errW_none, errW_some] <;> rfl), by repeat (first | (with_reducible first | exact HB.out | apply below_alloc | apply pw_below_drewN | apply below_drew1 | refine below_set ?_ (IsS46.ge HI347.out) | refine below_set ?_ GE346.out) | exact HB.out)⟩

/-! ### spec_DrawCompareChances: function 29 -/
def spec_DrawCompareChances.j0 : Nat → List Int → Int → Int → Int → Int → Int → Int → Option (Int × Int × Int × Int)
  | 0, _, _, _, _, _, _, _ => none
  | k + 1, x355000, x355001, x355002, x364000, x364001, x365000, x365001 => (spec_l1Cur_one.f x355000 x355001 x355002 8).bind fun bt368 => (if bt368.1 = true then ((spec_l1Cur_among.f x355000 bt368.2.1 bt368.2.2 (([0, 1000000000, 1000000001, 7] : List Int))).bind fun bt374 => ((spec_l1Cur_among.f x355000 bt374.2.1 bt374.2.2 (([1, 999999999, 1000000000] : List Int))).bind fun bt380 => (some (x364000, x364001, bt374.1, bt380.1)))) else (some (x364000, x364001, x365000, x365001)))
def spec_DrawCompareChances.f (k : Nat) (l0 : List Int) : Option (Int × Int × Int × Int) := (spec_l1Cur_chance.f k l0 0 0).bind fun bt355 => ((spec_l1Cur_chance.f k l0 bt355.2.2.1 bt355.2.2.2).bind fun bt359 => ((spec_l1Cur_one.f l0 bt359.2.2.1 bt359.2.2.2 4).bind fun bt365 => (if bt365.1 = true then (spec_DrawCompareChances.j0 k l0 bt365.2.1 bt365.2.2 bt355.1 bt355.2.1 bt355.1 bt355.2.1) else (spec_DrawCompareChances.j0 k l0 bt365.2.1 bt365.2.2 bt355.1 bt355.2.1 bt359.1 bt359.2.1))))
theorem spec_DrawCompareChances.mono_l : ∀ k, (∀ y0 y1 y2 y3 y4 y5 y6, LeO (spec_DrawCompareChances.j0 k y0 y1 y2 y3 y4 y5 y6) (spec_DrawCompareChances.j0 (k + 1) y0 y1 y2 y3 y4 y5 y6))
  | 0 => fun _ _ _ _ _ _ _ r h => by simp [spec_DrawCompareChances.j0] at h
  | k + 1 => by
    have ih0 := spec_DrawCompareChances.mono_l k
    · intro y0 y1 y2 y3 y4 y5 y6
      unfold spec_DrawCompareChances.j0
      repeat' first
      | (with_reducible exact ih0 _ _ _ _ _ _ _)
      | (with_reducible exact spec_l1Cur_chance.mono _ _ _ _)
      | (with_reducible exact LeO.refl _)
      | (with_reducible exact LeO.none _)
      | (with_reducible refine LeO.ite ?_ ?_)
      | (with_reducible refine LeO.bind ?_ (fun _ => ?_))
      | exact ih0 _ _ _ _ _ _ _
      | exact spec_l1Cur_chance.mono _ _ _ _
      | exact LeO.none _
      | refine LeO.ite ?_ ?_
      | refine LeO.bind ?_ (fun _ => ?_)
theorem spec_DrawCompareChances.mono : ∀ a0 k, LeO (spec_DrawCompareChances.f k a0) (spec_DrawCompareChances.f (k + 1) a0) := by
  intro a0 k
  have ih0 := spec_DrawCompareChances.mono_l k
  unfold spec_DrawCompareChances.f
  repeat' first
      | (with_reducible exact ih0 _ _ _ _ _ _ _)
      | (with_reducible exact spec_l1Cur_chance.mono _ _ _ _)
      | (with_reducible exact LeO.refl _)
      | (with_reducible exact LeO.none _)
      | (with_reducible refine LeO.ite ?_ ?_)
      | (with_reducible refine LeO.bind ?_ (fun _ => ?_))
      | exact ih0 _ _ _ _ _ _ _
      | exact spec_l1Cur_chance.mono _ _ _ _
      | exact LeO.none _
      | refine LeO.ite ?_ ?_
      | refine LeO.bind ?_ (fun _ => ?_)
set_option maxHeartbeats 8000000 in
set_option maxRecDepth 100000 in
theorem spec_DrawCompareChances.calls (k : Nat) (A0 : Option Addr) (c0 : Nat) (l0 : List Int) (r1 : Int) (r2 : Int) (r3 : Int) (r4 : Int) (w : World) (hr0 : Kd.C (Kd.int .u8) w A0 l0.length l0) (hc0 : l0.length ≤ c0) (h : spec_DrawCompareChances.f k l0 = some (r1, r2, r3, r4)) :
  Calls Try.prog 29 #[.slice A0 l0.length c0] w fun e w' => e = .returned (.tuple #[.agg #[.int .i64 r1, .int .i64 r2], .agg #[.int .i64 r3, .int .i64 r4]]) ∧ Below w.heap.size w w' := by
 have hu25 := Try.underlying25
 have hu46 := Try.underlying46
 have HR0 := Aa9q hr0
 have HC0 := Aa9q hc0
 clear hr0 hc0
 have HB := Aa9q (Below.refl w.heap.size w)
 have H : ((spec_l1Cur_chance.f k l0 0 0).bind fun bt355 => ((spec_l1Cur_chance.f k l0 bt355.2.2.1 bt355.2.2.2).bind fun bt359 => ((spec_l1Cur_one.f l0 bt359.2.2.1 bt359.2.2.2 4).bind fun bt365 => (if bt365.1 = true then (spec_DrawCompareChances.j0 k l0 bt365.2.1 bt365.2.2 bt355.1 bt355.2.1 bt355.1 bt355.2.1) else (spec_DrawCompareChances.j0 k l0 bt365.2.1 bt365.2.2 bt355.1 bt355.2.1 bt359.1 bt359.2.1))))) = some (r1, r2, r3, r4) := h
 clear h
 replace H := Option.bind_eq_some_iff.mp H
 obtain ⟨⟨t355, t356, t357, t358⟩, A20, H⟩ := H
 replace H : ((spec_l1Cur_chance.f k l0 t357 t358).bind fun bt359 => ((spec_l1Cur_one.f l0 bt359.2.2.1 bt359.2.2.2 4).bind fun bt365 => (if bt365.1 = true then (spec_DrawCompareChances.j0 k l0 bt365.2.1 bt365.2.2 t355 t356 t355 t356) else (spec_DrawCompareChances.j0 k l0 bt365.2.1 bt365.2.2 t355 t356 bt359.1 bt359.2.1)))) = some (r1, r2, r3, r4) := H
 have A2 := Aa9q A20
 clear A20
 replace H := Option.bind_eq_some_iff.mp H
 obtain ⟨⟨t359, t360, t361, t362⟩, A30, H⟩ := H
 replace H : ((spec_l1Cur_one.f l0 t361 t362 4).bind fun bt365 => (if bt365.1 = true then (spec_DrawCompareChances.j0 k l0 bt365.2.1 bt365.2.2 t355 t356 t355 t356) else (spec_DrawCompareChances.j0 k l0 bt365.2.1 bt365.2.2 t355 t356 t359 t360))) = some (r1, r2, r3, r4) := H
 have A3 := Aa9q A30
 clear A30
 replace H := Option.bind_eq_some_iff.mp H
 obtain ⟨⟨t365, t366, t367⟩, A40, H⟩ := H
 replace H : (if t365 = true then (spec_DrawCompareChances.j0 k l0 t366 t367 t355 t356 t355 t356) else (spec_DrawCompareChances.j0 k l0 t366 t367 t355 t356 t359 t360)) = some (r1, r2, r3, r4) := H
 have A4 := Aa9q A40
 clear A40
 have HC5 := Aa9q H
 clear H
 go_enter Try.func29, Try.ntmps29
 go_upto_if 15 with (first | ((with_reducible refine gate_dst (N := 2) rfl ?_); refine box_event ?hg (N := 2) ?hd (cs := #[.int .i64 0, .int .i64 0]) (t := 25) ?hr ?_; (case hd => rfl); (case hg => rfl); (case hr => first | (go_simp; done) | (go_simp; rfl)); intro g352 hg w6 hbox hb; have BK352 := Aa9q (hbox); have GE352 := sb9 Hb9 hg; replace HB := tb9 Hb9 hb; clear hb hbox hg) | ((with_reducible refine gate_dst (N := 3) rfl ?_); refine box_event ?hg (N := 3) ?hd (cs := #[.int .i64 0, .int .i64 0]) (t := 25) ?hr ?_; (case hd => rfl); (case hg => rfl); (case hr => first | (go_simp; done) | (go_simp; rfl)); intro g353 hg w7 hbox hb; have BK353 := Aa9q (hbox); have GE353 := sb9 Hb9 hg; have NB352_353 := nb9 BK352 Ub9352 hg; have NB353_352 := mb9 BK352 Ub9352 hg; replace BK352 := bb9 BK352 Ub9352 hb; replace HB := tb9 Hb9 hb; clear hb hbox hg) | ((with_reducible refine gate_dst (N := 9) rfl ?_); refine box_event ?hg (N := 9) ?hd (cs := #[.slice A0 l0.length c0, .int .i64 0, .int .u64 0]) (t := 46) ?hr ?_; (case hd => rfl); (case hg => rfl); (case hr => first | (go_simp; done) | (go_simp; rfl)); intro g354 hg w8 hbox hb; have GE354 := sb9 Hb9 hg; have NB352_354 := nb9 BK352 Ub9352 hg; have NB354_352 := mb9 BK352 Ub9352 hg; have NB353_354 := nb9 BK353 Ub9353 hg; have NB354_353 := mb9 BK353 Ub9353 hg; have HI354 := Aa9q ((⟨_, _, hbox, (by rw [hg]; exact (below_size Hb9) : w.heap.size ≤ g354), HR0.out⟩ : IsS46 w w8 g354 l0 0 0)); replace BK352 := bb9 BK352 Ub9352 hb; replace BK353 := bb9 BK353 Ub9353 hb; replace HB := tb9 Hb9 hb; clear hb hbox hg) | ((with_reducible refine gate_callee (f := 36) rfl ?_); refine goesL_ (some 11) rfl rfl Try.func36 (by kernel_rfl) rfl #[.pointer (some ⟨g354, 0, none⟩)] rfl Za94 ?_; (with_reducible refine (spec_l1Cur_chance.calls k g354 l0 0 0 t355 t356 t357 t358 w _ ?side1 ?side2 A2.out).mono ?_); (case side1 => repeat (first | (with_reducible first | exact HI354.out | apply IsS46.alloc | apply IsS46.drewN | apply IsS46.drew | apply IsS46.set_1 | apply IsS46.set_2 | refine IsS46.far ?_ NB354_352.out _ | refine IsS46.far ?_ NB354_353.out _) | exact HI354.out)); (case side2 => repeat (first | (with_reducible first | exact HB.out | apply below_alloc | apply pw_below_drewN | apply below_drew1 | refine below_set ?_ (IsS46.ge HI354.out) | refine below_set ?_ GE352.out | refine below_set ?_ GE353.out) | exact HB.out)); rintro e w9 ⟨rfl, hi, hb, hk⟩; refine ⟨_, rfl, ?_⟩; replace BK352 := Aa9q (KeepBut.blk hk (g' := g352) (o := .cells #[.int .i64 0, .int .i64 0] 25 (0, 0)) Ub9352 NB352_354.out (by simp)); replace BK353 := Aa9q (KeepBut.blk hk (g' := g353) (o := .cells #[.int .i64 0, .int .i64 0] 25 (0, 0)) Ub9353 NB353_354.out (by simp)); replace HB := Aa9q (hb); replace HI354 := Aa9q (hi); (try clear hb); (try clear hb2); (try clear hk); (try clear hi)) | ((with_reducible refine gate_callee (f := 36) rfl ?_); refine goesL_ (some 13) rfl rfl Try.func36 (by kernel_rfl) rfl #[.pointer (some ⟨g354, 0, none⟩)] rfl Za94 ?_; (with_reducible refine (spec_l1Cur_chance.calls k g354 l0 t357 t358 t359 t360 t361 t362 w _ ?side1 ?side2 A3.out).mono ?_); (case side1 => repeat (first | (with_reducible first | exact HI354.out | apply IsS46.alloc | apply IsS46.drewN | apply IsS46.drew | apply IsS46.set_1 | apply IsS46.set_2 | refine IsS46.far ?_ NB354_352.out _ | refine IsS46.far ?_ NB354_353.out _) | exact HI354.out)); (case side2 => repeat (first | (with_reducible first | exact HB.out | apply below_alloc | apply pw_below_drewN | apply below_drew1 | refine below_set ?_ (IsS46.ge HI354.out) | refine below_set ?_ GE352.out | refine below_set ?_ GE353.out) | exact HB.out)); rintro e w10 ⟨rfl, hi, hb, hk⟩; refine ⟨_, rfl, ?_⟩; replace BK352 := Aa9q (KeepBut.blk hk (g' := g352) (o := .cells #[.int .i64 0, .int .i64 0] 25 (0, 0)) Ub9352 NB352_354.out (by simp)); replace BK353 := Aa9q (KeepBut.blk hk (g' := g353) (o := .cells #[.int .i64 0, .int .i64 0] 25 (0, 0)) Ub9353 NB353_354.out (by simp)); replace HB := Aa9q (hb); replace HI354 := Aa9q (hi); (try clear hb); (try clear hb2); (try clear hk); (try clear hi)) | ((with_reducible refine gate_dst (N := 5) rfl ?_); refine box_event ?hg (N := 5) ?hd (cs := #[.int .i64 0, .int .i64 0]) (t := 25) ?hr ?_; (case hd => rfl); (case hg => rfl); (case hr => first | (go_simp; done) | (go_simp; rfl)); intro g363 hg w11 hbox hb; have BK363 := Aa9q (hbox); have GW363 := Aa9q ((by rw [hg]; exact (below_size Za93) : w.heap.size ≤ g363)); have GE363 := Aa9q ((by rw [hg]; exact (below_size Za93) : w.heap.size ≤ g363)); have NB352_363 := nb9 BK352 Ub9352 hg; have NB363_352 := mb9 BK352 Ub9352 hg; have NB353_363 := nb9 BK353 Ub9353 hg; have NB363_353 := mb9 BK353 Ub9353 hg; have NB354_363 := Aa9q ((by rw [hg]; exact Nat.ne_of_lt (IsS46.lt (show IsS46 w _ g354 l0 t361 t362 from by repeat (first | (with_reducible first | exact HI354.out | apply IsS46.alloc | apply IsS46.drewN | apply IsS46.drew | apply IsS46.set_1 | apply IsS46.set_2 | refine IsS46.far ?_ NB354_352.out _ | refine IsS46.far ?_ NB354_353.out _) | exact HI354.out))) : g354 ≠ g363)); have NB363_354 := Aa9q ((by rw [hg]; exact Nat.ne_of_gt (IsS46.lt (show IsS46 w _ g354 l0 t361 t362 from by repeat (first | (with_reducible first | exact HI354.out | apply IsS46.alloc | apply IsS46.drewN | apply IsS46.drew | apply IsS46.set_1 | apply IsS46.set_2 | refine IsS46.far ?_ NB354_352.out _ | refine IsS46.far ?_ NB354_353.out _) | exact HI354.out))) : g363 ≠ g354)); replace BK352 := bb9 BK352 Ub9352 hb; replace BK353 := bb9 BK353 Ub9353 hb; replace HB := Aa9q (below_step Za93 hb); replace HI354 := Aa9q (IsS46.below (by repeat (first | (with_reducible first | exact HI354.out | apply IsS46.alloc | apply IsS46.drewN | apply IsS46.drew | apply IsS46.set_1 | apply IsS46.set_2 | refine IsS46.far ?_ NB354_352.out _ | refine IsS46.far ?_ NB354_353.out _) | exact HI354.out)) hb); clear hb hbox hg) | ((with_reducible refine gate_dst (N := 6) rfl ?_); refine box_event ?hg (N := 6) ?hd (cs := #[.int .i64 0, .int .i64 0]) (t := 25) ?hr ?_; (case hd => rfl); (case hg => rfl); (case hr => first | (go_simp; done) | (go_simp; rfl)); intro g364 hg w12 hbox hb; have BK364 := Aa9q (hbox); have GW364 := Aa9q ((by rw [hg]; exact (below_size Za92) : w.heap.size ≤ g364)); have GE364 := Aa9q ((by rw [hg]; exact (below_size Za92) : w.heap.size ≤ g364)); have NB352_364 := nb9 BK352 Ub9352 hg; have NB364_352 := mb9 BK352 Ub9352 hg; have NB353_364 := nb9 BK353 Ub9353 hg; have NB364_353 := mb9 BK353 Ub9353 hg; have NB363_364 := nb9 BK363 Ub9363 hg; have NB364_363 := mb9 BK363 Ub9363 hg; have NB354_364 := Aa9q ((by rw [hg]; exact Nat.ne_of_lt (IsS46.lt (show IsS46 w _ g354 l0 t361 t362 from by repeat (first | (with_reducible first | exact HI354.out | apply IsS46.alloc | apply IsS46.drewN | apply IsS46.drew | apply IsS46.set_1 | apply IsS46.set_2 | refine IsS46.far ?_ NB354_352.out _ | refine IsS46.far ?_ NB354_353.out _ | refine IsS46.far ?_ NB354_363.out _) | exact HI354.out))) : g354 ≠ g364)); have NB364_354 := Aa9q ((by rw [hg]; exact Nat.ne_of_gt (IsS46.lt (show IsS46 w _ g354 l0 t361 t362 from by repeat (first | (with_reducible first | exact HI354.out | apply IsS46.alloc | apply IsS46.drewN | apply IsS46.drew | apply IsS46.set_1 | apply IsS46.set_2 | refine IsS46.far ?_ NB354_352.out _ | refine IsS46.far ?_ NB354_353.out _ | refine IsS46.far ?_ NB354_363.out _) | exact HI354.out))) : g364 ≠ g354)); replace BK352 := bb9 BK352 Ub9352 hb; replace BK353 := bb9 BK353 Ub9353 hb; replace BK363 := bb9 BK363 Ub9363 hb; replace HB := Aa9q (below_step Za92 hb); replace HI354 := Aa9q (IsS46.below (by repeat (first | (with_reducible first | exact HI354.out | apply IsS46.alloc | apply IsS46.drewN | apply IsS46.drew | apply IsS46.set_1 | apply IsS46.set_2 | refine IsS46.far ?_ NB354_352.out _ | refine IsS46.far ?_ NB354_353.out _ | refine IsS46.far ?_ NB354_363.out _) | exact HI354.out)) hb); clear hb hbox hg; have hnb15 := NB363_364.out; have hnc15 := NB364_363.out; have hcz17_0 : w12.cell? ⟨g363, 0, none⟩ = some (.int .i64 0) := (blk_cell BK363.out 0).trans rfl; have hcz17_1 : w12.cell? ⟨g363, 1, none⟩ = some (.int .i64 0) := (blk_cell BK363.out 1).trans rfl; have hfz17_0 := blk_frozen BK363.out 0; have hfz17_1 := blk_frozen BK363.out 1; have hcz21_0 : w12.cell? ⟨g364, 0, none⟩ = some (.int .i64 0) := (blk_cell BK364.out 0).trans rfl; have hcz21_1 : w12.cell? ⟨g364, 1, none⟩ = some (.int .i64 0) := (blk_cell BK364.out 1).trans rfl; have hfz21_0 := blk_frozen BK364.out 0; have hfz21_1 := blk_frozen BK364.out 1) | ((with_reducible refine gate_callee (f := 55) rfl ?_); refine goesL_ (some 15) rfl rfl Try.func55 (by kernel_rfl) rfl #[.pointer (some ⟨g354, 0, none⟩), .int .i64 4] rfl Za94 ?_; (with_reducible refine (spec_l1Cur_one.calls g354 l0 t361 t362 4 t365 t366 t367 w _ ?side1 ?side2 A4.out).mono ?_); (case side1 => repeat (first | (with_reducible first | exact HI354.out | apply IsS46.alloc | apply IsS46.drewN | apply IsS46.drew | apply IsS46.set_1 | apply IsS46.set_2 | refine IsS46.far ?_ NB354_352.out _ | refine IsS46.far ?_ NB354_353.out _ | refine IsS46.far ?_ NB354_363.out _ | refine IsS46.far ?_ NB354_364.out _) | exact HI354.out)); (case side2 => repeat (first | (with_reducible first | exact HB.out | apply below_alloc | apply pw_below_drewN | apply below_drew1 | refine below_set ?_ (IsS46.ge HI354.out) | refine below_set ?_ GE352.out | refine below_set ?_ GE353.out | refine below_set ?_ GE363.out | refine below_set ?_ GE364.out) | exact HB.out)); rintro e w22 ⟨rfl, hi, hb, hk⟩; refine ⟨_, rfl, ?_⟩; replace BK352 := Aa9q (KeepBut.blk hk (g' := g352) (o := .cells #[.int .i64 0, .int .i64 0] 25 (0, 0)) Ub9352 NB352_354.out (by simp)); replace BK353 := Aa9q (KeepBut.blk hk (g' := g353) (o := .cells #[.int .i64 0, .int .i64 0] 25 (0, 0)) Ub9353 NB353_354.out (by simp)); replace BK363 := Aa9q (KeepBut.blk hk (g' := g363) (o := .cells #[.int .i64 t355, .int .i64 t356] 25 (0, 0)) (by (with_reducible repeat (first | refine blk_drewN ?_ _ | refine blk_drew ?_ | refine blk_alloc ?_ _)); refine blk_far ?_ NB363_364.out _; (with_reducible repeat (first | refine blk_drewN ?_ _ | refine blk_drew ?_ | refine blk_alloc ?_ _)); refine blk_far ?_ NB363_364.out _; (with_reducible repeat (first | refine blk_drewN ?_ _ | refine blk_drew ?_ | refine blk_alloc ?_ _)); refine blk_put (cs := #[.int .i64 t355, .int .i64 0]) ?_ 1 _ rfl; (with_reducible repeat (first | refine blk_drewN ?_ _ | refine blk_drew ?_ | refine blk_alloc ?_ _)); refine blk_put (cs := #[.int .i64 0, .int .i64 0]) ?_ 0 _ rfl; (with_reducible repeat (first | refine blk_drewN ?_ _ | refine blk_drew ?_ | refine blk_alloc ?_ _)); exact BK363.out) NB363_354.out (by simp)); replace BK364 := Aa9q (KeepBut.blk hk (g' := g364) (o := .cells #[.int .i64 t359, .int .i64 t360] 25 (0, 0)) (by (with_reducible repeat (first | refine blk_drewN ?_ _ | refine blk_drew ?_ | refine blk_alloc ?_ _)); refine blk_put (cs := #[.int .i64 t359, .int .i64 0]) ?_ 1 _ rfl; (with_reducible repeat (first | refine blk_drewN ?_ _ | refine blk_drew ?_ | refine blk_alloc ?_ _)); refine blk_put (cs := #[.int .i64 0, .int .i64 0]) ?_ 0 _ rfl; (with_reducible repeat (first | refine blk_drewN ?_ _ | refine blk_drew ?_ | refine blk_alloc ?_ _)); refine blk_far ?_ NB364_363.out _; (with_reducible repeat (first | refine blk_drewN ?_ _ | refine blk_drew ?_ | refine blk_alloc ?_ _)); refine blk_far ?_ NB364_363.out _; (with_reducible repeat (first | refine blk_drewN ?_ _ | refine blk_drew ?_ | refine blk_alloc ?_ _)); exact BK364.out) NB364_354.out (by simp)); replace HB := Aa9q (hb); replace HI354 := Aa9q (hi); (try clear hb); (try clear hb2); (try clear hk); (try clear hi)))
 (try simp only [Act.put, y1a9, y2a9, y3a9])
 go_cut [] (fun wc => ∃ (kq : Nat) (x365000_4 : Int) (x365001_4 : Int), Aside0 (spec_DrawCompareChances.j0 kq l0 t366 t367 t355 t356 x365000_4 x365001_4 = some (r1, r2, r3, r4)) ∧ Aside0 (kq ≤ k) ∧ Aside0 (wc.heap[g352]? = some (.cells #[.int .i64 0, .int .i64 0] 25 (0, 0))) ∧ Aside0 (wc.heap[g353]? = some (.cells #[.int .i64 0, .int .i64 0] 25 (0, 0))) ∧ Aside0 (wc.heap[g363]? = some (.cells #[.int .i64 t355, .int .i64 t356] 25 (0, 0))) ∧ Aside0 (wc.heap[g364]? = some (.cells #[.int .i64 x365000_4, .int .i64 x365001_4] 25 (0, 0))) ∧ Aside0 (IsS46 w wc g354 l0 t366 t367) ∧ Aside0 (Below w.heap.size w wc))
 case first =>
  have H := HC5.out
  clear HC5
  by_cases c23 : t365 = true
  ·
   subst c23
   have H1 : (spec_DrawCompareChances.j0 k l0 t366 t367 t355 t356 t355 t356) = some (r1, r2, r3, r4) := by rw [if_pos rfl] at H; exact H
   clear H
   have H := H1
   clear H1
   have H' := Aa9q H
   clear H
   have hnb26 := NB363_364.out
   have hnc26 := NB364_363.out
   have hcz28_0 : w22.cell? ⟨g363, 0, none⟩ = some (.int .i64 t355) := (blk_cell BK363.out 0).trans rfl
   have hcz28_1 : w22.cell? ⟨g363, 1, none⟩ = some (.int .i64 t356) := (blk_cell BK363.out 1).trans rfl
   have hfz28_0 := blk_frozen BK363.out 0
   have hfz28_1 := blk_frozen BK363.out 1
   have hcz32_0 : w22.cell? ⟨g364, 0, none⟩ = some (.int .i64 t359) := (blk_cell BK364.out 0).trans rfl
   have hcz32_1 : w22.cell? ⟨g364, 1, none⟩ = some (.int .i64 t360) := (blk_cell BK364.out 1).trans rfl
   have hfz32_0 := blk_frozen BK364.out 0
   have hfz32_1 := blk_frozen BK364.out 1
   go_wp2
   go_meet
   case rel => exact ⟨_, (t355), (t356), H', ⟨by first | omega | exact Nat.le_refl _⟩, ⟨Ub9352⟩, ⟨Ub9353⟩, ⟨Ub9363⟩, ⟨by (with_reducible repeat (first | refine blk_drewN ?_ _ | refine blk_drew ?_ | refine blk_alloc ?_ _)); refine blk_put (cs := #[.int .i64 t355, .int .i64 t360]) ?_ 1 _ rfl; (with_reducible repeat (first | refine blk_drewN ?_ _ | refine blk_drew ?_ | refine blk_alloc ?_ _)); refine blk_put (cs := #[.int .i64 t359, .int .i64 t360]) ?_ 0 _ rfl; (with_reducible repeat (first | refine blk_drewN ?_ _ | refine blk_drew ?_ | refine blk_alloc ?_ _)); exact BK364.out⟩, ⟨by repeat (first | (with_reducible first | exact HI354.out | apply IsS46.alloc | apply IsS46.drewN | apply IsS46.drew | apply IsS46.set_1 | apply IsS46.set_2 | refine IsS46.far ?_ NB354_352.out _ | refine IsS46.far ?_ NB354_353.out _ | refine IsS46.far ?_ NB354_363.out _ | refine IsS46.far ?_ NB354_364.out _) | exact HI354.out)⟩, ⟨by repeat (first | (with_reducible first | exact HB.out | apply below_alloc | apply pw_below_drewN | apply below_drew1 | refine below_set ?_ (IsS46.ge HI354.out) | refine below_set ?_ GE352.out | refine below_set ?_ GE353.out | refine below_set ?_ GE363.out | refine below_set ?_ GE364.out) | exact HB.out)⟩⟩
  ·
   replace c23 := Bool.eq_false_iff.mpr c23
   subst c23
   have H1 : (spec_DrawCompareChances.j0 k l0 t366 t367 t355 t356 t359 t360) = some (r1, r2, r3, r4) := by rw [if_neg (show ¬ (false = true) by decide)] at H; exact H
   clear H
   have H := H1
   clear H1
   have H' := Aa9q H
   clear H
   go_wp2
   go_meet
   case rel => exact ⟨_, (t359), (t360), H', ⟨by first | omega | exact Nat.le_refl _⟩, ⟨Ub9352⟩, ⟨Ub9353⟩, ⟨Ub9363⟩, ⟨Ub9364⟩, ⟨by repeat (first | (with_reducible first | exact HI354.out | apply IsS46.alloc | apply IsS46.drewN | apply IsS46.drew | apply IsS46.set_1 | apply IsS46.set_2 | refine IsS46.far ?_ NB354_352.out _ | refine IsS46.far ?_ NB354_353.out _ | refine IsS46.far ?_ NB354_363.out _ | refine IsS46.far ?_ NB354_364.out _) | exact HI354.out)⟩, ⟨by repeat (first | (with_reducible first | exact HB.out | apply below_alloc | apply pw_below_drewN | apply below_drew1 | refine below_set ?_ (IsS46.ge HI354.out) | refine below_set ?_ GE352.out | refine below_set ?_ GE353.out | refine below_set ?_ GE363.out | refine below_set ?_ GE364.out) | exact HB.out)⟩⟩
 case rest =>
  clear HC5
  try clear c1
  try clear c2
  try clear p2
  try clear c3
  try clear c5
  try clear c13
  try clear c14
  try clear c15
  try clear c16
  try clear c18
  try clear c19
  try clear c20
  try clear c23
  try clear c24
  try clear c25
  try clear c26
  try clear c27
  try clear c29
  try clear c30
  try clear c31
  try clear hcz17_0
  try clear hcz17_1
  try clear hcz21_0
  try clear hcz21_1
  try clear hcz28_0
  try clear hcz28_1
  try clear hcz32_0
  try clear hcz32_1
  try clear hfz17_0
  try clear hfz17_1
  try clear hfz21_0
  try clear hfz21_1
  try clear hfz28_0
  try clear hfz28_1
  try clear hfz32_0
  try clear hfz32_1
  obtain ⟨kq, x365000_4, x365001_4, HA, HJ4, BK352, BK353, BK363, BK364, HI354, HB⟩ := hcut
  cases kq with
  | zero => exact absurd HA.out (by simp [spec_DrawCompareChances.j0])
  | succ kj4 =>
   have H := HA.out
   clear HA
   simp only [spec_DrawCompareChances.j0] at H
   replace H := Option.bind_eq_some_iff.mp H
   obtain ⟨⟨t368, t369, t370⟩, A330, H⟩ := H
   replace H : (if t368 = true then ((spec_l1Cur_among.f l0 t369 t370 (([0, 1000000000, 1000000001, 7] : List Int))).bind fun bt374 => ((spec_l1Cur_among.f l0 bt374.2.1 bt374.2.2 (([1, 999999999, 1000000000] : List Int))).bind fun bt380 => (some (t355, t356, bt374.1, bt380.1)))) else (some (t355, t356, x365000_4, x365001_4))) = some (r1, r2, r3, r4) := H
   have A33 := Aa9q A330
   clear A330
   by_cases c34 : t368 = true
   ·
    subst c34
    have H1 : ((spec_l1Cur_among.f l0 t369 t370 (([0, 1000000000, 1000000001, 7] : List Int))).bind fun bt374 => ((spec_l1Cur_among.f l0 bt374.2.1 bt374.2.2 (([1, 999999999, 1000000000] : List Int))).bind fun bt380 => (some (t355, t356, bt374.1, bt380.1)))) = some (r1, r2, r3, r4) := by rw [if_pos rfl] at H; exact H
    clear H
    have H := H1
    clear H1
    obtain ⟨y371, hy371⟩ : ∃ y_ : List Int, y_ = (([0, 1000000000, 1000000001, 7] : List Int)) := ⟨_, rfl⟩
    replace H : ((spec_l1Cur_among.f l0 t369 t370 y371).bind fun bt374 => ((spec_l1Cur_among.f l0 bt374.2.1 bt374.2.2 (([1, 999999999, 1000000000] : List Int))).bind fun bt380 => (some (t355, t356, bt374.1, bt380.1)))) = some (r1, r2, r3, r4) := by first | (rw [hy371]; with_reducible exact H) | (have H2_ := (Option.bind_some _ _).symm.trans H; rw [hy371]; with_reducible exact H2_) | (have H2_ := (Option.bind_some _ _).symm.trans H; with_reducible exact H2_) | with_reducible exact H | (rw [hy371]; exact H) | exact H
    have Ny371 := Aa9q hy371
    clear hy371
    replace H := Option.bind_eq_some_iff.mp H
    obtain ⟨⟨t374, t375, t376⟩, A350, H⟩ := H
    replace H : ((spec_l1Cur_among.f l0 t375 t376 (([1, 999999999, 1000000000] : List Int))).bind fun bt380 => (some (t355, t356, t374, bt380.1))) = some (r1, r2, r3, r4) := H
    have A35 := Aa9q A350
    clear A350
    obtain ⟨y377, hy377⟩ : ∃ y_ : List Int, y_ = (([1, 999999999, 1000000000] : List Int)) := ⟨_, rfl⟩
    replace H : ((spec_l1Cur_among.f l0 t375 t376 y377).bind fun bt380 => (some (t355, t356, t374, bt380.1))) = some (r1, r2, r3, r4) := by first | (rw [hy377]; with_reducible exact H) | (have H2_ := (Option.bind_some _ _).symm.trans H; rw [hy377]; with_reducible exact H2_) | (have H2_ := (Option.bind_some _ _).symm.trans H; with_reducible exact H2_) | with_reducible exact H | (rw [hy377]; exact H) | exact H
    have Ny377 := Aa9q hy377
    clear hy377
    replace H := Option.bind_eq_some_iff.mp H
    obtain ⟨⟨t380, t381, t382⟩, A360, H⟩ := H
    replace H : (some (t355, t356, t374, t380)) = some (r1, r2, r3, r4) := H
    have A36 := Aa9q A360
    clear A360
    simp only [Option.some.injEq, Prod.mk.injEq] at H
    obtain ⟨rfl, rfl, rfl, rfl⟩ := H
    try go_wp2_with (first | ((with_reducible refine gate_callee (f := 55) rfl ?_); refine goesL_ (some 18) rfl rfl Try.func55 (by kernel_rfl) rfl #[.pointer (some ⟨g354, 0, none⟩), .int .i64 8] rfl Za94 ?_; (with_reducible refine (spec_l1Cur_one.calls g354 l0 t366 t367 8 true t369 t370 w _ ?side1 ?side2 A33.out).mono ?_); (case side1 => repeat (first | (with_reducible first | exact HI354.out | apply IsS46.alloc | apply IsS46.drewN | apply IsS46.drew | apply IsS46.set_1 | apply IsS46.set_2 | refine IsS46.far ?_ NB354_352.out _ | refine IsS46.far ?_ NB354_353.out _ | refine IsS46.far ?_ NB354_363.out _ | refine IsS46.far ?_ NB354_364.out _) | exact HI354.out)); (case side2 => repeat (first | (with_reducible first | exact HB.out | apply below_alloc | apply pw_below_drewN | apply below_drew1 | refine below_set ?_ (IsS46.ge HI354.out) | refine below_set ?_ GE352.out | refine below_set ?_ GE353.out | refine below_set ?_ GE363.out | refine below_set ?_ GE364.out) | exact HB.out)); rintro e w37 ⟨rfl, hi, hb, hk⟩; refine ⟨_, rfl, ?_⟩; replace BK352 := Aa9q (KeepBut.blk hk (g' := g352) (o := .cells #[.int .i64 0, .int .i64 0] 25 (0, 0)) Ub9352 NB352_354.out (by simp)); replace BK353 := Aa9q (KeepBut.blk hk (g' := g353) (o := .cells #[.int .i64 0, .int .i64 0] 25 (0, 0)) Ub9353 NB353_354.out (by simp)); replace BK363 := Aa9q (KeepBut.blk hk (g' := g363) (o := .cells #[.int .i64 t355, .int .i64 t356] 25 (0, 0)) Ub9363 NB363_354.out (by simp)); replace BK364 := Aa9q (KeepBut.blk hk (g' := g364) (o := .cells #[.int .i64 x365000_4, .int .i64 x365001_4] 25 (0, 0)) Ub9364 NB364_354.out (by simp)); replace HB := Aa9q (hb); replace HI354 := Aa9q (hi); (try clear hb); (try clear hb2); (try clear hk); (try clear hi)) | ((with_reducible refine gate_dst (N := 20) rfl ?_); refine Kd.R_lit (Kd.int .i64) _ 3 ?hg (N := 20) ?hd (xs := ([0, 1000000000, 1000000001, 7] : List Int)) (inner := [.int .i64 0, .int .i64 1000000000, .int .i64 1000000001, .int .i64 7]) (ok := fun _ => True) (okp := fun _ => True) ?hr ?hp (fun _ hk => hk) trivial (Below.refl _ _) (Nat.le_refl _) (by simp) ?_; (case hd => rfl); (case hg => rfl); (case hr => first | (go_simp; done) | (go_simp; rfl)); (case hp => exact (Reps.one (show Kd.M (Kd.int .i64) _ _ _ 0 [.int .i64 0] from rfl) (Reps.one (show Kd.M (Kd.int .i64) _ _ _ 1000000000 [.int .i64 1000000000] from rfl) (Reps.one (show Kd.M (Kd.int .i64) _ _ _ 1000000001 [.int .i64 1000000001] from rfl) (Reps.one (show Kd.M (Kd.int .i64) _ _ _ 7 [.int .i64 7] from rfl) (Reps.none _ _)))))); intro v372 w38 ho39 hb hg_ hnew_; clear hg_ hnew_; (first | rw [← Ny371.out] at ho39 | (simp only [Int.reduceToNat] at ho39; rw [← Ny371.out] at ho39)); have HO373 := Aa9q (Kd.R_lower ho39 (below_size Za91)); replace BK352 := bb9 BK352 Ub9352 hb; replace BK353 := bb9 BK353 Ub9353 hb; replace BK363 := bb9 BK363 Ub9363 hb; replace BK364 := bb9 BK364 Ub9364 hb; replace HB := Aa9q (below_step Za91 hb); replace HI354 := Aa9q (IsS46.below (by repeat (first | (with_reducible first | exact HI354.out | apply IsS46.alloc | apply IsS46.drewN | apply IsS46.drew | apply IsS46.set_1 | apply IsS46.set_2 | refine IsS46.far ?_ NB354_352.out _ | refine IsS46.far ?_ NB354_353.out _ | refine IsS46.far ?_ NB354_363.out _ | refine IsS46.far ?_ NB354_364.out _) | exact HI354.out)) hb); clear hb ho39; obtain ⟨Ao40, co40, eo40⟩ := Kd.R_slice HO373.out; subst eo40) | ((with_reducible refine gate_callee (f := 33) rfl ?_); refine goesL_ (some 21) rfl rfl Try.func33 (by kernel_rfl) rfl #[.pointer (some ⟨g354, 0, none⟩), .slice Ao40 y371.length co40] rfl Za94 ?_; (with_reducible refine (spec_l1Cur_among.calls g354 l0 t369 t370 _ _ y371 t374 t375 t376 w _ ?side1 ?side2 ?side3 ?side4 ?side5 A35.out).mono ?_); (case side1 => repeat (first | (with_reducible first | exact HI354.out | apply IsS46.alloc | apply IsS46.drewN | apply IsS46.drew | apply IsS46.set_1 | apply IsS46.set_2 | refine IsS46.far ?_ NB354_352.out _ | refine IsS46.far ?_ NB354_353.out _ | refine IsS46.far ?_ NB354_363.out _ | refine IsS46.far ?_ NB354_364.out _) | exact HI354.out)); (case side2 => repeat (first | (with_reducible first | exact HB.out | apply below_alloc | apply pw_below_drewN | apply below_drew1 | refine below_set ?_ (IsS46.ge HI354.out) | refine below_set ?_ GE352.out | refine below_set ?_ GE353.out | refine below_set ?_ GE363.out | refine below_set ?_ GE364.out) | exact HB.out)); (case side3 => repeat (first | exact (Kd.R_reads' HO373.out).2.2 | (with_reducible refine Kd.C_alloc ?_ _) | (with_reducible refine Kd.C_drewN ?_ _) | (with_reducible refine Kd.C_drew ?_))); (case side4 => exact (Kd.R_reads' HO373.out).2.1); (case side5 => exact far_slice (IsS46.own_ne HI354.out HO373.out (by decide))); rintro e w41 ⟨rfl, hi, hb, hk⟩; refine ⟨_, rfl, ?_⟩; replace BK352 := Aa9q (KeepBut.blk hk (g' := g352) (o := .cells #[.int .i64 0, .int .i64 0] 25 (0, 0)) Ub9352 NB352_354.out (by simp)); replace BK353 := Aa9q (KeepBut.blk hk (g' := g353) (o := .cells #[.int .i64 0, .int .i64 0] 25 (0, 0)) Ub9353 NB353_354.out (by simp)); replace BK363 := Aa9q (KeepBut.blk hk (g' := g363) (o := .cells #[.int .i64 t355, .int .i64 t356] 25 (0, 0)) Ub9363 NB363_354.out (by simp)); replace BK364 := Aa9q (KeepBut.blk hk (g' := g364) (o := .cells #[.int .i64 x365000_4, .int .i64 x365001_4] 25 (0, 0)) Ub9364 NB364_354.out (by simp)); replace HO373 := Aa9q (Kd.R_mono (Kd.R_keep (IsS46.apart (show IsS46 w _ g354 l0 t369 t370 from by repeat (first | (with_reducible first | exact HI354.out | apply IsS46.alloc | apply IsS46.drewN | apply IsS46.drew | apply IsS46.set_1 | apply IsS46.set_2 | refine IsS46.far ?_ NB354_352.out _ | refine IsS46.far ?_ NB354_353.out _ | refine IsS46.far ?_ NB354_363.out _ | refine IsS46.far ?_ NB354_364.out _) | exact HI354.out)) (by (with_reducible repeat (first | apply Kd.R_alloc | apply Kd.R_drewN | apply Kd.R_drew)); exact HO373.out) (by decide)) hk (fun _ h => h.2)) (fun _ h => h.1)); replace HB := Aa9q (hb); replace HI354 := Aa9q (hi); (try clear hb); (try clear hb2); (try clear hk); (try clear hi)) | ((with_reducible refine gate_dst (N := 23) rfl ?_); refine Kd.R_lit (Kd.int .i64) _ 3 ?hg (N := 23) ?hd (xs := ([1, 999999999, 1000000000] : List Int)) (inner := [.int .i64 1, .int .i64 999999999, .int .i64 1000000000]) (ok := fun _ => True) (okp := fun _ => True) ?hr ?hp (fun _ hk => hk) trivial (Below.refl _ _) (Nat.le_refl _) (by simp) ?_; (case hd => rfl); (case hg => rfl); (case hr => first | (go_simp; done) | (go_simp; rfl)); (case hp => exact (Reps.one (show Kd.M (Kd.int .i64) _ _ _ 1 [.int .i64 1] from rfl) (Reps.one (show Kd.M (Kd.int .i64) _ _ _ 999999999 [.int .i64 999999999] from rfl) (Reps.one (show Kd.M (Kd.int .i64) _ _ _ 1000000000 [.int .i64 1000000000] from rfl) (Reps.none _ _))))); intro v378 w42 ho43 hb hg_ hnew_; clear hg_ hnew_; (first | rw [← Ny377.out] at ho43 | (simp only [Int.reduceToNat] at ho43; rw [← Ny377.out] at ho43)); have HO379 := Aa9q (Kd.R_lower (Kd.R_new' ho43 (Kd.R_lt (by (with_reducible repeat (first | apply Kd.R_alloc | apply Kd.R_drewN | apply Kd.R_drew)); exact HO373.out))) (below_size Za91)); replace HO373 := Aa9q (Kd.R_elder' (by (with_reducible repeat (first | apply Kd.R_alloc | apply Kd.R_drewN | apply Kd.R_drew)); exact HO373.out) (Kd.R_base ho43) hb); replace BK352 := bb9 BK352 Ub9352 hb; replace BK353 := bb9 BK353 Ub9353 hb; replace BK363 := bb9 BK363 Ub9363 hb; replace BK364 := bb9 BK364 Ub9364 hb; replace HB := Aa9q (below_step Za91 hb); replace HI354 := Aa9q (IsS46.below (by repeat (first | (with_reducible first | exact HI354.out | apply IsS46.alloc | apply IsS46.drewN | apply IsS46.drew | apply IsS46.set_1 | apply IsS46.set_2 | refine IsS46.far ?_ NB354_352.out _ | refine IsS46.far ?_ NB354_353.out _ | refine IsS46.far ?_ NB354_363.out _ | refine IsS46.far ?_ NB354_364.out _) | exact HI354.out)) hb); clear hb ho43; obtain ⟨Ao44, co44, eo44⟩ := Kd.R_slice HO379.out; subst eo44) | ((with_reducible refine gate_callee (f := 33) rfl ?_); refine goesL_ (some 24) rfl rfl Try.func33 (by kernel_rfl) rfl #[.pointer (some ⟨g354, 0, none⟩), .slice Ao44 y377.length co44] rfl Za94 ?_; (with_reducible refine (spec_l1Cur_among.calls g354 l0 t375 t376 _ _ y377 t380 t381 t382 w _ ?side1 ?side2 ?side3 ?side4 ?side5 A36.out).mono ?_); (case side1 => repeat (first | (with_reducible first | exact HI354.out | apply IsS46.alloc | apply IsS46.drewN | apply IsS46.drew | apply IsS46.set_1 | apply IsS46.set_2 | refine IsS46.far ?_ NB354_352.out _ | refine IsS46.far ?_ NB354_353.out _ | refine IsS46.far ?_ NB354_363.out _ | refine IsS46.far ?_ NB354_364.out _) | exact HI354.out)); (case side2 => repeat (first | (with_reducible first | exact HB.out | apply below_alloc | apply pw_below_drewN | apply below_drew1 | refine below_set ?_ (IsS46.ge HI354.out) | refine below_set ?_ GE352.out | refine below_set ?_ GE353.out | refine below_set ?_ GE363.out | refine below_set ?_ GE364.out) | exact HB.out)); (case side3 => repeat (first | exact (Kd.R_reads' HO379.out).2.2 | (with_reducible refine Kd.C_alloc ?_ _) | (with_reducible refine Kd.C_drewN ?_ _) | (with_reducible refine Kd.C_drew ?_))); (case side4 => exact (Kd.R_reads' HO379.out).2.1); (case side5 => exact far_slice (IsS46.own_ne HI354.out HO379.out (by decide))); rintro e w45 ⟨rfl, hi, hb, hk⟩; refine ⟨_, rfl, ?_⟩; replace BK352 := Aa9q (KeepBut.blk hk (g' := g352) (o := .cells #[.int .i64 0, .int .i64 0] 25 (0, 0)) Ub9352 NB352_354.out (by simp)); replace BK353 := Aa9q (KeepBut.blk hk (g' := g353) (o := .cells #[.int .i64 0, .int .i64 0] 25 (0, 0)) Ub9353 NB353_354.out (by simp)); replace BK363 := Aa9q (KeepBut.blk hk (g' := g363) (o := .cells #[.int .i64 t355, .int .i64 t356] 25 (0, 0)) Ub9363 NB363_354.out (by simp)); replace BK364 := Aa9q (KeepBut.blk hk (g' := g364) (o := .cells #[.int .i64 x365000_4, .int .i64 x365001_4] 25 (0, 0)) Ub9364 NB364_354.out (by simp)); replace HO373 := Aa9q (Kd.R_mono (Kd.R_keep (IsS46.apart (show IsS46 w _ g354 l0 t375 t376 from by repeat (first | (with_reducible first | exact HI354.out | apply IsS46.alloc | apply IsS46.drewN | apply IsS46.drew | apply IsS46.set_1 | apply IsS46.set_2 | refine IsS46.far ?_ NB354_352.out _ | refine IsS46.far ?_ NB354_353.out _ | refine IsS46.far ?_ NB354_363.out _ | refine IsS46.far ?_ NB354_364.out _) | exact HI354.out)) (by (with_reducible repeat (first | apply Kd.R_alloc | apply Kd.R_drewN | apply Kd.R_drew)); exact HO373.out) (by decide)) hk (fun _ h => h.2)) (fun _ h => h.1)); replace HO379 := Aa9q (Kd.R_mono (Kd.R_keep (IsS46.apart (show IsS46 w _ g354 l0 t375 t376 from by repeat (first | (with_reducible first | exact HI354.out | apply IsS46.alloc | apply IsS46.drewN | apply IsS46.drew | apply IsS46.set_1 | apply IsS46.set_2 | refine IsS46.far ?_ NB354_352.out _ | refine IsS46.far ?_ NB354_353.out _ | refine IsS46.far ?_ NB354_363.out _ | refine IsS46.far ?_ NB354_364.out _) | exact HI354.out)) (by (with_reducible repeat (first | apply Kd.R_alloc | apply Kd.R_drewN | apply Kd.R_drew)); exact HO379.out) (by decide)) hk (fun _ h => h.2)) (fun _ h => h.1)); replace HB := Aa9q (hb); replace HI354 := Aa9q (hi); (try clear hb); (try clear hb2); (try clear hk); (try clear hi); have hcz50_0 : w45.cell? ⟨g364, 0, none⟩ = some (.int .i64 x365000_4) := (blk_cell BK364.out 0).trans rfl; have hcz50_1 : w45.cell? ⟨g364, 1, none⟩ = some (.int .i64 x365001_4) := (blk_cell BK364.out 1).trans rfl; have hfz50_0 := blk_frozen BK364.out 0; have hfz50_1 := blk_frozen BK364.out 1))
    have n0_ : Aside0 (Kd.R (Kd.int .i64) 3 ((w45.setCell ⟨g364, 0, none⟩ (.int .i64 t374)).setCell ⟨g364, 1, none⟩ (.int .i64 t380)) w.heap.size (fun k_ => some k_ ≠ (.slice Ao44 y377.length co44 : Value).ownBlock) (.slice Ao40 y371.length co40) y371) := ⟨by (with_reducible repeat (first | apply Kd.R_alloc | apply Kd.R_drewN | apply Kd.R_drew)); exact Kd.R_mono (Kd.R_far (p := ⟨g364, 1, none⟩) (Kd.R_far (p := ⟨g364, 0, none⟩) (Kd.R_types HO373.out BK364.out (by decide)) (fun _ hk => hk.2) (.int .i64 t374)) (fun _ hk => hk.2) (.int .i64 t380)) (fun _ hk => hk.1.2)⟩
    have n1_ : Aside0 (Kd.R (Kd.int .i64) 3 ((w45.setCell ⟨g364, 0, none⟩ (.int .i64 t374)).setCell ⟨g364, 1, none⟩ (.int .i64 t380)) w.heap.size (fun k_ => some k_ ≠ (.slice Ao40 y371.length co40 : Value).ownBlock) (.slice Ao44 y377.length co44) y377) := ⟨by (with_reducible repeat (first | apply Kd.R_alloc | apply Kd.R_drewN | apply Kd.R_drew)); exact Kd.R_mono (Kd.R_far (p := ⟨g364, 1, none⟩) (Kd.R_far (p := ⟨g364, 0, none⟩) (Kd.R_types HO379.out BK364.out (by decide)) (fun _ hk => hk.2) (.int .i64 t374)) (fun _ hk => hk.2) (.int .i64 t380)) (fun _ hk => hk.1.2)⟩
    have n2_ : Aside0 (((w45.setCell ⟨g364, 0, none⟩ (.int .i64 t374)).setCell ⟨g364, 1, none⟩ (.int .i64 t380)).heap[g352]? = some (.cells #[.int .i64 0, .int .i64 0] 25 (0, 0))) := ⟨Ub9352⟩
    have n3_ : Aside0 (((w45.setCell ⟨g364, 0, none⟩ (.int .i64 t374)).setCell ⟨g364, 1, none⟩ (.int .i64 t380)).heap[g353]? = some (.cells #[.int .i64 0, .int .i64 0] 25 (0, 0))) := ⟨Ub9353⟩
    have n4_ : Aside0 (((w45.setCell ⟨g364, 0, none⟩ (.int .i64 t374)).setCell ⟨g364, 1, none⟩ (.int .i64 t380)).heap[g363]? = some (.cells #[.int .i64 t355, .int .i64 t356] 25 (0, 0))) := ⟨Ub9363⟩
    have n5_ : Aside0 (((w45.setCell ⟨g364, 0, none⟩ (.int .i64 t374)).setCell ⟨g364, 1, none⟩ (.int .i64 t380)).heap[g364]? = some (.cells #[.int .i64 t374, .int .i64 t380] 25 (0, 0))) := ⟨by (with_reducible repeat (first | refine blk_drewN ?_ _ | refine blk_drew ?_ | refine blk_alloc ?_ _)); refine blk_put (cs := #[.int .i64 t374, .int .i64 x365001_4]) ?_ 1 _ rfl; (with_reducible repeat (first | refine blk_drewN ?_ _ | refine blk_drew ?_ | refine blk_alloc ?_ _)); refine blk_put (cs := #[.int .i64 x365000_4, .int .i64 x365001_4]) ?_ 0 _ rfl; (with_reducible repeat (first | refine blk_drewN ?_ _ | refine blk_drew ?_ | refine blk_alloc ?_ _)); exact BK364.out⟩
    have n6_ : Aside0 (IsS46 w ((w45.setCell ⟨g364, 0, none⟩ (.int .i64 t374)).setCell ⟨g364, 1, none⟩ (.int .i64 t380)) g354 l0 t381 t382) := ⟨by repeat (first | (with_reducible first | exact HI354.out | apply IsS46.alloc | apply IsS46.drewN | apply IsS46.drew | apply IsS46.set_1 | apply IsS46.set_2 | refine IsS46.far ?_ NB354_352.out _ | refine IsS46.far ?_ NB354_353.out _ | refine IsS46.far ?_ NB354_363.out _ | refine IsS46.far ?_ NB354_364.out _) | exact HI354.out)⟩
    have n7_ : Aside0 (Below w.heap.size w ((w45.setCell ⟨g364, 0, none⟩ (.int .i64 t374)).setCell ⟨g364, 1, none⟩ (.int .i64 t380))) := ⟨by repeat (first | (with_reducible first | exact HB.out | apply below_alloc | apply pw_below_drewN | apply below_drew1 | refine below_set ?_ (IsS46.ge HI354.out) | refine below_set ?_ GE352.out | refine below_set ?_ GE353.out | refine below_set ?_ GE363.out | refine below_set ?_ GE364.out) | exact HB.out)⟩
    (try clear HO373)
    (try clear HO379)
    (try clear BK352)
    (try clear BK353)
    (try clear BK363)
    (try clear BK364)
    (try clear HI354)
    (try clear HB)
    generalize ((w45.setCell ⟨g364, 0, none⟩ (.int .i64 t374)).setCell ⟨g364, 1, none⟩ (.int .i64 t380)) = w51 at n0_ n1_ n2_ n3_ n4_ n5_ n6_ n7_ ⊢
    have HO373 := n0_
    have HO379 := n1_
    have BK352 := n2_
    have BK353 := n3_
    have BK363 := n4_
    have BK364 := n5_
    have HI354 := n6_
    have HB := n7_
    clear n0_ n1_ n2_ n3_ n4_ n5_ n6_ n7_
    replace HO373 := Aa9q (Kd.R_drew HO373.out)
    replace HO379 := Aa9q (Kd.R_drew HO379.out)
    replace BK352 := Aa9q (blk_drew BK352.out)
    replace BK353 := Aa9q (blk_drew BK353.out)
    replace BK363 := Aa9q (blk_drew BK363.out)
    replace BK364 := Aa9q (blk_drew BK364.out)
    replace HI354 := Aa9q (IsS46.drew HI354.out)
    replace HB := Aa9q (below_drew1 HB.out)
    refine start_ (n := 4) (S := fun w' => w'.cell? ⟨g363, 0, none⟩ = some (.int .i64 t355) ∧ w'.cell? ⟨g363, 1, none⟩ = some (.int .i64 t356) ∧ w'.cell? ⟨g364, 0, none⟩ = some (.int .i64 t374) ∧ w'.cell? ⟨g364, 1, none⟩ = some (.int .i64 t380)) (ds := []) #[false, false, false, false] (by kernel_rfl) rfl rfl ⟨(blk_cell BK363.out 0).trans rfl, (blk_cell BK363.out 1).trans rfl, (blk_cell BK364.out 0).trans rfl, (blk_cell BK364.out 1).trans rfl⟩ (fun hHeld => ?_)
    generalize w51.drew = w52 at HO373 HO379 BK352 BK353 BK363 BK364 HI354 HB hHeld ⊢
    refine take_ (i := 0) (N := some 26) (v := ?_) (a' := ?_) #[true, false, false, false] rfl rfl (by kernel_rfl) (fun _ _ _ h => h) (Or.inl ⟨by rfl, ?_⟩) hHeld ?_ ?_
    rotate_left
    ·
     rintro w' ⟨s0, s1, s2, s3⟩
     go_simp
     with_reducible rfl
    rotate_left
    ·
     simp only [Act.put, y1a9, y2a9, y3a9, i64_w, i32_w]
     rfl
    refine take_ (i := 1) (N := some 27) (v := ?_) (a' := ?_) #[true, true, false, false] rfl rfl (by kernel_rfl) (fun _ _ _ h => h) (Or.inl ⟨by rfl, ?_⟩) hHeld ?_ ?_
    rotate_left
    ·
     rintro w' ⟨s0, s1, s2, s3⟩
     go_simp
     with_reducible rfl
    rotate_left
    ·
     simp only [Act.put, y1a9, y2a9, y3a9, i64_w, i32_w]
     rfl
    refine one_ (i := 2) (N := none) #[true, true, true, false] rfl rfl (by kernel_rfl) (by decide) (fun K hK => ?_)
    have hs53 : w52.cell? ⟨g352, 0, none⟩ = some (.int .i64 0) := (blk_cell BK352.out 0).trans rfl
    have hfs53 := blk_frozen BK352.out 0
    have hns53_1 := NB353_352.out
    have hns53_2 := NB363_352.out
    have hns53_3 := NB364_352.out
    have hms53_1 := NB352_353.out
    have hms53_2 := NB352_363.out
    have hms53_3 := NB352_364.out
    have hs54 : w52.cell? ⟨g352, 1, none⟩ = some (.int .i64 0) := (blk_cell BK352.out 1).trans rfl
    have hfs54 := blk_frozen BK352.out 1
    have hns54_1 := NB353_352.out
    have hns54_2 := NB363_352.out
    have hns54_3 := NB364_352.out
    have hms54_1 := NB352_353.out
    have hms54_2 := NB352_363.out
    have hms54_3 := NB352_364.out
    refine skip_ (w1 := ?_) (by rfl) rfl ?_ ?_
    rotate_left
    ·
     go_simp
     rfl
    refine hK.out _ _ ⟨((cell_far (p := ⟨g352, _, none⟩) NB363_352.out _).trans (((cell_far (p := ⟨g352, _, none⟩) NB363_352.out _).trans (hHeld.1)))), ((cell_far (p := ⟨g352, _, none⟩) NB363_352.out _).trans (((cell_far (p := ⟨g352, _, none⟩) NB363_352.out _).trans (hHeld.2.1)))), ((cell_far (p := ⟨g352, _, none⟩) NB364_352.out _).trans (((cell_far (p := ⟨g352, _, none⟩) NB364_352.out _).trans (hHeld.2.2.1)))), ((cell_far (p := ⟨g352, _, none⟩) NB364_352.out _).trans (((cell_far (p := ⟨g352, _, none⟩) NB364_352.out _).trans (hHeld.2.2.2))))⟩ (fun hHeld => ?_)
    clear hK K
    refine one_ (i := 3) (N := none) #[true, true, true, true] rfl rfl (by kernel_rfl) (by decide) (fun K hK => ?_)
    have hs55 : w52.cell? ⟨g353, 0, none⟩ = some (.int .i64 0) := (blk_cell BK353.out 0).trans rfl
    have hfs55 := blk_frozen BK353.out 0
    have hns55_0 := NB352_353.out
    have hns55_2 := NB363_353.out
    have hns55_3 := NB364_353.out
    have hms55_0 := NB353_352.out
    have hms55_2 := NB353_363.out
    have hms55_3 := NB353_364.out
    have hs56 : w52.cell? ⟨g353, 1, none⟩ = some (.int .i64 0) := (blk_cell BK353.out 1).trans rfl
    have hfs56 := blk_frozen BK353.out 1
    have hns56_0 := NB352_353.out
    have hns56_2 := NB363_353.out
    have hns56_3 := NB364_353.out
    have hms56_0 := NB353_352.out
    have hms56_2 := NB353_363.out
    have hms56_3 := NB353_364.out
    refine skip_ (w1 := ?_) (by rfl) rfl ?_ ?_
    rotate_left
    ·
     go_simp
     rfl
    refine hK.out _ _ ⟨((cell_far (p := ⟨g353, _, none⟩) NB363_353.out _).trans (((cell_far (p := ⟨g353, _, none⟩) NB363_353.out _).trans (hHeld.1)))), ((cell_far (p := ⟨g353, _, none⟩) NB363_353.out _).trans (((cell_far (p := ⟨g353, _, none⟩) NB363_353.out _).trans (hHeld.2.1)))), ((cell_far (p := ⟨g353, _, none⟩) NB364_353.out _).trans (((cell_far (p := ⟨g353, _, none⟩) NB364_353.out _).trans (hHeld.2.2.1)))), ((cell_far (p := ⟨g353, _, none⟩) NB364_353.out _).trans (((cell_far (p := ⟨g353, _, none⟩) NB364_353.out _).trans (hHeld.2.2.2))))⟩ (fun hHeld => ?_)
    clear hK K
    refine done_ (by kernel_rfl) ?_
    try go_wp2
    refine bodyPost_ret (results_cc rfl _ _ g352 g353 25 25 #[.int .i64 t355, .int .i64 t356] #[.int .i64 t374, .int .i64 t380] (0, 0) (0, 0) _ _ rfl (by (with_reducible repeat (first | refine blk_drewN ?_ _ | refine blk_drew ?_ | refine blk_alloc ?_ _)); refine blk_far ?_ NB352_353.out _; (with_reducible repeat (first | refine blk_drewN ?_ _ | refine blk_drew ?_ | refine blk_alloc ?_ _)); refine blk_far ?_ NB352_353.out _; (with_reducible repeat (first | refine blk_drewN ?_ _ | refine blk_drew ?_ | refine blk_alloc ?_ _)); refine blk_put (cs := #[.int .i64 t355, .int .i64 0]) ?_ 1 _ rfl; (with_reducible repeat (first | refine blk_drewN ?_ _ | refine blk_drew ?_ | refine blk_alloc ?_ _)); refine blk_put (cs := #[.int .i64 0, .int .i64 0]) ?_ 0 _ rfl; (with_reducible repeat (first | refine blk_drewN ?_ _ | refine blk_drew ?_ | refine blk_alloc ?_ _)); exact BK352.out) Try.underlying25 rfl (by kernel_rfl) rfl (by (with_reducible repeat (first | refine blk_drewN ?_ _ | refine blk_drew ?_ | refine blk_alloc ?_ _)); refine blk_put (cs := #[.int .i64 t374, .int .i64 0]) ?_ 1 _ rfl; (with_reducible repeat (first | refine blk_drewN ?_ _ | refine blk_drew ?_ | refine blk_alloc ?_ _)); refine blk_put (cs := #[.int .i64 0, .int .i64 0]) ?_ 0 _ rfl; (with_reducible repeat (first | refine blk_drewN ?_ _ | refine blk_drew ?_ | refine blk_alloc ?_ _)); refine blk_far ?_ NB353_352.out _; (with_reducible repeat (first | refine blk_drewN ?_ _ | refine blk_drew ?_ | refine blk_alloc ?_ _)); refine blk_far ?_ NB353_352.out _; (with_reducible repeat (first | refine blk_drewN ?_ _ | refine blk_drew ?_ | refine blk_alloc ?_ _)); exact BK353.out) Try.underlying25 rfl (by kernel_rfl)) rfl ?_
    exact ⟨by first | rfl | (simp [errW_none, errW_some] <;> rfl) | (simp [*, errW_none, errW_some] <;> rfl), by repeat (first | (with_reducible first | exact HB.out | apply below_alloc | apply pw_below_drewN | apply below_drew1 | refine below_set ?_ (IsS46.ge HI354.out) | refine below_set ?_ GE352.out | refine below_set ?_ GE353.out | refine below_set ?_ GE363.out | refine below_set ?_ GE364.out) | exact HB.out)⟩
   ·
    replace c34 := Bool.eq_false_iff.mpr c34
    subst c34
    have H1 : (some (t355, t356, x365000_4, x365001_4)) = some (r1, r2, r3, r4) := by rw [if_neg (show ¬ (false = true) by decide)] at H; exact H
    clear H
    have H := H1
    clear H1
    simp only [Option.some.injEq, Prod.mk.injEq] at H
    obtain ⟨rfl, rfl, rfl, rfl⟩ := H
    try go_wp2_with (first | ((with_reducible refine gate_callee (f := 55) rfl ?_); refine goesL_ (some 18) rfl rfl Try.func55 (by kernel_rfl) rfl #[.pointer (some ⟨g354, 0, none⟩), .int .i64 8] rfl Za94 ?_; (with_reducible refine (spec_l1Cur_one.calls g354 l0 t366 t367 8 false t369 t370 w _ ?side1 ?side2 A33.out).mono ?_); (case side1 => repeat (first | (with_reducible first | exact HI354.out | apply IsS46.alloc | apply IsS46.drewN | apply IsS46.drew | apply IsS46.set_1 | apply IsS46.set_2 | refine IsS46.far ?_ NB354_352.out _ | refine IsS46.far ?_ NB354_353.out _ | refine IsS46.far ?_ NB354_363.out _ | refine IsS46.far ?_ NB354_364.out _) | exact HI354.out)); (case side2 => repeat (first | (with_reducible first | exact HB.out | apply below_alloc | apply pw_below_drewN | apply below_drew1 | refine below_set ?_ (IsS46.ge HI354.out) | refine below_set ?_ GE352.out | refine below_set ?_ GE353.out | refine below_set ?_ GE363.out | refine below_set ?_ GE364.out) | exact HB.out)); rintro e w57 ⟨rfl, hi, hb, hk⟩; refine ⟨_, rfl, ?_⟩; replace BK352 := Aa9q (KeepBut.blk hk (g' := g352) (o := .cells #[.int .i64 0, .int .i64 0] 25 (0, 0)) Ub9352 NB352_354.out (by simp)); replace BK353 := Aa9q (KeepBut.blk hk (g' := g353) (o := .cells #[.int .i64 0, .int .i64 0] 25 (0, 0)) Ub9353 NB353_354.out (by simp)); replace BK363 := Aa9q (KeepBut.blk hk (g' := g363) (o := .cells #[.int .i64 t355, .int .i64 t356] 25 (0, 0)) Ub9363 NB363_354.out (by simp)); replace BK364 := Aa9q (KeepBut.blk hk (g' := g364) (o := .cells #[.int .i64 x365000_4, .int .i64 x365001_4] 25 (0, 0)) Ub9364 NB364_354.out (by simp)); replace HB := Aa9q (hb); replace HI354 := Aa9q (hi); (try clear hb); (try clear hb2); (try clear hk); (try clear hi)))
    replace BK352 := Aa9q (blk_drew BK352.out)
    replace BK353 := Aa9q (blk_drew BK353.out)
    replace BK363 := Aa9q (blk_drew BK363.out)
    replace BK364 := Aa9q (blk_drew BK364.out)
    replace HI354 := Aa9q (IsS46.drew HI354.out)
    replace HB := Aa9q (below_drew1 HB.out)
    refine start_ (n := 4) (S := fun w' => w'.cell? ⟨g363, 0, none⟩ = some (.int .i64 t355) ∧ w'.cell? ⟨g363, 1, none⟩ = some (.int .i64 t356) ∧ w'.cell? ⟨g364, 0, none⟩ = some (.int .i64 x365000_4) ∧ w'.cell? ⟨g364, 1, none⟩ = some (.int .i64 x365001_4)) (ds := []) #[false, false, false, false] (by kernel_rfl) rfl rfl ⟨(blk_cell BK363.out 0).trans rfl, (blk_cell BK363.out 1).trans rfl, (blk_cell BK364.out 0).trans rfl, (blk_cell BK364.out 1).trans rfl⟩ (fun hHeld => ?_)
    generalize w57.drew = w58 at BK352 BK353 BK363 BK364 HI354 HB hHeld ⊢
    refine take_ (i := 0) (N := some 26) (v := ?_) (a' := ?_) #[true, false, false, false] rfl rfl (by kernel_rfl) (fun _ _ _ h => h) (Or.inl ⟨by rfl, ?_⟩) hHeld ?_ ?_
    rotate_left
    ·
     rintro w' ⟨s0, s1, s2, s3⟩
     go_simp
     with_reducible rfl
    rotate_left
    ·
     simp only [Act.put, y1a9, y2a9, y3a9, i64_w, i32_w]
     rfl
    refine take_ (i := 1) (N := some 27) (v := ?_) (a' := ?_) #[true, true, false, false] rfl rfl (by kernel_rfl) (fun _ _ _ h => h) (Or.inl ⟨by rfl, ?_⟩) hHeld ?_ ?_
    rotate_left
    ·
     rintro w' ⟨s0, s1, s2, s3⟩
     go_simp
     with_reducible rfl
    rotate_left
    ·
     simp only [Act.put, y1a9, y2a9, y3a9, i64_w, i32_w]
     rfl
    refine one_ (i := 2) (N := none) #[true, true, true, false] rfl rfl (by kernel_rfl) (by decide) (fun K hK => ?_)
    have hs59 : w58.cell? ⟨g352, 0, none⟩ = some (.int .i64 0) := (blk_cell BK352.out 0).trans rfl
    have hfs59 := blk_frozen BK352.out 0
    have hns59_1 := NB353_352.out
    have hns59_2 := NB363_352.out
    have hns59_3 := NB364_352.out
    have hms59_1 := NB352_353.out
    have hms59_2 := NB352_363.out
    have hms59_3 := NB352_364.out
    have hs60 : w58.cell? ⟨g352, 1, none⟩ = some (.int .i64 0) := (blk_cell BK352.out 1).trans rfl
    have hfs60 := blk_frozen BK352.out 1
    have hns60_1 := NB353_352.out
    have hns60_2 := NB363_352.out
    have hns60_3 := NB364_352.out
    have hms60_1 := NB352_353.out
    have hms60_2 := NB352_363.out
    have hms60_3 := NB352_364.out
    refine skip_ (w1 := ?_) (by rfl) rfl ?_ ?_
    rotate_left
    ·
     go_simp
     rfl
    refine hK.out _ _ ⟨((cell_far (p := ⟨g352, _, none⟩) NB363_352.out _).trans (((cell_far (p := ⟨g352, _, none⟩) NB363_352.out _).trans (hHeld.1)))), ((cell_far (p := ⟨g352, _, none⟩) NB363_352.out _).trans (((cell_far (p := ⟨g352, _, none⟩) NB363_352.out _).trans (hHeld.2.1)))), ((cell_far (p := ⟨g352, _, none⟩) NB364_352.out _).trans (((cell_far (p := ⟨g352, _, none⟩) NB364_352.out _).trans (hHeld.2.2.1)))), ((cell_far (p := ⟨g352, _, none⟩) NB364_352.out _).trans (((cell_far (p := ⟨g352, _, none⟩) NB364_352.out _).trans (hHeld.2.2.2))))⟩ (fun hHeld => ?_)
    clear hK K
    refine one_ (i := 3) (N := none) #[true, true, true, true] rfl rfl (by kernel_rfl) (by decide) (fun K hK => ?_)
    have hs61 : w58.cell? ⟨g353, 0, none⟩ = some (.int .i64 0) := (blk_cell BK353.out 0).trans rfl
    have hfs61 := blk_frozen BK353.out 0
    have hns61_0 := NB352_353.out
    have hns61_2 := NB363_353.out
    have hns61_3 := NB364_353.out
    have hms61_0 := NB353_352.out
    have hms61_2 := NB353_363.out
    have hms61_3 := NB353_364.out
    have hs62 : w58.cell? ⟨g353, 1, none⟩ = some (.int .i64 0) := (blk_cell BK353.out 1).trans rfl
    have hfs62 := blk_frozen BK353.out 1
    have hns62_0 := NB352_353.out
    have hns62_2 := NB363_353.out
    have hns62_3 := NB364_353.out
    have hms62_0 := NB353_352.out
    have hms62_2 := NB353_363.out
    have hms62_3 := NB353_364.out
    refine skip_ (w1 := ?_) (by rfl) rfl ?_ ?_
    rotate_left
    ·
     go_simp
     rfl
    refine hK.out _ _ ⟨((cell_far (p := ⟨g353, _, none⟩) NB363_353.out _).trans (((cell_far (p := ⟨g353, _, none⟩) NB363_353.out _).trans (hHeld.1)))), ((cell_far (p := ⟨g353, _, none⟩) NB363_353.out _).trans (((cell_far (p := ⟨g353, _, none⟩) NB363_353.out _).trans (hHeld.2.1)))), ((cell_far (p := ⟨g353, _, none⟩) NB364_353.out _).trans (((cell_far (p := ⟨g353, _, none⟩) NB364_353.out _).trans (hHeld.2.2.1)))), ((cell_far (p := ⟨g353, _, none⟩) NB364_353.out _).trans (((cell_far (p := ⟨g353, _, none⟩) NB364_353.out _).trans (hHeld.2.2.2))))⟩ (fun hHeld => ?_)
    clear hK K
    refine done_ (by kernel_rfl) ?_
    try go_wp2
    refine bodyPost_ret (results_cc rfl _ _ g352 g353 25 25 #[.int .i64 t355, .int .i64 t356] #[.int .i64 x365000_4, .int .i64 x365001_4] (0, 0) (0, 0) _ _ rfl (by (with_reducible repeat (first | refine blk_drewN ?_ _ | refine blk_drew ?_ | refine blk_alloc ?_ _)); refine blk_far ?_ NB352_353.out _; (with_reducible repeat (first | refine blk_drewN ?_ _ | refine blk_drew ?_ | refine blk_alloc ?_ _)); refine blk_far ?_ NB352_353.out _; (with_reducible repeat (first | refine blk_drewN ?_ _ | refine blk_drew ?_ | refine blk_alloc ?_ _)); refine blk_put (cs := #[.int .i64 t355, .int .i64 0]) ?_ 1 _ rfl; (with_reducible repeat (first | refine blk_drewN ?_ _ | refine blk_drew ?_ | refine blk_alloc ?_ _)); refine blk_put (cs := #[.int .i64 0, .int .i64 0]) ?_ 0 _ rfl; (with_reducible repeat (first | refine blk_drewN ?_ _ | refine blk_drew ?_ | refine blk_alloc ?_ _)); exact BK352.out) Try.underlying25 rfl (by kernel_rfl) rfl (by (with_reducible repeat (first | refine blk_drewN ?_ _ | refine blk_drew ?_ | refine blk_alloc ?_ _)); refine blk_put (cs := #[.int .i64 x365000_4, .int .i64 0]) ?_ 1 _ rfl; (with_reducible repeat (first | refine blk_drewN ?_ _ | refine blk_drew ?_ | refine blk_alloc ?_ _)); refine blk_put (cs := #[.int .i64 0, .int .i64 0]) ?_ 0 _ rfl; (with_reducible repeat (first | refine blk_drewN ?_ _ | refine blk_drew ?_ | refine blk_alloc ?_ _)); refine blk_far ?_ NB353_352.out _; (with_reducible repeat (first | refine blk_drewN ?_ _ | refine blk_drew ?_ | refine blk_alloc ?_ _)); refine blk_far ?_ NB353_352.out _; (with_reducible repeat (first | refine blk_drewN ?_ _ | refine blk_drew ?_ | refine blk_alloc ?_ _)); exact BK353.out) Try.underlying25 rfl (by kernel_rfl)) rfl ?_
    exact ⟨by first | rfl | (simp [errW_none, errW_some] <;> rfl) | (simp [*, errW_none, errW_some] <;> rfl), by repeat (first | (with_reducible first | exact HB.out | apply below_alloc | apply pw_below_drewN | apply below_drew1 | refine below_set ?_ (IsS46.ge HI354.out) | refine below_set ?_ GE352.out | refine below_set ?_ GE353.out | refine below_set ?_ GE363.out | refine below_set ?_ GE364.out) | exact HB.out)⟩

end Go.Proofs.Ytfembmnagkdnhaa.OFnRuinAddsUp
