/- The functions that 'FnFansAndCubes' runs, each as a function over numbers and lists, with the proof that the Go text comes to its answers. No condition. -/
import Derived.Test.YtpkghkohjnagjaaOFnFansAndCubesx0
import Derived.Test.YtpkghkohjnagjaaOFnFansAndCubesx2
import Derived.Test.YtpkghkohjnagjaaOFnFansAndCubesx4
namespace Go.Proofs.Ytpkghkohjnagjaa.OFnFansAndCubes
open Go.Proofs.Ytpkghkohjnagjaa.Stub
open Go.RowKit Go.Proofs.YtpkghkohjnagjaaW.PrintWords Go.Proofs.YtpkghkohjnagjaaW.PrintLast Go.Proofs.YtpkghkohjnagjaaW.PrintMore
attribute [local go_sem] max2_int min2_int max_two min_two max_three min_three max_four min_four   -- for this text's walks alone
set_option linter.unusedVariables false
set_option linter.unusedSimpArgs false

/-! ### spec_CountFans: function 7 -/
mutual
def spec_CountFans.j0 : Nat → Int → Int → Bool → Option (Int × Bool)
  | 0, _, _, _ => none
  | k + 1, x0, x1, x16 => if x16 = true then (some (0, false)) else (spec_CountFans.l0 k x0 x1 1 1 1)
def spec_CountFans.l0 : Nat → Int → Int → Int → Int → Int → Option (Int × Bool)
  | 0, _, _, _, _, _ => none
  | k + 1, x0, x1, x7, x151000, x151001 => if x7 < x0 then (spec_CountFans.l1 k x0 x1 x7 x7 x151000 x151001) else (some (x151000, true))
def spec_CountFans.l1 : Nat → Int → Int → Int → Int → Int → Int → Option (Int × Bool)
  | 0, _, _, _, _, _, _ => none
  | k + 1, x0, x1, x7, x8, x151000, x151001 => if x8 < x0 then ((spec_ncRatio_times.f k x151000 x151001 (wrap64 ((wrap64 (x7 + x8)) + (wrap64 (2 * x1)))) (wrap64 (x7 + x8))).bind fun bt151 => (spec_CountFans.l1 k x0 x1 x7 (wrap64 (x8 + 1)) bt151.1 bt151.2)) else (spec_CountFans.l0 k x0 x1 (wrap64 (x7 + 1)) x151000 x151001)
end
def spec_CountFans.f (k : Nat) (a0 : Int) (a1 : Int) : Option (Int × Bool) := (spec_l1In.f a0 0 8).bind fun t148 => (if t148 = true then ((spec_l1In.f a1 0 4).bind fun t149 => (spec_CountFans.j0 k a0 a1 (!t149))) else (spec_CountFans.j0 k a0 a1 true))
theorem spec_CountFans.mono_l : ∀ k, (∀ y0 y1 y2, LeO (spec_CountFans.j0 k y0 y1 y2) (spec_CountFans.j0 (k + 1) y0 y1 y2)) ∧ (∀ y0 y1 y2 y3 y4, LeO (spec_CountFans.l0 k y0 y1 y2 y3 y4) (spec_CountFans.l0 (k + 1) y0 y1 y2 y3 y4)) ∧ (∀ y0 y1 y2 y3 y4 y5, LeO (spec_CountFans.l1 k y0 y1 y2 y3 y4 y5) (spec_CountFans.l1 (k + 1) y0 y1 y2 y3 y4 y5))
  | 0 => ⟨fun _ _ _ r h => by simp [spec_CountFans.j0] at h, fun _ _ _ _ _ r h => by simp [spec_CountFans.l0] at h, fun _ _ _ _ _ _ r h => by simp [spec_CountFans.l1] at h⟩
  | k + 1 => by
    obtain ⟨ih0, ih1, ih2⟩ := spec_CountFans.mono_l k
    refine ⟨?_, ?_, ?_⟩
    · intro y0 y1 y2
      unfold spec_CountFans.j0
      repeat' first
      | (with_reducible exact ih0 _ _ _)
      | (with_reducible exact ih1 _ _ _ _ _)
      | (with_reducible exact ih2 _ _ _ _ _ _)
      | (with_reducible exact spec_ncRatio_times.mono _ _ _ _ _)
      | (with_reducible exact LeO.refl _)
      | (with_reducible exact LeO.none _)
      | (with_reducible refine LeO.ite ?_ ?_)
      | (with_reducible refine LeO.bind ?_ (fun _ => ?_))
      | exact ih0 _ _ _
      | exact ih1 _ _ _ _ _
      | exact ih2 _ _ _ _ _ _
      | exact spec_ncRatio_times.mono _ _ _ _ _
      | exact LeO.none _
      | refine LeO.ite ?_ ?_
      | refine LeO.bind ?_ (fun _ => ?_)
    · intro y0 y1 y2 y3 y4
      unfold spec_CountFans.l0
      repeat' first
      | (with_reducible exact ih0 _ _ _)
      | (with_reducible exact ih1 _ _ _ _ _)
      | (with_reducible exact ih2 _ _ _ _ _ _)
      | (with_reducible exact spec_ncRatio_times.mono _ _ _ _ _)
      | (with_reducible exact LeO.refl _)
      | (with_reducible exact LeO.none _)
      | (with_reducible refine LeO.ite ?_ ?_)
      | (with_reducible refine LeO.bind ?_ (fun _ => ?_))
      | exact ih0 _ _ _
      | exact ih1 _ _ _ _ _
      | exact ih2 _ _ _ _ _ _
      | exact spec_ncRatio_times.mono _ _ _ _ _
      | exact LeO.none _
      | refine LeO.ite ?_ ?_
      | refine LeO.bind ?_ (fun _ => ?_)
    · intro y0 y1 y2 y3 y4 y5
      unfold spec_CountFans.l1
      repeat' first
      | (with_reducible exact ih0 _ _ _)
      | (with_reducible exact ih1 _ _ _ _ _)
      | (with_reducible exact ih2 _ _ _ _ _ _)
      | (with_reducible exact spec_ncRatio_times.mono _ _ _ _ _)
      | (with_reducible exact LeO.refl _)
      | (with_reducible exact LeO.none _)
      | (with_reducible refine LeO.ite ?_ ?_)
      | (with_reducible refine LeO.bind ?_ (fun _ => ?_))
      | exact ih0 _ _ _
      | exact ih1 _ _ _ _ _
      | exact ih2 _ _ _ _ _ _
      | exact spec_ncRatio_times.mono _ _ _ _ _
      | exact LeO.none _
      | refine LeO.ite ?_ ?_
      | refine LeO.bind ?_ (fun _ => ?_)
theorem spec_CountFans.mono : ∀ a0 a1 k, LeO (spec_CountFans.f k a0 a1) (spec_CountFans.f (k + 1) a0 a1) := by
  intro a0 a1 k
  obtain ⟨ih0, ih1, ih2⟩ := spec_CountFans.mono_l k
  unfold spec_CountFans.f
  repeat' first
      | (with_reducible exact ih0 _ _ _)
      | (with_reducible exact ih1 _ _ _ _ _)
      | (with_reducible exact ih2 _ _ _ _ _ _)
      | (with_reducible exact spec_ncRatio_times.mono _ _ _ _ _)
      | (with_reducible exact LeO.refl _)
      | (with_reducible exact LeO.none _)
      | (with_reducible refine LeO.ite ?_ ?_)
      | (with_reducible refine LeO.bind ?_ (fun _ => ?_))
      | exact ih0 _ _ _
      | exact ih1 _ _ _ _ _
      | exact ih2 _ _ _ _ _ _
      | exact spec_ncRatio_times.mono _ _ _ _ _
      | exact LeO.none _
      | refine LeO.ite ?_ ?_
      | refine LeO.bind ?_ (fun _ => ?_)
set_option maxHeartbeats 8000000 in
set_option maxRecDepth 100000 in
theorem spec_CountFans.calls (k : Nat) (a0 : Int) (a1 : Int) (r1 : Int) (r2 : Bool) (w : World) (h : spec_CountFans.f k a0 a1 = some (r1, r2)) :
    Calls Try.prog 7 #[.int .i64 a0, .int .i64 a1] w fun e w' => e = .returned (.tuple #[.int .i64 r1, .bool r2]) ∧ Below w.heap.size w w' := by
  have hu50 := Try.underlying50
  have HB := Aside0.mk (Below.refl w.heap.size w)
  have H : ((spec_l1In.f a0 0 8).bind fun t148 => (if t148 = true then ((spec_l1In.f a1 0 4).bind fun t149 => (spec_CountFans.j0 k a0 a1 (!t149))) else (spec_CountFans.j0 k a0 a1 true))) = some (r1, r2) := h
  clear h
  have HC3 := Aside0.mk H
  clear H
  go_enter Try.func7, Try.ntmps7
  go_upto_region 1 with (fail)
  go_cut [16] (fun v16 wc => ∃ (kq : Nat) (x16_2 : Bool), v16 = .bool x16_2 ∧ Aside0 (spec_CountFans.j0 kq a0 a1 x16_2 = some (r1, r2)) ∧ Aside0 (kq ≤ k) ∧ Aside0 (Below w.heap.size w wc))
  case first =>
    have H := HC3.out
    clear HC3
    replace H := Option.bind_eq_some_iff.mp H
    obtain ⟨t148, A40, H⟩ := H
    replace H : (if t148 = true then ((spec_l1In.f a1 0 4).bind fun t149 => (spec_CountFans.j0 k a0 a1 (!t149))) else (spec_CountFans.j0 k a0 a1 true)) = some (r1, r2) := H
    have A4 := Aside0.mk A40
    clear A40
    by_cases c5 : t148 = true
    · subst c5
      have H1 : ((spec_l1In.f a1 0 4).bind fun t149 => (spec_CountFans.j0 k a0 a1 (!t149))) = some (r1, r2) := by rw [if_pos rfl] at H; exact H
      clear H
      have H := H1
      clear H1
      replace H := Option.bind_eq_some_iff.mp H
      obtain ⟨t149, A60, H⟩ := H
      replace H : (spec_CountFans.j0 k a0 a1 (!t149)) = some (r1, r2) := H
      have A6 := Aside0.mk A60
      clear A60
      have H' := Aside0.mk H
      clear H
      go_wp2_with (first | ((with_reducible refine gate_callee (f := 17) rfl ?_); refine goesL_ (some 10) rfl rfl Try.func17 (by kernel_rfl) rfl #[.int .i64 a0, .int .i64 0, .int .i64 8] rfl (by (try simp only [List.map_toArray, List.map_cons, List.map_nil]); first | done | rfl | (simp only [List.length_drop, List.length_take]; rfl)) ?_; (with_reducible refine (spec_l1In.calls a0 0 8 true _ A4.out).mono ?_); rintro e w' ⟨rfl, ⟨nd, rfl⟩⟩; refine ⟨_, rfl, ?_⟩) | (go_at_call 17; (with_reducible refine (spec_l1In.calls a1 0 4 t149 _ A6.out).mono ?_); rintro e w' ⟨rfl, ⟨nd, rfl⟩⟩))
      go_meet
      case rel => exact ⟨_, (!t149), (by first | rfl | (simp; done) | (simp [*]; done) | (simp only [i64_w]; done)), H', ⟨by first | omega | exact Nat.le_refl _⟩, ⟨by repeat (first | (with_reducible first | exact HB.out | apply below_alloc | apply pw_below_drewN | apply below_drew1) | exact HB.out)⟩⟩
    · replace c5 := Bool.eq_false_iff.mpr c5
      subst c5
      have H1 : (spec_CountFans.j0 k a0 a1 true) = some (r1, r2) := by rw [if_neg (show ¬ (false = true) by decide)] at H; exact H
      clear H
      have H := H1
      clear H1
      have H' := Aside0.mk H
      clear H
      go_wp2_with (first | ((with_reducible refine gate_callee (f := 17) rfl ?_); refine goesL_ (some 10) rfl rfl Try.func17 (by kernel_rfl) rfl #[.int .i64 a0, .int .i64 0, .int .i64 8] rfl (by (try simp only [List.map_toArray, List.map_cons, List.map_nil]); first | done | rfl | (simp only [List.length_drop, List.length_take]; rfl)) ?_; (with_reducible refine (spec_l1In.calls a0 0 8 false _ A4.out).mono ?_); rintro e w' ⟨rfl, ⟨nd, rfl⟩⟩; refine ⟨_, rfl, ?_⟩))
      go_meet
      case rel => exact ⟨_, (true), (by first | rfl | (simp; done) | (simp [*]; done) | (simp only [i64_w]; done)), H', ⟨by first | omega | exact Nat.le_refl _⟩, ⟨by repeat (first | (with_reducible first | exact HB.out | apply below_alloc | apply pw_below_drewN | apply below_drew1) | exact HB.out)⟩⟩
  case rest =>
    clear HC3
    try clear c1
    try clear p2
    try clear c5
    obtain ⟨kq, x16_2, rfl, HA, HJ2, HB⟩ := hcut
    cases kq with
    | zero => exact absurd HA.out (by simp [spec_CountFans.j0])
    | succ kj2 =>
      have H := HA.out
      clear HA
      simp only [spec_CountFans.j0] at H
      by_cases c7 : x16_2 = true
      · subst c7
        have H1 : (some (0, false)) = some (r1, r2) := by rw [if_pos rfl] at H; exact H
        clear H
        have H := H1
        clear H1
        simp only [Option.some.injEq, Prod.mk.injEq] at H
        obtain ⟨rfl, rfl⟩ := H
        go_wp2
        go_ret2
        exact ⟨by first | rfl | (simp [errW_none, errW_some] <;> rfl) | (simp [*, errW_none, errW_some] <;> rfl), by repeat (first | (with_reducible first | exact HB.out | apply below_alloc | apply pw_below_drewN | apply below_drew1) | exact HB.out)⟩
      · replace c7 := Bool.eq_false_iff.mpr c7
        subst c7
        have H1 : (spec_CountFans.l0 kj2 a0 a1 1 1 1) = some (r1, r2) := by rw [if_neg (show ¬ (false = true) by decide)] at H; exact H
        clear H
        have H := H1
        clear H1
        have H' := Aside0.mk H
        clear H
        go_wp2_with (first | ((with_reducible refine gate_dst (N := 6) rfl ?_); refine box_event ?hg (N := 6) ?hd (cs := #[.int .i64 0, .int .i64 0]) (t := 50) ?hr ?_; (case hd => rfl); (case hg => rfl); (case hr => first | (go_simp; done) | (go_simp; rfl)); intro gb150 hg w8 hbox hb; have n0_ := Aside0.mk (below_step (by repeat (first | (with_reducible first | exact HB.out | apply below_alloc | apply pw_below_drewN | apply below_drew1) | exact HB.out)) hb); have n1_ := Aside0.mk (hbox); have n2_ := Aside0.mk ((by rw [hg]; exact (below_size (by repeat (first | (with_reducible first | exact HB.out | apply below_alloc | apply pw_below_drewN | apply below_drew1) | exact HB.out))) : w.heap.size ≤ gb150)); have n3_ := Aside0.mk ((by rw [hg]; exact (below_size (by repeat (first | (with_reducible first | exact HB.out | apply below_alloc | apply pw_below_drewN | apply below_drew1) | exact HB.out))) : w.heap.size ≤ gb150)); clear HB; have HB := n0_; have BK150 := n1_; have GW150 := n2_; have GE150 := n3_; clear n0_ n1_ n2_ n3_; clear hb hbox hg; have hcz9_0 : w8.cell? ⟨gb150, 0, none⟩ = some (.int .i64 0) := (blk_cell BK150.out 0).trans rfl; have hcz9_1 : w8.cell? ⟨gb150, 1, none⟩ = some (.int .i64 0) := (blk_cell BK150.out 1).trans rfl; have hfz9_0 := blk_frozen BK150.out 0; have hfz9_1 := blk_frozen BK150.out 1))
        go_loopg [7] kj2 (fun kq v7 w' => ∃ (x7_2 : Int) (x151000_2 : Int) (x151001_2 : Int), v7 = .int .i64 x7_2 ∧ Aside0 (spec_CountFans.l0 kq a0 a1 x7_2 x151000_2 x151001_2 = some (r1, r2)) ∧ Aside0 (kq ≤ kj2) ∧ Aside0 (w'.heap[gb150]? = some (.cells #[.int .i64 x151000_2, .int .i64 x151001_2] 50 (0, 0))) ∧ Aside0 (Below w.heap.size w w'))
        case atStart => exact ⟨(1), (1), (1), (by first | rfl | (simp; done) | (simp [*]; done) | (simp only [i64_w]; done)), H', ⟨Nat.le_refl _⟩, ⟨by (with_reducible repeat (first | refine blk_drewN ?_ _ | refine blk_drew ?_ | refine blk_alloc ?_ _)); refine blk_put (cs := #[.int .i64 1, .int .i64 0]) ?_ 1 _ rfl; (with_reducible repeat (first | refine blk_drewN ?_ _ | refine blk_drew ?_ | refine blk_alloc ?_ _)); refine blk_put (cs := #[.int .i64 0, .int .i64 0]) ?_ 0 _ rfl; (with_reducible repeat (first | refine blk_drewN ?_ _ | refine blk_drew ?_ | refine blk_alloc ?_ _)); exact BK150.out⟩, ⟨by repeat (first | (with_reducible first | exact HB.out | apply below_alloc | apply pw_below_drewN | apply below_drew1 | refine below_set ?_ GE150.out) | exact HB.out)⟩⟩
        case round =>
          clear H'
          try clear c1
          try clear p2
          try clear c5
          try clear c7
          try clear hcz9_0
          try clear hcz9_1
          try clear hfz9_0
          try clear hfz9_1
          try clear p2
          obtain ⟨x7_2, x151000_2, x151001_2, rfl, HA, HK2, BK150, HB⟩ := hrel
          cases gk with
          | zero => exact absurd HA.out (by simp [spec_CountFans.l0])
          | succ k2 =>
            have H := HA.out
            clear HA
            simp only [spec_CountFans.l0] at H
            by_cases c10 : x7_2 < a0
            · rw [if_pos c10] at H
              have c10b0 : decide (x7_2 < a0) = true := decide_eq_true c10
              clear c10
              have H' := Aside0.mk H
              clear H
              go_wp2
              go_loopg [8] k2 (fun kq v8 w' => ∃ (x8_3 : Int) (x151000_3 : Int) (x151001_3 : Int), v8 = .int .i64 x8_3 ∧ Aside0 (spec_CountFans.l1 kq a0 a1 x7_2 x8_3 x151000_3 x151001_3 = some (r1, r2)) ∧ Aside0 (kq ≤ k2) ∧ Aside0 (w'.heap[gb150]? = some (.cells #[.int .i64 x151000_3, .int .i64 x151001_3] 50 (0, 0))) ∧ Aside0 (Below w.heap.size w w'))
              case atStart => exact ⟨(x7_2), (x151000_2), (x151001_2), (by first | rfl | (simp; done) | (simp [*]; done) | (simp only [i64_w]; done)), H', ⟨Nat.le_refl _⟩, ⟨by (with_reducible repeat (first | refine blk_drewN ?_ _ | refine blk_drew ?_ | refine blk_alloc ?_ _)); exact BK150.out⟩, ⟨by repeat (first | (with_reducible first | exact HB.out | apply below_alloc | apply pw_below_drewN | apply below_drew1 | refine below_set ?_ GE150.out) | exact HB.out)⟩⟩
              case round =>
                clear H'
                try clear c1
                try clear p2
                try clear c5
                try clear c7
                try clear c10
                try clear c10b0
                try clear hcz9_0
                try clear hcz9_1
                try clear hfz9_0
                try clear hfz9_1
                try clear p2
                obtain ⟨x8_3, x151000_3, x151001_3, rfl, HA, HK3, BK150, HB⟩ := hrel
                cases gk with
                | zero => exact absurd HA.out (by simp [spec_CountFans.l1])
                | succ k3 =>
                  have H := HA.out
                  clear HA
                  simp only [spec_CountFans.l1] at H
                  by_cases c11 : x8_3 < a0
                  · rw [if_pos c11] at H
                    have c11b0 : decide (x8_3 < a0) = true := decide_eq_true c11
                    clear c11
                    replace H := Option.bind_eq_some_iff.mp H
                    obtain ⟨⟨t151, t152⟩, A120, H⟩ := H
                    replace H : (spec_CountFans.l1 k3 a0 a1 x7_2 (wrap64 (x8_3 + 1)) t151 t152) = some (r1, r2) := H
                    have A12 := Aside0.mk A120
                    clear A120
                    have H' := Aside0.mk H
                    clear H
                    have hcz13_0 : wr.cell? ⟨gb150, 0, none⟩ = some (.int .i64 x151000_3) := (blk_cell BK150.out 0).trans rfl
                    have hcz13_1 : wr.cell? ⟨gb150, 1, none⟩ = some (.int .i64 x151001_3) := (blk_cell BK150.out 1).trans rfl
                    have hfz13_0 := blk_frozen BK150.out 0
                    have hfz13_1 := blk_frozen BK150.out 1
                    go_wp2_with (first | ((with_reducible refine gate_callee (f := 18) rfl ?_); refine goesL_ (some 39) rfl rfl Try.func18 (by kernel_rfl) rfl #[.agg #[.int .i64 x151000_3, .int .i64 x151001_3], .int .i64 (wrap64 ((wrap64 (x7_2 + x8_3)) + (wrap64 (2 * a1)))), .int .i64 (wrap64 (x7_2 + x8_3))] rfl (by (try simp only [List.map_toArray, List.map_cons, List.map_nil]); first | done | rfl | (simp only [List.length_drop, List.length_take]; rfl)) ?_; (with_reducible refine (spec_ncRatio_times.calls k3 x151000_3 x151001_3 (wrap64 ((wrap64 (x7_2 + x8_3)) + (wrap64 (2 * a1)))) (wrap64 (x7_2 + x8_3)) t151 t152 _ A12.out).mono ?_); rintro e w14 ⟨rfl, hb⟩; refine ⟨_, rfl, ?_⟩; have n0_ := Aside0.mk (blk_below (g := gb150) (o := .cells #[.int .i64 x151000_3, .int .i64 x151001_3] 50 (0, 0)) (by (with_reducible repeat (first | refine blk_drewN ?_ _ | refine blk_drew ?_ | refine blk_alloc ?_ _)); exact BK150.out) hb); have n1_ := Aside0.mk (below_step (by repeat (first | (with_reducible first | exact HB.out | apply below_alloc | apply pw_below_drewN | apply below_drew1 | refine below_set ?_ GE150.out) | exact HB.out)) hb); clear BK150; clear HB; have BK150 := n0_; have HB := n1_; clear n0_ n1_; (try clear hb); (try clear hb2); (try clear hk); (try clear hi); have hcz15_0 : w14.cell? ⟨gb150, 0, none⟩ = some (.int .i64 x151000_3) := (blk_cell BK150.out 0).trans rfl; have hcz15_1 : w14.cell? ⟨gb150, 1, none⟩ = some (.int .i64 x151001_3) := (blk_cell BK150.out 1).trans rfl; have hfz15_0 := blk_frozen BK150.out 0; have hfz15_1 := blk_frozen BK150.out 1))
                    go_roundg k3
                    case measure => have := HJ2.out; have := HK2.out; have := HK3.out; omega
                    case rel => exact ⟨(wrap64 (x8_3 + 1)), (t151), (t152), (by first | rfl | (simp; done) | (simp [*]; done) | (simp only [i64_w]; done)), H', ⟨by have := HJ2.out; have := HK2.out; have := HK3.out; omega⟩, ⟨by (with_reducible repeat (first | refine blk_drewN ?_ _ | refine blk_drew ?_ | refine blk_alloc ?_ _)); refine blk_put (cs := #[.int .i64 t151, .int .i64 x151001_3]) ?_ 1 _ rfl; (with_reducible repeat (first | refine blk_drewN ?_ _ | refine blk_drew ?_ | refine blk_alloc ?_ _)); refine blk_put (cs := #[.int .i64 x151000_3, .int .i64 x151001_3]) ?_ 0 _ rfl; (with_reducible repeat (first | refine blk_drewN ?_ _ | refine blk_drew ?_ | refine blk_alloc ?_ _)); exact BK150.out⟩, ⟨by repeat (first | (with_reducible first | exact HB.out | apply below_alloc | apply pw_below_drewN | apply below_drew1 | refine below_set ?_ GE150.out) | exact HB.out)⟩⟩
                  · rw [if_neg c11] at H
                    have c11b0 : decide (x8_3 < a0) = false := decide_eq_false c11
                    clear c11
                    have H' := Aside0.mk H
                    clear H
                    go_wp2
                    go_roundg k3
                    case measure => have := HJ2.out; have := HK2.out; have := HK3.out; omega
                    case rel => exact ⟨(wrap64 (x7_2 + 1)), (x151000_3), (x151001_3), (by first | rfl | (simp; done) | (simp [*]; done) | (simp only [i64_w]; done)), H', ⟨by have := HJ2.out; have := HK2.out; have := HK3.out; omega⟩, ⟨by (with_reducible repeat (first | refine blk_drewN ?_ _ | refine blk_drew ?_ | refine blk_alloc ?_ _)); exact BK150.out⟩, ⟨by repeat (first | (with_reducible first | exact HB.out | apply below_alloc | apply pw_below_drewN | apply below_drew1 | refine below_set ?_ GE150.out) | exact HB.out)⟩⟩
            · rw [if_neg c10] at H
              have c10b0 : decide (x7_2 < a0) = false := decide_eq_false c10
              clear c10
              simp only [Option.some.injEq, Prod.mk.injEq] at H
              obtain ⟨rfl, rfl⟩ := H
              have hcz16_0 : wr.cell? ⟨gb150, 0, none⟩ = some (.int .i64 x151000_2) := (blk_cell BK150.out 0).trans rfl
              have hcz16_1 : wr.cell? ⟨gb150, 1, none⟩ = some (.int .i64 x151001_2) := (blk_cell BK150.out 1).trans rfl
              have hfz16_0 := blk_frozen BK150.out 0
              have hfz16_1 := blk_frozen BK150.out 1
              go_wp2
              go_ret2
              exact ⟨by first | rfl | (simp [errW_none, errW_some] <;> rfl) | (simp [*, errW_none, errW_some] <;> rfl), by repeat (first | (with_reducible first | exact HB.out | apply below_alloc | apply pw_below_drewN | apply below_drew1 | refine below_set ?_ GE150.out) | exact HB.out)⟩

-- NOT PRINTED: function 19 (impl_growTrees)

/-! ### impl_AllTrees: function 8 -/
theorem infoGt : (Try.prog.info? 43).map (fun i => (i.zero, i.size, i.bytes)) = some (some (.slice none 0 0), 1, 24) := by kernel_rfl
/-- The trees that go on from a list, so many nodes left, so many open. -/
def gT : Nat → List Int → Nat → List (List Int)
  | 0, xs, _ => [xs]
  | n + 1, xs, o => (List.range (n + 2 - o)).flatMap fun d => if 2 ≤ o + d ∨ n = 0 then gT n (xs ++ [(d : Int)]) (o + d - 1) else []
def gP (n : Nat) (xs : List Int) (o j : Nat) : List (List Int) := (List.range j).flatMap fun d => if 2 ≤ o + d ∨ n = 0 then gT n (xs ++ [(d : Int)]) (o + d - 1) else []
theorem gP_succ (n : Nat) (xs : List Int) (o j : Nat) : gP n xs o (j + 1) = gP n xs o j ++ (if 2 ≤ o + j ∨ n = 0 then gT n (xs ++ [(j : Int)]) (o + j - 1) else []) := by
  unfold gP
  rw [List.range_succ, List.flatMap_append]
  simp
theorem gP_le (n : Nat) (xs : List Int) (o j k : Nat) (h : j ≤ k) : (gP n xs o j).length ≤ (gP n xs o k).length := by
  obtain ⟨d, rfl⟩ := Nat.le.dest h
  clear h
  induction d with
  | zero => exact Nat.le_refl _
  | succ d ih => rw [← Nat.add_assoc, gP_succ, List.length_append]; omega
theorem grown_trans {a b c : World} {v v' : Value} (h : a.grownBy b v.ownBlock) (hv : v'.ownBlock = v.ownBlock ∨ ∃ q, v'.ownBlock = some q ∧ a.heap.size ≤ q) (k : b.grownBy c v'.ownBlock) : a.grownBy c v.ownBlock :=
  ⟨k.os.trans h.os, k.tape.trans h.tape, k.output.trans h.output, Nat.le_trans h.size k.size, fun i hi hne => (k.block i (Nat.lt_of_lt_of_le hi h.size) (by
    rcases hv with e | ⟨q, e, hq⟩
    · rw [e]; exact hne
    · rw [e]; intro e2; cases e2; omega)).trans (h.block i hi hne)⟩
theorem grown3 {W V W1 w1 : World} {x y : Option Nat} (h : W.grownBy V x) (hb : Below V.heap.size V W1) (k : W1.grownBy w1 y) (hy : ∀ q, y = some q → V.heap.size ≤ q) : W.grownBy w1 x :=
  ⟨(k.os.trans hb.os).trans h.os, (k.tape.trans hb.tape).trans h.tape, (k.output.trans hb.output).trans h.output, Nat.le_trans h.size (Nat.le_trans hb.size k.size), fun i hi hne => by
    have hiV : i < V.heap.size := Nat.lt_of_lt_of_le hi h.size
    exact ((k.block i (Nat.lt_of_lt_of_le hiV hb.size) (fun e => by have := hy i e.symm; omega)).trans (hb.block i hiV)).trans (h.block i hi hne)⟩
set_option maxRecDepth 100000 in
set_option maxHeartbeats 8000000 in
theorem grow_run : ∀ (n : Nat), n ≤ 7 → ∀ (o : Nat) (xs : List Int) (rows : List (List Int)) (W : World) (base : Nat) (v u : Value), (n = 0 ∨ 1 ≤ o) → o ≤ 30 - n → xs.length ≤ 30 - n → base ≤ W.heap.size → rows.length + (gT n xs o).length ≤ 100000 →
    Kd.S (Kd.slice 3 (Kd.int .i64)) 43 W base (fun _ => True) v rows → Kd.R (Kd.int .i64) 3 W base (fun _ => True) u xs →
    Calls Try.prog 19 #[v, u, .int .i64 n, .int .i64 o] W fun e W' => ∃ v', e = .returned v' ∧ Kd.S (Kd.slice 3 (Kd.int .i64)) 43 W' base (fun _ => True) v' (rows ++ gT n xs o) ∧ Below base W W' ∧ W.grownBy W' v.ownBlock ∧ (v'.ownBlock = v.ownBlock ∨ ∃ b, v'.ownBlock = some b ∧ W.heap.size ≤ b) := by
  intro n
  induction n with
  | zero =>
    intro _ o xs rows W base v u ho ho2 hx hbase hlen hS hR
    obtain ⟨A, c, rfl, hc, hC⟩ := Kd.R_reads hR
    have hcl : slices_Clone_int_int.f xs = some xs := by unfold slices_Clone_int_int.f; rw [if_pos (by omega)]
    have HS := Aside0.mk hS
    have HL := Aside0.mk hlen
    have HC := Aside0.mk hC
    have HO := Aside0.mk ho2
    have HX := Aside0.mk hx
    clear hS hlen hR hC ho ho2 hx
    go_enter Try.func19, Try.ntmps19
    go_wp2_with (first | (go_at_call 24; refine (slices_Clone_int_int.calls A c xs xs W HC.out hc hcl).mono ?_; rintro e W1 ⟨r1, rfl, hR1, hB1⟩; obtain ⟨A1, c1, rfl, hc1, hC1⟩ := Kd.R_reads hR1; have HR1 := Aside0.mk hR1; have HB1 := Aside0.mk hB1; clear hR1 hB1 hC1) | ((with_reducible refine gate_builtin (b := .append) (xs := #[.tmp 12, .tmp 15]) rfl ?_); at_builtin; refine Kd.S_append (Kd.slice 3 (Kd.int .i64)) (w0 := W) base rfl (.tmp 12) (.tmp 15) 28 43 (.slice none 0 0) 24 rfl Try.underlying28 infoGt rfl (by decide) (by omega) v rows xs [.slice A1 xs.length c1] (fun _ => True) (fun k => some k = (Value.slice A1 xs.length c1).ownBlock) rfl rfl ?aP ?aH (fun _ _ => trivial) ?aO ?aB ?aS ?aL ?_; (case aP => exact Kd.M_row (Kd.R_mono (Kd.R_tight rfl (Kd.R_lower HR1.out hbase)) (fun _ h => h))); (case aH => exact fun k hk => ⟨trivial, fun e => by have h1 := Kd.S_lt HS.out k e.symm; have h2 := Kd.R_base HR1.out k hk.symm; omega⟩); (case aO => exact Kd.S_mono (Kd.S_old HS.out HB1.out) (fun k hk => ⟨trivial, fun e => by have h2 := Kd.R_base HR1.out k e.symm; omega⟩)); (case aB => exact HB1.out.mono hbase); (case aS => exact Nat.le_trans hbase HB1.out.size); (case aL => have := HL.out; simp only [gT, List.length_cons, List.length_nil] at this; omega); intro v2 W2 hS2 hB2 hg2 hat2))
    go_ret
    refine ⟨v2, rfl, hS2, hB2, ?_, ?_⟩
    · exact grown_trans (v := v) (v' := v) (grown_of_below HB1.out v.ownBlock) (.inl rfl) hg2
    · rcases hat2 with e | ⟨q, e, hq⟩
      · exact .inl e
      · exact .inr ⟨q, e, Nat.le_trans HB1.out.size hq⟩
  | succ n ih =>
    intro hn7 o xs rows W base v u ho ho2 hx hbase hlen hS hR
    have ho1 : 1 ≤ o := by omega
    clear ho
    have e1 : ((n + 1 : Nat) : Int) = (n : Int) + 1 := by omega
    rw [e1]
    have hne : ((n : Int) + 1 == 0) = false := by rw [beq_eq_false_iff_ne]; omega
    have hlen' : rows.length + (gP n xs o (n + 2 - o)).length ≤ 100000 := hlen
    have HS := Aside0.mk hS
    have HR := Aside0.mk hR
    have HL := Aside0.mk hlen'
    have HO := Aside0.mk ho2
    have HX := Aside0.mk hx
    have HN := Aside0.mk hn7
    have IH := Aside0.mk ih
    have hno : (o : Int) ≤ 30 := by omega
    have hnn : (n : Int) ≤ 6 := by omega
    clear hS hlen hlen' hR ho2 hx ih e1
    go_enter Try.func19, Try.ntmps19
    go_wp2
    go_loopw [0, 9] (fun vo d V => ∃ j : Nat, j ≤ n + 2 - o ∧ d = .int .i64 j ∧ Kd.S (Kd.slice 3 (Kd.int .i64)) 43 V base (fun _ => True) vo (rows ++ gP n xs o j) ∧ Below base W V ∧ W.grownBy V v.ownBlock ∧ (vo.ownBlock = v.ownBlock ∨ ∃ b, vo.ownBlock = some b ∧ W.heap.size ≤ b)) (fun _ d _ => ((n + 2 - o : Nat) - intOf d).toNat)
    case atStart => exact ⟨0, Nat.zero_le _, rfl, by simpa [gP] using HS.out, Below.refl _ _, grown_of_below (Below.refl _ _) _, .inl rfl⟩
    case round =>
      rename World => V
      obtain ⟨j, hj, rfl, hSV, hBV, hgV, hat⟩ := hrel
      have hjn : (j : Int) ≤ (n : Int) + 2 := by omega
      have hj0 : (0 : Int) ≤ (j : Int) := by omega
      have ho1' : (1 : Int) ≤ (o : Int) := by omega
      have HSV := Aside0.mk hSV
      have HBV := Aside0.mk hBV
      have HGV := Aside0.mk hgV
      have HAT := Aside0.mk hat
      clear hSV hBV hgV hat
      by_cases hlt : j < n + 2 - o
      · have hle : (o : Int) - 1 + (j : Int) ≤ (n : Int) := by omega
        by_cases hc : 2 ≤ o + j ∨ n = 0
        · have hRa := Kd.R_apart' HR.out (Kd.S_typed HS.out) (by decide)
          have hRV := Kd.R_grown hRa HGV.out (fun k hk => hk.2)
          obtain ⟨A, c, rfl, hc', hC⟩ := Kd.R_reads hRV
          have HC := Aside0.mk hC
          have hcl : slices_Clone_int_int.f xs = some xs := by unfold slices_Clone_int_int.f; rw [if_pos (by have := HX.out; omega)]
          have eo : (o : Int) - 1 + (j : Int) = ((o + j - 1 : Nat) : Int) := by omega
          have HCN := Aside0.mk hc
          clear hRa hRV hC
          by_cases h2 : 2 ≤ o + j
          · have h1 : (0 : Int) < (o : Int) - 1 + (j : Int) := by omega
            clear hc
            go_wp2_with (first | (go_at_call 24; refine (slices_Clone_int_int.calls A c xs xs V HC.out hc' hcl).mono ?_; rintro e W1 ⟨r1, rfl, hR1, hB1⟩; have HR1 := Aside0.mk hR1; have HB1 := Aside0.mk hB1; clear hR1 hB1) | ((with_reducible refine gate_builtin (b := .append) (xs := #[.tmp 37, .tmp 39]) rfl ?_); at_builtin; refine Kd.R_append (Kd.int .i64) (w0 := W) base rfl (.tmp 37) (.tmp 39) 43 3 (.int .i64 0) 8 rfl Try.underlying43 infoCl rfl (by decide) (by omega) r1 xs (j : Int) [.int .i64 (j : Int)] (fun _ => True) (fun _ => False) rfl rfl ?aP (fun _ hk => hk.elim) ?aF ?aO ?aB ?aS ?aL ?_; (case aP => exact rfl); (case aF => exact (fun _ _ => trivial)); (case aO => exact Kd.R_lower HR1.out (Nat.le_trans hbase HBV.out.size)); (case aB => exact HBV.out.trans (HB1.out.mono (Nat.le_trans hbase HBV.out.size))); (case aS => exact Nat.le_trans hbase (Nat.le_trans HBV.out.size HB1.out.size)); (case aL => have := HX.out; omega); intro v2 W2 hR2 hB2 hg2 hat2; have HR2 := Aside0.mk hR2; have HB2 := Aside0.mk hB2; have HG2 := Aside0.mk hg2; clear hR2 hB2 hg2 hat2) | (go_at_call 19; (try rw [eo]); refine (IH.out (by have := HN.out; omega) (o + j - 1) (xs ++ [(j : Int)]) (rows ++ gP n xs o j) W2 base u0 v2 (by have := HCN.out; omega) (by have := HO.out; have := HN.out; omega) (by have := HX.out; have := HN.out; simp; omega) (Nat.le_trans hbase (Nat.le_trans HBV.out.size (Nat.le_trans HB1.out.size HG2.out.size))) ?iL (Kd.S_mono (Kd.S_grown (Kd.S_old HSV.out HB1.out) HG2.out (fun k hk e => by have h2 := Kd.R_base HR1.out k e.symm; have h3 := hk.2; omega)) (fun _ _ => trivial)) HR2.out).mono ?_; (case iL => have h1_ := HL.out; have h2_ := gP_le n xs o (j + 1) (n + 2 - o) (by omega); rw [gP_succ, if_pos HCN.out, List.length_append] at h2_; rw [List.length_append]; omega); rintro e W3 ⟨v3, rfl, hS3, hB3, hg3, hat3⟩; have HS3 := Aside0.mk hS3; have HB3 := Aside0.mk hB3; have HG3 := Aside0.mk hg3; have HAT3 := Aside0.mk hat3; clear hS3 hB3 hg3 hat3))
            go_roundw
            case rel =>
              have gw2 : W.grownBy W2 v.ownBlock := grown3 HGV.out HB1.out HG2.out (fun q e => Kd.R_base HR1.out q e)
              refine ⟨j + 1, by omega, by simp, by rw [gP_succ, if_pos HCN.out, ← List.append_assoc]; exact HS3.out, HB2.out.trans (HB3.out), grown_trans gw2 HAT.out HG3.out, ?_⟩
              rcases HAT3.out with e | ⟨q, e, hq⟩
              · rw [e]; exact HAT.out
              · exact .inr ⟨q, e, Nat.le_trans gw2.size hq⟩
            case measure => simp [intOf]; omega
          · have h1 : ¬ (0 : Int) < (o : Int) - 1 + (j : Int) := by omega
            have hn0 : ((n : Int) + 1 == 1) = true := by rw [beq_iff_eq]; omega
            clear hc
            go_wp2_with (first | (go_at_call 24; refine (slices_Clone_int_int.calls A c xs xs V HC.out hc' hcl).mono ?_; rintro e W1 ⟨r1, rfl, hR1, hB1⟩; have HR1 := Aside0.mk hR1; have HB1 := Aside0.mk hB1; clear hR1 hB1) | ((with_reducible refine gate_builtin (b := .append) (xs := #[.tmp 37, .tmp 39]) rfl ?_); at_builtin; refine Kd.R_append (Kd.int .i64) (w0 := W) base rfl (.tmp 37) (.tmp 39) 43 3 (.int .i64 0) 8 rfl Try.underlying43 infoCl rfl (by decide) (by omega) r1 xs (j : Int) [.int .i64 (j : Int)] (fun _ => True) (fun _ => False) rfl rfl ?aP (fun _ hk => hk.elim) ?aF ?aO ?aB ?aS ?aL ?_; (case aP => exact rfl); (case aF => exact (fun _ _ => trivial)); (case aO => exact Kd.R_lower HR1.out (Nat.le_trans hbase HBV.out.size)); (case aB => exact HBV.out.trans (HB1.out.mono (Nat.le_trans hbase HBV.out.size))); (case aS => exact Nat.le_trans hbase (Nat.le_trans HBV.out.size HB1.out.size)); (case aL => have := HX.out; omega); intro v2 W2 hR2 hB2 hg2 hat2; have HR2 := Aside0.mk hR2; have HB2 := Aside0.mk hB2; have HG2 := Aside0.mk hg2; clear hR2 hB2 hg2 hat2) | (go_at_call 19; (try rw [eo]); refine (IH.out (by have := HN.out; omega) (o + j - 1) (xs ++ [(j : Int)]) (rows ++ gP n xs o j) W2 base u0 v2 (by have := HCN.out; omega) (by have := HO.out; have := HN.out; omega) (by have := HX.out; have := HN.out; simp; omega) (Nat.le_trans hbase (Nat.le_trans HBV.out.size (Nat.le_trans HB1.out.size HG2.out.size))) ?iL (Kd.S_mono (Kd.S_grown (Kd.S_old HSV.out HB1.out) HG2.out (fun k hk e => by have h2 := Kd.R_base HR1.out k e.symm; have h3 := hk.2; omega)) (fun _ _ => trivial)) HR2.out).mono ?_; (case iL => have h1_ := HL.out; have h2_ := gP_le n xs o (j + 1) (n + 2 - o) (by omega); rw [gP_succ, if_pos HCN.out, List.length_append] at h2_; rw [List.length_append]; omega); rintro e W3 ⟨v3, rfl, hS3, hB3, hg3, hat3⟩; have HS3 := Aside0.mk hS3; have HB3 := Aside0.mk hB3; have HG3 := Aside0.mk hg3; have HAT3 := Aside0.mk hat3; clear hS3 hB3 hg3 hat3))
            go_roundw
            case rel =>
              have gw2 : W.grownBy W2 v.ownBlock := grown3 HGV.out HB1.out HG2.out (fun q e => Kd.R_base HR1.out q e)
              refine ⟨j + 1, by omega, by simp, by rw [gP_succ, if_pos HCN.out, ← List.append_assoc]; exact HS3.out, HB2.out.trans (HB3.out), grown_trans gw2 HAT.out HG3.out, ?_⟩
              rcases HAT3.out with e | ⟨q, e, hq⟩
              · rw [e]; exact HAT.out
              · exact .inr ⟨q, e, Nat.le_trans gw2.size hq⟩
            case measure => simp [intOf]; omega
        · have h1 : ¬ (0 : Int) < (o : Int) - 1 + (j : Int) := by omega
          have hn0 : ((n : Int) + 1 == 1) = false := by rw [beq_eq_false_iff_ne]; omega
          have HCN := Aside0.mk hc
          clear hc
          go_wp2
          go_roundw
          case rel => exact ⟨j + 1, by omega, by simp, by rw [gP_succ, if_neg HCN.out, List.append_nil]; exact HSV.out, HBV.out, HGV.out, HAT.out⟩
          case measure => simp [intOf]; omega
      · have hle : ¬ (o : Int) - 1 + (j : Int) ≤ (n : Int) := by omega
        have HJ := Aside0.mk (show j = n + 2 - o by omega)
        clear hlt hj
        go_wp2
        go_ret
        refine ⟨u0, rfl, ?_, HBV.out, HGV.out, HAT.out⟩
        have := HSV.out
        rw [HJ.out] at this
        exact this
theorem gT_few (n : Nat) (h : n ≤ 7) : (gT n [] 1).length ≤ 100000 := by
  obtain rfl | rfl | rfl | rfl | rfl | rfl | rfl | rfl : n = 0 ∨ n = 1 ∨ n = 2 ∨ n = 3 ∨ n = 4 ∨ n = 5 ∨ n = 6 ∨ n = 7 := by omega
  all_goals decide +kernel
/-- All trees of at most seven nodes. -/
def impl_AllTrees.f (k : Nat) (a0 : Int) : Option (List (List Int) × Bool) := if 1 ≤ a0 ∧ a0 ≤ 7 then some (gT a0.toNat [] 1, true) else some ([], false)
theorem impl_AllTrees.mono : ∀ a0 k, LeO (impl_AllTrees.f k a0) (impl_AllTrees.f (k + 1) a0) := fun _ _ => LeO.refl _
set_option maxRecDepth 100000 in
set_option maxHeartbeats 8000000 in
theorem impl_AllTrees.calls (k : Nat) (a0 : Int) (r1 : List (List Int)) (r2 : Bool) (w : World) (h : impl_AllTrees.f k a0 = some (r1, r2)) :
    Calls Try.prog 8 #[.int .i64 a0] w fun e w' => ∃ v0_ : Value, e = .returned (.tuple #[v0_, .bool r2]) ∧ Kd.S (Kd.slice 3 (Kd.int .i64)) 43 w' w.heap.size (fun _ => True) v0_ r1 ∧ Below w.heap.size w w' := by
  have hnot : ∀ (x : Bool) (w : World), (Op.unary .not (.bool x)).run Try.prog w = .ok (.bool (!x)) w := fun _ _ => rfl
  unfold impl_AllTrees.f at h
  by_cases c : 1 ≤ a0 ∧ a0 ≤ 7
  · rw [if_pos c] at h
    cases h
    obtain ⟨n, rfl⟩ : ∃ n : Nat, a0 = n := ⟨a0.toNat, by omega⟩
    have hn : n ≤ 7 := by omega
    have hb : (decide ((1 : Int) ≤ (n : Int)) && decide ((n : Int) ≤ 7)) = true := by simp; omega
    have hg := grow_run n hn 1 [] [] w w.heap.size (.slice none 0 0) (.slice none 0 0) (by omega) (by omega) (by simp) (Nat.le_refl _) (by have := gT_few n hn; simpa using this) (Kd.S_nil _ _ _ _ _) (Kd.R_nil _ _ _ _ _)
    clear c
    go_enter Try.func8, Try.ntmps8
    go_wp2_with (first | (go_at_call 14; refine (inB _ _ _ _).mono ?_; rintro e w1 ⟨rfl, rfl⟩) | (go_at_call 19; refine hg.mono ?_; rintro e w2 ⟨v2, rfl, hS, hB, _, _⟩))
    go_ret2
    rw [Int.toNat_natCast]
    exact ⟨v2, rfl, by simpa using hS, hB⟩
  · rw [if_neg c] at h
    cases h
    have hb : (decide ((1 : Int) ≤ a0) && decide (a0 ≤ 7)) = false := by
      rw [Bool.and_eq_false_iff, decide_eq_false_iff_not, decide_eq_false_iff_not]; omega
    clear c
    go_enter Try.func8, Try.ntmps8
    go_wp2_with (go_at_call 14; refine (inB _ _ _ _).mono ?_; rintro e w1 ⟨rfl, rfl⟩)
    go_ret2
    exact ⟨_, rfl, Kd.S_nil _ _ _ _ _, Below.refl _ _⟩


/-! ### spec_DrawCountCubes: function 9 -/
def spec_DrawCountCubes.f (l0 : List Int) : Option (Int × Int × Int) := (spec_l1Cur_among.f l0 0 0 (([0, 1, 2, 3, 4, 5] : List Int))).bind fun bt160 => ((spec_l1Cur_among.f l0 bt160.2.1 bt160.2.2 (([0, 1, 2, 3, 4, (-1)] : List Int))).bind fun bt166 => ((spec_l1Cur_among.f l0 bt166.2.1 bt166.2.2 (([0, 1, 2, 3, 4, 2] : List Int))).bind fun bt172 => (some (bt160.1, bt166.1, bt172.1))))
set_option maxHeartbeats 8000000 in
set_option maxRecDepth 100000 in
theorem spec_DrawCountCubes.calls (A0 : Option Addr) (c0 : Nat) (l0 : List Int) (r1 : Int) (r2 : Int) (r3 : Int) (w : World) (hr0 : Kd.C (Kd.int .u8) w A0 l0.length l0) (hc0 : l0.length ≤ c0) (h : spec_DrawCountCubes.f l0 = some (r1, r2, r3)) :
    Calls Try.prog 9 #[.slice A0 l0.length c0] w fun e w' => e = .returned (.tuple #[.int .i64 r1, .int .i64 r2, .int .i64 r3]) ∧ Below w.heap.size w w' := by
  have hu41 := Try.underlying41
  have HR0 := Aside0.mk hr0
  have HC0 := Aside0.mk hc0
  clear hr0 hc0
  have HB := Aside0.mk (Below.refl w.heap.size w)
  have H : ((spec_l1Cur_among.f l0 0 0 (([0, 1, 2, 3, 4, 5] : List Int))).bind fun bt160 => ((spec_l1Cur_among.f l0 bt160.2.1 bt160.2.2 (([0, 1, 2, 3, 4, (-1)] : List Int))).bind fun bt166 => ((spec_l1Cur_among.f l0 bt166.2.1 bt166.2.2 (([0, 1, 2, 3, 4, 2] : List Int))).bind fun bt172 => (some (bt160.1, bt166.1, bt172.1))))) = some (r1, r2, r3) := h
  clear h
  obtain ⟨y157, hy157⟩ : ∃ y_ : List Int, y_ = (([0, 1, 2, 3, 4, 5] : List Int)) := ⟨_, rfl⟩
  replace H : ((spec_l1Cur_among.f l0 0 0 y157).bind fun bt160 => ((spec_l1Cur_among.f l0 bt160.2.1 bt160.2.2 (([0, 1, 2, 3, 4, (-1)] : List Int))).bind fun bt166 => ((spec_l1Cur_among.f l0 bt166.2.1 bt166.2.2 (([0, 1, 2, 3, 4, 2] : List Int))).bind fun bt172 => (some (bt160.1, bt166.1, bt172.1))))) = some (r1, r2, r3) := by first | (rw [hy157]; with_reducible exact H) | (have H2_ := (Option.bind_some _ _).symm.trans H; rw [hy157]; with_reducible exact H2_) | (have H2_ := (Option.bind_some _ _).symm.trans H; with_reducible exact H2_) | with_reducible exact H | (rw [hy157]; exact H) | exact H
  have Ny157 := Aside0.mk hy157
  clear hy157
  replace H := Option.bind_eq_some_iff.mp H
  obtain ⟨⟨t160, t161, t162⟩, A20, H⟩ := H
  replace H : ((spec_l1Cur_among.f l0 t161 t162 (([0, 1, 2, 3, 4, (-1)] : List Int))).bind fun bt166 => ((spec_l1Cur_among.f l0 bt166.2.1 bt166.2.2 (([0, 1, 2, 3, 4, 2] : List Int))).bind fun bt172 => (some (t160, bt166.1, bt172.1)))) = some (r1, r2, r3) := H
  have A2 := Aside0.mk A20
  clear A20
  obtain ⟨y163, hy163⟩ : ∃ y_ : List Int, y_ = (([0, 1, 2, 3, 4, (-1)] : List Int)) := ⟨_, rfl⟩
  replace H : ((spec_l1Cur_among.f l0 t161 t162 y163).bind fun bt166 => ((spec_l1Cur_among.f l0 bt166.2.1 bt166.2.2 (([0, 1, 2, 3, 4, 2] : List Int))).bind fun bt172 => (some (t160, bt166.1, bt172.1)))) = some (r1, r2, r3) := by first | (rw [hy163]; with_reducible exact H) | (have H2_ := (Option.bind_some _ _).symm.trans H; rw [hy163]; with_reducible exact H2_) | (have H2_ := (Option.bind_some _ _).symm.trans H; with_reducible exact H2_) | with_reducible exact H | (rw [hy163]; exact H) | exact H
  have Ny163 := Aside0.mk hy163
  clear hy163
  replace H := Option.bind_eq_some_iff.mp H
  obtain ⟨⟨t166, t167, t168⟩, A30, H⟩ := H
  replace H : ((spec_l1Cur_among.f l0 t167 t168 (([0, 1, 2, 3, 4, 2] : List Int))).bind fun bt172 => (some (t160, t166, bt172.1))) = some (r1, r2, r3) := H
  have A3 := Aside0.mk A30
  clear A30
  obtain ⟨y169, hy169⟩ : ∃ y_ : List Int, y_ = (([0, 1, 2, 3, 4, 2] : List Int)) := ⟨_, rfl⟩
  replace H : ((spec_l1Cur_among.f l0 t167 t168 y169).bind fun bt172 => (some (t160, t166, bt172.1))) = some (r1, r2, r3) := by first | (rw [hy169]; with_reducible exact H) | (have H2_ := (Option.bind_some _ _).symm.trans H; rw [hy169]; with_reducible exact H2_) | (have H2_ := (Option.bind_some _ _).symm.trans H; with_reducible exact H2_) | with_reducible exact H | (rw [hy169]; exact H) | exact H
  have Ny169 := Aside0.mk hy169
  clear hy169
  replace H := Option.bind_eq_some_iff.mp H
  obtain ⟨⟨t172, t173, t174⟩, A40, H⟩ := H
  replace H : (some (t160, t166, t172)) = some (r1, r2, r3) := H
  have A4 := Aside0.mk A40
  clear A40
  simp only [Option.some.injEq, Prod.mk.injEq] at H
  obtain ⟨rfl, rfl, rfl⟩ := H
  go_enter Try.func9, Try.ntmps9
  go_wp2_with (first | ((with_reducible refine gate_dst (N := 8) rfl ?_); refine box_event ?hg (N := 8) ?hd (cs := #[.slice A0 l0.length c0, .int .i64 0, .int .u64 0]) (t := 41) ?hr ?_; (case hd => rfl); (case hg => rfl); (case hr => first | (go_simp; done) | (go_simp; rfl)); intro gb156 hg w5 hbox hb; have n0_ := Aside0.mk (below_step (by repeat (first | (with_reducible first | exact HB.out | apply below_alloc | apply pw_below_drewN | apply below_drew1) | exact HB.out)) hb); have n1_ := Aside0.mk ((by rw [hg]; exact (below_size (by repeat (first | (with_reducible first | exact HB.out | apply below_alloc | apply pw_below_drewN | apply below_drew1) | exact HB.out))) : w.heap.size ≤ gb156)); have n2_ := Aside0.mk ((by rw [hg]; exact (below_size (by repeat (first | (with_reducible first | exact HB.out | apply below_alloc | apply pw_below_drewN | apply below_drew1) | exact HB.out))) : w.heap.size ≤ gb156)); have n3_ := Aside0.mk ((⟨_, _, hbox, (by rw [hg]; exact (below_size (by repeat (first | (with_reducible first | exact HB.out | apply below_alloc | apply pw_below_drewN | apply below_drew1) | exact HB.out))) : w.heap.size ≤ gb156), HR0.out⟩ : IsS41 w w5 gb156 l0 0 0)); clear HB; have HB := n0_; have GW156 := n1_; have GE156 := n2_; have HI156 := n3_; clear n0_ n1_ n2_ n3_; clear hb hbox hg) | ((with_reducible refine gate_dst (N := 10) rfl ?_); refine Kd.R_lit (Kd.int .i64) _ 3 ?hg (N := 10) ?hd (xs := ([0, 1, 2, 3, 4, 5] : List Int)) (inner := [.int .i64 0, .int .i64 1, .int .i64 2, .int .i64 3, .int .i64 4, .int .i64 5]) (ok := fun _ => True) (okp := fun _ => True) ?hr ?hp (fun _ hk => hk) trivial (Below.refl _ _) (Nat.le_refl _) (by simp) ?_; (case hd => rfl); (case hg => rfl); (case hr => first | (go_simp; done) | (go_simp; rfl)); (case hp => exact (Reps.one (show Kd.M (Kd.int .i64) _ _ _ 0 [.int .i64 0] from rfl) (Reps.one (show Kd.M (Kd.int .i64) _ _ _ 1 [.int .i64 1] from rfl) (Reps.one (show Kd.M (Kd.int .i64) _ _ _ 2 [.int .i64 2] from rfl) (Reps.one (show Kd.M (Kd.int .i64) _ _ _ 3 [.int .i64 3] from rfl) (Reps.one (show Kd.M (Kd.int .i64) _ _ _ 4 [.int .i64 4] from rfl) (Reps.one (show Kd.M (Kd.int .i64) _ _ _ 5 [.int .i64 5] from rfl) (Reps.none _ _)))))))); intro v158 w6 ho7 hb hg_ hnew_; clear hg_ hnew_; (first | rw [← Ny157.out] at ho7 | (simp only [Int.reduceToNat] at ho7; rw [← Ny157.out] at ho7)); have n0_ := Aside0.mk (Kd.R_lower ho7 (below_size (by repeat (first | (with_reducible first | exact HB.out | apply below_alloc | apply pw_below_drewN | apply below_drew1 | refine below_set ?_ (IsS41.ge HI156.out)) | exact HB.out)))); have n1_ := Aside0.mk (IsS41.below (by repeat (first | (with_reducible first | exact HI156.out | apply IsS41.alloc | apply IsS41.drewN | apply IsS41.drew | apply IsS41.set_1 | apply IsS41.set_2) | exact HI156.out)) hb); have n2_ := Aside0.mk (below_step (by repeat (first | (with_reducible first | exact HB.out | apply below_alloc | apply pw_below_drewN | apply below_drew1 | refine below_set ?_ (IsS41.ge HI156.out)) | exact HB.out)) hb); clear HI156; clear HB; have HO159 := n0_; have HI156 := n1_; have HB := n2_; clear n0_ n1_ n2_; clear hb ho7; obtain ⟨Ao8, co8, eo8⟩ := Kd.R_slice HO159.out; subst eo8) | ((with_reducible refine gate_callee (f := 13) rfl ?_); refine goesL_ (some 11) rfl rfl Try.func13 (by kernel_rfl) rfl #[.pointer (some ⟨gb156, 0, none⟩), .slice Ao8 y157.length co8] rfl (by (try simp only [List.map_toArray, List.map_cons, List.map_nil]); first | done | rfl | (simp only [List.length_drop, List.length_take]; rfl)) ?_; (with_reducible refine (spec_l1Cur_among.calls gb156 l0 0 0 _ _ y157 t160 t161 t162 w _ ?side1 ?side2 ?side3 ?side4 ?side5 A2.out).mono ?_); (case side1 => repeat (first | (with_reducible first | exact HI156.out | apply IsS41.alloc | apply IsS41.drewN | apply IsS41.drew | apply IsS41.set_1 | apply IsS41.set_2) | exact HI156.out)); (case side2 => repeat (first | (with_reducible first | exact HB.out | apply below_alloc | apply pw_below_drewN | apply below_drew1 | refine below_set ?_ (IsS41.ge HI156.out)) | exact HB.out)); (case side3 => repeat (first | exact (Kd.R_reads' HO159.out).2.2 | (with_reducible refine Kd.C_alloc ?_ _) | (with_reducible refine Kd.C_drewN ?_ _) | (with_reducible refine Kd.C_drew ?_))); (case side4 => exact (Kd.R_reads' HO159.out).2.1); (case side5 => exact far_slice (IsS41.own_ne HI156.out HO159.out (by decide))); rintro e w9 ⟨rfl, hi, hb, hk⟩; refine ⟨_, rfl, ?_⟩; have n0_ := Aside0.mk (Kd.R_mono (Kd.R_keep (IsS41.apart (show IsS41 w _ gb156 l0 0 0 from by repeat (first | (with_reducible first | exact HI156.out | apply IsS41.alloc | apply IsS41.drewN | apply IsS41.drew | apply IsS41.set_1 | apply IsS41.set_2) | exact HI156.out)) (by (with_reducible repeat (first | apply Kd.R_alloc | apply Kd.R_drewN | apply Kd.R_drew)); exact HO159.out) (by decide)) hk (fun _ h => h.2)) (fun _ h => h.1)); have n1_ := Aside0.mk (hb); have n2_ := Aside0.mk (hi); clear HO159; clear HB; clear HI156; have HO159 := n0_; have HB := n1_; have HI156 := n2_; clear n0_ n1_ n2_; (try clear hb); (try clear hb2); (try clear hk); (try clear hi)) | ((with_reducible refine gate_dst (N := 13) rfl ?_); refine Kd.R_lit (Kd.int .i64) _ 3 ?hg (N := 13) ?hd (xs := ([0, 1, 2, 3, 4, (-1)] : List Int)) (inner := [.int .i64 0, .int .i64 1, .int .i64 2, .int .i64 3, .int .i64 4, .int .i64 (-1)]) (ok := fun _ => True) (okp := fun _ => True) ?hr ?hp (fun _ hk => hk) trivial (Below.refl _ _) (Nat.le_refl _) (by simp) ?_; (case hd => rfl); (case hg => rfl); (case hr => first | (go_simp; done) | (go_simp; rfl)); (case hp => exact (Reps.one (show Kd.M (Kd.int .i64) _ _ _ 0 [.int .i64 0] from rfl) (Reps.one (show Kd.M (Kd.int .i64) _ _ _ 1 [.int .i64 1] from rfl) (Reps.one (show Kd.M (Kd.int .i64) _ _ _ 2 [.int .i64 2] from rfl) (Reps.one (show Kd.M (Kd.int .i64) _ _ _ 3 [.int .i64 3] from rfl) (Reps.one (show Kd.M (Kd.int .i64) _ _ _ 4 [.int .i64 4] from rfl) (Reps.one (show Kd.M (Kd.int .i64) _ _ _ (-1) [.int .i64 (-1)] from rfl) (Reps.none _ _)))))))); intro v164 w10 ho11 hb hg_ hnew_; clear hg_ hnew_; (first | rw [← Ny163.out] at ho11 | (simp only [Int.reduceToNat] at ho11; rw [← Ny163.out] at ho11)); have n0_ := Aside0.mk (Kd.R_elder' (by (with_reducible repeat (first | apply Kd.R_alloc | apply Kd.R_drewN | apply Kd.R_drew)); exact HO159.out) (Kd.R_base ho11) hb); have n1_ := Aside0.mk (Kd.R_lower (Kd.R_new' ho11 (Kd.R_lt (by (with_reducible repeat (first | apply Kd.R_alloc | apply Kd.R_drewN | apply Kd.R_drew)); exact HO159.out))) (below_size (by repeat (first | (with_reducible first | exact HB.out | apply below_alloc | apply pw_below_drewN | apply below_drew1 | refine below_set ?_ (IsS41.ge HI156.out)) | exact HB.out)))); have n2_ := Aside0.mk (IsS41.below (by repeat (first | (with_reducible first | exact HI156.out | apply IsS41.alloc | apply IsS41.drewN | apply IsS41.drew | apply IsS41.set_1 | apply IsS41.set_2) | exact HI156.out)) hb); have n3_ := Aside0.mk (below_step (by repeat (first | (with_reducible first | exact HB.out | apply below_alloc | apply pw_below_drewN | apply below_drew1 | refine below_set ?_ (IsS41.ge HI156.out)) | exact HB.out)) hb); clear HO159; clear HI156; clear HB; have HO159 := n0_; have HO165 := n1_; have HI156 := n2_; have HB := n3_; clear n0_ n1_ n2_ n3_; clear hb ho11; obtain ⟨Ao12, co12, eo12⟩ := Kd.R_slice HO165.out; subst eo12) | ((with_reducible refine gate_callee (f := 13) rfl ?_); refine goesL_ (some 14) rfl rfl Try.func13 (by kernel_rfl) rfl #[.pointer (some ⟨gb156, 0, none⟩), .slice Ao12 y163.length co12] rfl (by (try simp only [List.map_toArray, List.map_cons, List.map_nil]); first | done | rfl | (simp only [List.length_drop, List.length_take]; rfl)) ?_; (with_reducible refine (spec_l1Cur_among.calls gb156 l0 t161 t162 _ _ y163 t166 t167 t168 w _ ?side1 ?side2 ?side3 ?side4 ?side5 A3.out).mono ?_); (case side1 => repeat (first | (with_reducible first | exact HI156.out | apply IsS41.alloc | apply IsS41.drewN | apply IsS41.drew | apply IsS41.set_1 | apply IsS41.set_2) | exact HI156.out)); (case side2 => repeat (first | (with_reducible first | exact HB.out | apply below_alloc | apply pw_below_drewN | apply below_drew1 | refine below_set ?_ (IsS41.ge HI156.out)) | exact HB.out)); (case side3 => repeat (first | exact (Kd.R_reads' HO165.out).2.2 | (with_reducible refine Kd.C_alloc ?_ _) | (with_reducible refine Kd.C_drewN ?_ _) | (with_reducible refine Kd.C_drew ?_))); (case side4 => exact (Kd.R_reads' HO165.out).2.1); (case side5 => exact far_slice (IsS41.own_ne HI156.out HO165.out (by decide))); rintro e w13 ⟨rfl, hi, hb, hk⟩; refine ⟨_, rfl, ?_⟩; have n0_ := Aside0.mk (Kd.R_mono (Kd.R_keep (IsS41.apart (show IsS41 w _ gb156 l0 t161 t162 from by repeat (first | (with_reducible first | exact HI156.out | apply IsS41.alloc | apply IsS41.drewN | apply IsS41.drew | apply IsS41.set_1 | apply IsS41.set_2) | exact HI156.out)) (by (with_reducible repeat (first | apply Kd.R_alloc | apply Kd.R_drewN | apply Kd.R_drew)); exact HO159.out) (by decide)) hk (fun _ h => h.2)) (fun _ h => h.1)); have n1_ := Aside0.mk (Kd.R_mono (Kd.R_keep (IsS41.apart (show IsS41 w _ gb156 l0 t161 t162 from by repeat (first | (with_reducible first | exact HI156.out | apply IsS41.alloc | apply IsS41.drewN | apply IsS41.drew | apply IsS41.set_1 | apply IsS41.set_2) | exact HI156.out)) (by (with_reducible repeat (first | apply Kd.R_alloc | apply Kd.R_drewN | apply Kd.R_drew)); exact HO165.out) (by decide)) hk (fun _ h => h.2)) (fun _ h => h.1)); have n2_ := Aside0.mk (hb); have n3_ := Aside0.mk (hi); clear HO159; clear HO165; clear HB; clear HI156; have HO159 := n0_; have HO165 := n1_; have HB := n2_; have HI156 := n3_; clear n0_ n1_ n2_ n3_; (try clear hb); (try clear hb2); (try clear hk); (try clear hi)) | ((with_reducible refine gate_dst (N := 16) rfl ?_); refine Kd.R_lit (Kd.int .i64) _ 3 ?hg (N := 16) ?hd (xs := ([0, 1, 2, 3, 4, 2] : List Int)) (inner := [.int .i64 0, .int .i64 1, .int .i64 2, .int .i64 3, .int .i64 4, .int .i64 2]) (ok := fun _ => True) (okp := fun _ => True) ?hr ?hp (fun _ hk => hk) trivial (Below.refl _ _) (Nat.le_refl _) (by simp) ?_; (case hd => rfl); (case hg => rfl); (case hr => first | (go_simp; done) | (go_simp; rfl)); (case hp => exact (Reps.one (show Kd.M (Kd.int .i64) _ _ _ 0 [.int .i64 0] from rfl) (Reps.one (show Kd.M (Kd.int .i64) _ _ _ 1 [.int .i64 1] from rfl) (Reps.one (show Kd.M (Kd.int .i64) _ _ _ 2 [.int .i64 2] from rfl) (Reps.one (show Kd.M (Kd.int .i64) _ _ _ 3 [.int .i64 3] from rfl) (Reps.one (show Kd.M (Kd.int .i64) _ _ _ 4 [.int .i64 4] from rfl) (Reps.one (show Kd.M (Kd.int .i64) _ _ _ 2 [.int .i64 2] from rfl) (Reps.none _ _)))))))); intro v170 w14 ho15 hb hg_ hnew_; clear hg_ hnew_; (first | rw [← Ny169.out] at ho15 | (simp only [Int.reduceToNat] at ho15; rw [← Ny169.out] at ho15)); have n0_ := Aside0.mk (Kd.R_elder' (by (with_reducible repeat (first | apply Kd.R_alloc | apply Kd.R_drewN | apply Kd.R_drew)); exact HO159.out) (Kd.R_base ho15) hb); have n1_ := Aside0.mk (Kd.R_elder' (by (with_reducible repeat (first | apply Kd.R_alloc | apply Kd.R_drewN | apply Kd.R_drew)); exact HO165.out) (Kd.R_base ho15) hb); have n2_ := Aside0.mk (Kd.R_lower (Kd.R_new' (Kd.R_new' ho15 (Kd.R_lt (by (with_reducible repeat (first | apply Kd.R_alloc | apply Kd.R_drewN | apply Kd.R_drew)); exact HO159.out))) (Kd.R_lt (by (with_reducible repeat (first | apply Kd.R_alloc | apply Kd.R_drewN | apply Kd.R_drew)); exact HO165.out))) (below_size (by repeat (first | (with_reducible first | exact HB.out | apply below_alloc | apply pw_below_drewN | apply below_drew1 | refine below_set ?_ (IsS41.ge HI156.out)) | exact HB.out)))); have n3_ := Aside0.mk (IsS41.below (by repeat (first | (with_reducible first | exact HI156.out | apply IsS41.alloc | apply IsS41.drewN | apply IsS41.drew | apply IsS41.set_1 | apply IsS41.set_2) | exact HI156.out)) hb); have n4_ := Aside0.mk (below_step (by repeat (first | (with_reducible first | exact HB.out | apply below_alloc | apply pw_below_drewN | apply below_drew1 | refine below_set ?_ (IsS41.ge HI156.out)) | exact HB.out)) hb); clear HO159; clear HO165; clear HI156; clear HB; have HO159 := n0_; have HO165 := n1_; have HO171 := n2_; have HI156 := n3_; have HB := n4_; clear n0_ n1_ n2_ n3_ n4_; clear hb ho15; obtain ⟨Ao16, co16, eo16⟩ := Kd.R_slice HO171.out; subst eo16) | ((with_reducible refine gate_callee (f := 13) rfl ?_); refine goesL_ (some 17) rfl rfl Try.func13 (by kernel_rfl) rfl #[.pointer (some ⟨gb156, 0, none⟩), .slice Ao16 y169.length co16] rfl (by (try simp only [List.map_toArray, List.map_cons, List.map_nil]); first | done | rfl | (simp only [List.length_drop, List.length_take]; rfl)) ?_; (with_reducible refine (spec_l1Cur_among.calls gb156 l0 t167 t168 _ _ y169 t172 t173 t174 w _ ?side1 ?side2 ?side3 ?side4 ?side5 A4.out).mono ?_); (case side1 => repeat (first | (with_reducible first | exact HI156.out | apply IsS41.alloc | apply IsS41.drewN | apply IsS41.drew | apply IsS41.set_1 | apply IsS41.set_2) | exact HI156.out)); (case side2 => repeat (first | (with_reducible first | exact HB.out | apply below_alloc | apply pw_below_drewN | apply below_drew1 | refine below_set ?_ (IsS41.ge HI156.out)) | exact HB.out)); (case side3 => repeat (first | exact (Kd.R_reads' HO171.out).2.2 | (with_reducible refine Kd.C_alloc ?_ _) | (with_reducible refine Kd.C_drewN ?_ _) | (with_reducible refine Kd.C_drew ?_))); (case side4 => exact (Kd.R_reads' HO171.out).2.1); (case side5 => exact far_slice (IsS41.own_ne HI156.out HO171.out (by decide))); rintro e w17 ⟨rfl, hi, hb, hk⟩; refine ⟨_, rfl, ?_⟩; have n0_ := Aside0.mk (Kd.R_mono (Kd.R_keep (IsS41.apart (show IsS41 w _ gb156 l0 t167 t168 from by repeat (first | (with_reducible first | exact HI156.out | apply IsS41.alloc | apply IsS41.drewN | apply IsS41.drew | apply IsS41.set_1 | apply IsS41.set_2) | exact HI156.out)) (by (with_reducible repeat (first | apply Kd.R_alloc | apply Kd.R_drewN | apply Kd.R_drew)); exact HO159.out) (by decide)) hk (fun _ h => h.2)) (fun _ h => h.1)); have n1_ := Aside0.mk (Kd.R_mono (Kd.R_keep (IsS41.apart (show IsS41 w _ gb156 l0 t167 t168 from by repeat (first | (with_reducible first | exact HI156.out | apply IsS41.alloc | apply IsS41.drewN | apply IsS41.drew | apply IsS41.set_1 | apply IsS41.set_2) | exact HI156.out)) (by (with_reducible repeat (first | apply Kd.R_alloc | apply Kd.R_drewN | apply Kd.R_drew)); exact HO165.out) (by decide)) hk (fun _ h => h.2)) (fun _ h => h.1)); have n2_ := Aside0.mk (Kd.R_mono (Kd.R_keep (IsS41.apart (show IsS41 w _ gb156 l0 t167 t168 from by repeat (first | (with_reducible first | exact HI156.out | apply IsS41.alloc | apply IsS41.drewN | apply IsS41.drew | apply IsS41.set_1 | apply IsS41.set_2) | exact HI156.out)) (by (with_reducible repeat (first | apply Kd.R_alloc | apply Kd.R_drewN | apply Kd.R_drew)); exact HO171.out) (by decide)) hk (fun _ h => h.2)) (fun _ h => h.1)); have n3_ := Aside0.mk (hb); have n4_ := Aside0.mk (hi); clear HO159; clear HO165; clear HO171; clear HB; clear HI156; have HO159 := n0_; have HO165 := n1_; have HO171 := n2_; have HB := n3_; have HI156 := n4_; clear n0_ n1_ n2_ n3_ n4_; (try clear hb); (try clear hb2); (try clear hk); (try clear hi)))
  go_ret3
  exact ⟨by first | rfl | (simp [errW_none, errW_some] <;> rfl) | (simp [*, errW_none, errW_some] <;> rfl), by repeat (first | (with_reducible first | exact HB.out | apply below_alloc | apply pw_below_drewN | apply below_drew1 | refine below_set ?_ (IsS41.ge HI156.out)) | exact HB.out)⟩

end Go.Proofs.Ytpkghkohjnagjaa.OFnFansAndCubes
