/- The functions that 'FnExactLevelsOf' runs, each as a function over numbers and lists, with the proof that the Go text comes to its answers. No condition. -/
import Derived.Test.YtgoiohlmifgncaaOFnExactLevelsOfx4h
namespace Go.Proofs.Ytgoiohlmifgncaa.OFnExactLevelsOf
open Go.Proofs.Ytgoiohlmifgncaa.Stub
open Go.RowKit Go.Proofs.YtgoiohlmifgncaaW.PrintWords Go.Proofs.YtgoiohlmifgncaaW.PrintLast Go.Proofs.YtgoiohlmifgncaaW.PrintMore
attribute [local go_sem] max2_int min2_int max_two min_two max_three min_three max_four min_four   -- for this text's walks alone
set_option linter.unusedVariables false
set_option linter.unusedSimpArgs false
set_option maxHeartbeats 8000000 in
set_option maxRecDepth 100000 in
theorem spec_LevelsOf.calls (k : Nat) (A0 : Option Addr) (c0 : Nat) (l0 : List Int) (r1 : List Int) (r2 : List Int) (r3 : Bool) (w : World) (hr0 : Kd.C (Kd.int .i64) w A0 l0.length l0) (hc0 : l0.length ≤ c0) (h : spec_LevelsOf.f k l0 = some (r1, r2, r3)) :
  Calls Try.prog 4 #[.slice A0 l0.length c0] w fun e w' => ∃ v0_ v1_ : Value, e = .returned (.tuple #[.agg #[v0_, v1_], .bool r3]) ∧ Kd.R (Kd.int .i64) 3 w' w.heap.size (fun k_ => some k_ ≠ (v1_ : Value).ownBlock) v0_ r1 ∧ Kd.R (Kd.int .i64) 3 w' w.heap.size (fun k_ => some k_ ≠ (v0_ : Value).ownBlock) v1_ r2 ∧ Below w.heap.size w w' := by
 have hu24 := Try.underlying24
 have HR0 := Aa4q hr0
 have HC0 := Aa4q hc0
 clear hr0 hc0
 have HB := Aa4q (Below.refl w.heap.size w)
 have H : ((spec_kiGood.f k l0).bind fun t142 => (if t142 = true then (if ((l0.length : Int) % 2) = 1 then (spec_LevelsOf.j0 k l0 true) else (if 0 < (l0.length : Int) then (spec_LevelsOf.j0 k l0 ((rd l0 0) != 1)) else (none))) else (spec_LevelsOf.j0 k l0 true))) = some (r1, r2, r3) := h
 clear h
 have HC2 := Aa4q H
 clear H
 go_enter Try.func4, Try.ntmps4
 go_upto_region 1 with (first | ((with_reducible refine gate_dst (N := 2) rfl ?_); (try (refine gate_guard (by rfl) ?_; dsimp only)); refine box_event ?hg (N := 2) ?hd (cs := #[.slice none 0 0, .slice none 0 0]) (t := 24) ?hr ?_; (case hd => rfl); (case hg => rfl); (case hr => first | (go_simp; done) | (go_simp; rfl)); intro g141 hg w3 hbox hb; have BK141 := Aa4q (hbox); have GW141 := sb4 Hb4 hg; have GE141 := sb4 Hb4 hg; replace HB := tb4 Hb4 hb; clear hb hbox hg))
 (try simp only [Act.put, y1a4, y2a4, y3a4])
 go_cut [24] (fun v24 wc => ∃ (kq : Nat) (x24_1 : Bool), v24 = .bool x24_1 ∧ Aside0 (spec_LevelsOf.j0 kq l0 x24_1 = some (r1, r2, r3)) ∧ Aside0 (kq ≤ k) ∧ Aside0 (wc.heap[g141]? = some (.cells #[(.slice none 0 0), (.slice none 0 0)] 24 (0, 0))) ∧ Aside0 (Below w.heap.size w wc))
 case first =>
  have H := HC2.out
  clear HC2
  replace H := Option.bind_eq_some_iff.mp H
  obtain ⟨t142, A40, H⟩ := H
  replace H : (if t142 = true then (if ((l0.length : Int) % 2) = 1 then (spec_LevelsOf.j0 k l0 true) else (if 0 < (l0.length : Int) then (spec_LevelsOf.j0 k l0 ((rd l0 0) != 1)) else (none))) else (spec_LevelsOf.j0 k l0 true)) = some (r1, r2, r3) := H
  have A4 := Aa4q A40
  clear A40
  by_cases c5 : t142 = true
  rotate_left
  ·
   replace c5 := Bool.eq_false_iff.mpr c5
   subst c5
   have H1 : (spec_LevelsOf.j0 k l0 true) = some (r1, r2, r3) := by rw [if_neg (show ¬ (false = true) by decide)] at H; exact H
   clear H
   have H := H1
   clear H1
   have H' := Aa4q H
   clear H
   go_wp2_with (first | ((with_reducible refine gate_callee (f := 12) rfl ?_); refine goesL_ (some 11) rfl rfl Try.func12 Za430 rfl #[.slice A0 l0.length c0] rfl Za420 ?_; (with_reducible refine (spec_kiGood.calls k _ _ l0 false _ ?side1 ?side2 A4.out).mono ?_); (case side1 => repeat (first | exact (Kd.C_below HR0.out HB.out) | (with_reducible refine Kd.C_alloc ?_ _) | (with_reducible refine Kd.C_drewN ?_ _) | (with_reducible refine Kd.C_drew ?_))); (case side2 => exact HC0.out); rintro e w' ⟨rfl, ⟨nd, rfl⟩⟩; refine ⟨_, rfl, ?_⟩))
   go_meet
   case rel => exact ⟨_, (true), Za428, H', ⟨by first | omega | exact Nat.le_refl _⟩, ⟨Ub4141⟩, ⟨Hb4⟩⟩
  subst c5
  have H1 : (if ((l0.length : Int) % 2) = 1 then (spec_LevelsOf.j0 k l0 true) else (if 0 < (l0.length : Int) then (spec_LevelsOf.j0 k l0 ((rd l0 0) != 1)) else (none))) = some (r1, r2, r3) := by rw [if_pos rfl] at H; exact H
  clear H
  have H := H1
  clear H1
  by_cases c6 : ((l0.length : Int) % 2) = 1
  ·
   rw [if_pos c6] at H
   have c6b0 : (((l0.length : Int) % 2) == 1) = true := beq_iff_eq.mpr c6
   have c6b1 : (((l0.length : Int) % 2) != 1) = false := bne_eq_false_iff_eq.mpr c6
   clear c6
   (first | rw [c6b0] | (simp only [i64_w, i32_w]; rw [c6b0]) | skip)
   have H' := Aa4q H
   clear H
   go_wp2_with (first | ((with_reducible refine gate_callee (f := 12) rfl ?_); refine goesL_ (some 11) rfl rfl Try.func12 Za430 rfl #[.slice A0 l0.length c0] rfl Za420 ?_; (with_reducible refine (spec_kiGood.calls k _ _ l0 true _ ?side1 ?side2 A4.out).mono ?_); (case side1 => repeat (first | exact (Kd.C_below HR0.out HB.out) | (with_reducible refine Kd.C_alloc ?_ _) | (with_reducible refine Kd.C_drewN ?_ _) | (with_reducible refine Kd.C_drew ?_))); (case side2 => exact HC0.out); rintro e w' ⟨rfl, ⟨nd, rfl⟩⟩; refine ⟨_, rfl, ?_⟩))
   go_meet
   case rel => exact ⟨_, (true), Za428, H', ⟨by first | omega | exact Nat.le_refl _⟩, ⟨Ub4141⟩, ⟨Hb4⟩⟩
  rw [if_neg c6] at H
  have c6b0 : (((l0.length : Int) % 2) == 1) = false := beq_eq_false_iff_ne.mpr c6
  have c6b1 : (((l0.length : Int) % 2) != 1) = true := bne_iff_ne.mpr c6
  (first | rw [c6b0] | (simp only [i64_w, i32_w]; rw [c6b0]) | skip)
  by_cases c7 : 0 < (l0.length : Int)
  rotate_left
  ·
   rw [if_neg c7] at H
   exact absurd H (by simp)
  rw [if_pos c7] at H
  have c7b0 : decide (0 < (l0.length : Int)) = true := decide_eq_true c7
  have c7b1 : decide (0 < l0.length) = true := decide_eq_true (by omega)
  clear c7
  have H' := Aa4q H
  clear H
  go_wp2_with (first | ((with_reducible refine gate_callee (f := 12) rfl ?_); refine goesL_ (some 11) rfl rfl Try.func12 Za430 rfl #[.slice A0 l0.length c0] rfl Za420 ?_; (with_reducible refine (spec_kiGood.calls k _ _ l0 true _ ?side1 ?side2 A4.out).mono ?_); (case side1 => repeat (first | exact (Kd.C_below HR0.out HB.out) | (with_reducible refine Kd.C_alloc ?_ _) | (with_reducible refine Kd.C_drewN ?_ _) | (with_reducible refine Kd.C_drew ?_))); (case side2 => exact HC0.out); rintro e w' ⟨rfl, ⟨nd, rfl⟩⟩; refine ⟨_, rfl, ?_⟩; have p143 : 0 ≤ (0 : Int) := (by omega); have q143 : 0 < (l0.length : Int) := of_decide_eq_true Za429; obtain ⟨ad143, e143, hx143_0⟩ := Kd.at_int HR0.out 0 p143 q143; cases e143; have qi143 : (0 < l0.length) = True := eq_true (by omega); (try rw [show ((0 : Int)).toNat = 0 from rfl] at hx143_0); (try rw [Addr.add_zero'] at hx143_0); replace hx143_0 := (HB.out.cell (World.block_lt_of_cell? w _ hx143_0)).trans hx143_0; replace p143 := eq_true p143; replace q143 := eq_true q143))
  go_meet
  case rel => exact ⟨_, (((rd l0 0) != 1)), Za428, H', ⟨by first | omega | exact Nat.le_refl _⟩, ⟨Ub4141⟩, ⟨Hb4⟩⟩
 clear HC2
 try clear c1
 try clear p1
 try clear q1
 try clear hx1
 try clear qi1
 try clear p2
 try clear c4
 try clear c5
 try clear c6
 try clear c6b0
 try clear c6b1
 try clear c7
 try clear c7b0
 try clear c7b1
 try clear hx143_0
 try clear p143
 try clear q143
 obtain ⟨kq, x24_1, rfl, HA, HJ1, BK141, HB⟩ := hcut
 obtain _ | kj1 := kq
 · exact absurd HA.out (by simp [spec_LevelsOf.j0])
 have H := HA.out
 clear HA
 simp only [spec_LevelsOf.j0] at H
 by_cases c8 : x24_1 = true
 ·
  subst c8
  have H1 : (some (([] : List Int), ([] : List Int), false)) = some (r1, r2, r3) := by rw [if_pos rfl] at H; exact H
  clear H
  have H := H1
  clear H1
  simp only [Option.some.injEq, Prod.mk.injEq] at H
  obtain ⟨rfl, rfl, rfl⟩ := H
  have hcz9_0 : wc.cell? ⟨g141, 0, none⟩ = some (.slice none 0 0) := (blk_cell BK141.out 0).trans rfl
  have hcz9_1 : wc.cell? ⟨g141, 1, none⟩ = some (.slice none 0 0) := (blk_cell BK141.out 1).trans rfl
  have hfz9_0 := blk_frozen BK141.out 0
  have hfz9_1 := blk_frozen BK141.out 1
  go_wp2
  refine bodyPost_ret (results_ct rfl _ _ g141 24 #[.slice none 0 0, .slice none 0 0] (0, 0) _ rfl Za41 Try.underlying24 rfl Za430) rfl ?_
  exact ⟨_, _, by first | rfl | (simp [errW_none, errW_some] <;> rfl) | (simp [*, errW_none, errW_some] <;> rfl), by first | exact Kd.R_nil _ _ _ _ _ | exact Kd.N_nil _ _ _ _ _ | exact Kd.V_nil _ _ _ _ _ | exact Kd.Q_nil _ _ _ _ _ | exact Kd.S_nil _ _ _ _ _, by first | exact Kd.R_nil _ _ _ _ _ | exact Kd.N_nil _ _ _ _ _ | exact Kd.V_nil _ _ _ _ _ | exact Kd.Q_nil _ _ _ _ _ | exact Kd.S_nil _ _ _ _ _, Hb4⟩
 replace c8 := Bool.eq_false_iff.mpr c8
 subst c8
 have H1 : (spec_LevelsOf.l0 kj1 l0 0 ([] : List Int) ([] : List Int)) = some (r1, r2, r3) := by rw [if_neg (show ¬ (false = true) by decide)] at H; exact H
 clear H
 have H := H1
 clear H1
 have H' := Aa4q H
 clear H
 go_wp2_with (first | ((with_reducible refine gate_dst (N := 4) rfl ?_); (try (refine gate_guard (by rfl) ?_; dsimp only)); refine box_event ?hg (N := 4) ?hd (cs := #[.slice none 0 0, .slice none 0 0]) (t := 24) ?hr ?_; (case hd => rfl); (case hg => rfl); (case hr => first | (go_simp; done) | (go_simp; rfl)); intro g144 hg w10 hbox hb; have BK144 := Aa4q (hbox); have GW144 := sb4 Hb4 hg; have GE144 := sb4 Hb4 hg; have NB141_144 := nb4 BK141 Ub4141 hg; have NB144_141 := mb4 BK141 Ub4141 hg; replace BK141 := bb4 BK141 Ub4141 hb; replace HB := tb4 Hb4 hb; clear hb hbox hg; have hcz12_0 : w10.cell? ⟨g144, 0, none⟩ = some (.slice none 0 0) := (blk_cell BK144.out 0).trans rfl; have hcz12_1 : w10.cell? ⟨g144, 1, none⟩ = some (.slice none 0 0) := (blk_cell BK144.out 1).trans rfl; have hfz12_0 := blk_frozen BK144.out 0; have hfz12_1 := blk_frozen BK144.out 1))
 go_loopg [5] kj1 (fun kq v5 w' => ∃ (x5_2 : Int) (xa_2 : List Int) (xb_2 : List Int) (ua : Value) (ub : Value), v5 = .int .i64 x5_2 ∧ Aside0 (spec_LevelsOf.l0 kq l0 x5_2 xa_2 xb_2 = some (r1, r2, r3)) ∧ Aside0 (kq ≤ kj1) ∧ Aside0 (Kd.R (Kd.int .i64) 3 w' w.heap.size (fun k_ => some k_ ≠ (ub : Value).ownBlock) ua xa_2) ∧ Aside0 (Kd.R (Kd.int .i64) 3 w' w.heap.size (fun k_ => some k_ ≠ (ua : Value).ownBlock) ub xb_2) ∧ Aside0 (w'.heap[g141]? = some (.cells #[(.slice none 0 0), (.slice none 0 0)] 24 (0, 0))) ∧ Aside0 (w'.heap[g144]? = some (.cells #[ua, ub] 24 (0, 0))) ∧ Aside0 (Below w.heap.size w w'))
 case atStart => exact ⟨(0), (([] : List Int)), (([] : List Int)), (.slice none 0 0), (.slice none 0 0), Za428, H', ⟨Nat.le_refl _⟩, ⟨Yq460⟩, ⟨Yq460⟩, ⟨Ub4141⟩, ⟨by (with_reducible repeat (first | refine blk_drewN ?_ _ | refine blk_drew ?_ | refine blk_alloc ?_ _)); refine blk_put (cs := #[.slice none 0 0, .slice none 0 0]) ?_ 1 _ rfl; (with_reducible repeat (first | refine blk_drewN ?_ _ | refine blk_drew ?_ | refine blk_alloc ?_ _)); refine blk_put (cs := #[.slice none 0 0, .slice none 0 0]) ?_ 0 _ rfl; (with_reducible repeat (first | refine blk_drewN ?_ _ | refine blk_drew ?_ | refine blk_alloc ?_ _)); exact BK144.out⟩, ⟨Hb4⟩⟩
 clear H'
 try clear c1
 try clear p1
 try clear q1
 try clear hx1
 try clear qi1
 try clear p2
 try clear c4
 try clear c5
 try clear c6
 try clear c6b0
 try clear c6b1
 try clear c7
 try clear c7b0
 try clear c7b1
 try clear c8
 try clear c11
 try clear c12
 try clear hcz12_0
 try clear hcz12_1
 try clear hcz9_0
 try clear hcz9_1
 try clear hfz12_0
 try clear hfz12_1
 try clear hfz9_0
 try clear hfz9_1
 try clear hx143_0
 try clear p1
 try clear p143
 try clear p2
 try clear q1
 try clear q143
 obtain ⟨x5_2, xa_2, xb_2, ua, ub, rfl, HA, HK2, P0, P1, BK141, BK144, HB⟩ := hrel
 obtain _ | k2 := gk
 · exact absurd HA.out (by simp [spec_LevelsOf.l0])
 have H := HA.out
 clear HA
 simp only [spec_LevelsOf.l0] at H
 by_cases c13 : (wrap64 (2 * x5_2)) < (l0.length : Int)
 rotate_left
 ·
  rw [if_neg c13] at H
  have c13b0 : decide ((wrap64 (2 * x5_2)) < (l0.length : Int)) = false := decide_eq_false c13
  clear c13
  simp only [Option.some.injEq, Prod.mk.injEq] at H
  obtain ⟨rfl, rfl, rfl⟩ := H
  have hcz105_0 : wr.cell? ⟨g144, 0, none⟩ = some (ua) := (blk_cell BK144.out 0).trans rfl
  have hcz105_1 : wr.cell? ⟨g144, 1, none⟩ = some (ub) := (blk_cell BK144.out 1).trans rfl
  have hfz105_0 := blk_frozen BK144.out 0
  have hfz105_1 := blk_frozen BK144.out 1
  obtain ⟨Ao106, co106, eo106⟩ := Kd.R_slice P0.out
  subst eo106
  have hcz107_0 : wr.cell? ⟨g141, 0, none⟩ = some (.slice none 0 0) := (blk_cell BK141.out 0).trans rfl
  have hcz107_1 : wr.cell? ⟨g141, 1, none⟩ = some (.slice none 0 0) := (blk_cell BK141.out 1).trans rfl
  have hfz107_0 := blk_frozen BK141.out 0
  have hfz107_1 := blk_frozen BK141.out 1
  obtain ⟨Ao108, co108, eo108⟩ := Kd.R_slice P1.out
  subst eo108
  go_wp2
  refine bodyPost_ret (results_ct rfl _ _ g141 24 #[.slice Ao106 xa_2.length co106, .slice Ao108 xb_2.length co108] (0, 0) _ rfl (by (with_reducible repeat (first | refine blk_drewN ?_ _ | refine blk_drew ?_ | refine blk_alloc ?_ _)); refine blk_put (cs := #[.slice Ao106 xa_2.length co106, .slice none 0 0]) ?_ 1 _ rfl; (with_reducible repeat (first | refine blk_drewN ?_ _ | refine blk_drew ?_ | refine blk_alloc ?_ _)); refine blk_put (cs := #[.slice none 0 0, .slice none 0 0]) ?_ 0 _ rfl; (with_reducible repeat (first | refine blk_drewN ?_ _ | refine blk_drew ?_ | refine blk_alloc ?_ _)); exact BK141.out) Try.underlying24 rfl Za430) rfl ?_
  exact ⟨_, _, by first | rfl | (simp [errW_none, errW_some] <;> rfl) | (simp [*, errW_none, errW_some] <;> rfl), by (with_reducible repeat (first | apply Kd.R_alloc | apply Kd.R_drewN | apply Kd.R_drew)); exact Kd.R_mono (Kd.R_far (p := ⟨g141, 1, none⟩) (Kd.R_far (p := ⟨g141, 0, none⟩) (Kd.R_types P0.out BK141.out Za431) (fun _ hk => hk.2) (.slice Ao106 xa_2.length co106)) (fun _ hk => hk.2) (.slice Ao108 xb_2.length co108)) (fun _ hk => hk.1), by (with_reducible repeat (first | apply Kd.R_alloc | apply Kd.R_drewN | apply Kd.R_drew)); exact Kd.R_mono (Kd.R_far (p := ⟨g141, 1, none⟩) (Kd.R_far (p := ⟨g141, 0, none⟩) (Kd.R_types P1.out BK141.out Za431) (fun _ hk => hk.2) (.slice Ao106 xa_2.length co106)) (fun _ hk => hk.2) (.slice Ao108 xb_2.length co108)) (fun _ hk => hk.1), Hb4⟩
 rw [if_pos c13] at H
 have c13b0 : decide ((wrap64 (2 * x5_2)) < (l0.length : Int)) = true := decide_eq_true c13
 clear c13
 obtain ⟨y145, hy145⟩ : ∃ y_ : List Int, y_ = (([0] : List Int)) := ⟨_, rfl⟩
 replace H : (if xa_2.length + y145.length < 17592186044416 then ((some (([1] : List Int) : List Int)).bind fun y151 => (if xb_2.length + y151.length < 17592186044416 then (spec_LevelsOf.l1 k2 l0 x5_2 false (-5) (xa_2 ++ y145) (xb_2 ++ y151)) else (none))) else (none)) = some (r1, r2, r3) := by first | (rw [hy145]; with_reducible exact H) | (have H2_ := (Option.bind_some _ _).symm.trans H; rw [hy145]; with_reducible exact H2_) | (have H2_ := (Option.bind_some _ _).symm.trans H; with_reducible exact H2_) | with_reducible exact H | (rw [hy145]; exact H) | exact H
 have Ny145 := Aa4q hy145
 clear hy145
 by_cases c14 : xa_2.length + y145.length < 17592186044416
 rotate_left
 ·
  rw [if_neg c14] at H
  exact absurd H (by simp)
 rw [if_pos c14] at H
 have LMc14 := Aa4q c14
 clear c14
 obtain ⟨y148, hy148⟩ : ∃ y_ : List Int, y_ = (xa_2 ++ y145) := ⟨_, rfl⟩
 replace H : ((some (([1] : List Int) : List Int)).bind fun y151 => (if xb_2.length + y151.length < 17592186044416 then (spec_LevelsOf.l1 k2 l0 x5_2 false (-5) y148 (xb_2 ++ y151)) else (none))) = some (r1, r2, r3) := by first | (rw [hy148]; with_reducible exact H) | (have H2_ := (Option.bind_some _ _).symm.trans H; rw [hy148]; with_reducible exact H2_) | (have H2_ := (Option.bind_some _ _).symm.trans H; with_reducible exact H2_) | with_reducible exact H | (rw [hy148]; exact H) | exact H
 have Ny148 := Aa4q hy148
 clear hy148
 obtain ⟨y151, hy151⟩ : ∃ y_ : List Int, y_ = (([1] : List Int)) := ⟨_, rfl⟩
 replace H : (if xb_2.length + y151.length < 17592186044416 then (spec_LevelsOf.l1 k2 l0 x5_2 false (-5) y148 (xb_2 ++ y151)) else (none)) = some (r1, r2, r3) := by first | (rw [hy151]; with_reducible exact H) | (have H2_ := (Option.bind_some _ _).symm.trans H; rw [hy151]; with_reducible exact H2_) | (have H2_ := (Option.bind_some _ _).symm.trans H; with_reducible exact H2_) | with_reducible exact H | (rw [hy151]; exact H) | exact H
 have Ny151 := Aa4q hy151
 clear hy151
 by_cases c15 : xb_2.length + y151.length < 17592186044416
 rotate_left
 ·
  rw [if_neg c15] at H
  exact absurd H (by simp)
 rw [if_pos c15] at H
 have LMc15 := Aa4q c15
 clear c15
 obtain ⟨y154, hy154⟩ : ∃ y_ : List Int, y_ = (xb_2 ++ y151) := ⟨_, rfl⟩
 replace H : (spec_LevelsOf.l1 k2 l0 x5_2 false (-5) y148 y154) = some (r1, r2, r3) := by first | (rw [hy154]; with_reducible exact H) | (have H2_ := (Option.bind_some _ _).symm.trans H; rw [hy154]; with_reducible exact H2_) | (have H2_ := (Option.bind_some _ _).symm.trans H; with_reducible exact H2_) | with_reducible exact H | (rw [hy154]; exact H) | exact H
 have Ny154 := Aa4q hy154
 clear hy154
 have HC16 := Aa4q H
 clear H
 have hcz18_0 : wr.cell? ⟨g144, 0, none⟩ = some (ua) := (blk_cell BK144.out 0).trans rfl
 have hcz18_1 : wr.cell? ⟨g144, 1, none⟩ = some (ub) := (blk_cell BK144.out 1).trans rfl
 have hfz18_0 := blk_frozen BK144.out 0
 have hfz18_1 := blk_frozen BK144.out 1
 go_upto_block 2 with (first | ((with_reducible refine gate_dst (N := 36) rfl ?_); (try (refine gate_guard (by rfl) ?_; dsimp only)); refine Kd.R_lit (Kd.int .i64) _ 3 ?hg (N := 36) ?hd (xs := ([0] : List Int)) (inner := [.int .i64 0]) (ok := fun _ => True) (okp := fun _ => True) ?hr ?hp (fun _ hk => hk) trivial (Below.refl _ _) (Nat.le_refl _) (by simp) ?_; (case hd => rfl); (case hg => rfl); (case hr => first | (go_simp; done) | (go_simp; rfl)); (case hp => exact (Reps.one (show Kd.M (Kd.int .i64) _ _ _ 0 [.int .i64 0] from rfl) (Reps.none _ _))); intro v146 w19 ho20 hb hg_ hnew_; clear hg_ hnew_; (first | rw [← Ny145.out] at ho20 | (simp only [Int.reduceToNat] at ho20; rw [← Ny145.out] at ho20)); have HO147 := Aa4q (Kd.R_lower (Kd.R_new' (Kd.R_new' ho20 (Kd.R_lt Za421)) (Kd.R_lt Za422)) (below_size Hb4)); replace P0 := Aa4q (Kd.R_elder' Za421 (Kd.R_base ho20) hb); replace P1 := Aa4q (Kd.R_elder' Za422 (Kd.R_base ho20) hb); replace BK141 := bb4 BK141 Ub4141 hb; replace BK144 := bb4 BK144 Ub4144 hb; replace HB := tb4 Hb4 hb; clear hb ho20; obtain ⟨Ao22, co22, eo22⟩ := Kd.R_slice HO147.out; subst eo22) | ((with_reducible refine gate_builtin (b := .append) (xs := #[.tmp 35, .tmp 36]) rfl ?_); (try (refine gate_guard (by rfl) ?_; dsimp only)); at_builtin; refine Kd.R_append_rows (Kd.int .i64) (w0 := w) w.heap.size rfl (.tmp 35) (.tmp 36) 22 3 (.int .i64 0) 8 rfl Try.underlying22 info3 rfl Za431 (by omega) ua xa_2 y145 _ _ _ (fun k_ => some k_ ≠ (ub : Value).ownBlock ∧ some k_ ≠ (.slice Ao22 y145.length co22 : Value).ownBlock) (fun _ => False) rfl rfl ?aO ?aR (fun _ _ h => h) (fun _ h => h.elim) ?aF ?aB ?aS ?aL ?_; (case aR => repeat (first | exact (Kd.R_reads' HO147.out).2.2 | (with_reducible refine Kd.C_alloc ?_ _) | (with_reducible refine Kd.C_drewN ?_ _) | (with_reducible refine Kd.C_drew ?_))); (case aB => exact Hb4); (case aF => exact (fun k_ hk => ⟨Kd.fresh' (Kd.R_lt Za422) k_ hk, Kd.fresh' (Kd.R_lt Yq463) k_ hk⟩)); (case aO => exact Za421); (case aS => exact (below_size Hb4)); (case aL => have := LMc14.out; omega); intro v149 w21 ho hb hg hat; rw [← Ny148.out] at ho; have HO150 := Aa4q (ho); replace P1 := Aa4q (Kd.R_after (ok := (fun k_ => some k_ ≠ (.slice Ao22 y145.length co22 : Value).ownBlock)) Za419 hg hat); replace BK141 := Aa4q (blk_grown (g := g141) (o := .cells #[.slice none 0 0, .slice none 0 0] 24 (0, 0)) Ub4141 hg (Kd.R_ne P0.out BK141.out Za431)); replace BK144 := Aa4q (blk_grown (g := g144) (o := .cells #[ua, ub] 24 (0, 0)) Ub4144 hg (Kd.R_ne P0.out BK144.out Za431)); replace HO147 := Aa4q (Kd.R_after (ok := (fun k_ => some k_ ≠ (ub : Value).ownBlock)) (by (with_reducible repeat (first | apply Kd.R_alloc | apply Kd.R_drewN | apply Kd.R_drew)); exact Kd.R_mono HO147.out (fun _ hk => ⟨hk.2, hk.1.2⟩)) hg hat); replace HB := Aa4q (hb); clear ho hb hg hat; obtain ⟨Ao23, co23, eo23⟩ := Kd.R_slice HO150.out; subst eo23; have hcz24_0 : w21.cell? ⟨g144, 0, none⟩ = some (ua) := (blk_cell BK144.out 0).trans rfl; have hcz24_1 : w21.cell? ⟨g144, 1, none⟩ = some (ub) := (blk_cell BK144.out 1).trans rfl; have hfz24_0 := blk_frozen BK144.out 0; have hfz24_1 := blk_frozen BK144.out 1) | ((with_reducible refine gate_dst (N := 41) rfl ?_); (try (refine gate_guard (by rfl) ?_; dsimp only)); refine Kd.R_lit (Kd.int .i64) _ 3 ?hg (N := 41) ?hd (xs := ([1] : List Int)) (inner := [.int .i64 1]) (ok := fun _ => True) (okp := fun _ => True) ?hr ?hp (fun _ hk => hk) trivial (Below.refl _ _) (Nat.le_refl _) (by simp) ?_; (case hd => rfl); (case hg => rfl); (case hr => first | (go_simp; done) | (go_simp; rfl)); (case hp => exact (Reps.one (show Kd.M (Kd.int .i64) _ _ _ 1 [.int .i64 1] from rfl) (Reps.none _ _))); intro v152 w25 ho26 hb hg_ hnew_; clear hg_ hnew_; (first | rw [← Ny151.out] at ho26 | (simp only [Int.reduceToNat] at ho26; rw [← Ny151.out] at ho26)); have HO153 := Aa4q (Kd.R_lower (Kd.R_new' (Kd.R_new' (Kd.R_new' ho26 (Kd.R_lt Yq43)) (Kd.R_lt Yq41)) (Kd.R_lt Yq42)) (below_size Hb4)); replace P1 := Aa4q (Kd.R_elder' Yq43 (Kd.R_base ho26) hb); replace HO147 := Aa4q (Kd.R_elder' Yq41 (Kd.R_base ho26) hb); replace HO150 := Aa4q (Kd.R_elder' Yq42 (Kd.R_base ho26) hb); replace BK141 := bb4 BK141 Ub4141 hb; replace BK144 := Aa4q (blk_below (g := g144) (o := .cells #[.slice Ao23 y148.length co23, ub] 24 (0, 0)) (by (with_reducible repeat (first | refine blk_drewN ?_ _ | refine blk_drew ?_ | refine blk_alloc ?_ _)); refine blk_put (cs := #[ua, ub]) ?_ 0 _ rfl; (with_reducible repeat (first | refine blk_drewN ?_ _ | refine blk_drew ?_ | refine blk_alloc ?_ _)); exact BK144.out) hb); replace HB := tb4 Hb4 hb; clear hb ho26; obtain ⟨Ao28, co28, eo28⟩ := Kd.R_slice HO153.out; subst eo28) | ((with_reducible refine gate_builtin (b := .append) (xs := #[.tmp 40, .tmp 41]) rfl ?_); (try (refine gate_guard (by rfl) ?_; dsimp only)); at_builtin; refine Kd.R_append_rows (Kd.int .i64) (w0 := w) w.heap.size rfl (.tmp 40) (.tmp 41) 22 3 (.int .i64 0) 8 rfl Try.underlying22 info3 rfl Za431 (by omega) ub xb_2 y151 _ _ _ (fun k_ => some k_ ≠ (.slice Ao22 y145.length co22 : Value).ownBlock ∧ some k_ ≠ (.slice Ao23 y148.length co23 : Value).ownBlock ∧ some k_ ≠ (.slice Ao28 y151.length co28 : Value).ownBlock) (fun _ => False) rfl rfl ?aO ?aR (fun _ _ h => h) (fun _ h => h.elim) ?aF ?aB ?aS ?aL ?_; (case aR => repeat (first | exact (Kd.R_reads' HO153.out).2.2 | (with_reducible refine Kd.C_alloc ?_ _) | (with_reducible refine Kd.C_drewN ?_ _) | (with_reducible refine Kd.C_drew ?_))); (case aB => exact Hb4); (case aF => exact (fun k_ hk => ⟨Kd.fresh' (Kd.R_lt Yq463) k_ hk, Kd.fresh' (Kd.R_lt (by (with_reducible repeat (first | apply Kd.R_alloc | apply Kd.R_drewN | apply Kd.R_drew)); exact HO150.out)) k_ hk, Kd.fresh' (Kd.R_lt (by (with_reducible repeat (first | apply Kd.R_alloc | apply Kd.R_drewN | apply Kd.R_drew)); exact HO153.out)) k_ hk⟩)); (case aO => exact (by (with_reducible repeat (first | apply Kd.R_alloc | apply Kd.R_drewN | apply Kd.R_drew)); exact Kd.R_mono P1.out (fun _ hk => ⟨hk.1.1, ⟨hk.1.2, hk.2⟩⟩))); (case aS => exact (below_size Hb4)); (case aL => have := LMc15.out; omega); intro v155 w27 ho hb hg hat; rw [← Ny154.out] at ho; have HO156 := Aa4q (ho); replace BK141 := Aa4q (blk_grown (g := g141) (o := .cells #[.slice none 0 0, .slice none 0 0] 24 (0, 0)) Ub4141 hg (Kd.R_ne P1.out BK141.out Za431)); replace BK144 := Aa4q (blk_grown (g := g144) (o := .cells #[.slice Ao23 y148.length co23, ub] 24 (0, 0)) Ub4144 hg (Kd.R_ne P1.out BK144.out Za431)); replace HO147 := Aa4q (Kd.R_after (ok := (fun k_ => some k_ ≠ (.slice Ao23 y148.length co23 : Value).ownBlock ∧ some k_ ≠ (.slice Ao28 y151.length co28 : Value).ownBlock)) (by (with_reducible repeat (first | apply Kd.R_alloc | apply Kd.R_drewN | apply Kd.R_drew)); exact Kd.R_mono HO147.out (fun _ hk => ⟨⟨hk.1.2, hk.2⟩, hk.1.1⟩)) hg hat); replace HO150 := Aa4q (Kd.R_after (ok := (fun k_ => some k_ ≠ (.slice Ao22 y145.length co22 : Value).ownBlock ∧ some k_ ≠ (.slice Ao28 y151.length co28 : Value).ownBlock)) (by (with_reducible repeat (first | apply Kd.R_alloc | apply Kd.R_drewN | apply Kd.R_drew)); exact Kd.R_mono HO150.out (fun _ hk => ⟨⟨hk.1.2, hk.2⟩, hk.1.1⟩)) hg hat); replace HO153 := Aa4q (Kd.R_after (ok := (fun k_ => some k_ ≠ (.slice Ao22 y145.length co22 : Value).ownBlock ∧ some k_ ≠ (.slice Ao23 y148.length co23 : Value).ownBlock)) (by (with_reducible repeat (first | apply Kd.R_alloc | apply Kd.R_drewN | apply Kd.R_drew)); exact Kd.R_mono HO153.out (fun _ hk => ⟨⟨hk.1.2, hk.2⟩, hk.1.1.2⟩)) hg hat); replace HB := Aa4q (hb); clear ho hb hg hat; obtain ⟨Ao29, co29, eo29⟩ := Kd.R_slice HO156.out; subst eo29; have hcz30_0 : w27.cell? ⟨g144, 0, none⟩ = some (.slice Ao23 y148.length co23) := (blk_cell BK144.out 0).trans rfl; have hcz30_1 : w27.cell? ⟨g144, 1, none⟩ = some (ub) := (blk_cell BK144.out 1).trans rfl; have hfz30_0 := blk_frozen BK144.out 0; have hfz30_1 := blk_frozen BK144.out 1))
 (try simp only [Act.put, y1a4, y2a4, y3a4])
 go_cut [6] (fun v6 wc => ∃ (kq : Nat) (x6_15 : Bool) (xa_15 : List Int) (xb_15 : List Int) (ua : Value) (ub : Value), v6 = .bool x6_15 ∧ Aside0 (spec_LevelsOf.j3 kq l0 x5_2 x6_15 xa_15 xb_15 = some (r1, r2, r3)) ∧ Aside0 (kq ≤ k2) ∧ Aside0 (Kd.R (Kd.int .i64) 3 wc w.heap.size (fun k_ => some k_ ≠ (ub : Value).ownBlock) ua xa_15) ∧ Aside0 (Kd.R (Kd.int .i64) 3 wc w.heap.size (fun k_ => some k_ ≠ (ua : Value).ownBlock) ub xb_15) ∧ Aside0 (wc.heap[g141]? = some (.cells #[(.slice none 0 0), (.slice none 0 0)] 24 (0, 0))) ∧ Aside0 (wc.heap[g144]? = some (.cells #[ua, ub] 24 (0, 0))) ∧ Aside0 (Below w.heap.size w wc))
 case first =>
  have H := HC16.out
  clear HC16
  have H' := Aa4q H
  clear H
  go_wp2
  go_loopg [6, 7] k2 (fun kq v6 v7 w' => ∃ (x6_3 : Bool) (x7_3 : Int) (xa_3 : List Int) (xb_3 : List Int) (ua : Value) (ub : Value), v6 = .bool x6_3 ∧ v7 = .int .i64 x7_3 ∧ Aside0 (spec_LevelsOf.l1 kq l0 x5_2 x6_3 x7_3 xa_3 xb_3 = some (r1, r2, r3)) ∧ Aside0 (kq ≤ k2) ∧ Aside0 (Kd.R (Kd.int .i64) 3 w' w.heap.size (fun k_ => some k_ ≠ (ub : Value).ownBlock) ua xa_3) ∧ Aside0 (Kd.R (Kd.int .i64) 3 w' w.heap.size (fun k_ => some k_ ≠ (ua : Value).ownBlock) ub xb_3) ∧ Aside0 (w'.heap[g141]? = some (.cells #[(.slice none 0 0), (.slice none 0 0)] 24 (0, 0))) ∧ Aside0 (w'.heap[g144]? = some (.cells #[ua, ub] 24 (0, 0))) ∧ Aside0 (Below w.heap.size w w'))
  case atStart => exact ⟨(false), ((-5)), (y148), (y154), (.slice Ao23 y148.length co23), (.slice Ao29 y154.length co29), Za428, Za428, H', ⟨Nat.le_refl _⟩, ⟨by (with_reducible repeat (first | apply Kd.R_alloc | apply Kd.R_drewN | apply Kd.R_drew)); exact Kd.R_mono (Kd.R_far (p := ⟨g144, 1, none⟩) (Kd.R_types HO150.out BK144.out Za431) (fun _ hk => hk.2) (.slice Ao29 y154.length co29)) (fun _ hk => hk.1.2)⟩, ⟨by (with_reducible repeat (first | apply Kd.R_alloc | apply Kd.R_drewN | apply Kd.R_drew)); exact Kd.R_mono (Kd.R_far (p := ⟨g144, 1, none⟩) (Kd.R_types HO156.out BK144.out Za431) (fun _ hk => hk.2) (.slice Ao29 y154.length co29)) (fun _ hk => hk.1.2.1)⟩, ⟨Ub4141⟩, ⟨by (with_reducible repeat (first | refine blk_drewN ?_ _ | refine blk_drew ?_ | refine blk_alloc ?_ _)); refine blk_put (cs := #[.slice Ao23 y148.length co23, ub]) ?_ 1 _ rfl; (with_reducible repeat (first | refine blk_drewN ?_ _ | refine blk_drew ?_ | refine blk_alloc ?_ _)); exact BK144.out⟩, ⟨Hb4⟩⟩
  clear H'
  try clear c1
  try clear p1
  try clear q1
  try clear hx1
  try clear qi1
  try clear p2
  try clear c4
  try clear c5
  try clear c6
  try clear c6b0
  try clear c6b1
  try clear p6
  try clear c7
  try clear c7b0
  try clear c7b1
  try clear c8
  try clear c11
  try clear c12
  try clear c13
  try clear c13b0
  try clear c14
  try clear p14
  try clear q14
  try clear hx14
  try clear qi14
  try clear c15
  try clear c17
  try clear hcz12_0
  try clear hcz12_1
  try clear hcz18_0
  try clear hcz18_1
  try clear hcz24_0
  try clear hcz24_1
  try clear hcz30_0
  try clear hcz30_1
  try clear hcz9_0
  try clear hcz9_1
  try clear hfz12_0
  try clear hfz12_1
  try clear hfz18_0
  try clear hfz18_1
  try clear hfz24_0
  try clear hfz24_1
  try clear hfz30_0
  try clear hfz30_1
  try clear hfz9_0
  try clear hfz9_1
  try clear hx143_0
  try clear p1
  try clear p143
  try clear p2
  try clear q1
  try clear q143
  obtain ⟨x6_3, x7_3, xa_3, xb_3, ua, ub, rfl, rfl, HA, HK3, P0, P1, BK141, BK144, HB⟩ := hrel
  obtain _ | k3 := gk
  · exact absurd HA.out (by simp [spec_LevelsOf.l1])
  have H := HA.out
  clear HA
  simp only [spec_LevelsOf.l1] at H
  by_cases c31 : x7_3 ≤ 5
  rotate_left
  ·
   rw [if_neg c31] at H
   have c31b0 : decide (x7_3 ≤ 5) = false := decide_eq_false c31
   clear c31
   (first | rw [c31b0] | (simp only [i64_w, i32_w]; rw [c31b0]) | skip)
   have H' := Aa4q H
   clear H
   go_wp2
   go_meet
   case rel => exact ⟨_, (x6_3), (xa_3), (xb_3), (ua), (ub), Za428, H', ⟨Yq469⟩, ⟨Yq466⟩, ⟨Yq467⟩, ⟨Ub4141⟩, ⟨Ub4144⟩, ⟨Hb4⟩⟩
  rw [if_pos c31] at H
  have c31b0 : decide (x7_3 ≤ 5) = true := decide_eq_true c31
  clear c31
  (first | rw [c31b0] | (simp only [i64_w, i32_w]; rw [c31b0]) | skip)
  by_cases c32 : x6_3 = true
  ·
   subst c32
   have H1 : (spec_LevelsOf.j3 k3 l0 x5_2 true xa_3 xb_3) = some (r1, r2, r3) := by rw [if_pos rfl] at H; exact H
   clear H
   have H := H1
   clear H1
   have H' := Aa4q H
   clear H
   go_wp2
   go_meet
   case rel => exact ⟨_, (true), (xa_3), (xb_3), (ua), (ub), Za428, H', ⟨Yq469⟩, ⟨Yq466⟩, ⟨Yq467⟩, ⟨Ub4141⟩, ⟨Ub4144⟩, ⟨Hb4⟩⟩
  replace c32 := Bool.eq_false_iff.mpr c32
  subst c32
  have H1 : (if 0 ≤ x5_2 then (if x5_2 < (xa_3.length : Int) then ((some (xa_3.set (x5_2 : Int).toNat x7_3 : List Int)).bind fun y157 => ((spec_kiMoments.f k3 y157 xb_3 (wrap64 ((wrap64 (2 * x5_2)) + 2))).bind fun t158 => (if 0 ≤ (wrap64 ((wrap64 (2 * x5_2)) + 1)) then (if (wrap64 ((wrap64 (2 * x5_2)) + 1)) < (t158.length : Int) then (if (wrap64 ((wrap64 (2 * x5_2)) + 1)) < (l0.length : Int) then (spec_LevelsOf.l1 k3 l0 x5_2 ((rd t158 (wrap64 ((wrap64 (2 * x5_2)) + 1))) == (rd l0 (wrap64 ((wrap64 (2 * x5_2)) + 1)))) (wrap64 (x7_3 + 1)) y157 xb_3) else (none)) else (none)) else (none)))) else (none)) else (none)) = some (r1, r2, r3) := by rw [if_neg (show ¬ (false = true) by decide)] at H; exact H
  clear H
  have H := H1
  clear H1
  by_cases c33 : 0 ≤ x5_2
  rotate_left
  ·
   rw [if_neg c33] at H
   exact absurd H (by simp)
  rw [if_pos c33] at H
  have c33b0 : decide (0 ≤ x5_2) = true := decide_eq_true c33
  clear c33
  by_cases c34 : x5_2 < (xa_3.length : Int)
  rotate_left
  ·
   rw [if_neg c34] at H
   exact absurd H (by simp)
  rw [if_pos c34] at H
  have c34b0 : decide (x5_2 < (xa_3.length : Int)) = true := decide_eq_true c34
  clear c34
  obtain ⟨y157, hy157⟩ : ∃ y_ : List Int, y_ = (xa_3.set (x5_2 : Int).toNat x7_3) := ⟨_, rfl⟩
  replace H : ((spec_kiMoments.f k3 y157 xb_3 (wrap64 ((wrap64 (2 * x5_2)) + 2))).bind fun t158 => (if 0 ≤ (wrap64 ((wrap64 (2 * x5_2)) + 1)) then (if (wrap64 ((wrap64 (2 * x5_2)) + 1)) < (t158.length : Int) then (if (wrap64 ((wrap64 (2 * x5_2)) + 1)) < (l0.length : Int) then (spec_LevelsOf.l1 k3 l0 x5_2 ((rd t158 (wrap64 ((wrap64 (2 * x5_2)) + 1))) == (rd l0 (wrap64 ((wrap64 (2 * x5_2)) + 1)))) (wrap64 (x7_3 + 1)) y157 xb_3) else (none)) else (none)) else (none))) = some (r1, r2, r3) := by first | (rw [hy157]; with_reducible exact H) | (have H2_ := (Option.bind_some _ _).symm.trans H; rw [hy157]; with_reducible exact H2_) | (have H2_ := (Option.bind_some _ _).symm.trans H; with_reducible exact H2_) | with_reducible exact H | (rw [hy157]; exact H) | exact H
  have Ny157 := Aa4q hy157
  clear hy157
  replace H := Option.bind_eq_some_iff.mp H
  obtain ⟨t158, A360, H⟩ := H
  replace H : (if 0 ≤ (wrap64 ((wrap64 (2 * x5_2)) + 1)) then (if (wrap64 ((wrap64 (2 * x5_2)) + 1)) < (t158.length : Int) then (if (wrap64 ((wrap64 (2 * x5_2)) + 1)) < (l0.length : Int) then (spec_LevelsOf.l1 k3 l0 x5_2 ((rd t158 (wrap64 ((wrap64 (2 * x5_2)) + 1))) == (rd l0 (wrap64 ((wrap64 (2 * x5_2)) + 1)))) (wrap64 (x7_3 + 1)) y157 xb_3) else (none)) else (none)) else (none)) = some (r1, r2, r3) := H
  have A36 := Aa4q A360
  clear A360
  obtain ⟨ji37, hji37⟩ : ∃ j_ : Int, (wrap64 ((wrap64 (2 * x5_2)) + 1)) = j_ := ⟨_, rfl⟩
  replace H : (if 0 ≤ (ji37) then (if (ji37) < (t158.length : Int) then (if (ji37) < (l0.length : Int) then (spec_LevelsOf.l1 k3 l0 x5_2 ((rd t158 (ji37)) == (rd l0 (ji37))) (wrap64 (x7_3 + 1)) y157 xb_3) else (none)) else (none)) else (none)) = some (r1, r2, r3) := by first | (rw [hji37] at H; exact H) | (simp only [hji37] at H ⊢; exact H)
  (try rw [hji37] at A36)
  have hji37w : (IntKind.i64.wrap ((wrap64 (2 * x5_2)) + 1)) = ji37 := (i64_w _).trans hji37
  by_cases c38 : 0 ≤ (ji37)
  rotate_left
  ·
   rw [if_neg c38] at H
   exact absurd H (by simp)
  rw [if_pos c38] at H
  have c38b0 : decide (0 ≤ (ji37)) = true := decide_eq_true c38
  clear c38
  by_cases c39 : (ji37) < (t158.length : Int)
  rotate_left
  ·
   rw [if_neg c39] at H
   exact absurd H (by simp)
  rw [if_pos c39] at H
  have c39b0 : decide ((ji37) < (t158.length : Int)) = true := decide_eq_true c39
  clear c39
  by_cases c40 : (ji37) < (l0.length : Int)
  rotate_left
  ·
   rw [if_neg c40] at H
   exact absurd H (by simp)
  rw [if_pos c40] at H
  have c40b0 : decide ((ji37) < (l0.length : Int)) = true := decide_eq_true c40
  clear c40
  have H' := Aa4q H
  clear H
  have hcz42_0 : wr.cell? ⟨g144, 0, none⟩ = some (ua) := (blk_cell BK144.out 0).trans rfl
  have hcz42_1 : wr.cell? ⟨g144, 1, none⟩ = some (ub) := (blk_cell BK144.out 1).trans rfl
  have hfz42_0 := blk_frozen BK144.out 0
  have hfz42_1 := blk_frozen BK144.out 1
  have p35 : 0 ≤ (x5_2 : Int) := of_decide_eq_true Za429
  have q35 : (x5_2 : Int) < ((xa_3.length : Int) : Int) := of_decide_eq_true Za429
  obtain ⟨go35, co35, eo35, g35, gl35, cl35, HG35⟩ := Kd.R_form P0.out (by omega)
  (first | cases eo35 | (injection eo35 with ea_ en_ ec_; (first | subst ea_ | (injection ea_ with ea_; subst ea_)); subst ec_; clear en_))
  have GB35 := Aa4q g35
  have GG35 := Aa4q HG35
  clear g35 gl35 HG35
  obtain ⟨hx35_0, hf35_0⟩ := Kd.R_celln 0 P0.out (x5_2 : Int) p35 q35
  replace p35 := eq_true p35
  replace q35 := eq_true q35
  have HP43 := Kd.R_putg P0.out (x5_2 : Int) x7_3
  try go_wp2_with (first | ((with_reducible refine gate_store (t := 3) (p := 56) rfl ?_); refine store_event (t := 3) (p := 56) (v := ?vo_w44) (w1 := (wr.setCell ⟨go35, (x5_2 : Int).toNat, none⟩ (.int .i64 x7_3))) ?hg ?ho ?hn ?hr ?_; (case ho => rfl); (case hg => rfl); (case hn => rfl); (case hr => first | (go_simp; done) | (go_simp; rfl)); intro w44 hw; have hg : wr.grownBy w44 (some go35) := (by rw [hw]; exact HP43.2); have hp_ : Kd.R (Kd.int .i64) 3 w44 w.heap.size (fun k_ => some k_ ≠ (ub : Value).ownBlock) (.slice (some ⟨go35, 0, none⟩) xa_3.length co35) y157 := (by rw [hw, Ny157.out]; exact HP43.1); clear HP43; have n0_ := Aa4q (hp_); have n1_ := Aa4q (Kd.R_after (v := (.slice (some ⟨go35, 0, none⟩) xa_3.length co35)) (v1 := (.slice (some ⟨go35, 0, none⟩) xa_3.length co35)) (ok := (fun _ => True)) (by (with_reducible repeat (first | apply Kd.R_alloc | apply Kd.R_drewN | apply Kd.R_drew)); exact Kd.R_mono P1.out (fun _ hk => ⟨trivial, hk⟩)) hg (.inl rfl)); have n2_ := Aa4q (blk_grown (g := g141) (o := .cells #[.slice none 0 0, .slice none 0 0] 24 (0, 0)) Ub4141 hg (Kd.R_ne P0.out BK141.out Za431)); have n3_ := Aa4q (blk_grown (g := g144) (o := .cells #[.slice (some ⟨go35, 0, none⟩) xa_3.length co35, ub] 24 (0, 0)) Ub4144 hg (Kd.R_ne P0.out BK144.out Za431)); have n4_ := Aa4q ((by rw [hw]; exact below_set (HB.out) GB35.out : Below w.heap.size w w44)); clear P0; clear P1; clear BK141; clear BK144; clear HB; have P0 := n0_; have P1 := n1_; have BK141 := n2_; have BK144 := n3_; have HB := n4_; clear n0_ n1_ n2_ n3_ n4_; clear hg hw hp_))
  replace P0 := Aa4q (Kd.R_drew P0.out)
  replace P1 := Aa4q (Kd.R_drew P1.out)
  replace BK141 := Aa4q (blk_drew BK141.out)
  replace BK144 := Aa4q (blk_drew BK144.out)
  replace HB := Aa4q (below_drew1 HB.out)
  have p162 : 0 ≤ ((ji37) : Int) := of_decide_eq_true Za429
  have q162 : (ji37) < (l0.length : Int) := of_decide_eq_true Za429
  obtain ⟨ad162, e162, hx162_0⟩ := Kd.at_int HR0.out (ji37) p162 q162
  have hw162_0 := hx162_0
  cases e162
  replace hx162_0 := (HB.out.cell (World.block_lt_of_cell? w _ hx162_0)).trans hx162_0
  replace p162 := eq_true p162
  replace q162 := eq_true q162
  obtain ⟨Ao46, co46, eo46⟩ := Kd.R_slice P1.out
  (first | subst eo46 | (injection eo46 with f1_ f2_ f3_; have f4_ := f1_.symm; have f5_ := f3_.symm; clear f1_ f2_ f3_; subst f4_; subst f5_))
  refine start_ (n := 18) (S := fun w' => w'.cell? ⟨g144, 0, none⟩ = some (.slice (some ⟨go35, 0, none⟩) xa_3.length co35) ∧ w'.cell? ⟨g144, 1, none⟩ = some (.slice Ao46 xb_3.length co46) ∧ w'.cell? (ad162.add ((ji37)).toNat) = some (.int .i64 (rd l0 (ji37)))) (ds := []) #[false, false, false, false, false, false, false, false, false, false, false, false, false, false, false, false, false, false] Za430 rfl rfl ⟨(blk_cell BK144.out 0).trans rfl, (blk_cell BK144.out 1).trans rfl, ((HB.out.cell (World.block_lt_of_cell? w _ hw162_0)).trans hw162_0)⟩ (fun hHeld => ?_); refine with_tabW spec_LevelsOf.tab14 spec_LevelsOf.bits14 (fun HT_ HW_ => ?_)
  generalize w44.drew = w45 at P0 P1 BK141 BK144 HB hx162_0 hHeld ⊢
  refine pure_ (i := 1) (N := some 58) (v := ?_) (a' := ?_) #[false, true, false, false, false, false, false, false, false, false, false, false, false, false, false, false, false, false] rfl rfl (any_of HT_.out Za430) (fun _ _ _ h => h) (Or.inl ⟨by rfl, ?_⟩) ?_ ?_
  rotate_left
  ·
   intro w'
   go_simp
   with_reducible rfl
  rotate_left
  ·
   simp only [Act.put, y1a4, y2a4, y3a4, i64_w, i32_w]
   rfl
  refine pure_ (i := 2) (N := some 59) (v := ?_) (a' := ?_) #[false, true, true, false, false, false, false, false, false, false, false, false, false, false, false, false, false, false] rfl rfl (any_of HT_.out Za430) (fun _ _ _ h => h) (Or.inl ⟨by rfl, ?_⟩) ?_ ?_
  rotate_left
  ·
   intro w'
   go_simp
   with_reducible rfl
  rotate_left
  ·
   simp only [Act.put, y1a4, y2a4, y3a4, i64_w, i32_w]
   rfl
  refine pure_ (i := 3) (N := some 60) (v := ?_) (a' := ?_) #[false, true, true, true, false, false, false, false, false, false, false, false, false, false, false, false, false, false] rfl rfl (any_of HT_.out Za430) (fun _ _ _ h => h) (Or.inl ⟨by rfl, ?_⟩) ?_ ?_
  rotate_left
  ·
   intro w'
   go_simp
   with_reducible rfl
  rotate_left
  ·
   simp only [Act.put, y1a4, y2a4, y3a4, i64_w, i32_w]
   rfl
  refine pure_ (i := 5) (N := some 62) (v := ?_) (a' := ?_) #[false, true, true, true, false, true, false, false, false, false, false, false, false, false, false, false, false, false] rfl rfl (any_of HT_.out Za430) (fun _ _ _ h => h) (Or.inl ⟨by rfl, ?_⟩) ?_ ?_
  rotate_left
  ·
   intro w'
   go_simp
   with_reducible rfl
  rotate_left
  ·
   simp only [Act.put, y1a4, y2a4, y3a4, i64_w, i32_w]
   rfl
  refine pure_ (i := 6) (N := some 63) (v := ?_) (a' := ?_) #[false, true, true, true, false, true, true, false, false, false, false, false, false, false, false, false, false, false] rfl rfl (any_of HT_.out Za430) (fun _ _ _ h => h) (Or.inl ⟨by rfl, ?_⟩) ?_ ?_
  rotate_left
  ·
   intro w'
   go_simp
   with_reducible rfl
  rotate_left
  ·
   simp only [Act.put, y1a4, y2a4, y3a4, i64_w, i32_w]
   rfl
  refine pure_ (i := 7) (N := some 64) (v := ?_) (a' := ?_) #[false, true, true, true, false, true, true, true, false, false, false, false, false, false, false, false, false, false] rfl rfl (any_of HT_.out Za430) (fun _ _ _ h => h) (Or.inl ⟨by rfl, ?_⟩) ?_ ?_
  rotate_left
  ·
   intro w'
   go_simp
   with_reducible rfl
  rotate_left
  ·
   simp only [Act.put, y1a4, y2a4, y3a4, i64_w, i32_w]
   rfl
  refine pure_ (i := 10) (N := some 67) (v := ?_) (a' := ?_) #[false, true, true, true, false, true, true, true, false, false, true, false, false, false, false, false, false, false] rfl rfl (any_of HT_.out Za430) (fun _ _ _ h => h) (Or.inl ⟨by rfl, ?_⟩) ?_ ?_
  rotate_left
  ·
   intro w'
   go_simp
   with_reducible rfl
  rotate_left
  ·
   simp only [Act.put, y1a4, y2a4, y3a4, i64_w, i32_w]
   rfl
  refine pure_ (i := 11) (N := some 68) (v := ?_) (a' := ?_) #[false, true, true, true, false, true, true, true, false, false, true, true, false, false, false, false, false, false] rfl rfl (any_of HT_.out Za430) (fun _ _ _ h => h) (Or.inl ⟨by rfl, ?_⟩) ?_ ?_
  rotate_left
  ·
   intro w'
   go_simp
   with_reducible rfl
  rotate_left
  ·
   simp only [Act.put, y1a4, y2a4, y3a4, i64_w, i32_w]
   rfl
  refine pure_ (i := 12) (N := some 69) (v := ?_) (a' := ?_) #[false, true, true, true, false, true, true, true, false, false, true, true, true, false, false, false, false, false] rfl rfl (any_of HT_.out Za430) (fun _ _ _ h => h) (Or.inl ⟨by rfl, ?_⟩) ?_ ?_
  rotate_left
  ·
   intro w'
   go_simp
   with_reducible rfl
  rotate_left
  ·
   simp only [Act.put, y1a4, y2a4, y3a4, i64_w, i32_w]
   rfl
  refine pure_ (i := 13) (N := some 70) (v := ?_) (a' := ?_) #[false, true, true, true, false, true, true, true, false, false, true, true, true, true, false, false, false, false] rfl rfl (any_of HT_.out Za430) (fun _ _ _ h => h) (Or.inl ⟨by rfl, ?_⟩) ?_ ?_
  rotate_left
  ·
   intro w'
   go_simp
   with_reducible rfl
  rotate_left
  ·
   simp only [Act.put, y1a4, y2a4, y3a4, i64_w, i32_w]
   rfl
  refine pure_ (i := 14) (N := some 71) (v := ?_) (a' := ?_) #[false, true, true, true, false, true, true, true, false, false, true, true, true, true, true, false, false, false] rfl rfl (any_of HT_.out Za430) (fun _ _ _ h => h) (Or.inl ⟨by rfl, ?_⟩) ?_ ?_
  rotate_left
  ·
   intro w'
   go_simp
   with_reducible rfl
  rotate_left
  ·
   simp only [Act.put, y1a4, y2a4, y3a4, i64_w, i32_w]
   rfl
  refine take_ (i := 0) (N := some 57) (v := ?_) (a' := ?_) #[true, true, true, true, false, true, true, true, false, false, true, true, true, true, true, false, false, false] rfl rfl (take_ofW HT_.out HW_.out Za430) (fun _ _ _ h => h) (Or.inl ⟨by rfl, ?_⟩) hHeld ?_ ?_
  rotate_left
  ·
   rintro w' ⟨s0, s1, s2⟩
   go_simp
   with_reducible rfl
  rotate_left
  ·
   simp only [Act.put, y1a4, y2a4, y3a4, i64_w, i32_w]
   rfl
  refine take_ (i := 15) (N := some 72) (v := ?_) (a' := ?_) #[true, true, true, true, false, true, true, true, false, false, true, true, true, true, true, true, false, false] rfl rfl (take_ofW HT_.out HW_.out Za430) (fun _ _ _ h => h) (Or.inl ⟨by rfl, ?_⟩) hHeld ?_ ?_
  rotate_left
  ·
   rintro w' ⟨s0, s1, s2⟩
   go_simp
   with_reducible rfl
  rotate_left
  ·
   simp only [Act.put, y1a4, y2a4, y3a4, i64_w, i32_w]
   rfl
  refine one_ (i := 4) (N := some 61) #[true, true, true, true, true, true, true, true, false, false, true, true, true, true, true, true, false, false] rfl rfl (one_of HT_.out Za430) Za431 (fun K hK => ?_)
  refine goes_ Try.func13 Za430 rfl #[.agg #[.slice (some ⟨go35, 0, none⟩) y157.length co35, .slice Ao46 xb_3.length co46], .int .i64 (wrap64 ((wrap64 (2 * x5_2)) + 2))] (by rfl) rfl rfl (by (try simp only [List.map_toArray, List.map_cons, List.map_nil]); first | done | (rw [show y157.length = xa_3.length from (Kd.R_reads' P0.out).1.symm] <;> rfl) | rfl | (simp only [List.length_drop, List.length_take]; rfl)) ?_
  with_reducible refine (spec_kiMoments.calls k3 _ _ y157 _ _ xb_3 (wrap64 ((wrap64 (2 * x5_2)) + 2)) t158 _ ?side1 ?side2 ?side3 ?side4 A36.out).mono ?_
  (case side1 => repeat (first | exact (Kd.R_reads' P0.out).2.2 | (with_reducible refine Kd.C_alloc ?_ _) | (with_reducible refine Kd.C_drewN ?_ _) | (with_reducible refine Kd.C_drew ?_)))
  (case side2 => rw [show y157.length = xa_3.length from (Kd.R_reads' P0.out).1.symm]; exact (Kd.R_reads' P0.out).2.1)
  (case side3 => repeat (first | exact (Kd.R_reads' P1.out).2.2 | (with_reducible refine Kd.C_alloc ?_ _) | (with_reducible refine Kd.C_drewN ?_ _) | (with_reducible refine Kd.C_drew ?_)))
  (case side4 => exact (Kd.R_reads' P1.out).2.1)
  rintro e w47 ⟨v159, rfl, ho0, hb⟩
  refine ⟨_, rfl, ?_⟩
  have HO160 := Aa4q (Kd.R_lower (Kd.R_new' (Kd.R_new' ho0 (Kd.R_lt Za421)) (Kd.R_lt Za422)) (below_size Hb4))
  replace P0 := Aa4q (Kd.R_elder' Za421 (Kd.R_base ho0) hb)
  replace P1 := Aa4q (Kd.R_elder' Za422 (Kd.R_base ho0) hb)
  replace BK141 := bb4 BK141 Ub4141 hb
  replace BK144 := bb4 BK144 Ub4144 hb
  replace HB := tb4 Hb4 hb
  (try clear hb)
  (try clear hb2)
  (try clear hk)
  (try clear hi)
  (try clear ho0)
  obtain ⟨Ao48, co48, eo48⟩ := Kd.R_slice HO160.out
  (first | subst eo48 | (injection eo48 with f1_ f2_ f3_; have f4_ := f1_.symm; have f5_ := f3_.symm; clear f1_ f2_ f3_; subst f4_; subst f5_))
  have p161 : 0 ≤ ((ji37) : Int) := of_decide_eq_true Za429
  have q161 : (ji37) < (t158.length : Int) := of_decide_eq_true Za429
  obtain ⟨ad161, e161, hx161_0⟩ := Kd.at_int (Kd.R_reads' HO160.out).2.2 (ji37) p161 q161
  cases e161
  replace p161 := eq_true p161
  replace q161 := eq_true q161
  refine hK.out _ _ ⟨(blk_cell BK144.out 0).trans rfl, (blk_cell BK144.out 1).trans rfl, ((HB.out.cell (World.block_lt_of_cell? w _ hw162_0)).trans hw162_0)⟩ (fun hHeld0 => ?_)
  have hHeld := (And.intro (And.left hHeld0) (And.intro (And.left (And.right hHeld0)) (And.intro (And.right (And.right hHeld0)) hx161_0)))
  refine stronger4 (S' := fun w' => w'.cell? ⟨g144, 0, none⟩ = some (.slice (some ⟨go35, 0, none⟩) xa_3.length co35) ∧ w'.cell? ⟨g144, 1, none⟩ = some (.slice Ao46 xb_3.length co46) ∧ w'.cell? (ad162.add ((ji37)).toNat) = some (.int .i64 (rd l0 (ji37))) ∧ w'.cell? (ad161.add ((ji37)).toNat) = some (.int .i64 (rd t158 (ji37)))) (fun _ h => ⟨h.1, h.2.1, h.2.2.1⟩) hHeld ?_
  clear hK K
  refine norm_ (a' := ?_) ?_ ?_
  rotate_left
  ·
   show Act.put _ (some 61) _ = _
   simp only [Act.put, y1a4, y2a4, y3a4, i64_w, i32_w]
   rfl
  refine pure_ (i := 8) (N := some 65) (v := ?_) (a' := ?_) #[true, true, true, true, true, true, true, true, true, false, true, true, true, true, true, true, false, false] rfl rfl (any_of HT_.out Za430) (fun _ _ _ h => h) (Or.inl ⟨by rfl, ?_⟩) ?_ ?_
  rotate_left
  ·
   intro w'
   go_simp
   with_reducible rfl
  rotate_left
  ·
   simp only [Act.put, y1a4, y2a4, y3a4, i64_w, i32_w]
   rfl
  refine take_ (i := 9) (N := some 66) (v := ?_) (a' := ?_) #[true, true, true, true, true, true, true, true, true, true, true, true, true, true, true, true, false, false] rfl rfl (take_ofW HT_.out HW_.out Za430) (fun _ _ _ h => h) (Or.inl ⟨by rfl, ?_⟩) hHeld ?_ ?_
  rotate_left
  ·
   rintro w' ⟨s0, s1, s2, s3⟩
   (try simp only [Int.toNat_natCast] at s3)
   go_simp
   with_reducible rfl
  rotate_left
  ·
   simp only [Act.put, y1a4, y2a4, y3a4, i64_w, i32_w]
   rfl
  refine pure_ (i := 16) (N := some 73) (v := ?_) (a' := ?_) #[true, true, true, true, true, true, true, true, true, true, true, true, true, true, true, true, true, false] rfl rfl (any_of HT_.out Za430) (fun _ _ _ h => h) (Or.inl ⟨by rfl, ?_⟩) ?_ ?_
  rotate_left
  ·
   intro w'
   go_simp
   with_reducible rfl
  rotate_left
  ·
   simp only [Act.put, y1a4, y2a4, y3a4, i64_w, i32_w]
   rfl
  refine pure_ (i := 17) (N := some 6) (v := ?_) (a' := ?_) #[true, true, true, true, true, true, true, true, true, true, true, true, true, true, true, true, true, true] rfl rfl (any_of HT_.out Za430) (fun _ _ _ h => h) (Or.inl ⟨by rfl, ?_⟩) ?_ ?_
  rotate_left
  ·
   intro w'
   go_simp
   with_reducible rfl
  rotate_left
  ·
   simp only [Act.put, y1a4, y2a4, y3a4, i64_w, i32_w]
   rfl
  refine done_ (done_of HT_.out Za430) ?_
  try go_wp2
  go_roundg k3
  case measure => have := HJ1.out; have := HK2.out; have := HK3.out; omega
  case rel => exact ⟨(((rd t158 (ji37)) == (rd l0 (ji37)))), (wrap64 (x7_3 + 1)), (y157), (xb_3), (.slice (some ⟨go35, 0, none⟩) xa_3.length co35), (.slice Ao46 xb_3.length co46), (by first | rfl | (simp; done) | (simp only [← hji37] <;> (first | rfl | simp)) | (simp [*]; done)), Za428, H', ⟨by have := HJ1.out; have := HK2.out; have := HK3.out; omega⟩, ⟨by (with_reducible repeat (first | apply Kd.R_alloc | apply Kd.R_drewN | apply Kd.R_drew)); exact Kd.R_mono P0.out (fun _ hk => hk.1)⟩, ⟨by (with_reducible repeat (first | apply Kd.R_alloc | apply Kd.R_drewN | apply Kd.R_drew)); exact Kd.R_mono P1.out (fun _ hk => hk.1.2)⟩, ⟨Ub4141⟩, ⟨Ub4144⟩, ⟨Hb4⟩⟩
 clear HC16
 try clear c1
 try clear p1
 try clear q1
 try clear hx1
 try clear qi1
 try clear p2
 try clear c3
 try clear p3
 try clear q3
 try clear hx3
 try clear hf3
 try clear c4
 try clear c5
 try clear c6
 try clear c6b0
 try clear c6b1
 try clear p6
 try clear c7
 try clear c7b0
 try clear c7b1
 try clear c8
 try clear c11
 try clear c12
 try clear c13
 try clear c13b0
 try clear c14
 try clear p14
 try clear q14
 try clear hx14
 try clear qi14
 try clear c15
 try clear p16
 try clear q16
 try clear hx16
 try clear c17
 try clear c31
 try clear c31b0
 try clear c32
 try clear c33
 try clear c33b0
 try clear c34
 try clear c34b0
 try clear p35
 try clear q35
 try clear hx35
 try clear hf35
 try clear c38
 try clear c38b0
 try clear c39
 try clear c39b0
 try clear c40
 try clear c40b0
 try clear c41
 try clear hcz12_0
 try clear hcz12_1
 try clear hcz18_0
 try clear hcz18_1
 try clear hcz24_0
 try clear hcz24_1
 try clear hcz30_0
 try clear hcz30_1
 try clear hcz42_0
 try clear hcz42_1
 try clear hcz9_0
 try clear hcz9_1
 try clear hfz12_0
 try clear hfz12_1
 try clear hfz18_0
 try clear hfz18_1
 try clear hfz24_0
 try clear hfz24_1
 try clear hfz30_0
 try clear hfz30_1
 try clear hfz42_0
 try clear hfz42_1
 try clear hfz9_0
 try clear hfz9_1
 try clear hx143_0
 try clear hx161_0
 try clear hx162_0
 try clear hx35_0
 try clear p1
 try clear p14
 try clear p143
 try clear p161
 try clear p162
 try clear p2
 try clear p35
 try clear p6
 try clear q1
 try clear q14
 try clear q143
 try clear q161
 try clear q162
 try clear q35
 obtain ⟨kq, x6_15, xa_15, xb_15, ua, ub, rfl, HA, HJ15, P0, P1, BK141, BK144, HB⟩ := hcut
 obtain _ | kj15 := kq
 · exact absurd HA.out (by simp [spec_LevelsOf.j3])
 have H := HA.out
 clear HA
 simp only [spec_LevelsOf.j3] at H
 by_cases c49 : x6_15 = true
 rotate_left
 ·
  replace c49 := Bool.eq_false_iff.mpr c49
  subst c49
  have H1 : (some (([] : List Int), ([] : List Int), false)) = some (r1, r2, r3) := by rw [if_neg (show ¬ (false = true) by decide)] at H; exact H
  clear H
  have H := H1
  clear H1
  simp only [Option.some.injEq, Prod.mk.injEq] at H
  obtain ⟨rfl, rfl, rfl⟩ := H
  have hcz103_0 : wc.cell? ⟨g141, 0, none⟩ = some (.slice none 0 0) := (blk_cell BK141.out 0).trans rfl
  have hcz103_1 : wc.cell? ⟨g141, 1, none⟩ = some (.slice none 0 0) := (blk_cell BK141.out 1).trans rfl
  have hfz103_0 := blk_frozen BK141.out 0
  have hfz103_1 := blk_frozen BK141.out 1
  go_wp2
  refine bodyPost_ret (results_ct rfl _ _ g141 24 #[.slice none 0 0, .slice none 0 0] (0, 0) _ rfl Za41 Try.underlying24 rfl Za430) rfl ?_
  exact ⟨_, _, by first | rfl | (simp [errW_none, errW_some] <;> rfl) | (simp [*, errW_none, errW_some] <;> rfl), by first | exact Kd.R_nil _ _ _ _ _ | exact Kd.N_nil _ _ _ _ _ | exact Kd.V_nil _ _ _ _ _ | exact Kd.Q_nil _ _ _ _ _ | exact Kd.S_nil _ _ _ _ _, by first | exact Kd.R_nil _ _ _ _ _ | exact Kd.N_nil _ _ _ _ _ | exact Kd.V_nil _ _ _ _ _ | exact Kd.Q_nil _ _ _ _ _ | exact Kd.S_nil _ _ _ _ _, Hb4⟩
 subst c49
 have H1 : (if (wrap64 ((wrap64 (2 * x5_2)) + 2)) = (l0.length : Int) then (some (xa_15, xb_15, true)) else (spec_LevelsOf.l2 kj15 l0 x5_2 false 1 xa_15 xb_15)) = some (r1, r2, r3) := by rw [if_pos rfl] at H; exact H
 clear H
 have H := H1
 clear H1
 by_cases c50 : (wrap64 ((wrap64 (2 * x5_2)) + 2)) = (l0.length : Int)
 ·
  rw [if_pos c50] at H
  have c50b0 : ((wrap64 ((wrap64 (2 * x5_2)) + 2)) == (l0.length : Int)) = true := beq_iff_eq.mpr c50
  have c50b1 : ((wrap64 ((wrap64 (2 * x5_2)) + 2)) != (l0.length : Int)) = false := bne_eq_false_iff_eq.mpr c50
  clear c50
  simp only [Option.some.injEq, Prod.mk.injEq] at H
  obtain ⟨rfl, rfl, rfl⟩ := H
  have hcz52_0 : wc.cell? ⟨g144, 0, none⟩ = some (ua) := (blk_cell BK144.out 0).trans rfl
  have hcz52_1 : wc.cell? ⟨g144, 1, none⟩ = some (ub) := (blk_cell BK144.out 1).trans rfl
  have hfz52_0 := blk_frozen BK144.out 0
  have hfz52_1 := blk_frozen BK144.out 1
  obtain ⟨Ao53, co53, eo53⟩ := Kd.R_slice P0.out
  subst eo53
  have hcz54_0 : wc.cell? ⟨g141, 0, none⟩ = some (.slice none 0 0) := (blk_cell BK141.out 0).trans rfl
  have hcz54_1 : wc.cell? ⟨g141, 1, none⟩ = some (.slice none 0 0) := (blk_cell BK141.out 1).trans rfl
  have hfz54_0 := blk_frozen BK141.out 0
  have hfz54_1 := blk_frozen BK141.out 1
  obtain ⟨Ao55, co55, eo55⟩ := Kd.R_slice P1.out
  subst eo55
  go_wp2
  refine bodyPost_ret (results_ct rfl _ _ g141 24 #[.slice Ao53 xa_15.length co53, .slice Ao55 xb_15.length co55] (0, 0) _ rfl (by (with_reducible repeat (first | refine blk_drewN ?_ _ | refine blk_drew ?_ | refine blk_alloc ?_ _)); refine blk_put (cs := #[.slice Ao53 xa_15.length co53, .slice none 0 0]) ?_ 1 _ rfl; (with_reducible repeat (first | refine blk_drewN ?_ _ | refine blk_drew ?_ | refine blk_alloc ?_ _)); refine blk_put (cs := #[.slice none 0 0, .slice none 0 0]) ?_ 0 _ rfl; (with_reducible repeat (first | refine blk_drewN ?_ _ | refine blk_drew ?_ | refine blk_alloc ?_ _)); exact BK141.out) Try.underlying24 rfl Za430) rfl ?_
  exact ⟨_, _, by first | rfl | (simp [errW_none, errW_some] <;> rfl) | (simp [*, errW_none, errW_some] <;> rfl), by (with_reducible repeat (first | apply Kd.R_alloc | apply Kd.R_drewN | apply Kd.R_drew)); exact Kd.R_mono (Kd.R_far (p := ⟨g141, 1, none⟩) (Kd.R_far (p := ⟨g141, 0, none⟩) (Kd.R_types P0.out BK141.out Za431) (fun _ hk => hk.2) (.slice Ao53 xa_15.length co53)) (fun _ hk => hk.2) (.slice Ao55 xb_15.length co55)) (fun _ hk => hk.1), by (with_reducible repeat (first | apply Kd.R_alloc | apply Kd.R_drewN | apply Kd.R_drew)); exact Kd.R_mono (Kd.R_far (p := ⟨g141, 1, none⟩) (Kd.R_far (p := ⟨g141, 0, none⟩) (Kd.R_types P1.out BK141.out Za431) (fun _ hk => hk.2) (.slice Ao53 xa_15.length co53)) (fun _ hk => hk.2) (.slice Ao55 xb_15.length co55)) (fun _ hk => hk.1), Hb4⟩
 rw [if_neg c50] at H
 have c50b0 : ((wrap64 ((wrap64 (2 * x5_2)) + 2)) == (l0.length : Int)) = false := beq_eq_false_iff_ne.mpr c50
 have c50b1 : ((wrap64 ((wrap64 (2 * x5_2)) + 2)) != (l0.length : Int)) = true := bne_iff_ne.mpr c50
 have H' := Aa4q H
 clear H
 go_wp2
 go_loopg [6, 8] kj15 (fun kq v6 v8 w' => ∃ (x6_4 : Bool) (x8_4 : Int) (xa_4 : List Int) (xb_4 : List Int) (ua : Value) (ub : Value), v6 = .bool x6_4 ∧ v8 = .int .i64 x8_4 ∧ Aside0 (spec_LevelsOf.l2 kq l0 x5_2 x6_4 x8_4 xa_4 xb_4 = some (r1, r2, r3)) ∧ Aside0 (kq ≤ kj15) ∧ Aside0 (Kd.R (Kd.int .i64) 3 w' w.heap.size (fun k_ => some k_ ≠ (ub : Value).ownBlock) ua xa_4) ∧ Aside0 (Kd.R (Kd.int .i64) 3 w' w.heap.size (fun k_ => some k_ ≠ (ua : Value).ownBlock) ub xb_4) ∧ Aside0 (w'.heap[g141]? = some (.cells #[(.slice none 0 0), (.slice none 0 0)] 24 (0, 0))) ∧ Aside0 (w'.heap[g144]? = some (.cells #[ua, ub] 24 (0, 0))) ∧ Aside0 (Below w.heap.size w w'))
 case atStart => exact ⟨(false), (1), (xa_15), (xb_15), (ua), (ub), Za428, Za428, H', ⟨Nat.le_refl _⟩, ⟨Yq466⟩, ⟨Yq467⟩, ⟨Ub4141⟩, ⟨Ub4144⟩, ⟨Hb4⟩⟩
 clear H'
 try clear c1
 try clear p1
 try clear q1
 try clear hx1
 try clear qi1
 try clear p2
 try clear c3
 try clear p3
 try clear q3
 try clear hx3
 try clear hf3
 try clear c4
 try clear c5
 try clear c6
 try clear c6b0
 try clear c6b1
 try clear p6
 try clear c7
 try clear c7b0
 try clear c7b1
 try clear c8
 try clear c11
 try clear c12
 try clear c13
 try clear c13b0
 try clear c14
 try clear p14
 try clear q14
 try clear hx14
 try clear qi14
 try clear c15
 try clear p16
 try clear q16
 try clear hx16
 try clear c17
 try clear c31
 try clear c31b0
 try clear c32
 try clear c33
 try clear c33b0
 try clear c34
 try clear c34b0
 try clear p35
 try clear q35
 try clear hx35
 try clear hf35
 try clear c38
 try clear c38b0
 try clear c39
 try clear c39b0
 try clear c40
 try clear c40b0
 try clear c41
 try clear c49
 try clear c50
 try clear c50b0
 try clear c50b1
 try clear c51
 try clear hcz12_0
 try clear hcz12_1
 try clear hcz18_0
 try clear hcz18_1
 try clear hcz24_0
 try clear hcz24_1
 try clear hcz30_0
 try clear hcz30_1
 try clear hcz42_0
 try clear hcz42_1
 try clear hcz52_0
 try clear hcz52_1
 try clear hcz54_0
 try clear hcz54_1
 try clear hcz9_0
 try clear hcz9_1
 try clear hfz12_0
 try clear hfz12_1
 try clear hfz18_0
 try clear hfz18_1
 try clear hfz24_0
 try clear hfz24_1
 try clear hfz30_0
 try clear hfz30_1
 try clear hfz42_0
 try clear hfz42_1
 try clear hfz52_0
 try clear hfz52_1
 try clear hfz54_0
 try clear hfz54_1
 try clear hfz9_0
 try clear hfz9_1
 try clear hx143_0
 try clear hx161_0
 try clear hx162_0
 try clear hx35_0
 try clear p1
 try clear p14
 try clear p143
 try clear p16
 try clear p161
 try clear p162
 try clear p2
 try clear p3
 try clear p35
 try clear p6
 try clear q1
 try clear q14
 try clear q143
 try clear q16
 try clear q161
 try clear q162
 try clear q3
 try clear q35
 obtain ⟨x6_4, x8_4, xa_4, xb_4, ua, ub, rfl, rfl, HA, HK4, P0, P1, BK141, BK144, HB⟩ := hrel
 obtain _ | k4 := gk
 · exact absurd HA.out (by simp [spec_LevelsOf.l2])
 have H := HA.out
 clear HA
 simp only [spec_LevelsOf.l2] at H
 have HC56 := Aa4q H
 clear H
 go_upto_region 20 with (fail)
 go_cut [88] (fun v88 wc => ∃ (kq : Nat) (x88_55 : Bool), v88 = .bool x88_55 ∧ Aside0 (spec_LevelsOf.j5 kq l0 x5_2 x6_4 x8_4 x88_55 xa_4 xb_4 = some (r1, r2, r3)) ∧ Aside0 (kq ≤ k4) ∧ Aside0 (Kd.R (Kd.int .i64) 3 wc w.heap.size (fun k_ => some k_ ≠ (ub : Value).ownBlock) ua xa_4) ∧ Aside0 (Kd.R (Kd.int .i64) 3 wc w.heap.size (fun k_ => some k_ ≠ (ua : Value).ownBlock) ub xb_4) ∧ Aside0 (wc.heap[g141]? = some (.cells #[(.slice none 0 0), (.slice none 0 0)] 24 (0, 0))) ∧ Aside0 (wc.heap[g144]? = some (.cells #[ua, ub] 24 (0, 0))) ∧ Aside0 (Below w.heap.size w wc))
 case first =>
  have H := HC56.out
  clear HC56
  by_cases c57 : x8_4 ≤ 5
  ·
   rw [if_pos c57] at H
   have c57b0 : decide (x8_4 ≤ 5) = true := decide_eq_true c57
   clear c57
   (first | rw [c57b0] | (simp only [i64_w, i32_w]; rw [c57b0]) | skip)
   have H' := Aa4q H
   clear H
   go_wp2
   go_meet
   case rel => exact ⟨_, (!x6_4), Za428, H', ⟨Yq464⟩, ⟨Yq466⟩, ⟨Yq467⟩, ⟨Ub4141⟩, ⟨Ub4144⟩, ⟨Hb4⟩⟩
  rw [if_neg c57] at H
  have c57b0 : decide (x8_4 ≤ 5) = false := decide_eq_false c57
  clear c57
  (first | rw [c57b0] | (simp only [i64_w, i32_w]; rw [c57b0]) | skip)
  have H' := Aa4q H
  clear H
  go_wp2
  go_meet
  case rel => exact ⟨_, (false), Za428, H', ⟨Yq464⟩, ⟨Yq466⟩, ⟨Yq467⟩, ⟨Ub4141⟩, ⟨Ub4144⟩, ⟨Hb4⟩⟩
 clear HC56
 try clear c1
 try clear p1
 try clear q1
 try clear hx1
 try clear qi1
 try clear p2
 try clear c3
 try clear p3
 try clear q3
 try clear hx3
 try clear hf3
 try clear c4
 try clear c5
 try clear c6
 try clear c6b0
 try clear c6b1
 try clear p6
 try clear c7
 try clear c7b0
 try clear c7b1
 try clear c8
 try clear c11
 try clear c12
 try clear c13
 try clear c13b0
 try clear c14
 try clear p14
 try clear q14
 try clear hx14
 try clear qi14
 try clear c15
 try clear p16
 try clear q16
 try clear hx16
 try clear c17
 try clear c31
 try clear c31b0
 try clear c32
 try clear c33
 try clear c33b0
 try clear c34
 try clear c34b0
 try clear p35
 try clear q35
 try clear hx35
 try clear hf35
 try clear c38
 try clear c38b0
 try clear c39
 try clear c39b0
 try clear c40
 try clear c40b0
 try clear c41
 try clear c49
 try clear c50
 try clear c50b0
 try clear c50b1
 try clear c51
 try clear c57
 try clear c57b0
 try clear hcz12_0
 try clear hcz12_1
 try clear hcz18_0
 try clear hcz18_1
 try clear hcz24_0
 try clear hcz24_1
 try clear hcz30_0
 try clear hcz30_1
 try clear hcz42_0
 try clear hcz42_1
 try clear hcz52_0
 try clear hcz52_1
 try clear hcz54_0
 try clear hcz54_1
 try clear hcz9_0
 try clear hcz9_1
 try clear hfz12_0
 try clear hfz12_1
 try clear hfz18_0
 try clear hfz18_1
 try clear hfz24_0
 try clear hfz24_1
 try clear hfz30_0
 try clear hfz30_1
 try clear hfz42_0
 try clear hfz42_1
 try clear hfz52_0
 try clear hfz52_1
 try clear hfz54_0
 try clear hfz54_1
 try clear hfz9_0
 try clear hfz9_1
 try clear hx143_0
 try clear hx161_0
 try clear hx162_0
 try clear hx35_0
 try clear p1
 try clear p14
 try clear p143
 try clear p16
 try clear p161
 try clear p162
 try clear p2
 try clear p3
 try clear p35
 try clear p6
 try clear q1
 try clear q14
 try clear q143
 try clear q16
 try clear q161
 try clear q162
 try clear q3
 try clear q35
 obtain ⟨kq, x88_55, rfl, HA, HJ55, P0, P1, BK141, BK144, HB⟩ := hcut
 obtain _ | kj55 := kq
 · exact absurd HA.out (by simp [spec_LevelsOf.j5])
 have H := HA.out
 clear HA
 simp only [spec_LevelsOf.j5] at H
 by_cases c58 : x88_55 = true
 rotate_left
 ·
  replace c58 := Bool.eq_false_iff.mpr c58
  subst c58
  have H1 : (if x6_4 = true then (spec_LevelsOf.l0 kj55 l0 (wrap64 (x5_2 + 1)) xa_4 xb_4) else (some (([] : List Int), ([] : List Int), false))) = some (r1, r2, r3) := by rw [if_neg (show ¬ (false = true) by decide)] at H; exact H
  clear H
  have H := H1
  clear H1
  by_cases c99 : x6_4 = true
  ·
   subst c99
   have H1 : (spec_LevelsOf.l0 kj55 l0 (wrap64 (x5_2 + 1)) xa_4 xb_4) = some (r1, r2, r3) := by rw [if_pos rfl] at H; exact H
   clear H
   have H := H1
   clear H1
   have H' := Aa4q H
   clear H
   go_wp2
   go_roundg kj55
   case measure => have := HJ1.out; have := HK2.out; have := HJ15.out; have := HK4.out; have := HJ55.out; omega
   case rel => exact ⟨(wrap64 (x5_2 + 1)), (xa_4), (xb_4), (ua), (ub), Za428, H', ⟨Yq468⟩, ⟨Yq466⟩, ⟨Yq467⟩, ⟨Ub4141⟩, ⟨Ub4144⟩, ⟨Hb4⟩⟩
  replace c99 := Bool.eq_false_iff.mpr c99
  subst c99
  have H1 : (some (([] : List Int), ([] : List Int), false)) = some (r1, r2, r3) := by rw [if_neg (show ¬ (false = true) by decide)] at H; exact H
  clear H
  have H := H1
  clear H1
  simp only [Option.some.injEq, Prod.mk.injEq] at H
  obtain ⟨rfl, rfl, rfl⟩ := H
  have hcz101_0 : wc.cell? ⟨g141, 0, none⟩ = some (.slice none 0 0) := (blk_cell BK141.out 0).trans rfl
  have hcz101_1 : wc.cell? ⟨g141, 1, none⟩ = some (.slice none 0 0) := (blk_cell BK141.out 1).trans rfl
  have hfz101_0 := blk_frozen BK141.out 0
  have hfz101_1 := blk_frozen BK141.out 1
  go_wp2
  refine bodyPost_ret (results_ct rfl _ _ g141 24 #[.slice none 0 0, .slice none 0 0] (0, 0) _ rfl Za41 Try.underlying24 rfl Za430) rfl ?_
  exact ⟨_, _, by first | rfl | (simp [errW_none, errW_some] <;> rfl) | (simp [*, errW_none, errW_some] <;> rfl), by first | exact Kd.R_nil _ _ _ _ _ | exact Kd.N_nil _ _ _ _ _ | exact Kd.V_nil _ _ _ _ _ | exact Kd.Q_nil _ _ _ _ _ | exact Kd.S_nil _ _ _ _ _, by first | exact Kd.R_nil _ _ _ _ _ | exact Kd.N_nil _ _ _ _ _ | exact Kd.V_nil _ _ _ _ _ | exact Kd.Q_nil _ _ _ _ _ | exact Kd.S_nil _ _ _ _ _, Hb4⟩
 subst c58
 have H1 : (if 0 ≤ x5_2 then (if x5_2 < (xb_4.length : Int) then ((some (xb_4.set (x5_2 : Int).toNat x8_4 : List Int)).bind fun y163 => ((spec_l1Own.f xa_4).bind fun t164 => ((some (([0] : List Int) : List Int)).bind fun y167 => (if t164.length + y167.length < 17592186044416 then ((spec_l1Own.f y163).bind fun t173 => ((some (([1] : List Int) : List Int)).bind fun y176 => (if t173.length + y176.length < 17592186044416 then ((spec_kiMoments.f kj55 (t164 ++ y167) (t173 ++ y176) (wrap64 ((wrap64 (2 * x5_2)) + 3))).bind fun t183 => (if 0 ≤ (wrap64 ((wrap64 (2 * x5_2)) + 2)) then (if (wrap64 ((wrap64 (2 * x5_2)) + 2)) < (t183.length : Int) then (if (wrap64 ((wrap64 (2 * x5_2)) + 2)) < (l0.length : Int) then (spec_LevelsOf.l2 kj55 l0 x5_2 ((rd t183 (wrap64 ((wrap64 (2 * x5_2)) + 2))) == (rd l0 (wrap64 ((wrap64 (2 * x5_2)) + 2)))) (wrap64 (x8_4 + 1)) xa_4 y163) else (none)) else (none)) else (none))) else (none)))) else (none))))) else (none)) else (none)) = some (r1, r2, r3) := by rw [if_pos rfl] at H; exact H
 clear H
 have H := H1
 clear H1
 by_cases c59 : 0 ≤ x5_2
 rotate_left
 ·
  rw [if_neg c59] at H
  exact absurd H (by simp)
 rw [if_pos c59] at H
 have c59b0 : decide (0 ≤ x5_2) = true := decide_eq_true c59
 clear c59
 by_cases c60 : x5_2 < (xb_4.length : Int)
 rotate_left
 ·
  rw [if_neg c60] at H
  exact absurd H (by simp)
 rw [if_pos c60] at H
 have c60b0 : decide (x5_2 < (xb_4.length : Int)) = true := decide_eq_true c60
 clear c60
 obtain ⟨y163, hy163⟩ : ∃ y_ : List Int, y_ = (xb_4.set (x5_2 : Int).toNat x8_4) := ⟨_, rfl⟩
 replace H : ((spec_l1Own.f xa_4).bind fun t164 => ((some (([0] : List Int) : List Int)).bind fun y167 => (if t164.length + y167.length < 17592186044416 then ((spec_l1Own.f y163).bind fun t173 => ((some (([1] : List Int) : List Int)).bind fun y176 => (if t173.length + y176.length < 17592186044416 then ((spec_kiMoments.f kj55 (t164 ++ y167) (t173 ++ y176) (wrap64 ((wrap64 (2 * x5_2)) + 3))).bind fun t183 => (if 0 ≤ (wrap64 ((wrap64 (2 * x5_2)) + 2)) then (if (wrap64 ((wrap64 (2 * x5_2)) + 2)) < (t183.length : Int) then (if (wrap64 ((wrap64 (2 * x5_2)) + 2)) < (l0.length : Int) then (spec_LevelsOf.l2 kj55 l0 x5_2 ((rd t183 (wrap64 ((wrap64 (2 * x5_2)) + 2))) == (rd l0 (wrap64 ((wrap64 (2 * x5_2)) + 2)))) (wrap64 (x8_4 + 1)) xa_4 y163) else (none)) else (none)) else (none))) else (none)))) else (none)))) = some (r1, r2, r3) := by first | (rw [hy163]; with_reducible exact H) | (have H2_ := (Option.bind_some _ _).symm.trans H; rw [hy163]; with_reducible exact H2_) | (have H2_ := (Option.bind_some _ _).symm.trans H; with_reducible exact H2_) | with_reducible exact H | (rw [hy163]; exact H) | exact H
 have Ny163 := Aa4q hy163
 clear hy163
 replace H := Option.bind_eq_some_iff.mp H
 obtain ⟨t164, A620, H⟩ := H
 replace H : ((some (([0] : List Int) : List Int)).bind fun y167 => (if t164.length + y167.length < 17592186044416 then ((spec_l1Own.f y163).bind fun t173 => ((some (([1] : List Int) : List Int)).bind fun y176 => (if t173.length + y176.length < 17592186044416 then ((spec_kiMoments.f kj55 (t164 ++ y167) (t173 ++ y176) (wrap64 ((wrap64 (2 * x5_2)) + 3))).bind fun t183 => (if 0 ≤ (wrap64 ((wrap64 (2 * x5_2)) + 2)) then (if (wrap64 ((wrap64 (2 * x5_2)) + 2)) < (t183.length : Int) then (if (wrap64 ((wrap64 (2 * x5_2)) + 2)) < (l0.length : Int) then (spec_LevelsOf.l2 kj55 l0 x5_2 ((rd t183 (wrap64 ((wrap64 (2 * x5_2)) + 2))) == (rd l0 (wrap64 ((wrap64 (2 * x5_2)) + 2)))) (wrap64 (x8_4 + 1)) xa_4 y163) else (none)) else (none)) else (none))) else (none)))) else (none))) = some (r1, r2, r3) := H
 have A62 := Aa4q A620
 clear A620
 obtain ⟨y167, hy167⟩ : ∃ y_ : List Int, y_ = (([0] : List Int)) := ⟨_, rfl⟩
 replace H : (if t164.length + y167.length < 17592186044416 then ((spec_l1Own.f y163).bind fun t173 => ((some (([1] : List Int) : List Int)).bind fun y176 => (if t173.length + y176.length < 17592186044416 then ((spec_kiMoments.f kj55 (t164 ++ y167) (t173 ++ y176) (wrap64 ((wrap64 (2 * x5_2)) + 3))).bind fun t183 => (if 0 ≤ (wrap64 ((wrap64 (2 * x5_2)) + 2)) then (if (wrap64 ((wrap64 (2 * x5_2)) + 2)) < (t183.length : Int) then (if (wrap64 ((wrap64 (2 * x5_2)) + 2)) < (l0.length : Int) then (spec_LevelsOf.l2 kj55 l0 x5_2 ((rd t183 (wrap64 ((wrap64 (2 * x5_2)) + 2))) == (rd l0 (wrap64 ((wrap64 (2 * x5_2)) + 2)))) (wrap64 (x8_4 + 1)) xa_4 y163) else (none)) else (none)) else (none))) else (none)))) else (none)) = some (r1, r2, r3) := by first | (rw [hy167]; with_reducible exact H) | (have H2_ := (Option.bind_some _ _).symm.trans H; rw [hy167]; with_reducible exact H2_) | (have H2_ := (Option.bind_some _ _).symm.trans H; with_reducible exact H2_) | with_reducible exact H | (rw [hy167]; exact H) | exact H
 have Ny167 := Aa4q hy167
 clear hy167
 by_cases c63 : t164.length + y167.length < 17592186044416
 rotate_left
 ·
  rw [if_neg c63] at H
  exact absurd H (by simp)
 rw [if_pos c63] at H
 have LMc63 := Aa4q c63
 clear c63
 obtain ⟨y170, hy170⟩ : ∃ y_ : List Int, y_ = (t164 ++ y167) := ⟨_, rfl⟩
 replace H : ((spec_l1Own.f y163).bind fun t173 => ((some (([1] : List Int) : List Int)).bind fun y176 => (if t173.length + y176.length < 17592186044416 then ((spec_kiMoments.f kj55 y170 (t173 ++ y176) (wrap64 ((wrap64 (2 * x5_2)) + 3))).bind fun t183 => (if 0 ≤ (wrap64 ((wrap64 (2 * x5_2)) + 2)) then (if (wrap64 ((wrap64 (2 * x5_2)) + 2)) < (t183.length : Int) then (if (wrap64 ((wrap64 (2 * x5_2)) + 2)) < (l0.length : Int) then (spec_LevelsOf.l2 kj55 l0 x5_2 ((rd t183 (wrap64 ((wrap64 (2 * x5_2)) + 2))) == (rd l0 (wrap64 ((wrap64 (2 * x5_2)) + 2)))) (wrap64 (x8_4 + 1)) xa_4 y163) else (none)) else (none)) else (none))) else (none)))) = some (r1, r2, r3) := by first | (rw [hy170]; with_reducible exact H) | (have H2_ := (Option.bind_some _ _).symm.trans H; rw [hy170]; with_reducible exact H2_) | (have H2_ := (Option.bind_some _ _).symm.trans H; with_reducible exact H2_) | with_reducible exact H | (rw [hy170]; exact H) | exact H
 have Ny170 := Aa4q hy170
 clear hy170
 replace H := Option.bind_eq_some_iff.mp H
 obtain ⟨t173, A640, H⟩ := H
 replace H : ((some (([1] : List Int) : List Int)).bind fun y176 => (if t173.length + y176.length < 17592186044416 then ((spec_kiMoments.f kj55 y170 (t173 ++ y176) (wrap64 ((wrap64 (2 * x5_2)) + 3))).bind fun t183 => (if 0 ≤ (wrap64 ((wrap64 (2 * x5_2)) + 2)) then (if (wrap64 ((wrap64 (2 * x5_2)) + 2)) < (t183.length : Int) then (if (wrap64 ((wrap64 (2 * x5_2)) + 2)) < (l0.length : Int) then (spec_LevelsOf.l2 kj55 l0 x5_2 ((rd t183 (wrap64 ((wrap64 (2 * x5_2)) + 2))) == (rd l0 (wrap64 ((wrap64 (2 * x5_2)) + 2)))) (wrap64 (x8_4 + 1)) xa_4 y163) else (none)) else (none)) else (none))) else (none))) = some (r1, r2, r3) := H
 have A64 := Aa4q A640
 clear A640
 obtain ⟨y176, hy176⟩ : ∃ y_ : List Int, y_ = (([1] : List Int)) := ⟨_, rfl⟩
 replace H : (if t173.length + y176.length < 17592186044416 then ((spec_kiMoments.f kj55 y170 (t173 ++ y176) (wrap64 ((wrap64 (2 * x5_2)) + 3))).bind fun t183 => (if 0 ≤ (wrap64 ((wrap64 (2 * x5_2)) + 2)) then (if (wrap64 ((wrap64 (2 * x5_2)) + 2)) < (t183.length : Int) then (if (wrap64 ((wrap64 (2 * x5_2)) + 2)) < (l0.length : Int) then (spec_LevelsOf.l2 kj55 l0 x5_2 ((rd t183 (wrap64 ((wrap64 (2 * x5_2)) + 2))) == (rd l0 (wrap64 ((wrap64 (2 * x5_2)) + 2)))) (wrap64 (x8_4 + 1)) xa_4 y163) else (none)) else (none)) else (none))) else (none)) = some (r1, r2, r3) := by first | (rw [hy176]; with_reducible exact H) | (have H2_ := (Option.bind_some _ _).symm.trans H; rw [hy176]; with_reducible exact H2_) | (have H2_ := (Option.bind_some _ _).symm.trans H; with_reducible exact H2_) | with_reducible exact H | (rw [hy176]; exact H) | exact H
 have Ny176 := Aa4q hy176
 clear hy176
 by_cases c65 : t173.length + y176.length < 17592186044416
 rotate_left
 ·
  rw [if_neg c65] at H
  exact absurd H (by simp)
 rw [if_pos c65] at H
 have LMc65 := Aa4q c65
 clear c65
 obtain ⟨y179, hy179⟩ : ∃ y_ : List Int, y_ = (t173 ++ y176) := ⟨_, rfl⟩
 replace H : ((spec_kiMoments.f kj55 y170 y179 (wrap64 ((wrap64 (2 * x5_2)) + 3))).bind fun t183 => (if 0 ≤ (wrap64 ((wrap64 (2 * x5_2)) + 2)) then (if (wrap64 ((wrap64 (2 * x5_2)) + 2)) < (t183.length : Int) then (if (wrap64 ((wrap64 (2 * x5_2)) + 2)) < (l0.length : Int) then (spec_LevelsOf.l2 kj55 l0 x5_2 ((rd t183 (wrap64 ((wrap64 (2 * x5_2)) + 2))) == (rd l0 (wrap64 ((wrap64 (2 * x5_2)) + 2)))) (wrap64 (x8_4 + 1)) xa_4 y163) else (none)) else (none)) else (none))) = some (r1, r2, r3) := by first | (rw [hy179]; with_reducible exact H) | (have H2_ := (Option.bind_some _ _).symm.trans H; rw [hy179]; with_reducible exact H2_) | (have H2_ := (Option.bind_some _ _).symm.trans H; with_reducible exact H2_) | with_reducible exact H | (rw [hy179]; exact H) | exact H
 have Ny179 := Aa4q hy179
 clear hy179
 replace H := Option.bind_eq_some_iff.mp H
 obtain ⟨t183, A660, H⟩ := H
 replace H : (if 0 ≤ (wrap64 ((wrap64 (2 * x5_2)) + 2)) then (if (wrap64 ((wrap64 (2 * x5_2)) + 2)) < (t183.length : Int) then (if (wrap64 ((wrap64 (2 * x5_2)) + 2)) < (l0.length : Int) then (spec_LevelsOf.l2 kj55 l0 x5_2 ((rd t183 (wrap64 ((wrap64 (2 * x5_2)) + 2))) == (rd l0 (wrap64 ((wrap64 (2 * x5_2)) + 2)))) (wrap64 (x8_4 + 1)) xa_4 y163) else (none)) else (none)) else (none)) = some (r1, r2, r3) := H
 have A66 := Aa4q A660
 clear A660
 obtain ⟨ji67, hji67⟩ : ∃ j_ : Int, (wrap64 ((wrap64 (2 * x5_2)) + 2)) = j_ := ⟨_, rfl⟩
 replace H : (if 0 ≤ (ji67) then (if (ji67) < (t183.length : Int) then (if (ji67) < (l0.length : Int) then (spec_LevelsOf.l2 kj55 l0 x5_2 ((rd t183 (ji67)) == (rd l0 (ji67))) (wrap64 (x8_4 + 1)) xa_4 y163) else (none)) else (none)) else (none)) = some (r1, r2, r3) := by first | (rw [hji67] at H; exact H) | (simp only [hji67] at H ⊢; exact H)
 (try rw [hji67] at c50b0)
 (try rw [hji67] at c50b1)
 (try rw [hji67] at A62)
 (try rw [hji67] at A64)
 (try rw [hji67] at A66)
 have hji67w : (IntKind.i64.wrap ((wrap64 (2 * x5_2)) + 2)) = ji67 := (i64_w _).trans hji67
 by_cases c68 : 0 ≤ (ji67)
 rotate_left
 ·
  rw [if_neg c68] at H
  exact absurd H (by simp)
 rw [if_pos c68] at H
 have c68b0 : decide (0 ≤ (ji67)) = true := decide_eq_true c68
 clear c68
 by_cases c69 : (ji67) < (t183.length : Int)
 rotate_left
 ·
  rw [if_neg c69] at H
  exact absurd H (by simp)
 rw [if_pos c69] at H
 have c69b0 : decide ((ji67) < (t183.length : Int)) = true := decide_eq_true c69
 clear c69
 by_cases c70 : (ji67) < (l0.length : Int)
 rotate_left
 ·
  rw [if_neg c70] at H
  exact absurd H (by simp)
 rw [if_pos c70] at H
 have c70b0 : decide ((ji67) < (l0.length : Int)) = true := decide_eq_true c70
 clear c70
 have H' := Aa4q H
 clear H
 have hcz72_0 : wc.cell? ⟨g144, 0, none⟩ = some (ua) := (blk_cell BK144.out 0).trans rfl
 have hcz72_1 : wc.cell? ⟨g144, 1, none⟩ = some (ub) := (blk_cell BK144.out 1).trans rfl
 have hfz72_0 := blk_frozen BK144.out 0
 have hfz72_1 := blk_frozen BK144.out 1
 have p61 : 0 ≤ (x5_2 : Int) := of_decide_eq_true Za429
 have q61 : (x5_2 : Int) < ((xb_4.length : Int) : Int) := of_decide_eq_true Za429
 obtain ⟨go61, co61, eo61, g61, gl61, cl61, HG61⟩ := Kd.R_form P1.out (by omega)
 (first | cases eo61 | (injection eo61 with ea_ en_ ec_; (first | subst ea_ | (injection ea_ with ea_; subst ea_)); subst ec_; clear en_))
 have GB61 := Aa4q g61
 have GG61 := Aa4q HG61
 clear g61 gl61 HG61
 obtain ⟨hx61_0, hf61_0⟩ := Kd.R_celln 0 P1.out (x5_2 : Int) p61 q61
 replace p61 := eq_true p61
 replace q61 := eq_true q61
 have HP73 := Kd.R_putg P1.out (x5_2 : Int) x8_4
 try go_wp2_with (first | ((with_reducible refine gate_store (t := 3) (p := 95) rfl ?_); refine store_event (t := 3) (p := 95) (v := ?vo_w74) (w1 := (wc.setCell ⟨go61, (x5_2 : Int).toNat, none⟩ (.int .i64 x8_4))) ?hg ?ho ?hn ?hr ?_; (case ho => rfl); (case hg => rfl); (case hn => rfl); (case hr => first | (go_simp; done) | (go_simp; rfl)); intro w74 hw; have hg : wc.grownBy w74 (some go61) := (by rw [hw]; exact HP73.2); have hp_ : Kd.R (Kd.int .i64) 3 w74 w.heap.size (fun k_ => some k_ ≠ (ua : Value).ownBlock) (.slice (some ⟨go61, 0, none⟩) xb_4.length co61) y163 := (by rw [hw, Ny163.out]; exact HP73.1); clear HP73; have n0_ := Aa4q (Kd.R_after (v := (.slice (some ⟨go61, 0, none⟩) xb_4.length co61)) (v1 := (.slice (some ⟨go61, 0, none⟩) xb_4.length co61)) (ok := (fun _ => True)) (by (with_reducible repeat (first | apply Kd.R_alloc | apply Kd.R_drewN | apply Kd.R_drew)); exact Kd.R_mono P0.out (fun _ hk => ⟨trivial, hk⟩)) hg (.inl rfl)); have n1_ := Aa4q (hp_); have n2_ := Aa4q (blk_grown (g := g141) (o := .cells #[.slice none 0 0, .slice none 0 0] 24 (0, 0)) Ub4141 hg (Kd.R_ne P1.out BK141.out Za431)); have n3_ := Aa4q (blk_grown (g := g144) (o := .cells #[ua, .slice (some ⟨go61, 0, none⟩) xb_4.length co61] 24 (0, 0)) Ub4144 hg (Kd.R_ne P1.out BK144.out Za431)); have n4_ := Aa4q ((by rw [hw]; exact below_set (HB.out) GB61.out : Below w.heap.size w w74)); clear P0; clear P1; clear BK141; clear BK144; clear HB; have P0 := n0_; have P1 := n1_; have BK141 := n2_; have BK144 := n3_; have HB := n4_; clear n0_ n1_ n2_ n3_ n4_; clear hg hw hp_; obtain ⟨Ao75, co75, eo75⟩ := Kd.R_slice P0.out; subst eo75))
 replace P0 := Aa4q (Kd.R_drew P0.out)
 replace P1 := Aa4q (Kd.R_drew P1.out)
 replace BK141 := Aa4q (blk_drew BK141.out)
 replace BK144 := Aa4q (blk_drew BK144.out)
 replace HB := Aa4q (below_drew1 HB.out)
 refine start_ (n := 13) (S := fun w' => w'.cell? ⟨g144, 0, none⟩ = some (.slice Ao75 xa_4.length co75) ∧ w'.cell? ⟨g144, 1, none⟩ = some (.slice (some ⟨go61, 0, none⟩) xb_4.length co61)) (ds := []) #[false, false, false, false, false, false, false, false, false, false, false, false, false] Za430 rfl rfl Zhh (fun hHeld => ?_); refine with_tabW spec_LevelsOf.tab23 spec_LevelsOf.bits23 (fun HT_ HW_ => ?_)
 generalize w74.drew = w76 at P0 P1 BK141 BK144 HB hHeld ⊢
 refine pure_ (i := 0) (N := some 96) (v := ?_) (a' := ?_) #[true, false, false, false, false, false, false, false, false, false, false, false, false] rfl rfl (any_of HT_.out Za430) (fun _ _ _ h => h) (Or.inl ⟨by rfl, ?_⟩) ?_ ?_
 rotate_left
 ·
  intro w'
  go_simp
  with_reducible rfl
 rotate_left
 ·
  simp only [Act.put, y1a4, y2a4, y3a4, i64_w, i32_w]
  rfl
 refine pure_ (i := 5) (N := some 101) (v := ?_) (a' := ?_) #[true, false, false, false, false, true, false, false, false, false, false, false, false] rfl rfl (any_of HT_.out Za430) (fun _ _ _ h => h) (Or.inl ⟨by rfl, ?_⟩) ?_ ?_
 rotate_left
 ·
  intro w'
  go_simp
  with_reducible rfl
 rotate_left
 ·
  simp only [Act.put, y1a4, y2a4, y3a4, i64_w, i32_w]
  rfl
 refine take_ (i := 1) (N := some 97) (v := ?_) (a' := ?_) #[true, true, false, false, false, true, false, false, false, false, false, false, false] rfl rfl (take_ofW HT_.out HW_.out Za430) (fun _ _ _ h => h) (Or.inl ⟨by rfl, ?_⟩) hHeld ?_ ?_
 rotate_left
 ·
  rintro w' ⟨s0, s1⟩
  go_simp
  with_reducible rfl
 rotate_left
 ·
  simp only [Act.put, y1a4, y2a4, y3a4, i64_w, i32_w]
  rfl
 refine take_ (i := 6) (N := some 102) (v := ?_) (a' := ?_) #[true, true, false, false, false, true, true, false, false, false, false, false, false] rfl rfl (take_ofW HT_.out HW_.out Za430) (fun _ _ _ h => h) (Or.inl ⟨by rfl, ?_⟩) hHeld ?_ ?_
 rotate_left
 ·
  rintro w' ⟨s0, s1⟩
  go_simp
  with_reducible rfl
 rotate_left
 ·
  simp only [Act.put, y1a4, y2a4, y3a4, i64_w, i32_w]
  rfl
 refine join_ (σ := Value × Value × Value × Value × Value × Value × Nat) 1 #[true, true, true, true, true, true, true, true, true, true, true, true, false] (fun s_ => [(98, s_.1), (99, s_.2.1), (100, s_.2.2.1), (103, s_.2.2.2.1), (104, s_.2.2.2.2.1), (105, s_.2.2.2.2.2.1), (9, .pointer (some ⟨s_.2.2.2.2.2.2, 0, none⟩)), (106, .agg #[s_.2.2.1, s_.2.2.2.2.2.1])]) (fun s_ w' => (w'.cell? ⟨g144, 0, none⟩ = some (.slice Ao75 xa_4.length co75) ∧ w'.cell? ⟨g144, 1, none⟩ = some (.slice (some ⟨go61, 0, none⟩) xb_4.length co61)) ∧ (Kd.R (Kd.int .i64) 3 w' w.heap.size (fun k_ => some k_ ≠ (s_.2.2.1 : Value).ownBlock ∧ some k_ ≠ (s_.2.2.2.2.1 : Value).ownBlock ∧ some k_ ≠ (s_.2.2.2.2.2.1 : Value).ownBlock ∧ some k_ ≠ (.slice Ao75 xa_4.length co75 : Value).ownBlock ∧ some k_ ≠ (.slice (some ⟨go61, 0, none⟩) xb_4.length co61 : Value).ownBlock) s_.2.1 y167) ∧ (Kd.R (Kd.int .i64) 3 w' w.heap.size (fun k_ => some k_ ≠ (s_.2.1 : Value).ownBlock ∧ some k_ ≠ (s_.2.2.2.2.1 : Value).ownBlock ∧ some k_ ≠ (s_.2.2.2.2.2.1 : Value).ownBlock ∧ some k_ ≠ (.slice Ao75 xa_4.length co75 : Value).ownBlock ∧ some k_ ≠ (.slice (some ⟨go61, 0, none⟩) xb_4.length co61 : Value).ownBlock) s_.2.2.1 y170) ∧ (Kd.R (Kd.int .i64) 3 w' w.heap.size (fun k_ => some k_ ≠ (s_.2.1 : Value).ownBlock ∧ some k_ ≠ (s_.2.2.1 : Value).ownBlock ∧ some k_ ≠ (s_.2.2.2.2.2.1 : Value).ownBlock ∧ some k_ ≠ (.slice Ao75 xa_4.length co75 : Value).ownBlock ∧ some k_ ≠ (.slice (some ⟨go61, 0, none⟩) xb_4.length co61 : Value).ownBlock) s_.2.2.2.2.1 y176) ∧ (Kd.R (Kd.int .i64) 3 w' w.heap.size (fun k_ => some k_ ≠ (s_.2.1 : Value).ownBlock ∧ some k_ ≠ (s_.2.2.1 : Value).ownBlock ∧ some k_ ≠ (s_.2.2.2.2.1 : Value).ownBlock ∧ some k_ ≠ (.slice Ao75 xa_4.length co75 : Value).ownBlock ∧ some k_ ≠ (.slice (some ⟨go61, 0, none⟩) xb_4.length co61 : Value).ownBlock) s_.2.2.2.2.2.1 y179) ∧ (Kd.R (Kd.int .i64) 3 w' w.heap.size (fun k_ => some k_ ≠ (s_.2.1 : Value).ownBlock ∧ some k_ ≠ (s_.2.2.1 : Value).ownBlock ∧ some k_ ≠ (s_.2.2.2.2.1 : Value).ownBlock ∧ some k_ ≠ (s_.2.2.2.2.2.1 : Value).ownBlock ∧ some k_ ≠ (.slice (some ⟨go61, 0, none⟩) xb_4.length co61 : Value).ownBlock) (.slice Ao75 xa_4.length co75) xa_4) ∧ (Kd.R (Kd.int .i64) 3 w' w.heap.size (fun k_ => some k_ ≠ (s_.2.1 : Value).ownBlock ∧ some k_ ≠ (s_.2.2.1 : Value).ownBlock ∧ some k_ ≠ (s_.2.2.2.2.1 : Value).ownBlock ∧ some k_ ≠ (s_.2.2.2.2.2.1 : Value).ownBlock ∧ some k_ ≠ (.slice Ao75 xa_4.length co75 : Value).ownBlock) (.slice (some ⟨go61, 0, none⟩) xb_4.length co61) y163) ∧ (w'.heap[g141]? = some (.cells #[.slice none 0 0, .slice none 0 0] 24 (0, 0))) ∧ (w'.heap[g144]? = some (.cells #[.slice Ao75 xa_4.length co75, .slice (some ⟨go61, 0, none⟩) xb_4.length co61] 24 (0, 0))) ∧ (w'.heap[s_.2.2.2.2.2.2]? = some (.cells #[.slice none 0 0, .slice none 0 0] 24 (0, 0))) ∧ (w.heap.size ≤ s_.2.2.2.2.2.2) ∧ (w.heap.size ≤ s_.2.2.2.2.2.2) ∧ (g141 ≠ s_.2.2.2.2.2.2) ∧ (s_.2.2.2.2.2.2 ≠ g141) ∧ (g144 ≠ s_.2.2.2.2.2.2) ∧ (s_.2.2.2.2.2.2 ≠ g144) ∧ (Below w.heap.size w w')) ?_ ?_
 rotate_left
 ·
  intro hJ2_3_4_7_8_9_11
  refine join_ (σ := Value × Value × Value × Value × Value × Value) 2 #[true, true, true, true, true, true, true, true, true, true, true, false, false] (fun s_ => [(98, s_.1), (99, s_.2.1), (100, s_.2.2.1), (103, s_.2.2.2.1), (104, s_.2.2.2.2.1), (105, s_.2.2.2.2.2), (106, .agg #[s_.2.2.1, s_.2.2.2.2.2])]) (fun s_ w' => (w'.cell? ⟨g144, 0, none⟩ = some (.slice Ao75 xa_4.length co75) ∧ w'.cell? ⟨g144, 1, none⟩ = some (.slice (some ⟨go61, 0, none⟩) xb_4.length co61)) ∧ (Kd.R (Kd.int .i64) 3 w' w.heap.size (fun k_ => some k_ ≠ (s_.2.2.1 : Value).ownBlock ∧ some k_ ≠ (s_.2.2.2.2.1 : Value).ownBlock ∧ some k_ ≠ (s_.2.2.2.2.2 : Value).ownBlock ∧ some k_ ≠ (.slice Ao75 xa_4.length co75 : Value).ownBlock ∧ some k_ ≠ (.slice (some ⟨go61, 0, none⟩) xb_4.length co61 : Value).ownBlock) s_.2.1 y167) ∧ (Kd.R (Kd.int .i64) 3 w' w.heap.size (fun k_ => some k_ ≠ (s_.2.1 : Value).ownBlock ∧ some k_ ≠ (s_.2.2.2.2.1 : Value).ownBlock ∧ some k_ ≠ (s_.2.2.2.2.2 : Value).ownBlock ∧ some k_ ≠ (.slice Ao75 xa_4.length co75 : Value).ownBlock ∧ some k_ ≠ (.slice (some ⟨go61, 0, none⟩) xb_4.length co61 : Value).ownBlock) s_.2.2.1 y170) ∧ (Kd.R (Kd.int .i64) 3 w' w.heap.size (fun k_ => some k_ ≠ (s_.2.1 : Value).ownBlock ∧ some k_ ≠ (s_.2.2.1 : Value).ownBlock ∧ some k_ ≠ (s_.2.2.2.2.2 : Value).ownBlock ∧ some k_ ≠ (.slice Ao75 xa_4.length co75 : Value).ownBlock ∧ some k_ ≠ (.slice (some ⟨go61, 0, none⟩) xb_4.length co61 : Value).ownBlock) s_.2.2.2.2.1 y176) ∧ (Kd.R (Kd.int .i64) 3 w' w.heap.size (fun k_ => some k_ ≠ (s_.2.1 : Value).ownBlock ∧ some k_ ≠ (s_.2.2.1 : Value).ownBlock ∧ some k_ ≠ (s_.2.2.2.2.1 : Value).ownBlock ∧ some k_ ≠ (.slice Ao75 xa_4.length co75 : Value).ownBlock ∧ some k_ ≠ (.slice (some ⟨go61, 0, none⟩) xb_4.length co61 : Value).ownBlock) s_.2.2.2.2.2 y179) ∧ (Kd.R (Kd.int .i64) 3 w' w.heap.size (fun k_ => some k_ ≠ (s_.2.1 : Value).ownBlock ∧ some k_ ≠ (s_.2.2.1 : Value).ownBlock ∧ some k_ ≠ (s_.2.2.2.2.1 : Value).ownBlock ∧ some k_ ≠ (s_.2.2.2.2.2 : Value).ownBlock ∧ some k_ ≠ (.slice (some ⟨go61, 0, none⟩) xb_4.length co61 : Value).ownBlock) (.slice Ao75 xa_4.length co75) xa_4) ∧ (Kd.R (Kd.int .i64) 3 w' w.heap.size (fun k_ => some k_ ≠ (s_.2.1 : Value).ownBlock ∧ some k_ ≠ (s_.2.2.1 : Value).ownBlock ∧ some k_ ≠ (s_.2.2.2.2.1 : Value).ownBlock ∧ some k_ ≠ (s_.2.2.2.2.2 : Value).ownBlock ∧ some k_ ≠ (.slice Ao75 xa_4.length co75 : Value).ownBlock) (.slice (some ⟨go61, 0, none⟩) xb_4.length co61) y163) ∧ (w'.heap[g141]? = some (.cells #[.slice none 0 0, .slice none 0 0] 24 (0, 0))) ∧ (w'.heap[g144]? = some (.cells #[.slice Ao75 xa_4.length co75, .slice (some ⟨go61, 0, none⟩) xb_4.length co61] 24 (0, 0))) ∧ (Below w.heap.size w w')) ?_ ?_
  rotate_left
  rotate_left
  ·
   skip
   rintro ⟨v165, v168, v171, v174, v177, v180⟩ w89 ⟨hS_, h0_, h1_, h2_, h3_, h4_, h5_, h6_, h7_, h8_⟩
   have HO169 := Aa4q h0_
   have HO172 := Aa4q h1_
   have HO178 := Aa4q h2_
   have HO181 := Aa4q h3_
   have n4_ := Aa4q h4_
   have n5_ := Aa4q h5_
   have n6_ : Aside0 (w89.heap[g141]? = some (.cells #[.slice none 0 0, .slice none 0 0] 24 (0, 0))) := ⟨h6_⟩
   have n7_ : Aside0 (w89.heap[g144]? = some (.cells #[.slice Ao75 xa_4.length co75, .slice (some ⟨go61, 0, none⟩) xb_4.length co61] 24 (0, 0))) := ⟨h7_⟩
   have n8_ : Aside0 (Below w.heap.size w w89) := ⟨h8_⟩
   clear P0 P1 BK141 BK144 HB
   clear h0_ h1_ h2_ h3_ h4_ h5_ h6_ h7_ h8_
   have P0 := n4_
   have P1 := n5_
   have BK141 := n6_
   have BK144 := n7_
   have HB := n8_
   clear n4_ n5_ n6_ n7_ n8_
   have hHeld : w89.cell? ⟨g144, 0, none⟩ = some (.slice Ao75 xa_4.length co75) ∧ w89.cell? ⟨g144, 1, none⟩ = some (.slice (some ⟨go61, 0, none⟩) xb_4.length co61) := hS_
   obtain ⟨Ao90, co90, eo90⟩ := Kd.R_slice HO181.out
   (first | subst eo90 | (injection eo90 with f1_ f2_ f3_; have f4_ := f1_.symm; have f5_ := f3_.symm; clear f1_ f2_ f3_; subst f4_; subst f5_))
   obtain ⟨Ao91, co91, eo91⟩ := Kd.R_slice HO172.out
   (first | subst eo91 | (injection eo91 with f1_ f2_ f3_; have f4_ := f1_.symm; have f5_ := f3_.symm; clear f1_ f2_ f3_; subst f4_; subst f5_))
   refine norm_ (a' := ?_) ?_ ?_
   rotate_left
   ·
    simp only [putAll, Act.put, y1a4, y2a4, y3a4]
    rfl
   refine one_ (i := 11) (N := some 9) #[true, true, true, true, true, true, true, true, true, true, true, true, false] rfl rfl (one_of HT_.out Za430) Za431 (fun K hK => ?_)
   refine box_step ?hg (N := 9) ?hd (cs := #[.slice none 0 0, .slice none 0 0]) (t := 24) ?hr ?_; (case hd => rfl); (case hg => rfl); (case hr => first | (go_simp; done) | (go_simp; rfl))
   intro g182 hg w92 hbox hb
   have BK182 := Aa4q (hbox)
   have GW182 := sb4 Hb4 hg
   have GE182 := sb4 Hb4 hg
   have NB141_182 := nb4 BK141 Ub4141 hg
   have NB182_141 := mb4 BK141 Ub4141 hg
   have NB144_182 := nb4 BK144 Ub4144 hg
   have NB182_144 := mb4 BK144 Ub4144 hg
   replace P0 := Aa4q (Kd.R_below Za421 hb)
   replace P1 := Aa4q (Kd.R_below Za422 hb)
   replace HO169 := Aa4q (Kd.R_below Za424 hb)
   replace HO172 := Aa4q (Kd.R_below Za426 hb)
   replace HO178 := Aa4q (Kd.R_below Za423 hb)
   replace HO181 := Aa4q (Kd.R_below Yq465 hb)
   replace BK141 := bb4 BK141 Ub4141 hb
   replace BK144 := bb4 BK144 Ub4144 hb
   replace HB := tb4 Hb4 hb
   clear hb hbox hg
   refine hK.out _ _ Zhh (fun hHeld => ?_)
   clear hK K
   refine norm_ (a' := ?_) ?_ ?_
   rotate_left
   ·
    show Act.put _ (some 9) _ = _
    simp only [Act.put, y1a4, y2a4, y3a4, i64_w, i32_w]
    rfl
   exact norm_ Za43 (hJ2_3_4_7_8_9_11 (v165, v168, .slice Ao91 y170.length co91, v174, v177, .slice Ao90 y179.length co90, g182) _ ⟨hHeld, Za424, Za426, Za423, Yq465, Za421, Za422, Ub4141, Ub4144, Ub4182, GW182.out, GE182.out, NB141_182.out, NB182_141.out, NB144_182.out, NB182_144.out, Hb4⟩)
  intro hJ2_3_4_7_8_9
  refine join_ (σ := Value × Value × Value × Value × Value × Nat) 3 #[true, true, true, true, true, true, true, true, true, false, false, true, false] (fun s_ => [(98, s_.1), (99, s_.2.1), (100, s_.2.2.1), (103, s_.2.2.2.1), (104, s_.2.2.2.2.1), (9, .pointer (some ⟨s_.2.2.2.2.2, 0, none⟩))]) (fun s_ w' => (w'.cell? ⟨g144, 0, none⟩ = some (.slice Ao75 xa_4.length co75) ∧ w'.cell? ⟨g144, 1, none⟩ = some (.slice (some ⟨go61, 0, none⟩) xb_4.length co61)) ∧ (Kd.R (Kd.int .i64) 3 w' w.heap.size (fun k_ => some k_ ≠ (s_.2.2.1 : Value).ownBlock ∧ some k_ ≠ (s_.2.2.2.1 : Value).ownBlock ∧ some k_ ≠ (s_.2.2.2.2.1 : Value).ownBlock ∧ some k_ ≠ (.slice Ao75 xa_4.length co75 : Value).ownBlock ∧ some k_ ≠ (.slice (some ⟨go61, 0, none⟩) xb_4.length co61 : Value).ownBlock) s_.2.1 y167) ∧ (Kd.R (Kd.int .i64) 3 w' w.heap.size (fun k_ => some k_ ≠ (s_.2.1 : Value).ownBlock ∧ some k_ ≠ (s_.2.2.2.1 : Value).ownBlock ∧ some k_ ≠ (s_.2.2.2.2.1 : Value).ownBlock ∧ some k_ ≠ (.slice Ao75 xa_4.length co75 : Value).ownBlock ∧ some k_ ≠ (.slice (some ⟨go61, 0, none⟩) xb_4.length co61 : Value).ownBlock) s_.2.2.1 y170) ∧ (Kd.R (Kd.int .i64) 3 w' w.heap.size (fun k_ => some k_ ≠ (s_.2.1 : Value).ownBlock ∧ some k_ ≠ (s_.2.2.1 : Value).ownBlock ∧ some k_ ≠ (s_.2.2.2.2.1 : Value).ownBlock ∧ some k_ ≠ (.slice Ao75 xa_4.length co75 : Value).ownBlock ∧ some k_ ≠ (.slice (some ⟨go61, 0, none⟩) xb_4.length co61 : Value).ownBlock) s_.2.2.2.1 t173) ∧ (Kd.R (Kd.int .i64) 3 w' w.heap.size (fun k_ => some k_ ≠ (s_.2.1 : Value).ownBlock ∧ some k_ ≠ (s_.2.2.1 : Value).ownBlock ∧ some k_ ≠ (s_.2.2.2.1 : Value).ownBlock ∧ some k_ ≠ (.slice Ao75 xa_4.length co75 : Value).ownBlock ∧ some k_ ≠ (.slice (some ⟨go61, 0, none⟩) xb_4.length co61 : Value).ownBlock) s_.2.2.2.2.1 y176) ∧ (Kd.R (Kd.int .i64) 3 w' w.heap.size (fun k_ => some k_ ≠ (s_.2.1 : Value).ownBlock ∧ some k_ ≠ (s_.2.2.1 : Value).ownBlock ∧ some k_ ≠ (s_.2.2.2.1 : Value).ownBlock ∧ some k_ ≠ (s_.2.2.2.2.1 : Value).ownBlock ∧ some k_ ≠ (.slice (some ⟨go61, 0, none⟩) xb_4.length co61 : Value).ownBlock) (.slice Ao75 xa_4.length co75) xa_4) ∧ (Kd.R (Kd.int .i64) 3 w' w.heap.size (fun k_ => some k_ ≠ (s_.2.1 : Value).ownBlock ∧ some k_ ≠ (s_.2.2.1 : Value).ownBlock ∧ some k_ ≠ (s_.2.2.2.1 : Value).ownBlock ∧ some k_ ≠ (s_.2.2.2.2.1 : Value).ownBlock ∧ some k_ ≠ (.slice Ao75 xa_4.length co75 : Value).ownBlock) (.slice (some ⟨go61, 0, none⟩) xb_4.length co61) y163) ∧ (w'.heap[g141]? = some (.cells #[.slice none 0 0, .slice none 0 0] 24 (0, 0))) ∧ (w'.heap[g144]? = some (.cells #[.slice Ao75 xa_4.length co75, .slice (some ⟨go61, 0, none⟩) xb_4.length co61] 24 (0, 0))) ∧ (w'.heap[s_.2.2.2.2.2]? = some (.cells #[.slice none 0 0, .slice none 0 0] 24 (0, 0))) ∧ (w.heap.size ≤ s_.2.2.2.2.2) ∧ (w.heap.size ≤ s_.2.2.2.2.2) ∧ (g141 ≠ s_.2.2.2.2.2) ∧ (s_.2.2.2.2.2 ≠ g141) ∧ (g144 ≠ s_.2.2.2.2.2) ∧ (s_.2.2.2.2.2 ≠ g144) ∧ (Below w.heap.size w w')) ?_ ?_
  rotate_left
  rotate_left
  ·
   skip
   rintro ⟨v165, v168, v171, v174, v177, g182⟩ w86 ⟨hS_, h0_, h1_, h2_, h3_, h4_, h5_, h6_, h7_, h8_, h9_, h10_, h11_, h12_, h13_, h14_, h15_⟩
   have HO169 := Aa4q h0_
   have HO172 := Aa4q h1_
   have HO175 := Aa4q h2_
   have HO178 := Aa4q h3_
   have n4_ := Aa4q h4_
   have n5_ := Aa4q h5_
   have n6_ : Aside0 (w86.heap[g141]? = some (.cells #[.slice none 0 0, .slice none 0 0] 24 (0, 0))) := ⟨h6_⟩
   have n7_ : Aside0 (w86.heap[g144]? = some (.cells #[.slice Ao75 xa_4.length co75, .slice (some ⟨go61, 0, none⟩) xb_4.length co61] 24 (0, 0))) := ⟨h7_⟩
   have BK182 : Aside0 (w86.heap[g182]? = some (.cells #[.slice none 0 0, .slice none 0 0] 24 (0, 0))) := ⟨h8_⟩
   have GW182 := Aa4q h9_
   have GE182 := Aa4q h10_
   have NB141_182 := Aa4q h11_
   have NB182_141 := Aa4q h12_
   have NB144_182 := Aa4q h13_
   have NB182_144 := Aa4q h14_
   have n15_ : Aside0 (Below w.heap.size w w86) := ⟨h15_⟩
   clear P0 P1 BK141 BK144 HB
   clear h0_ h1_ h2_ h3_ h4_ h5_ h6_ h7_ h8_ h9_ h10_ h11_ h12_ h13_ h14_ h15_
   have P0 := n4_
   have P1 := n5_
   have BK141 := n6_
   have BK144 := n7_
   have HB := n15_
   clear n4_ n5_ n6_ n7_ n15_
   have hHeld : w86.cell? ⟨g144, 0, none⟩ = some (.slice Ao75 xa_4.length co75) ∧ w86.cell? ⟨g144, 1, none⟩ = some (.slice (some ⟨go61, 0, none⟩) xb_4.length co61) := hS_
   obtain ⟨Ao88, co88, eo88⟩ := Kd.R_slice HO178.out
   (first | subst eo88 | (injection eo88 with f1_ f2_ f3_; have f4_ := f1_.symm; have f5_ := f3_.symm; clear f1_ f2_ f3_; subst f4_; subst f5_))
   refine norm_ (a' := ?_) ?_ ?_
   rotate_left
   ·
    simp only [putAll, Act.put, y1a4, y2a4, y3a4]
    rfl
   refine one_ (i := 9) (N := some 105) #[true, true, true, true, true, true, true, true, true, true, false, true, false] rfl rfl (one_of HT_.out Za430) Za431 (fun K hK => ?_)
   refine Kd.R_append_rows_step (Kd.int .i64) (w0 := w) w.heap.size (by rfl) (.tmp 103) (.tmp 104) 22 3 (.int .i64 0) 8 rfl Try.underlying22 info3 rfl Za431 (by omega) v174 t173 y176 _ _ _ (fun k_ => some k_ ≠ (.slice Ao75 xa_4.length co75 : Value).ownBlock ∧ some k_ ≠ (.slice (some ⟨go61, 0, none⟩) xb_4.length co61 : Value).ownBlock ∧ some k_ ≠ (v168 : Value).ownBlock ∧ some k_ ≠ (v171 : Value).ownBlock ∧ some k_ ≠ (.slice Ao88 y176.length co88 : Value).ownBlock) (fun _ => False) rfl rfl ?aO ?aR (fun _ _ h => h) (fun _ h => h.elim) ?aF ?aB ?aS ?aL ?_
   (case aR => repeat (first | exact (Kd.R_reads' HO178.out).2.2 | (with_reducible refine Kd.C_alloc ?_ _) | (with_reducible refine Kd.C_drewN ?_ _) | (with_reducible refine Kd.C_drew ?_)))
   (case aB => exact Hb4)
   (case aF => exact (fun k_ hk => ⟨Kd.fresh' (Kd.R_lt Za421) k_ hk, Kd.fresh' (Kd.R_lt Za422) k_ hk, Kd.fresh' (Kd.R_lt Za424) k_ hk, Kd.fresh' (Kd.R_lt Za426) k_ hk, Kd.fresh' (Kd.R_lt Za423) k_ hk⟩))
   (case aO => exact Yq46)
   (case aS => exact (below_size Hb4))
   (case aL => have := LMc65.out; omega)
   intro v180 w87 ho hb hg hat
   rw [← Ny179.out] at ho
   have HO181 := Aa4q (ho)
   replace P0 := Aa4q (Kd.R_after (ok := (fun k_ => some k_ ≠ (.slice (some ⟨go61, 0, none⟩) xb_4.length co61 : Value).ownBlock ∧ some k_ ≠ (v168 : Value).ownBlock ∧ some k_ ≠ (v171 : Value).ownBlock ∧ some k_ ≠ (.slice Ao88 y176.length co88 : Value).ownBlock)) Yq420 hg hat)
   replace P1 := Aa4q (Kd.R_after (ok := (fun k_ => some k_ ≠ (.slice Ao75 xa_4.length co75 : Value).ownBlock ∧ some k_ ≠ (v168 : Value).ownBlock ∧ some k_ ≠ (v171 : Value).ownBlock ∧ some k_ ≠ (.slice Ao88 y176.length co88 : Value).ownBlock)) Yq421 hg hat)
   replace BK141 := Aa4q (blk_grown (g := g141) (o := .cells #[.slice none 0 0, .slice none 0 0] 24 (0, 0)) Ub4141 hg (Kd.R_ne HO175.out BK141.out Za431))
   replace BK144 := Aa4q (blk_grown (g := g144) (o := .cells #[.slice Ao75 xa_4.length co75, .slice (some ⟨go61, 0, none⟩) xb_4.length co61] 24 (0, 0)) Ub4144 hg (Kd.R_ne HO175.out BK144.out Za431))
   replace HO169 := Aa4q (Kd.R_after (ok := (fun k_ => some k_ ≠ (.slice Ao75 xa_4.length co75 : Value).ownBlock ∧ some k_ ≠ (.slice (some ⟨go61, 0, none⟩) xb_4.length co61 : Value).ownBlock ∧ some k_ ≠ (v171 : Value).ownBlock ∧ some k_ ≠ (.slice Ao88 y176.length co88 : Value).ownBlock)) Yq47 hg hat)
   replace HO172 := Aa4q (Kd.R_after (ok := (fun k_ => some k_ ≠ (.slice Ao75 xa_4.length co75 : Value).ownBlock ∧ some k_ ≠ (.slice (some ⟨go61, 0, none⟩) xb_4.length co61 : Value).ownBlock ∧ some k_ ≠ (v168 : Value).ownBlock ∧ some k_ ≠ (.slice Ao88 y176.length co88 : Value).ownBlock)) Yq48 hg hat)
   replace HO178 := Aa4q (Kd.R_after (ok := (fun k_ => some k_ ≠ (.slice Ao75 xa_4.length co75 : Value).ownBlock ∧ some k_ ≠ (.slice (some ⟨go61, 0, none⟩) xb_4.length co61 : Value).ownBlock ∧ some k_ ≠ (v168 : Value).ownBlock ∧ some k_ ≠ (v171 : Value).ownBlock)) Yq49 hg hat)
   replace BK182 := Aa4q (blk_grown (g := g182) (o := .cells #[.slice none 0 0, .slice none 0 0] 24 (0, 0)) Ub4182 hg (Kd.R_ne HO175.out BK182.out Za431))
   replace HB := Aa4q (hb)
   clear ho hb hg hat
   obtain ⟨Ao89, co89, eo89⟩ := Kd.R_slice HO181.out
   (first | subst eo89 | (injection eo89 with f1_ f2_ f3_; have f4_ := f1_.symm; have f5_ := f3_.symm; clear f1_ f2_ f3_; subst f4_; subst f5_))
   obtain ⟨Ao90, co90, eo90⟩ := Kd.R_slice HO172.out
   (first | subst eo90 | (injection eo90 with f1_ f2_ f3_; have f4_ := f1_.symm; have f5_ := f3_.symm; clear f1_ f2_ f3_; subst f4_; subst f5_))
   refine hK.out _ _ Zhh (fun hHeld => ?_)
   clear hK K
   refine norm_ (a' := ?_) ?_ ?_
   rotate_left
   ·
    show Act.put _ (some 105) _ = _
    simp only [Act.put, y1a4, y2a4, y3a4, i64_w, i32_w]
    rfl
   refine pure_ (i := 10) (N := some 106) (v := ?_) (a' := ?_) #[true, true, true, true, true, true, true, true, true, true, true, true, false] rfl rfl (any_of HT_.out Za430) (fun _ _ _ h => h) (Or.inl ⟨by rfl, ?_⟩) ?_ ?_
   rotate_left
   ·
    intro w'
    go_simp
    with_reducible rfl
   rotate_left
   ·
    simp only [Act.put, y1a4, y2a4, y3a4, i64_w, i32_w]
    rfl
   exact norm_ Za43 (hJ2_3_4_7_8_9_11 (v165, v168, .slice Ao90 y170.length co90, v174, .slice Ao88 y176.length co88, .slice Ao89 y179.length co89, g182) _ ⟨hHeld, Yq410, Yq411, Yq412, Yq413, Yq422, Yq423, Ub4141, Ub4144, Ub4182, GW182.out, GE182.out, NB141_182.out, NB182_141.out, NB144_182.out, NB182_144.out, Hb4⟩)
  intro hJ2_3_4_7_8_11
  refine join_ (σ := Value × Value × Value × Value × Value) 4 #[true, true, true, true, true, true, true, true, true, false, false, false, false] (fun s_ => [(98, s_.1), (99, s_.2.1), (100, s_.2.2.1), (103, s_.2.2.2.1), (104, s_.2.2.2.2)]) (fun s_ w' => (w'.cell? ⟨g144, 0, none⟩ = some (.slice Ao75 xa_4.length co75) ∧ w'.cell? ⟨g144, 1, none⟩ = some (.slice (some ⟨go61, 0, none⟩) xb_4.length co61)) ∧ (Kd.R (Kd.int .i64) 3 w' w.heap.size (fun k_ => some k_ ≠ (s_.2.2.1 : Value).ownBlock ∧ some k_ ≠ (s_.2.2.2.1 : Value).ownBlock ∧ some k_ ≠ (s_.2.2.2.2 : Value).ownBlock ∧ some k_ ≠ (.slice Ao75 xa_4.length co75 : Value).ownBlock ∧ some k_ ≠ (.slice (some ⟨go61, 0, none⟩) xb_4.length co61 : Value).ownBlock) s_.2.1 y167) ∧ (Kd.R (Kd.int .i64) 3 w' w.heap.size (fun k_ => some k_ ≠ (s_.2.1 : Value).ownBlock ∧ some k_ ≠ (s_.2.2.2.1 : Value).ownBlock ∧ some k_ ≠ (s_.2.2.2.2 : Value).ownBlock ∧ some k_ ≠ (.slice Ao75 xa_4.length co75 : Value).ownBlock ∧ some k_ ≠ (.slice (some ⟨go61, 0, none⟩) xb_4.length co61 : Value).ownBlock) s_.2.2.1 y170) ∧ (Kd.R (Kd.int .i64) 3 w' w.heap.size (fun k_ => some k_ ≠ (s_.2.1 : Value).ownBlock ∧ some k_ ≠ (s_.2.2.1 : Value).ownBlock ∧ some k_ ≠ (s_.2.2.2.2 : Value).ownBlock ∧ some k_ ≠ (.slice Ao75 xa_4.length co75 : Value).ownBlock ∧ some k_ ≠ (.slice (some ⟨go61, 0, none⟩) xb_4.length co61 : Value).ownBlock) s_.2.2.2.1 t173) ∧ (Kd.R (Kd.int .i64) 3 w' w.heap.size (fun k_ => some k_ ≠ (s_.2.1 : Value).ownBlock ∧ some k_ ≠ (s_.2.2.1 : Value).ownBlock ∧ some k_ ≠ (s_.2.2.2.1 : Value).ownBlock ∧ some k_ ≠ (.slice Ao75 xa_4.length co75 : Value).ownBlock ∧ some k_ ≠ (.slice (some ⟨go61, 0, none⟩) xb_4.length co61 : Value).ownBlock) s_.2.2.2.2 y176) ∧ (Kd.R (Kd.int .i64) 3 w' w.heap.size (fun k_ => some k_ ≠ (s_.2.1 : Value).ownBlock ∧ some k_ ≠ (s_.2.2.1 : Value).ownBlock ∧ some k_ ≠ (s_.2.2.2.1 : Value).ownBlock ∧ some k_ ≠ (s_.2.2.2.2 : Value).ownBlock ∧ some k_ ≠ (.slice (some ⟨go61, 0, none⟩) xb_4.length co61 : Value).ownBlock) (.slice Ao75 xa_4.length co75) xa_4) ∧ (Kd.R (Kd.int .i64) 3 w' w.heap.size (fun k_ => some k_ ≠ (s_.2.1 : Value).ownBlock ∧ some k_ ≠ (s_.2.2.1 : Value).ownBlock ∧ some k_ ≠ (s_.2.2.2.1 : Value).ownBlock ∧ some k_ ≠ (s_.2.2.2.2 : Value).ownBlock ∧ some k_ ≠ (.slice Ao75 xa_4.length co75 : Value).ownBlock) (.slice (some ⟨go61, 0, none⟩) xb_4.length co61) y163) ∧ (w'.heap[g141]? = some (.cells #[.slice none 0 0, .slice none 0 0] 24 (0, 0))) ∧ (w'.heap[g144]? = some (.cells #[.slice Ao75 xa_4.length co75, .slice (some ⟨go61, 0, none⟩) xb_4.length co61] 24 (0, 0))) ∧ (Below w.heap.size w w')) ?_ ?_
  rotate_left
  rotate_left
  ·
   skip
   rintro ⟨v165, v168, v171, v174, v177⟩ w85 ⟨hS_, h0_, h1_, h2_, h3_, h4_, h5_, h6_, h7_, h8_⟩
   have HO169 := Aa4q h0_
   have HO172 := Aa4q h1_
   have HO175 := Aa4q h2_
   have HO178 := Aa4q h3_
   have n4_ := Aa4q h4_
   have n5_ := Aa4q h5_
   have n6_ : Aside0 (w85.heap[g141]? = some (.cells #[.slice none 0 0, .slice none 0 0] 24 (0, 0))) := ⟨h6_⟩
   have n7_ : Aside0 (w85.heap[g144]? = some (.cells #[.slice Ao75 xa_4.length co75, .slice (some ⟨go61, 0, none⟩) xb_4.length co61] 24 (0, 0))) := ⟨h7_⟩
   have n8_ : Aside0 (Below w.heap.size w w85) := ⟨h8_⟩
   clear P0 P1 BK141 BK144 HB
   clear h0_ h1_ h2_ h3_ h4_ h5_ h6_ h7_ h8_
   have P0 := n4_
   have P1 := n5_
   have BK141 := n6_
   have BK144 := n7_
   have HB := n8_
   clear n4_ n5_ n6_ n7_ n8_
   have hHeld : w85.cell? ⟨g144, 0, none⟩ = some (.slice Ao75 xa_4.length co75) ∧ w85.cell? ⟨g144, 1, none⟩ = some (.slice (some ⟨go61, 0, none⟩) xb_4.length co61) := hS_
   obtain ⟨Ao87, co87, eo87⟩ := Kd.R_slice HO178.out
   (first | subst eo87 | (injection eo87 with f1_ f2_ f3_; have f4_ := f1_.symm; have f5_ := f3_.symm; clear f1_ f2_ f3_; subst f4_; subst f5_))
   refine norm_ (a' := ?_) ?_ ?_
   rotate_left
   ·
    simp only [putAll, Act.put, y1a4, y2a4, y3a4]
    rfl
   refine two_ (i := 9) (j := 11) (Ni := some 105) (Nj := some 9) #[true, true, true, true, true, true, true, true, true, true, false, false, false] #[true, true, true, true, true, true, true, true, true, false, false, true, false] rfl rfl rfl rfl (two_of HT_.out Za430) Za431 Za431 (fun K hK => ?_) (fun K hK => ?_)
   rotate_left
   ·
    skip
    refine box_step ?hg (N := 9) ?hd (cs := #[.slice none 0 0, .slice none 0 0]) (t := 24) ?hr ?_; (case hd => rfl); (case hg => rfl); (case hr => first | (go_simp; done) | (go_simp; rfl))
    intro g182 hg w86 hbox hb
    have BK182 := Aa4q (hbox)
    have GW182 := sb4 Hb4 hg
    have GE182 := sb4 Hb4 hg
    have NB141_182 := nb4 BK141 Ub4141 hg
    have NB182_141 := mb4 BK141 Ub4141 hg
    have NB144_182 := nb4 BK144 Ub4144 hg
    have NB182_144 := mb4 BK144 Ub4144 hg
    replace P0 := Aa4q (Kd.R_below Za421 hb)
    replace P1 := Aa4q (Kd.R_below Za422 hb)
    replace HO169 := Aa4q (Kd.R_below Za424 hb)
    replace HO172 := Aa4q (Kd.R_below Za426 hb)
    replace HO175 := Aa4q (Kd.R_below Za427 hb)
    replace HO178 := Aa4q (Kd.R_below Za423 hb)
    replace BK141 := bb4 BK141 Ub4141 hb
    replace BK144 := bb4 BK144 Ub4144 hb
    replace HB := tb4 Hb4 hb
    clear hb hbox hg
    refine hK.out _ _ Zhh (fun hHeld => ?_)
    clear hK K
    refine norm_ (a' := ?_) ?_ ?_
    rotate_left
    ·
     show Act.put _ (some 9) _ = _
     simp only [Act.put, y1a4, y2a4, y3a4, i64_w, i32_w]
     rfl
    exact norm_ Za43 (hJ2_3_4_7_8_11 (v165, v168, v171, v174, .slice Ao87 y176.length co87, g182) _ ⟨hHeld, Za424, Za426, Za427, Za423, Za421, Za422, Ub4141, Ub4144, Ub4182, GW182.out, GE182.out, NB141_182.out, NB182_141.out, NB144_182.out, NB182_144.out, Hb4⟩)
   skip
   refine Kd.R_append_rows_step (Kd.int .i64) (w0 := w) w.heap.size (by rfl) (.tmp 103) (.tmp 104) 22 3 (.int .i64 0) 8 rfl Try.underlying22 info3 rfl Za431 (by omega) v174 t173 y176 _ _ _ (fun k_ => some k_ ≠ (.slice Ao75 xa_4.length co75 : Value).ownBlock ∧ some k_ ≠ (.slice (some ⟨go61, 0, none⟩) xb_4.length co61 : Value).ownBlock ∧ some k_ ≠ (v168 : Value).ownBlock ∧ some k_ ≠ (v171 : Value).ownBlock ∧ some k_ ≠ (.slice Ao87 y176.length co87 : Value).ownBlock) (fun _ => False) rfl rfl ?aO ?aR (fun _ _ h => h) (fun _ h => h.elim) ?aF ?aB ?aS ?aL ?_
   (case aR => repeat (first | exact (Kd.R_reads' HO178.out).2.2 | (with_reducible refine Kd.C_alloc ?_ _) | (with_reducible refine Kd.C_drewN ?_ _) | (with_reducible refine Kd.C_drew ?_)))
   (case aB => exact Hb4)
   (case aF => exact (fun k_ hk => ⟨Kd.fresh' (Kd.R_lt Za421) k_ hk, Kd.fresh' (Kd.R_lt Za422) k_ hk, Kd.fresh' (Kd.R_lt Za424) k_ hk, Kd.fresh' (Kd.R_lt Za426) k_ hk, Kd.fresh' (Kd.R_lt Za423) k_ hk⟩))
   (case aO => exact Yq46)
   (case aS => exact (below_size Hb4))
   (case aL => have := LMc65.out; omega)
   intro v180 w86 ho hb hg hat
   rw [← Ny179.out] at ho
   have HO181 := Aa4q (ho)
   replace P0 := Aa4q (Kd.R_after (ok := (fun k_ => some k_ ≠ (.slice (some ⟨go61, 0, none⟩) xb_4.length co61 : Value).ownBlock ∧ some k_ ≠ (v168 : Value).ownBlock ∧ some k_ ≠ (v171 : Value).ownBlock ∧ some k_ ≠ (.slice Ao87 y176.length co87 : Value).ownBlock)) Yq420 hg hat)
   replace P1 := Aa4q (Kd.R_after (ok := (fun k_ => some k_ ≠ (.slice Ao75 xa_4.length co75 : Value).ownBlock ∧ some k_ ≠ (v168 : Value).ownBlock ∧ some k_ ≠ (v171 : Value).ownBlock ∧ some k_ ≠ (.slice Ao87 y176.length co87 : Value).ownBlock)) Yq421 hg hat)
   replace BK141 := Aa4q (blk_grown (g := g141) (o := .cells #[.slice none 0 0, .slice none 0 0] 24 (0, 0)) Ub4141 hg (Kd.R_ne HO175.out BK141.out Za431))
   replace BK144 := Aa4q (blk_grown (g := g144) (o := .cells #[.slice Ao75 xa_4.length co75, .slice (some ⟨go61, 0, none⟩) xb_4.length co61] 24 (0, 0)) Ub4144 hg (Kd.R_ne HO175.out BK144.out Za431))
   replace HO169 := Aa4q (Kd.R_after (ok := (fun k_ => some k_ ≠ (.slice Ao75 xa_4.length co75 : Value).ownBlock ∧ some k_ ≠ (.slice (some ⟨go61, 0, none⟩) xb_4.length co61 : Value).ownBlock ∧ some k_ ≠ (v171 : Value).ownBlock ∧ some k_ ≠ (.slice Ao87 y176.length co87 : Value).ownBlock)) Yq47 hg hat)
   replace HO172 := Aa4q (Kd.R_after (ok := (fun k_ => some k_ ≠ (.slice Ao75 xa_4.length co75 : Value).ownBlock ∧ some k_ ≠ (.slice (some ⟨go61, 0, none⟩) xb_4.length co61 : Value).ownBlock ∧ some k_ ≠ (v168 : Value).ownBlock ∧ some k_ ≠ (.slice Ao87 y176.length co87 : Value).ownBlock)) Yq48 hg hat)
   replace HO178 := Aa4q (Kd.R_after (ok := (fun k_ => some k_ ≠ (.slice Ao75 xa_4.length co75 : Value).ownBlock ∧ some k_ ≠ (.slice (some ⟨go61, 0, none⟩) xb_4.length co61 : Value).ownBlock ∧ some k_ ≠ (v168 : Value).ownBlock ∧ some k_ ≠ (v171 : Value).ownBlock)) Yq49 hg hat)
   replace HB := Aa4q (hb)
   clear ho hb hg hat
   obtain ⟨Ao88, co88, eo88⟩ := Kd.R_slice HO181.out
   (first | subst eo88 | (injection eo88 with f1_ f2_ f3_; have f4_ := f1_.symm; have f5_ := f3_.symm; clear f1_ f2_ f3_; subst f4_; subst f5_))
   obtain ⟨Ao89, co89, eo89⟩ := Kd.R_slice HO172.out
   (first | subst eo89 | (injection eo89 with f1_ f2_ f3_; have f4_ := f1_.symm; have f5_ := f3_.symm; clear f1_ f2_ f3_; subst f4_; subst f5_))
   refine hK.out _ _ Zhh (fun hHeld => ?_)
   clear hK K
   refine norm_ (a' := ?_) ?_ ?_
   rotate_left
   ·
    show Act.put _ (some 105) _ = _
    simp only [Act.put, y1a4, y2a4, y3a4, i64_w, i32_w]
    rfl
   refine pure_ (i := 10) (N := some 106) (v := ?_) (a' := ?_) #[true, true, true, true, true, true, true, true, true, true, true, false, false] rfl rfl (any_of HT_.out Za430) (fun _ _ _ h => h) (Or.inl ⟨by rfl, ?_⟩) ?_ ?_
   rotate_left
   ·
    intro w'
    go_simp
    with_reducible rfl
   rotate_left
   ·
    simp only [Act.put, y1a4, y2a4, y3a4, i64_w, i32_w]
    rfl
   exact norm_ Za43 (hJ2_3_4_7_8_9 (v165, v168, .slice Ao89 y170.length co89, v174, .slice Ao87 y176.length co87, .slice Ao88 y179.length co88) _ ⟨hHeld, Yq410, Yq411, Yq412, Yq413, Yq422, Yq423, Ub4141, Ub4144, Hb4⟩)
  intro hJ2_3_4_7_8
  refine join_ (σ := Value × Value × Value × Value × Nat) 4 #[true, true, true, true, true, true, true, true, false, false, false, true, false] (fun s_ => [(98, s_.1), (99, s_.2.1), (100, s_.2.2.1), (103, s_.2.2.2.1), (9, .pointer (some ⟨s_.2.2.2.2, 0, none⟩))]) (fun s_ w' => (w'.cell? ⟨g144, 0, none⟩ = some (.slice Ao75 xa_4.length co75) ∧ w'.cell? ⟨g144, 1, none⟩ = some (.slice (some ⟨go61, 0, none⟩) xb_4.length co61)) ∧ (Kd.R (Kd.int .i64) 3 w' w.heap.size (fun k_ => some k_ ≠ (s_.2.2.1 : Value).ownBlock ∧ some k_ ≠ (s_.2.2.2.1 : Value).ownBlock ∧ some k_ ≠ (.slice Ao75 xa_4.length co75 : Value).ownBlock ∧ some k_ ≠ (.slice (some ⟨go61, 0, none⟩) xb_4.length co61 : Value).ownBlock) s_.2.1 y167) ∧ (Kd.R (Kd.int .i64) 3 w' w.heap.size (fun k_ => some k_ ≠ (s_.2.1 : Value).ownBlock ∧ some k_ ≠ (s_.2.2.2.1 : Value).ownBlock ∧ some k_ ≠ (.slice Ao75 xa_4.length co75 : Value).ownBlock ∧ some k_ ≠ (.slice (some ⟨go61, 0, none⟩) xb_4.length co61 : Value).ownBlock) s_.2.2.1 y170) ∧ (Kd.R (Kd.int .i64) 3 w' w.heap.size (fun k_ => some k_ ≠ (s_.2.1 : Value).ownBlock ∧ some k_ ≠ (s_.2.2.1 : Value).ownBlock ∧ some k_ ≠ (.slice Ao75 xa_4.length co75 : Value).ownBlock ∧ some k_ ≠ (.slice (some ⟨go61, 0, none⟩) xb_4.length co61 : Value).ownBlock) s_.2.2.2.1 t173) ∧ (Kd.R (Kd.int .i64) 3 w' w.heap.size (fun k_ => some k_ ≠ (s_.2.1 : Value).ownBlock ∧ some k_ ≠ (s_.2.2.1 : Value).ownBlock ∧ some k_ ≠ (s_.2.2.2.1 : Value).ownBlock ∧ some k_ ≠ (.slice (some ⟨go61, 0, none⟩) xb_4.length co61 : Value).ownBlock) (.slice Ao75 xa_4.length co75) xa_4) ∧ (Kd.R (Kd.int .i64) 3 w' w.heap.size (fun k_ => some k_ ≠ (s_.2.1 : Value).ownBlock ∧ some k_ ≠ (s_.2.2.1 : Value).ownBlock ∧ some k_ ≠ (s_.2.2.2.1 : Value).ownBlock ∧ some k_ ≠ (.slice Ao75 xa_4.length co75 : Value).ownBlock) (.slice (some ⟨go61, 0, none⟩) xb_4.length co61) y163) ∧ (w'.heap[g141]? = some (.cells #[.slice none 0 0, .slice none 0 0] 24 (0, 0))) ∧ (w'.heap[g144]? = some (.cells #[.slice Ao75 xa_4.length co75, .slice (some ⟨go61, 0, none⟩) xb_4.length co61] 24 (0, 0))) ∧ (w'.heap[s_.2.2.2.2]? = some (.cells #[.slice none 0 0, .slice none 0 0] 24 (0, 0))) ∧ (w.heap.size ≤ s_.2.2.2.2) ∧ (w.heap.size ≤ s_.2.2.2.2) ∧ (g141 ≠ s_.2.2.2.2) ∧ (s_.2.2.2.2 ≠ g141) ∧ (g144 ≠ s_.2.2.2.2) ∧ (s_.2.2.2.2 ≠ g144) ∧ (Below w.heap.size w w')) ?_ ?_
  rotate_left
  rotate_left
  ·
   skip
   rintro ⟨v165, v168, v171, v174, g182⟩ w84 ⟨hS_, h0_, h1_, h2_, h3_, h4_, h5_, h6_, h7_, h8_, h9_, h10_, h11_, h12_, h13_, h14_⟩
   have HO169 := Aa4q h0_
   have HO172 := Aa4q h1_
   have HO175 := Aa4q h2_
   have n3_ := Aa4q h3_
   have n4_ := Aa4q h4_
   have n5_ : Aside0 (w84.heap[g141]? = some (.cells #[.slice none 0 0, .slice none 0 0] 24 (0, 0))) := ⟨h5_⟩
   have n6_ : Aside0 (w84.heap[g144]? = some (.cells #[.slice Ao75 xa_4.length co75, .slice (some ⟨go61, 0, none⟩) xb_4.length co61] 24 (0, 0))) := ⟨h6_⟩
   have BK182 : Aside0 (w84.heap[g182]? = some (.cells #[.slice none 0 0, .slice none 0 0] 24 (0, 0))) := ⟨h7_⟩
   have GW182 := Aa4q h8_
   have GE182 := Aa4q h9_
   have NB141_182 := Aa4q h10_
   have NB182_141 := Aa4q h11_
   have NB144_182 := Aa4q h12_
   have NB182_144 := Aa4q h13_
   have n14_ : Aside0 (Below w.heap.size w w84) := ⟨h14_⟩
   clear P0 P1 BK141 BK144 HB
   clear h0_ h1_ h2_ h3_ h4_ h5_ h6_ h7_ h8_ h9_ h10_ h11_ h12_ h13_ h14_
   have P0 := n3_
   have P1 := n4_
   have BK141 := n5_
   have BK144 := n6_
   have HB := n14_
   clear n3_ n4_ n5_ n6_ n14_
   have hHeld : w84.cell? ⟨g144, 0, none⟩ = some (.slice Ao75 xa_4.length co75) ∧ w84.cell? ⟨g144, 1, none⟩ = some (.slice (some ⟨go61, 0, none⟩) xb_4.length co61) := hS_
   refine norm_ (a' := ?_) ?_ ?_
   rotate_left
   ·
    simp only [putAll, Act.put, y1a4, y2a4, y3a4]
    rfl
   refine one_ (i := 8) (N := some 104) #[true, true, true, true, true, true, true, true, true, false, false, true, false] rfl rfl (one_of HT_.out Za430) Za431 (fun K hK => ?_)
   refine Kd.R_lit_step (Kd.int .i64) _ 3 ?hg (N := 104) ?hd (xs := ([1] : List Int)) (inner := [.int .i64 1]) (ok := fun _ => True) (okp := fun _ => True) ?hr ?hp (fun _ hk => hk) trivial (Below.refl _ _) (Nat.le_refl _) (by simp) ?_; (case hd => rfl); (case hg => rfl); (case hr => first | (go_simp; done) | (go_simp; rfl)); (case hp => exact (Reps.one (show Kd.M (Kd.int .i64) _ _ _ 1 [.int .i64 1] from rfl) (Reps.none _ _)))
   intro v177 w85 ho86 hb hg_ hnew_
   clear hg_ hnew_
   (first | rw [← Ny176.out] at ho86 | (simp only [Int.reduceToNat] at ho86; rw [← Ny176.out] at ho86))
   have HO178 := Aa4q (Kd.R_lower (Kd.R_new' (Kd.R_new' (Kd.R_new' (Kd.R_new' (Kd.R_new' ho86 (Kd.R_lt Za421)) (Kd.R_lt Za422)) (Kd.R_lt Za424)) (Kd.R_lt Za426)) (Kd.R_lt Za427)) (below_size Hb4))
   replace P0 := Aa4q (Kd.R_elder' Za421 (Kd.R_base ho86) hb)
   replace P1 := Aa4q (Kd.R_elder' Za422 (Kd.R_base ho86) hb)
   replace HO169 := Aa4q (Kd.R_elder' Za424 (Kd.R_base ho86) hb)
   replace HO172 := Aa4q (Kd.R_elder' Za426 (Kd.R_base ho86) hb)
   replace HO175 := Aa4q (Kd.R_elder' Za427 (Kd.R_base ho86) hb)
   replace BK141 := bb4 BK141 Ub4141 hb
   replace BK144 := bb4 BK144 Ub4144 hb
   replace BK182 := bb4 BK182 Ub4182 hb
   replace HB := tb4 Hb4 hb
   clear hb ho86
   refine hK.out _ _ Zhh (fun hHeld => ?_)
   clear hK K
   refine norm_ (a' := ?_) ?_ ?_
   rotate_left
   ·
    show Act.put _ (some 104) _ = _
    simp only [Act.put, y1a4, y2a4, y3a4, i64_w, i32_w]
    rfl
   exact norm_ Za43 (hJ2_3_4_7_8_11 (v165, v168, v171, v174, v177, g182) _ ⟨hHeld, Yq414, Yq415, Yq416, Yq44, Yq424, Yq425, Ub4141, Ub4144, Ub4182, GW182.out, GE182.out, NB141_182.out, NB182_141.out, NB144_182.out, NB182_144.out, Hb4⟩)
  intro hJ2_3_4_7_11
  refine join_ (σ := Value × Value × Value × Value × Nat) 4 #[true, true, true, true, true, true, true, false, true, false, false, true, false] (fun s_ => [(98, s_.1), (99, s_.2.1), (100, s_.2.2.1), (104, s_.2.2.2.1), (9, .pointer (some ⟨s_.2.2.2.2, 0, none⟩))]) (fun s_ w' => (w'.cell? ⟨g144, 0, none⟩ = some (.slice Ao75 xa_4.length co75) ∧ w'.cell? ⟨g144, 1, none⟩ = some (.slice (some ⟨go61, 0, none⟩) xb_4.length co61)) ∧ (Kd.R (Kd.int .i64) 3 w' w.heap.size (fun k_ => some k_ ≠ (s_.2.2.1 : Value).ownBlock ∧ some k_ ≠ (s_.2.2.2.1 : Value).ownBlock ∧ some k_ ≠ (.slice Ao75 xa_4.length co75 : Value).ownBlock ∧ some k_ ≠ (.slice (some ⟨go61, 0, none⟩) xb_4.length co61 : Value).ownBlock) s_.2.1 y167) ∧ (Kd.R (Kd.int .i64) 3 w' w.heap.size (fun k_ => some k_ ≠ (s_.2.1 : Value).ownBlock ∧ some k_ ≠ (s_.2.2.2.1 : Value).ownBlock ∧ some k_ ≠ (.slice Ao75 xa_4.length co75 : Value).ownBlock ∧ some k_ ≠ (.slice (some ⟨go61, 0, none⟩) xb_4.length co61 : Value).ownBlock) s_.2.2.1 y170) ∧ (Kd.R (Kd.int .i64) 3 w' w.heap.size (fun k_ => some k_ ≠ (s_.2.1 : Value).ownBlock ∧ some k_ ≠ (s_.2.2.1 : Value).ownBlock ∧ some k_ ≠ (.slice Ao75 xa_4.length co75 : Value).ownBlock ∧ some k_ ≠ (.slice (some ⟨go61, 0, none⟩) xb_4.length co61 : Value).ownBlock) s_.2.2.2.1 y176) ∧ (Kd.R (Kd.int .i64) 3 w' w.heap.size (fun k_ => some k_ ≠ (s_.2.1 : Value).ownBlock ∧ some k_ ≠ (s_.2.2.1 : Value).ownBlock ∧ some k_ ≠ (s_.2.2.2.1 : Value).ownBlock ∧ some k_ ≠ (.slice (some ⟨go61, 0, none⟩) xb_4.length co61 : Value).ownBlock) (.slice Ao75 xa_4.length co75) xa_4) ∧ (Kd.R (Kd.int .i64) 3 w' w.heap.size (fun k_ => some k_ ≠ (s_.2.1 : Value).ownBlock ∧ some k_ ≠ (s_.2.2.1 : Value).ownBlock ∧ some k_ ≠ (s_.2.2.2.1 : Value).ownBlock ∧ some k_ ≠ (.slice Ao75 xa_4.length co75 : Value).ownBlock) (.slice (some ⟨go61, 0, none⟩) xb_4.length co61) y163) ∧ (w'.heap[g141]? = some (.cells #[.slice none 0 0, .slice none 0 0] 24 (0, 0))) ∧ (w'.heap[g144]? = some (.cells #[.slice Ao75 xa_4.length co75, .slice (some ⟨go61, 0, none⟩) xb_4.length co61] 24 (0, 0))) ∧ (w'.heap[s_.2.2.2.2]? = some (.cells #[.slice none 0 0, .slice none 0 0] 24 (0, 0))) ∧ (w.heap.size ≤ s_.2.2.2.2) ∧ (w.heap.size ≤ s_.2.2.2.2) ∧ (g141 ≠ s_.2.2.2.2) ∧ (s_.2.2.2.2 ≠ g141) ∧ (g144 ≠ s_.2.2.2.2) ∧ (s_.2.2.2.2 ≠ g144) ∧ (Below w.heap.size w w')) ?_ ?_
  rotate_left
  rotate_left
  ·
   skip
   rintro ⟨v165, v168, v171, v177, g182⟩ w85 ⟨hS_, h0_, h1_, h2_, h3_, h4_, h5_, h6_, h7_, h8_, h9_, h10_, h11_, h12_, h13_, h14_⟩
   have HO169 := Aa4q h0_
   have HO172 := Aa4q h1_
   have HO178 := Aa4q h2_
   have n3_ := Aa4q h3_
   have n4_ := Aa4q h4_
   have n5_ : Aside0 (w85.heap[g141]? = some (.cells #[.slice none 0 0, .slice none 0 0] 24 (0, 0))) := ⟨h5_⟩
   have n6_ : Aside0 (w85.heap[g144]? = some (.cells #[.slice Ao75 xa_4.length co75, .slice (some ⟨go61, 0, none⟩) xb_4.length co61] 24 (0, 0))) := ⟨h6_⟩
   have BK182 : Aside0 (w85.heap[g182]? = some (.cells #[.slice none 0 0, .slice none 0 0] 24 (0, 0))) := ⟨h7_⟩
   have GW182 := Aa4q h8_
   have GE182 := Aa4q h9_
   have NB141_182 := Aa4q h10_
   have NB182_141 := Aa4q h11_
   have NB144_182 := Aa4q h12_
   have NB182_144 := Aa4q h13_
   have n14_ : Aside0 (Below w.heap.size w w85) := ⟨h14_⟩
   clear P0 P1 BK141 BK144 HB
   clear h0_ h1_ h2_ h3_ h4_ h5_ h6_ h7_ h8_ h9_ h10_ h11_ h12_ h13_ h14_
   have P0 := n3_
   have P1 := n4_
   have BK141 := n5_
   have BK144 := n6_
   have HB := n14_
   clear n3_ n4_ n5_ n6_ n14_
   have hHeld : w85.cell? ⟨g144, 0, none⟩ = some (.slice Ao75 xa_4.length co75) ∧ w85.cell? ⟨g144, 1, none⟩ = some (.slice (some ⟨go61, 0, none⟩) xb_4.length co61) := hS_
   refine norm_ (a' := ?_) ?_ ?_
   rotate_left
   ·
    simp only [putAll, Act.put, y1a4, y2a4, y3a4]
    rfl
   refine one_ (i := 7) (N := some 103) #[true, true, true, true, true, true, true, true, true, false, false, true, false] rfl rfl (one_of HT_.out Za430) Za431 (fun K hK => ?_)
   refine goes_ Try.func14 Za430 rfl #[.slice (some ⟨go61, 0, none⟩) y163.length co61] (by rfl) rfl rfl Za42 ?_
   with_reducible refine (spec_l1Own.calls _ _ y163 t173 _ ?side1 ?side2 A64.out).mono ?_
   (case side1 => repeat (first | exact (Kd.R_reads' P1.out).2.2 | (with_reducible refine Kd.C_alloc ?_ _) | (with_reducible refine Kd.C_drewN ?_ _) | (with_reducible refine Kd.C_drew ?_)))
   (case side2 => rw [show y163.length = xb_4.length from (Kd.R_reads' P1.out).1.symm]; exact (Kd.R_reads' P1.out).2.1)
   rintro e w86 ⟨v174, rfl, ho0, hb⟩
   refine ⟨_, rfl, ?_⟩
   have HO175 := Aa4q (Kd.R_lower (Kd.R_new' (Kd.R_new' (Kd.R_new' (Kd.R_new' (Kd.R_new' ho0 (Kd.R_lt Za421)) (Kd.R_lt Za422)) (Kd.R_lt Za424)) (Kd.R_lt Za426)) (Kd.R_lt Za423)) (below_size Hb4))
   replace P0 := Aa4q (Kd.R_elder' Za421 (Kd.R_base ho0) hb)
   replace P1 := Aa4q (Kd.R_elder' Za422 (Kd.R_base ho0) hb)
   replace HO169 := Aa4q (Kd.R_elder' Za424 (Kd.R_base ho0) hb)
   replace HO172 := Aa4q (Kd.R_elder' Za426 (Kd.R_base ho0) hb)
   replace HO178 := Aa4q (Kd.R_elder' Za423 (Kd.R_base ho0) hb)
   replace BK141 := bb4 BK141 Ub4141 hb
   replace BK144 := bb4 BK144 Ub4144 hb
   replace BK182 := bb4 BK182 Ub4182 hb
   replace HB := tb4 Hb4 hb
   (try clear hb)
   (try clear hb2)
   (try clear hk)
   (try clear hi)
   (try clear ho0)
   refine hK.out _ _ Zhh (fun hHeld => ?_)
   clear hK K
   refine norm_ (a' := ?_) ?_ ?_
   rotate_left
   ·
    show Act.put _ (some 103) _ = _
    simp only [Act.put, y1a4, y2a4, y3a4, i64_w, i32_w]
    rfl
   exact norm_ Za43 (hJ2_3_4_7_8_11 (v165, v168, v171, v174, v177, g182) _ ⟨hHeld, Yq417, Yq418, Yq45, Yq419, Yq426, Yq427, Ub4141, Ub4144, Ub4182, GW182.out, GE182.out, NB141_182.out, NB182_141.out, NB144_182.out, NB182_144.out, Hb4⟩)
  intro hJ2_3_4_8_11
  refine join_ (σ := Value × Value × Value × Value) 5 #[true, true, true, true, true, true, true, true, false, false, false, false, false] (fun s_ => [(98, s_.1), (99, s_.2.1), (100, s_.2.2.1), (103, s_.2.2.2)]) (fun s_ w' => (w'.cell? ⟨g144, 0, none⟩ = some (.slice Ao75 xa_4.length co75) ∧ w'.cell? ⟨g144, 1, none⟩ = some (.slice (some ⟨go61, 0, none⟩) xb_4.length co61)) ∧ (Kd.R (Kd.int .i64) 3 w' w.heap.size (fun k_ => some k_ ≠ (s_.2.2.1 : Value).ownBlock ∧ some k_ ≠ (s_.2.2.2 : Value).ownBlock ∧ some k_ ≠ (.slice Ao75 xa_4.length co75 : Value).ownBlock ∧ some k_ ≠ (.slice (some ⟨go61, 0, none⟩) xb_4.length co61 : Value).ownBlock) s_.2.1 y167) ∧ (Kd.R (Kd.int .i64) 3 w' w.heap.size (fun k_ => some k_ ≠ (s_.2.1 : Value).ownBlock ∧ some k_ ≠ (s_.2.2.2 : Value).ownBlock ∧ some k_ ≠ (.slice Ao75 xa_4.length co75 : Value).ownBlock ∧ some k_ ≠ (.slice (some ⟨go61, 0, none⟩) xb_4.length co61 : Value).ownBlock) s_.2.2.1 y170) ∧ (Kd.R (Kd.int .i64) 3 w' w.heap.size (fun k_ => some k_ ≠ (s_.2.1 : Value).ownBlock ∧ some k_ ≠ (s_.2.2.1 : Value).ownBlock ∧ some k_ ≠ (.slice Ao75 xa_4.length co75 : Value).ownBlock ∧ some k_ ≠ (.slice (some ⟨go61, 0, none⟩) xb_4.length co61 : Value).ownBlock) s_.2.2.2 t173) ∧ (Kd.R (Kd.int .i64) 3 w' w.heap.size (fun k_ => some k_ ≠ (s_.2.1 : Value).ownBlock ∧ some k_ ≠ (s_.2.2.1 : Value).ownBlock ∧ some k_ ≠ (s_.2.2.2 : Value).ownBlock ∧ some k_ ≠ (.slice (some ⟨go61, 0, none⟩) xb_4.length co61 : Value).ownBlock) (.slice Ao75 xa_4.length co75) xa_4) ∧ (Kd.R (Kd.int .i64) 3 w' w.heap.size (fun k_ => some k_ ≠ (s_.2.1 : Value).ownBlock ∧ some k_ ≠ (s_.2.2.1 : Value).ownBlock ∧ some k_ ≠ (s_.2.2.2 : Value).ownBlock ∧ some k_ ≠ (.slice Ao75 xa_4.length co75 : Value).ownBlock) (.slice (some ⟨go61, 0, none⟩) xb_4.length co61) y163) ∧ (w'.heap[g141]? = some (.cells #[.slice none 0 0, .slice none 0 0] 24 (0, 0))) ∧ (w'.heap[g144]? = some (.cells #[.slice Ao75 xa_4.length co75, .slice (some ⟨go61, 0, none⟩) xb_4.length co61] 24 (0, 0))) ∧ (Below w.heap.size w w')) ?_ ?_
  rotate_left
  rotate_left
  ·
   skip
   rintro ⟨v165, v168, v171, v174⟩ w83 ⟨hS_, h0_, h1_, h2_, h3_, h4_, h5_, h6_, h7_⟩
   have HO169 := Aa4q h0_
   have HO172 := Aa4q h1_
   have HO175 := Aa4q h2_
   have n3_ := Aa4q h3_
   have n4_ := Aa4q h4_
   have n5_ : Aside0 (w83.heap[g141]? = some (.cells #[.slice none 0 0, .slice none 0 0] 24 (0, 0))) := ⟨h5_⟩
   have n6_ : Aside0 (w83.heap[g144]? = some (.cells #[.slice Ao75 xa_4.length co75, .slice (some ⟨go61, 0, none⟩) xb_4.length co61] 24 (0, 0))) := ⟨h6_⟩
   have n7_ : Aside0 (Below w.heap.size w w83) := ⟨h7_⟩
   clear P0 P1 BK141 BK144 HB
   clear h0_ h1_ h2_ h3_ h4_ h5_ h6_ h7_
   have P0 := n3_
   have P1 := n4_
   have BK141 := n5_
   have BK144 := n6_
   have HB := n7_
   clear n3_ n4_ n5_ n6_ n7_
   have hHeld : w83.cell? ⟨g144, 0, none⟩ = some (.slice Ao75 xa_4.length co75) ∧ w83.cell? ⟨g144, 1, none⟩ = some (.slice (some ⟨go61, 0, none⟩) xb_4.length co61) := hS_
   refine norm_ (a' := ?_) ?_ ?_
   rotate_left
   ·
    simp only [putAll, Act.put, y1a4, y2a4, y3a4]
    rfl
   refine two_ (i := 8) (j := 11) (Ni := some 104) (Nj := some 9) #[true, true, true, true, true, true, true, true, true, false, false, false, false] #[true, true, true, true, true, true, true, true, false, false, false, true, false] rfl rfl rfl rfl (two_of HT_.out Za430) Za431 Za431 (fun K hK => ?_) (fun K hK => ?_)
   rotate_left
   ·
    skip
    refine box_step ?hg (N := 9) ?hd (cs := #[.slice none 0 0, .slice none 0 0]) (t := 24) ?hr ?_; (case hd => rfl); (case hg => rfl); (case hr => first | (go_simp; done) | (go_simp; rfl))
    intro g182 hg w84 hbox hb
    have BK182 := Aa4q (hbox)
    have GW182 := sb4 Hb4 hg
    have GE182 := sb4 Hb4 hg
    have NB141_182 := nb4 BK141 Ub4141 hg
    have NB182_141 := mb4 BK141 Ub4141 hg
    have NB144_182 := nb4 BK144 Ub4144 hg
    have NB182_144 := mb4 BK144 Ub4144 hg
    replace P0 := Aa4q (Kd.R_below Za421 hb)
    replace P1 := Aa4q (Kd.R_below Za422 hb)
    replace HO169 := Aa4q (Kd.R_below Za424 hb)
    replace HO172 := Aa4q (Kd.R_below Za426 hb)
    replace HO175 := Aa4q (Kd.R_below Za427 hb)
    replace BK141 := bb4 BK141 Ub4141 hb
    replace BK144 := bb4 BK144 Ub4144 hb
    replace HB := tb4 Hb4 hb
    clear hb hbox hg
    refine hK.out _ _ Zhh (fun hHeld => ?_)
    clear hK K
    refine norm_ (a' := ?_) ?_ ?_
    rotate_left
    ·
     show Act.put _ (some 9) _ = _
     simp only [Act.put, y1a4, y2a4, y3a4, i64_w, i32_w]
     rfl
    exact norm_ Za43 (hJ2_3_4_7_11 (v165, v168, v171, v174, g182) _ ⟨hHeld, Za424, Za426, Za427, Za421, Za422, Ub4141, Ub4144, Ub4182, GW182.out, GE182.out, NB141_182.out, NB182_141.out, NB144_182.out, NB182_144.out, Hb4⟩)
   skip
   refine Kd.R_lit_step (Kd.int .i64) _ 3 ?hg (N := 104) ?hd (xs := ([1] : List Int)) (inner := [.int .i64 1]) (ok := fun _ => True) (okp := fun _ => True) ?hr ?hp (fun _ hk => hk) trivial (Below.refl _ _) (Nat.le_refl _) (by simp) ?_; (case hd => rfl); (case hg => rfl); (case hr => first | (go_simp; done) | (go_simp; rfl)); (case hp => exact (Reps.one (show Kd.M (Kd.int .i64) _ _ _ 1 [.int .i64 1] from rfl) (Reps.none _ _)))
   intro v177 w84 ho85 hb hg_ hnew_
   clear hg_ hnew_
   (first | rw [← Ny176.out] at ho85 | (simp only [Int.reduceToNat] at ho85; rw [← Ny176.out] at ho85))
   have HO178 := Aa4q (Kd.R_lower (Kd.R_new' (Kd.R_new' (Kd.R_new' (Kd.R_new' (Kd.R_new' ho85 (Kd.R_lt Za421)) (Kd.R_lt Za422)) (Kd.R_lt Za424)) (Kd.R_lt Za426)) (Kd.R_lt Za427)) (below_size Hb4))
   replace P0 := Aa4q (Kd.R_elder' Za421 (Kd.R_base ho85) hb)
   replace P1 := Aa4q (Kd.R_elder' Za422 (Kd.R_base ho85) hb)
   replace HO169 := Aa4q (Kd.R_elder' Za424 (Kd.R_base ho85) hb)
   replace HO172 := Aa4q (Kd.R_elder' Za426 (Kd.R_base ho85) hb)
   replace HO175 := Aa4q (Kd.R_elder' Za427 (Kd.R_base ho85) hb)
   replace BK141 := bb4 BK141 Ub4141 hb
   replace BK144 := bb4 BK144 Ub4144 hb
   replace HB := tb4 Hb4 hb
   clear hb ho85
   refine hK.out _ _ Zhh (fun hHeld => ?_)
   clear hK K
   refine norm_ (a' := ?_) ?_ ?_
   rotate_left
   ·
    show Act.put _ (some 104) _ = _
    simp only [Act.put, y1a4, y2a4, y3a4, i64_w, i32_w]
    rfl
   exact norm_ Za43 (hJ2_3_4_7_8 (v165, v168, v171, v174, v177) _ ⟨hHeld, Yq414, Yq415, Yq416, Yq44, Yq424, Yq425, Ub4141, Ub4144, Hb4⟩)
  intro hJ2_3_4_7
  refine join_ (σ := Value × Value × Value × Value) 5 #[true, true, true, true, true, true, true, false, true, false, false, false, false] (fun s_ => [(98, s_.1), (99, s_.2.1), (100, s_.2.2.1), (104, s_.2.2.2)]) (fun s_ w' => (w'.cell? ⟨g144, 0, none⟩ = some (.slice Ao75 xa_4.length co75) ∧ w'.cell? ⟨g144, 1, none⟩ = some (.slice (some ⟨go61, 0, none⟩) xb_4.length co61)) ∧ (Kd.R (Kd.int .i64) 3 w' w.heap.size (fun k_ => some k_ ≠ (s_.2.2.1 : Value).ownBlock ∧ some k_ ≠ (s_.2.2.2 : Value).ownBlock ∧ some k_ ≠ (.slice Ao75 xa_4.length co75 : Value).ownBlock ∧ some k_ ≠ (.slice (some ⟨go61, 0, none⟩) xb_4.length co61 : Value).ownBlock) s_.2.1 y167) ∧ (Kd.R (Kd.int .i64) 3 w' w.heap.size (fun k_ => some k_ ≠ (s_.2.1 : Value).ownBlock ∧ some k_ ≠ (s_.2.2.2 : Value).ownBlock ∧ some k_ ≠ (.slice Ao75 xa_4.length co75 : Value).ownBlock ∧ some k_ ≠ (.slice (some ⟨go61, 0, none⟩) xb_4.length co61 : Value).ownBlock) s_.2.2.1 y170) ∧ (Kd.R (Kd.int .i64) 3 w' w.heap.size (fun k_ => some k_ ≠ (s_.2.1 : Value).ownBlock ∧ some k_ ≠ (s_.2.2.1 : Value).ownBlock ∧ some k_ ≠ (.slice Ao75 xa_4.length co75 : Value).ownBlock ∧ some k_ ≠ (.slice (some ⟨go61, 0, none⟩) xb_4.length co61 : Value).ownBlock) s_.2.2.2 y176) ∧ (Kd.R (Kd.int .i64) 3 w' w.heap.size (fun k_ => some k_ ≠ (s_.2.1 : Value).ownBlock ∧ some k_ ≠ (s_.2.2.1 : Value).ownBlock ∧ some k_ ≠ (s_.2.2.2 : Value).ownBlock ∧ some k_ ≠ (.slice (some ⟨go61, 0, none⟩) xb_4.length co61 : Value).ownBlock) (.slice Ao75 xa_4.length co75) xa_4) ∧ (Kd.R (Kd.int .i64) 3 w' w.heap.size (fun k_ => some k_ ≠ (s_.2.1 : Value).ownBlock ∧ some k_ ≠ (s_.2.2.1 : Value).ownBlock ∧ some k_ ≠ (s_.2.2.2 : Value).ownBlock ∧ some k_ ≠ (.slice Ao75 xa_4.length co75 : Value).ownBlock) (.slice (some ⟨go61, 0, none⟩) xb_4.length co61) y163) ∧ (w'.heap[g141]? = some (.cells #[.slice none 0 0, .slice none 0 0] 24 (0, 0))) ∧ (w'.heap[g144]? = some (.cells #[.slice Ao75 xa_4.length co75, .slice (some ⟨go61, 0, none⟩) xb_4.length co61] 24 (0, 0))) ∧ (Below w.heap.size w w')) ?_ ?_
  rotate_left
  rotate_left
  ·
   skip
   rintro ⟨v165, v168, v171, v177⟩ w84 ⟨hS_, h0_, h1_, h2_, h3_, h4_, h5_, h6_, h7_⟩
   have HO169 := Aa4q h0_
   have HO172 := Aa4q h1_
   have HO178 := Aa4q h2_
   have n3_ := Aa4q h3_
   have n4_ := Aa4q h4_
   have n5_ : Aside0 (w84.heap[g141]? = some (.cells #[.slice none 0 0, .slice none 0 0] 24 (0, 0))) := ⟨h5_⟩
   have n6_ : Aside0 (w84.heap[g144]? = some (.cells #[.slice Ao75 xa_4.length co75, .slice (some ⟨go61, 0, none⟩) xb_4.length co61] 24 (0, 0))) := ⟨h6_⟩
   have n7_ : Aside0 (Below w.heap.size w w84) := ⟨h7_⟩
   clear P0 P1 BK141 BK144 HB
   clear h0_ h1_ h2_ h3_ h4_ h5_ h6_ h7_
   have P0 := n3_
   have P1 := n4_
   have BK141 := n5_
   have BK144 := n6_
   have HB := n7_
   clear n3_ n4_ n5_ n6_ n7_
   have hHeld : w84.cell? ⟨g144, 0, none⟩ = some (.slice Ao75 xa_4.length co75) ∧ w84.cell? ⟨g144, 1, none⟩ = some (.slice (some ⟨go61, 0, none⟩) xb_4.length co61) := hS_
   refine norm_ (a' := ?_) ?_ ?_
   rotate_left
   ·
    simp only [putAll, Act.put, y1a4, y2a4, y3a4]
    rfl
   refine two_ (i := 7) (j := 11) (Ni := some 103) (Nj := some 9) #[true, true, true, true, true, true, true, true, true, false, false, false, false] #[true, true, true, true, true, true, true, false, true, false, false, true, false] rfl rfl rfl rfl (two_of HT_.out Za430) Za431 Za431 (fun K hK => ?_) (fun K hK => ?_)
   rotate_left
   ·
    skip
    refine box_step ?hg (N := 9) ?hd (cs := #[.slice none 0 0, .slice none 0 0]) (t := 24) ?hr ?_; (case hd => rfl); (case hg => rfl); (case hr => first | (go_simp; done) | (go_simp; rfl))
    intro g182 hg w85 hbox hb
    have BK182 := Aa4q (hbox)
    have GW182 := sb4 Hb4 hg
    have GE182 := sb4 Hb4 hg
    have NB141_182 := nb4 BK141 Ub4141 hg
    have NB182_141 := mb4 BK141 Ub4141 hg
    have NB144_182 := nb4 BK144 Ub4144 hg
    have NB182_144 := mb4 BK144 Ub4144 hg
    replace P0 := Aa4q (Kd.R_below Za421 hb)
    replace P1 := Aa4q (Kd.R_below Za422 hb)
    replace HO169 := Aa4q (Kd.R_below Za424 hb)
    replace HO172 := Aa4q (Kd.R_below Za426 hb)
    replace HO178 := Aa4q (Kd.R_below Za423 hb)
    replace BK141 := bb4 BK141 Ub4141 hb
    replace BK144 := bb4 BK144 Ub4144 hb
    replace HB := tb4 Hb4 hb
    clear hb hbox hg
    refine hK.out _ _ Zhh (fun hHeld => ?_)
    clear hK K
    refine norm_ (a' := ?_) ?_ ?_
    rotate_left
    ·
     show Act.put _ (some 9) _ = _
     simp only [Act.put, y1a4, y2a4, y3a4, i64_w, i32_w]
     rfl
    exact norm_ Za43 (hJ2_3_4_8_11 (v165, v168, v171, v177, g182) _ ⟨hHeld, Za424, Za426, Za423, Za421, Za422, Ub4141, Ub4144, Ub4182, GW182.out, GE182.out, NB141_182.out, NB182_141.out, NB144_182.out, NB182_144.out, Hb4⟩)
   skip
   refine goes_ Try.func14 Za430 rfl #[.slice (some ⟨go61, 0, none⟩) y163.length co61] (by rfl) rfl rfl Za42 ?_
   with_reducible refine (spec_l1Own.calls _ _ y163 t173 _ ?side1 ?side2 A64.out).mono ?_
   (case side1 => repeat (first | exact (Kd.R_reads' P1.out).2.2 | (with_reducible refine Kd.C_alloc ?_ _) | (with_reducible refine Kd.C_drewN ?_ _) | (with_reducible refine Kd.C_drew ?_)))
   (case side2 => rw [show y163.length = xb_4.length from (Kd.R_reads' P1.out).1.symm]; exact (Kd.R_reads' P1.out).2.1)
   rintro e w85 ⟨v174, rfl, ho0, hb⟩
   refine ⟨_, rfl, ?_⟩
   have HO175 := Aa4q (Kd.R_lower (Kd.R_new' (Kd.R_new' (Kd.R_new' (Kd.R_new' (Kd.R_new' ho0 (Kd.R_lt Za421)) (Kd.R_lt Za422)) (Kd.R_lt Za424)) (Kd.R_lt Za426)) (Kd.R_lt Za423)) (below_size Hb4))
   replace P0 := Aa4q (Kd.R_elder' Za421 (Kd.R_base ho0) hb)
   replace P1 := Aa4q (Kd.R_elder' Za422 (Kd.R_base ho0) hb)
   replace HO169 := Aa4q (Kd.R_elder' Za424 (Kd.R_base ho0) hb)
   replace HO172 := Aa4q (Kd.R_elder' Za426 (Kd.R_base ho0) hb)
   replace HO178 := Aa4q (Kd.R_elder' Za423 (Kd.R_base ho0) hb)
   replace BK141 := bb4 BK141 Ub4141 hb
   replace BK144 := bb4 BK144 Ub4144 hb
   replace HB := tb4 Hb4 hb
   (try clear hb)
   (try clear hb2)
   (try clear hk)
   (try clear hi)
   (try clear ho0)
   refine hK.out _ _ Zhh (fun hHeld => ?_)
   clear hK K
   refine norm_ (a' := ?_) ?_ ?_
   rotate_left
   ·
    show Act.put _ (some 103) _ = _
    simp only [Act.put, y1a4, y2a4, y3a4, i64_w, i32_w]
    rfl
   exact norm_ Za43 (hJ2_3_4_7_8 (v165, v168, v171, v174, v177) _ ⟨hHeld, Yq417, Yq418, Yq45, Yq419, Yq426, Yq427, Ub4141, Ub4144, Hb4⟩)
  intro hJ2_3_4_8
  refine join_ (σ := Value × Value × Value × Nat) 5 #[true, true, true, true, true, true, true, false, false, false, false, true, false] (fun s_ => [(98, s_.1), (99, s_.2.1), (100, s_.2.2.1), (9, .pointer (some ⟨s_.2.2.2, 0, none⟩))]) (fun s_ w' => (w'.cell? ⟨g144, 0, none⟩ = some (.slice Ao75 xa_4.length co75) ∧ w'.cell? ⟨g144, 1, none⟩ = some (.slice (some ⟨go61, 0, none⟩) xb_4.length co61)) ∧ (Kd.R (Kd.int .i64) 3 w' w.heap.size (fun k_ => some k_ ≠ (s_.2.2.1 : Value).ownBlock ∧ some k_ ≠ (.slice Ao75 xa_4.length co75 : Value).ownBlock ∧ some k_ ≠ (.slice (some ⟨go61, 0, none⟩) xb_4.length co61 : Value).ownBlock) s_.2.1 y167) ∧ (Kd.R (Kd.int .i64) 3 w' w.heap.size (fun k_ => some k_ ≠ (s_.2.1 : Value).ownBlock ∧ some k_ ≠ (.slice Ao75 xa_4.length co75 : Value).ownBlock ∧ some k_ ≠ (.slice (some ⟨go61, 0, none⟩) xb_4.length co61 : Value).ownBlock) s_.2.2.1 y170) ∧ (Kd.R (Kd.int .i64) 3 w' w.heap.size (fun k_ => some k_ ≠ (s_.2.1 : Value).ownBlock ∧ some k_ ≠ (s_.2.2.1 : Value).ownBlock ∧ some k_ ≠ (.slice (some ⟨go61, 0, none⟩) xb_4.length co61 : Value).ownBlock) (.slice Ao75 xa_4.length co75) xa_4) ∧ (Kd.R (Kd.int .i64) 3 w' w.heap.size (fun k_ => some k_ ≠ (s_.2.1 : Value).ownBlock ∧ some k_ ≠ (s_.2.2.1 : Value).ownBlock ∧ some k_ ≠ (.slice Ao75 xa_4.length co75 : Value).ownBlock) (.slice (some ⟨go61, 0, none⟩) xb_4.length co61) y163) ∧ (w'.heap[g141]? = some (.cells #[.slice none 0 0, .slice none 0 0] 24 (0, 0))) ∧ (w'.heap[g144]? = some (.cells #[.slice Ao75 xa_4.length co75, .slice (some ⟨go61, 0, none⟩) xb_4.length co61] 24 (0, 0))) ∧ (w'.heap[s_.2.2.2]? = some (.cells #[.slice none 0 0, .slice none 0 0] 24 (0, 0))) ∧ (w.heap.size ≤ s_.2.2.2) ∧ (w.heap.size ≤ s_.2.2.2) ∧ (g141 ≠ s_.2.2.2) ∧ (s_.2.2.2 ≠ g141) ∧ (g144 ≠ s_.2.2.2) ∧ (s_.2.2.2 ≠ g144) ∧ (Below w.heap.size w w')) ?_ ?_
  rotate_left
  rotate_left
  ·
   skip
   rintro ⟨v165, v168, v171, g182⟩ w83 ⟨hS_, h0_, h1_, h2_, h3_, h4_, h5_, h6_, h7_, h8_, h9_, h10_, h11_, h12_, h13_⟩
   have HO169 := Aa4q h0_
   have HO172 := Aa4q h1_
   have n2_ := Aa4q h2_
   have n3_ := Aa4q h3_
   have n4_ : Aside0 (w83.heap[g141]? = some (.cells #[.slice none 0 0, .slice none 0 0] 24 (0, 0))) := ⟨h4_⟩
   have n5_ : Aside0 (w83.heap[g144]? = some (.cells #[.slice Ao75 xa_4.length co75, .slice (some ⟨go61, 0, none⟩) xb_4.length co61] 24 (0, 0))) := ⟨h5_⟩
   have BK182 : Aside0 (w83.heap[g182]? = some (.cells #[.slice none 0 0, .slice none 0 0] 24 (0, 0))) := ⟨h6_⟩
   have GW182 := Aa4q h7_
   have GE182 := Aa4q h8_
   have NB141_182 := Aa4q h9_
   have NB182_141 := Aa4q h10_
   have NB144_182 := Aa4q h11_
   have NB182_144 := Aa4q h12_
   have n13_ : Aside0 (Below w.heap.size w w83) := ⟨h13_⟩
   clear P0 P1 BK141 BK144 HB
   clear h0_ h1_ h2_ h3_ h4_ h5_ h6_ h7_ h8_ h9_ h10_ h11_ h12_ h13_
   have P0 := n2_
   have P1 := n3_
   have BK141 := n4_
   have BK144 := n5_
   have HB := n13_
   clear n2_ n3_ n4_ n5_ n13_
   have hHeld : w83.cell? ⟨g144, 0, none⟩ = some (.slice Ao75 xa_4.length co75) ∧ w83.cell? ⟨g144, 1, none⟩ = some (.slice (some ⟨go61, 0, none⟩) xb_4.length co61) := hS_
   refine norm_ (a' := ?_) ?_ ?_
   rotate_left
   ·
    simp only [putAll, Act.put, y1a4, y2a4, y3a4]
    rfl
   refine two_ (i := 7) (j := 8) (Ni := some 103) (Nj := some 104) #[true, true, true, true, true, true, true, true, false, false, false, true, false] #[true, true, true, true, true, true, true, false, true, false, false, true, false] rfl rfl rfl rfl (two_of HT_.out Za430) Za431 Za431 (fun K hK => ?_) (fun K hK => ?_)
   rotate_left
   ·
    skip
    refine Kd.R_lit_step (Kd.int .i64) _ 3 ?hg (N := 104) ?hd (xs := ([1] : List Int)) (inner := [.int .i64 1]) (ok := fun _ => True) (okp := fun _ => True) ?hr ?hp (fun _ hk => hk) trivial (Below.refl _ _) (Nat.le_refl _) (by simp) ?_; (case hd => rfl); (case hg => rfl); (case hr => first | (go_simp; done) | (go_simp; rfl)); (case hp => exact (Reps.one (show Kd.M (Kd.int .i64) _ _ _ 1 [.int .i64 1] from rfl) (Reps.none _ _)))
    intro v177 w84 ho85 hb hg_ hnew_
    clear hg_ hnew_
    (first | rw [← Ny176.out] at ho85 | (simp only [Int.reduceToNat] at ho85; rw [← Ny176.out] at ho85))
    have HO178 := Aa4q (Kd.R_lower (Kd.R_new' (Kd.R_new' (Kd.R_new' (Kd.R_new' ho85 (Kd.R_lt Za421)) (Kd.R_lt Za422)) (Kd.R_lt Za424)) (Kd.R_lt Za426)) (below_size Hb4))
    replace P0 := Aa4q (Kd.R_elder' Za421 (Kd.R_base ho85) hb)
    replace P1 := Aa4q (Kd.R_elder' Za422 (Kd.R_base ho85) hb)
    replace HO169 := Aa4q (Kd.R_elder' Za424 (Kd.R_base ho85) hb)
    replace HO172 := Aa4q (Kd.R_elder' Za426 (Kd.R_base ho85) hb)
    replace BK141 := bb4 BK141 Ub4141 hb
    replace BK144 := bb4 BK144 Ub4144 hb
    replace BK182 := bb4 BK182 Ub4182 hb
    replace HB := tb4 Hb4 hb
    clear hb ho85
    refine hK.out _ _ Zhh (fun hHeld => ?_)
    clear hK K
    refine norm_ (a' := ?_) ?_ ?_
    rotate_left
    ·
     show Act.put _ (some 104) _ = _
     simp only [Act.put, y1a4, y2a4, y3a4, i64_w, i32_w]
     rfl
    exact norm_ Za43 (hJ2_3_4_8_11 (v165, v168, v171, v177, g182) _ ⟨hHeld, Za47, Za48, Za46, Za44, Za45, Ub4141, Ub4144, Ub4182, GW182.out, GE182.out, NB141_182.out, NB182_141.out, NB144_182.out, NB182_144.out, Hb4⟩)
   skip
   refine goes_ Try.func14 Za430 rfl #[.slice (some ⟨go61, 0, none⟩) y163.length co61] (by rfl) rfl rfl Za42 ?_
   with_reducible refine (spec_l1Own.calls _ _ y163 t173 _ ?side1 ?side2 A64.out).mono ?_
   (case side1 => repeat (first | exact (Kd.R_reads' P1.out).2.2 | (with_reducible refine Kd.C_alloc ?_ _) | (with_reducible refine Kd.C_drewN ?_ _) | (with_reducible refine Kd.C_drew ?_)))
   (case side2 => rw [show y163.length = xb_4.length from (Kd.R_reads' P1.out).1.symm]; exact (Kd.R_reads' P1.out).2.1)
   rintro e w84 ⟨v174, rfl, ho0, hb⟩
   refine ⟨_, rfl, ?_⟩
   have HO175 := Aa4q (Kd.R_lower (Kd.R_new' (Kd.R_new' (Kd.R_new' (Kd.R_new' ho0 (Kd.R_lt Za421)) (Kd.R_lt Za422)) (Kd.R_lt Za424)) (Kd.R_lt Za426)) (below_size Hb4))
   replace P0 := Aa4q (Kd.R_elder' Za421 (Kd.R_base ho0) hb)
   replace P1 := Aa4q (Kd.R_elder' Za422 (Kd.R_base ho0) hb)
   replace HO169 := Aa4q (Kd.R_elder' Za424 (Kd.R_base ho0) hb)
   replace HO172 := Aa4q (Kd.R_elder' Za426 (Kd.R_base ho0) hb)
   replace BK141 := bb4 BK141 Ub4141 hb
   replace BK144 := bb4 BK144 Ub4144 hb
   replace BK182 := bb4 BK182 Ub4182 hb
   replace HB := tb4 Hb4 hb
   (try clear hb)
   (try clear hb2)
   (try clear hk)
   (try clear hi)
   (try clear ho0)
   refine hK.out _ _ Zhh (fun hHeld => ?_)
   clear hK K
   refine norm_ (a' := ?_) ?_ ?_
   rotate_left
   ·
    show Act.put _ (some 103) _ = _
    simp only [Act.put, y1a4, y2a4, y3a4, i64_w, i32_w]
    rfl
   exact norm_ Za43 (hJ2_3_4_7_11 (v165, v168, v171, v174, g182) _ ⟨hHeld, Za47, Za48, Yq428, Za44, Za45, Ub4141, Ub4144, Ub4182, GW182.out, GE182.out, NB141_182.out, NB182_141.out, NB144_182.out, NB182_144.out, Hb4⟩)
  intro hJ2_3_4_11
  refine join_ (σ := Value × Value × Value × Nat) 5 #[true, true, true, true, false, true, true, false, true, false, false, true, false] (fun s_ => [(98, s_.1), (99, s_.2.1), (104, s_.2.2.1), (9, .pointer (some ⟨s_.2.2.2, 0, none⟩))]) (fun s_ w' => (w'.cell? ⟨g144, 0, none⟩ = some (.slice Ao75 xa_4.length co75) ∧ w'.cell? ⟨g144, 1, none⟩ = some (.slice (some ⟨go61, 0, none⟩) xb_4.length co61)) ∧ (Kd.R (Kd.int .i64) 3 w' w.heap.size (fun k_ => some k_ ≠ (s_.2.1 : Value).ownBlock ∧ some k_ ≠ (s_.2.2.1 : Value).ownBlock ∧ some k_ ≠ (.slice Ao75 xa_4.length co75 : Value).ownBlock ∧ some k_ ≠ (.slice (some ⟨go61, 0, none⟩) xb_4.length co61 : Value).ownBlock) s_.1 t164) ∧ (Kd.R (Kd.int .i64) 3 w' w.heap.size (fun k_ => some k_ ≠ (s_.1 : Value).ownBlock ∧ some k_ ≠ (s_.2.2.1 : Value).ownBlock ∧ some k_ ≠ (.slice Ao75 xa_4.length co75 : Value).ownBlock ∧ some k_ ≠ (.slice (some ⟨go61, 0, none⟩) xb_4.length co61 : Value).ownBlock) s_.2.1 y167) ∧ (Kd.R (Kd.int .i64) 3 w' w.heap.size (fun k_ => some k_ ≠ (s_.1 : Value).ownBlock ∧ some k_ ≠ (s_.2.1 : Value).ownBlock ∧ some k_ ≠ (.slice Ao75 xa_4.length co75 : Value).ownBlock ∧ some k_ ≠ (.slice (some ⟨go61, 0, none⟩) xb_4.length co61 : Value).ownBlock) s_.2.2.1 y176) ∧ (Kd.R (Kd.int .i64) 3 w' w.heap.size (fun k_ => some k_ ≠ (s_.1 : Value).ownBlock ∧ some k_ ≠ (s_.2.1 : Value).ownBlock ∧ some k_ ≠ (s_.2.2.1 : Value).ownBlock ∧ some k_ ≠ (.slice (some ⟨go61, 0, none⟩) xb_4.length co61 : Value).ownBlock) (.slice Ao75 xa_4.length co75) xa_4) ∧ (Kd.R (Kd.int .i64) 3 w' w.heap.size (fun k_ => some k_ ≠ (s_.1 : Value).ownBlock ∧ some k_ ≠ (s_.2.1 : Value).ownBlock ∧ some k_ ≠ (s_.2.2.1 : Value).ownBlock ∧ some k_ ≠ (.slice Ao75 xa_4.length co75 : Value).ownBlock) (.slice (some ⟨go61, 0, none⟩) xb_4.length co61) y163) ∧ (w'.heap[g141]? = some (.cells #[.slice none 0 0, .slice none 0 0] 24 (0, 0))) ∧ (w'.heap[g144]? = some (.cells #[.slice Ao75 xa_4.length co75, .slice (some ⟨go61, 0, none⟩) xb_4.length co61] 24 (0, 0))) ∧ (w'.heap[s_.2.2.2]? = some (.cells #[.slice none 0 0, .slice none 0 0] 24 (0, 0))) ∧ (w.heap.size ≤ s_.2.2.2) ∧ (w.heap.size ≤ s_.2.2.2) ∧ (g141 ≠ s_.2.2.2) ∧ (s_.2.2.2 ≠ g141) ∧ (g144 ≠ s_.2.2.2) ∧ (s_.2.2.2 ≠ g144) ∧ (Below w.heap.size w w')) ?_ ?_
  rotate_left
  rotate_left
  ·
   skip
   rintro ⟨v165, v168, v177, g182⟩ w83 ⟨hS_, h0_, h1_, h2_, h3_, h4_, h5_, h6_, h7_, h8_, h9_, h10_, h11_, h12_, h13_, h14_⟩
   have HO166 := Aa4q h0_
   have HO169 := Aa4q h1_
   have HO178 := Aa4q h2_
   have n3_ := Aa4q h3_
   have n4_ := Aa4q h4_
   have n5_ : Aside0 (w83.heap[g141]? = some (.cells #[.slice none 0 0, .slice none 0 0] 24 (0, 0))) := ⟨h5_⟩
   have n6_ : Aside0 (w83.heap[g144]? = some (.cells #[.slice Ao75 xa_4.length co75, .slice (some ⟨go61, 0, none⟩) xb_4.length co61] 24 (0, 0))) := ⟨h6_⟩
   have BK182 : Aside0 (w83.heap[g182]? = some (.cells #[.slice none 0 0, .slice none 0 0] 24 (0, 0))) := ⟨h7_⟩
   have GW182 := Aa4q h8_
   have GE182 := Aa4q h9_
   have NB141_182 := Aa4q h10_
   have NB182_141 := Aa4q h11_
   have NB144_182 := Aa4q h12_
   have NB182_144 := Aa4q h13_
   have n14_ : Aside0 (Below w.heap.size w w83) := ⟨h14_⟩
   clear P0 P1 BK141 BK144 HB
   clear h0_ h1_ h2_ h3_ h4_ h5_ h6_ h7_ h8_ h9_ h10_ h11_ h12_ h13_ h14_
   have P0 := n3_
   have P1 := n4_
   have BK141 := n5_
   have BK144 := n6_
   have HB := n14_
   clear n3_ n4_ n5_ n6_ n14_
   have hHeld : w83.cell? ⟨g144, 0, none⟩ = some (.slice Ao75 xa_4.length co75) ∧ w83.cell? ⟨g144, 1, none⟩ = some (.slice (some ⟨go61, 0, none⟩) xb_4.length co61) := hS_
   obtain ⟨Ao85, co85, eo85⟩ := Kd.R_slice HO169.out
   (first | subst eo85 | (injection eo85 with f1_ f2_ f3_; have f4_ := f1_.symm; have f5_ := f3_.symm; clear f1_ f2_ f3_; subst f4_; subst f5_))
   refine norm_ (a' := ?_) ?_ ?_
   rotate_left
   ·
    simp only [putAll, Act.put, y1a4, y2a4, y3a4]
    rfl
   refine one_ (i := 4) (N := some 100) #[true, true, true, true, true, true, true, false, true, false, false, true, false] rfl rfl (one_of HT_.out Za430) Za431 (fun K hK => ?_)
   refine Kd.R_append_rows_step (Kd.int .i64) (w0 := w) w.heap.size (by rfl) (.tmp 98) (.tmp 99) 22 3 (.int .i64 0) 8 rfl Try.underlying22 info3 rfl Za431 (by omega) v165 t164 y167 _ _ _ (fun k_ => some k_ ≠ (.slice Ao75 xa_4.length co75 : Value).ownBlock ∧ some k_ ≠ (.slice (some ⟨go61, 0, none⟩) xb_4.length co61 : Value).ownBlock ∧ some k_ ≠ (.slice Ao85 y167.length co85 : Value).ownBlock ∧ some k_ ≠ (v177 : Value).ownBlock) (fun _ => False) rfl rfl ?aO ?aR (fun _ _ h => h) (fun _ h => h.elim) ?aF ?aB ?aS ?aL ?_
   (case aR => repeat (first | exact (Kd.R_reads' HO169.out).2.2 | (with_reducible refine Kd.C_alloc ?_ _) | (with_reducible refine Kd.C_drewN ?_ _) | (with_reducible refine Kd.C_drew ?_)))
   (case aB => exact Hb4)
   (case aF => exact (fun k_ hk => ⟨Kd.fresh' (Kd.R_lt Za421) k_ hk, Kd.fresh' (Kd.R_lt Za422) k_ hk, Kd.fresh' (Kd.R_lt Za424) k_ hk, Kd.fresh' (Kd.R_lt Za423) k_ hk⟩))
   (case aO => exact Yq431)
   (case aS => exact (below_size Hb4))
   (case aL => have := LMc63.out; omega)
   intro v171 w84 ho hb hg hat
   rw [← Ny170.out] at ho
   have HO172 := Aa4q (ho)
   replace P0 := Aa4q (Kd.R_after (ok := (fun k_ => some k_ ≠ (.slice (some ⟨go61, 0, none⟩) xb_4.length co61 : Value).ownBlock ∧ some k_ ≠ (.slice Ao85 y167.length co85 : Value).ownBlock ∧ some k_ ≠ (v177 : Value).ownBlock)) Yq442 hg hat)
   replace P1 := Aa4q (Kd.R_after (ok := (fun k_ => some k_ ≠ (.slice Ao75 xa_4.length co75 : Value).ownBlock ∧ some k_ ≠ (.slice Ao85 y167.length co85 : Value).ownBlock ∧ some k_ ≠ (v177 : Value).ownBlock)) Yq443 hg hat)
   replace BK141 := Aa4q (blk_grown (g := g141) (o := .cells #[.slice none 0 0, .slice none 0 0] 24 (0, 0)) Ub4141 hg (Kd.R_ne HO166.out BK141.out Za431))
   replace BK144 := Aa4q (blk_grown (g := g144) (o := .cells #[.slice Ao75 xa_4.length co75, .slice (some ⟨go61, 0, none⟩) xb_4.length co61] 24 (0, 0)) Ub4144 hg (Kd.R_ne HO166.out BK144.out Za431))
   replace HO169 := Aa4q (Kd.R_after (ok := (fun k_ => some k_ ≠ (.slice Ao75 xa_4.length co75 : Value).ownBlock ∧ some k_ ≠ (.slice (some ⟨go61, 0, none⟩) xb_4.length co61 : Value).ownBlock ∧ some k_ ≠ (v177 : Value).ownBlock)) Yq432 hg hat)
   replace HO178 := Aa4q (Kd.R_after (ok := (fun k_ => some k_ ≠ (.slice Ao75 xa_4.length co75 : Value).ownBlock ∧ some k_ ≠ (.slice (some ⟨go61, 0, none⟩) xb_4.length co61 : Value).ownBlock ∧ some k_ ≠ (.slice Ao85 y167.length co85 : Value).ownBlock)) Yq433 hg hat)
   replace BK182 := Aa4q (blk_grown (g := g182) (o := .cells #[.slice none 0 0, .slice none 0 0] 24 (0, 0)) Ub4182 hg (Kd.R_ne HO166.out BK182.out Za431))
   replace HB := Aa4q (hb)
   clear ho hb hg hat
   refine hK.out _ _ Zhh (fun hHeld => ?_)
   clear hK K
   refine norm_ (a' := ?_) ?_ ?_
   rotate_left
   ·
    show Act.put _ (some 100) _ = _
    simp only [Act.put, y1a4, y2a4, y3a4, i64_w, i32_w]
    rfl
   exact norm_ Za43 (hJ2_3_4_8_11 (v165, .slice Ao85 y167.length co85, v171, v177, g182) _ ⟨hHeld, Yq434, Yq435, Yq436, Yq444, Yq445, Ub4141, Ub4144, Ub4182, GW182.out, GE182.out, NB141_182.out, NB182_141.out, NB144_182.out, NB182_144.out, Hb4⟩)
  intro hJ2_3_8_11
  refine join_ (σ := Value × Value × Value) 6 #[true, true, true, true, true, true, true, false, false, false, false, false, false] (fun s_ => [(98, s_.1), (99, s_.2.1), (100, s_.2.2)]) (fun s_ w' => (w'.cell? ⟨g144, 0, none⟩ = some (.slice Ao75 xa_4.length co75) ∧ w'.cell? ⟨g144, 1, none⟩ = some (.slice (some ⟨go61, 0, none⟩) xb_4.length co61)) ∧ (Kd.R (Kd.int .i64) 3 w' w.heap.size (fun k_ => some k_ ≠ (s_.2.2 : Value).ownBlock ∧ some k_ ≠ (.slice Ao75 xa_4.length co75 : Value).ownBlock ∧ some k_ ≠ (.slice (some ⟨go61, 0, none⟩) xb_4.length co61 : Value).ownBlock) s_.2.1 y167) ∧ (Kd.R (Kd.int .i64) 3 w' w.heap.size (fun k_ => some k_ ≠ (s_.2.1 : Value).ownBlock ∧ some k_ ≠ (.slice Ao75 xa_4.length co75 : Value).ownBlock ∧ some k_ ≠ (.slice (some ⟨go61, 0, none⟩) xb_4.length co61 : Value).ownBlock) s_.2.2 y170) ∧ (Kd.R (Kd.int .i64) 3 w' w.heap.size (fun k_ => some k_ ≠ (s_.2.1 : Value).ownBlock ∧ some k_ ≠ (s_.2.2 : Value).ownBlock ∧ some k_ ≠ (.slice (some ⟨go61, 0, none⟩) xb_4.length co61 : Value).ownBlock) (.slice Ao75 xa_4.length co75) xa_4) ∧ (Kd.R (Kd.int .i64) 3 w' w.heap.size (fun k_ => some k_ ≠ (s_.2.1 : Value).ownBlock ∧ some k_ ≠ (s_.2.2 : Value).ownBlock ∧ some k_ ≠ (.slice Ao75 xa_4.length co75 : Value).ownBlock) (.slice (some ⟨go61, 0, none⟩) xb_4.length co61) y163) ∧ (w'.heap[g141]? = some (.cells #[.slice none 0 0, .slice none 0 0] 24 (0, 0))) ∧ (w'.heap[g144]? = some (.cells #[.slice Ao75 xa_4.length co75, .slice (some ⟨go61, 0, none⟩) xb_4.length co61] 24 (0, 0))) ∧ (Below w.heap.size w w')) ?_ ?_
  rotate_left
  rotate_left
  ·
   skip
   rintro ⟨v165, v168, v171⟩ w82 ⟨hS_, h0_, h1_, h2_, h3_, h4_, h5_, h6_⟩
   have HO169 := Aa4q h0_
   have HO172 := Aa4q h1_
   have n2_ := Aa4q h2_
   have n3_ := Aa4q h3_
   have n4_ : Aside0 (w82.heap[g141]? = some (.cells #[.slice none 0 0, .slice none 0 0] 24 (0, 0))) := ⟨h4_⟩
   have n5_ : Aside0 (w82.heap[g144]? = some (.cells #[.slice Ao75 xa_4.length co75, .slice (some ⟨go61, 0, none⟩) xb_4.length co61] 24 (0, 0))) := ⟨h5_⟩
   have n6_ : Aside0 (Below w.heap.size w w82) := ⟨h6_⟩
   clear P0 P1 BK141 BK144 HB
   clear h0_ h1_ h2_ h3_ h4_ h5_ h6_
   have P0 := n2_
   have P1 := n3_
   have BK141 := n4_
   have BK144 := n5_
   have HB := n6_
   clear n2_ n3_ n4_ n5_ n6_
   have hHeld : w82.cell? ⟨g144, 0, none⟩ = some (.slice Ao75 xa_4.length co75) ∧ w82.cell? ⟨g144, 1, none⟩ = some (.slice (some ⟨go61, 0, none⟩) xb_4.length co61) := hS_
   refine norm_ (a' := ?_) ?_ ?_
   rotate_left
   ·
    simp only [putAll, Act.put, y1a4, y2a4, y3a4]
    rfl
   refine three_ (i := 7) (j := 8) (k := 11) (Ni := some 103) (Nj := some 104) (Nk := some 9) #[true, true, true, true, true, true, true, true, false, false, false, false, false] #[true, true, true, true, true, true, true, false, true, false, false, false, false] #[true, true, true, true, true, true, true, false, false, false, false, true, false] rfl rfl rfl rfl rfl rfl (three_of HT_.out Za430) Za431 Za431 Za431 (fun K hK => ?_) (fun K hK => ?_) (fun K hK => ?_)
   rotate_left
   ·
    skip
    refine Kd.R_lit_step (Kd.int .i64) _ 3 ?hg (N := 104) ?hd (xs := ([1] : List Int)) (inner := [.int .i64 1]) (ok := fun _ => True) (okp := fun _ => True) ?hr ?hp (fun _ hk => hk) trivial (Below.refl _ _) (Nat.le_refl _) (by simp) ?_; (case hd => rfl); (case hg => rfl); (case hr => first | (go_simp; done) | (go_simp; rfl)); (case hp => exact (Reps.one (show Kd.M (Kd.int .i64) _ _ _ 1 [.int .i64 1] from rfl) (Reps.none _ _)))
    intro v177 w83 ho84 hb hg_ hnew_
    clear hg_ hnew_
    (first | rw [← Ny176.out] at ho84 | (simp only [Int.reduceToNat] at ho84; rw [← Ny176.out] at ho84))
    have HO178 := Aa4q (Kd.R_lower (Kd.R_new' (Kd.R_new' (Kd.R_new' (Kd.R_new' ho84 (Kd.R_lt Za421)) (Kd.R_lt Za422)) (Kd.R_lt Za424)) (Kd.R_lt Za426)) (below_size Hb4))
    replace P0 := Aa4q (Kd.R_elder' Za421 (Kd.R_base ho84) hb)
    replace P1 := Aa4q (Kd.R_elder' Za422 (Kd.R_base ho84) hb)
    replace HO169 := Aa4q (Kd.R_elder' Za424 (Kd.R_base ho84) hb)
    replace HO172 := Aa4q (Kd.R_elder' Za426 (Kd.R_base ho84) hb)
    replace BK141 := bb4 BK141 Ub4141 hb
    replace BK144 := bb4 BK144 Ub4144 hb
    replace HB := tb4 Hb4 hb
    clear hb ho84
    refine hK.out _ _ Zhh (fun hHeld => ?_)
    clear hK K
    refine norm_ (a' := ?_) ?_ ?_
    rotate_left
    ·
     show Act.put _ (some 104) _ = _
     simp only [Act.put, y1a4, y2a4, y3a4, i64_w, i32_w]
     rfl
    exact norm_ Za43 (hJ2_3_4_8 (v165, v168, v171, v177) _ ⟨hHeld, Za47, Za48, Za46, Za44, Za45, Ub4141, Ub4144, Hb4⟩)
   ·
    skip
    refine box_step ?hg (N := 9) ?hd (cs := #[.slice none 0 0, .slice none 0 0]) (t := 24) ?hr ?_; (case hd => rfl); (case hg => rfl); (case hr => first | (go_simp; done) | (go_simp; rfl))
    intro g182 hg w83 hbox hb
    have BK182 := Aa4q (hbox)
    have GW182 := sb4 Hb4 hg
    have GE182 := sb4 Hb4 hg
    have NB141_182 := nb4 BK141 Ub4141 hg
    have NB182_141 := mb4 BK141 Ub4141 hg
    have NB144_182 := nb4 BK144 Ub4144 hg
    have NB182_144 := mb4 BK144 Ub4144 hg
    replace P0 := Aa4q (Kd.R_below Za421 hb)
    replace P1 := Aa4q (Kd.R_below Za422 hb)
    replace HO169 := Aa4q (Kd.R_below Za424 hb)
    replace HO172 := Aa4q (Kd.R_below Za426 hb)
    replace BK141 := bb4 BK141 Ub4141 hb
    replace BK144 := bb4 BK144 Ub4144 hb
    replace HB := tb4 Hb4 hb
    clear hb hbox hg
    refine hK.out _ _ Zhh (fun hHeld => ?_)
    clear hK K
    refine norm_ (a' := ?_) ?_ ?_
    rotate_left
    ·
     show Act.put _ (some 9) _ = _
     simp only [Act.put, y1a4, y2a4, y3a4, i64_w, i32_w]
     rfl
    exact norm_ Za43 (hJ2_3_4_11 (v165, v168, v171, g182) _ ⟨hHeld, Za424, Za426, Za421, Za422, Ub4141, Ub4144, Ub4182, GW182.out, GE182.out, NB141_182.out, NB182_141.out, NB144_182.out, NB182_144.out, Hb4⟩)
   skip
   refine goes_ Try.func14 Za430 rfl #[.slice (some ⟨go61, 0, none⟩) y163.length co61] (by rfl) rfl rfl Za42 ?_
   with_reducible refine (spec_l1Own.calls _ _ y163 t173 _ ?side1 ?side2 A64.out).mono ?_
   (case side1 => repeat (first | exact (Kd.R_reads' P1.out).2.2 | (with_reducible refine Kd.C_alloc ?_ _) | (with_reducible refine Kd.C_drewN ?_ _) | (with_reducible refine Kd.C_drew ?_)))
   (case side2 => rw [show y163.length = xb_4.length from (Kd.R_reads' P1.out).1.symm]; exact (Kd.R_reads' P1.out).2.1)
   rintro e w83 ⟨v174, rfl, ho0, hb⟩
   refine ⟨_, rfl, ?_⟩
   have HO175 := Aa4q (Kd.R_lower (Kd.R_new' (Kd.R_new' (Kd.R_new' (Kd.R_new' ho0 (Kd.R_lt Za421)) (Kd.R_lt Za422)) (Kd.R_lt Za424)) (Kd.R_lt Za426)) (below_size Hb4))
   replace P0 := Aa4q (Kd.R_elder' Za421 (Kd.R_base ho0) hb)
   replace P1 := Aa4q (Kd.R_elder' Za422 (Kd.R_base ho0) hb)
   replace HO169 := Aa4q (Kd.R_elder' Za424 (Kd.R_base ho0) hb)
   replace HO172 := Aa4q (Kd.R_elder' Za426 (Kd.R_base ho0) hb)
   replace BK141 := bb4 BK141 Ub4141 hb
   replace BK144 := bb4 BK144 Ub4144 hb
   replace HB := tb4 Hb4 hb
   (try clear hb)
   (try clear hb2)
   (try clear hk)
   (try clear hi)
   (try clear ho0)
   refine hK.out _ _ Zhh (fun hHeld => ?_)
   clear hK K
   refine norm_ (a' := ?_) ?_ ?_
   rotate_left
   ·
    show Act.put _ (some 103) _ = _
    simp only [Act.put, y1a4, y2a4, y3a4, i64_w, i32_w]
    rfl
   exact norm_ Za43 (hJ2_3_4_7 (v165, v168, v171, v174) _ ⟨hHeld, Za47, Za48, Yq428, Za44, Za45, Ub4141, Ub4144, Hb4⟩)
  intro hJ2_3_4
  refine join_ (σ := Value × Value × Value) 6 #[true, true, true, true, false, true, true, false, true, false, false, false, false] (fun s_ => [(98, s_.1), (99, s_.2.1), (104, s_.2.2)]) (fun s_ w' => (w'.cell? ⟨g144, 0, none⟩ = some (.slice Ao75 xa_4.length co75) ∧ w'.cell? ⟨g144, 1, none⟩ = some (.slice (some ⟨go61, 0, none⟩) xb_4.length co61)) ∧ (Kd.R (Kd.int .i64) 3 w' w.heap.size (fun k_ => some k_ ≠ (s_.2.1 : Value).ownBlock ∧ some k_ ≠ (s_.2.2 : Value).ownBlock ∧ some k_ ≠ (.slice Ao75 xa_4.length co75 : Value).ownBlock ∧ some k_ ≠ (.slice (some ⟨go61, 0, none⟩) xb_4.length co61 : Value).ownBlock) s_.1 t164) ∧ (Kd.R (Kd.int .i64) 3 w' w.heap.size (fun k_ => some k_ ≠ (s_.1 : Value).ownBlock ∧ some k_ ≠ (s_.2.2 : Value).ownBlock ∧ some k_ ≠ (.slice Ao75 xa_4.length co75 : Value).ownBlock ∧ some k_ ≠ (.slice (some ⟨go61, 0, none⟩) xb_4.length co61 : Value).ownBlock) s_.2.1 y167) ∧ (Kd.R (Kd.int .i64) 3 w' w.heap.size (fun k_ => some k_ ≠ (s_.1 : Value).ownBlock ∧ some k_ ≠ (s_.2.1 : Value).ownBlock ∧ some k_ ≠ (.slice Ao75 xa_4.length co75 : Value).ownBlock ∧ some k_ ≠ (.slice (some ⟨go61, 0, none⟩) xb_4.length co61 : Value).ownBlock) s_.2.2 y176) ∧ (Kd.R (Kd.int .i64) 3 w' w.heap.size (fun k_ => some k_ ≠ (s_.1 : Value).ownBlock ∧ some k_ ≠ (s_.2.1 : Value).ownBlock ∧ some k_ ≠ (s_.2.2 : Value).ownBlock ∧ some k_ ≠ (.slice (some ⟨go61, 0, none⟩) xb_4.length co61 : Value).ownBlock) (.slice Ao75 xa_4.length co75) xa_4) ∧ (Kd.R (Kd.int .i64) 3 w' w.heap.size (fun k_ => some k_ ≠ (s_.1 : Value).ownBlock ∧ some k_ ≠ (s_.2.1 : Value).ownBlock ∧ some k_ ≠ (s_.2.2 : Value).ownBlock ∧ some k_ ≠ (.slice Ao75 xa_4.length co75 : Value).ownBlock) (.slice (some ⟨go61, 0, none⟩) xb_4.length co61) y163) ∧ (w'.heap[g141]? = some (.cells #[.slice none 0 0, .slice none 0 0] 24 (0, 0))) ∧ (w'.heap[g144]? = some (.cells #[.slice Ao75 xa_4.length co75, .slice (some ⟨go61, 0, none⟩) xb_4.length co61] 24 (0, 0))) ∧ (Below w.heap.size w w')) ?_ ?_
  rotate_left
  rotate_left
  ·
   skip
   rintro ⟨v165, v168, v177⟩ w82 ⟨hS_, h0_, h1_, h2_, h3_, h4_, h5_, h6_, h7_⟩
   have HO166 := Aa4q h0_
   have HO169 := Aa4q h1_
   have HO178 := Aa4q h2_
   have n3_ := Aa4q h3_
   have n4_ := Aa4q h4_
   have n5_ : Aside0 (w82.heap[g141]? = some (.cells #[.slice none 0 0, .slice none 0 0] 24 (0, 0))) := ⟨h5_⟩
   have n6_ : Aside0 (w82.heap[g144]? = some (.cells #[.slice Ao75 xa_4.length co75, .slice (some ⟨go61, 0, none⟩) xb_4.length co61] 24 (0, 0))) := ⟨h6_⟩
   have n7_ : Aside0 (Below w.heap.size w w82) := ⟨h7_⟩
   clear P0 P1 BK141 BK144 HB
   clear h0_ h1_ h2_ h3_ h4_ h5_ h6_ h7_
   have P0 := n3_
   have P1 := n4_
   have BK141 := n5_
   have BK144 := n6_
   have HB := n7_
   clear n3_ n4_ n5_ n6_ n7_
   have hHeld : w82.cell? ⟨g144, 0, none⟩ = some (.slice Ao75 xa_4.length co75) ∧ w82.cell? ⟨g144, 1, none⟩ = some (.slice (some ⟨go61, 0, none⟩) xb_4.length co61) := hS_
   obtain ⟨Ao84, co84, eo84⟩ := Kd.R_slice HO169.out
   (first | subst eo84 | (injection eo84 with f1_ f2_ f3_; have f4_ := f1_.symm; have f5_ := f3_.symm; clear f1_ f2_ f3_; subst f4_; subst f5_))
   refine norm_ (a' := ?_) ?_ ?_
   rotate_left
   ·
    simp only [putAll, Act.put, y1a4, y2a4, y3a4]
    rfl
   refine two_ (i := 4) (j := 11) (Ni := some 100) (Nj := some 9) #[true, true, true, true, true, true, true, false, true, false, false, false, false] #[true, true, true, true, false, true, true, false, true, false, false, true, false] rfl rfl rfl rfl (two_of HT_.out Za430) Za431 Za431 (fun K hK => ?_) (fun K hK => ?_)
   rotate_left
   ·
    skip
    refine box_step ?hg (N := 9) ?hd (cs := #[.slice none 0 0, .slice none 0 0]) (t := 24) ?hr ?_; (case hd => rfl); (case hg => rfl); (case hr => first | (go_simp; done) | (go_simp; rfl))
    intro g182 hg w83 hbox hb
    have BK182 := Aa4q (hbox)
    have GW182 := sb4 Hb4 hg
    have GE182 := sb4 Hb4 hg
    have NB141_182 := nb4 BK141 Ub4141 hg
    have NB182_141 := mb4 BK141 Ub4141 hg
    have NB144_182 := nb4 BK144 Ub4144 hg
    have NB182_144 := mb4 BK144 Ub4144 hg
    replace P0 := Aa4q (Kd.R_below Za421 hb)
    replace P1 := Aa4q (Kd.R_below Za422 hb)
    replace HO166 := Aa4q (Kd.R_below Za425 hb)
    replace HO169 := Aa4q (Kd.R_below Za424 hb)
    replace HO178 := Aa4q (Kd.R_below Za423 hb)
    replace BK141 := bb4 BK141 Ub4141 hb
    replace BK144 := bb4 BK144 Ub4144 hb
    replace HB := tb4 Hb4 hb
    clear hb hbox hg
    refine hK.out _ _ Zhh (fun hHeld => ?_)
    clear hK K
    refine norm_ (a' := ?_) ?_ ?_
    rotate_left
    ·
     show Act.put _ (some 9) _ = _
     simp only [Act.put, y1a4, y2a4, y3a4, i64_w, i32_w]
     rfl
    exact norm_ Za43 (hJ2_3_8_11 (v165, .slice Ao84 y167.length co84, v177, g182) _ ⟨hHeld, Za425, Za424, Za423, Za421, Za422, Ub4141, Ub4144, Ub4182, GW182.out, GE182.out, NB141_182.out, NB182_141.out, NB144_182.out, NB182_144.out, Hb4⟩)
   skip
   refine Kd.R_append_rows_step (Kd.int .i64) (w0 := w) w.heap.size (by rfl) (.tmp 98) (.tmp 99) 22 3 (.int .i64 0) 8 rfl Try.underlying22 info3 rfl Za431 (by omega) v165 t164 y167 _ _ _ (fun k_ => some k_ ≠ (.slice Ao75 xa_4.length co75 : Value).ownBlock ∧ some k_ ≠ (.slice (some ⟨go61, 0, none⟩) xb_4.length co61 : Value).ownBlock ∧ some k_ ≠ (.slice Ao84 y167.length co84 : Value).ownBlock ∧ some k_ ≠ (v177 : Value).ownBlock) (fun _ => False) rfl rfl ?aO ?aR (fun _ _ h => h) (fun _ h => h.elim) ?aF ?aB ?aS ?aL ?_
   (case aR => repeat (first | exact (Kd.R_reads' HO169.out).2.2 | (with_reducible refine Kd.C_alloc ?_ _) | (with_reducible refine Kd.C_drewN ?_ _) | (with_reducible refine Kd.C_drew ?_)))
   (case aB => exact Hb4)
   (case aF => exact (fun k_ hk => ⟨Kd.fresh' (Kd.R_lt Za421) k_ hk, Kd.fresh' (Kd.R_lt Za422) k_ hk, Kd.fresh' (Kd.R_lt Za424) k_ hk, Kd.fresh' (Kd.R_lt Za423) k_ hk⟩))
   (case aO => exact Yq431)
   (case aS => exact (below_size Hb4))
   (case aL => have := LMc63.out; omega)
   intro v171 w83 ho hb hg hat
   rw [← Ny170.out] at ho
   have HO172 := Aa4q (ho)
   replace P0 := Aa4q (Kd.R_after (ok := (fun k_ => some k_ ≠ (.slice (some ⟨go61, 0, none⟩) xb_4.length co61 : Value).ownBlock ∧ some k_ ≠ (.slice Ao84 y167.length co84 : Value).ownBlock ∧ some k_ ≠ (v177 : Value).ownBlock)) Yq442 hg hat)
   replace P1 := Aa4q (Kd.R_after (ok := (fun k_ => some k_ ≠ (.slice Ao75 xa_4.length co75 : Value).ownBlock ∧ some k_ ≠ (.slice Ao84 y167.length co84 : Value).ownBlock ∧ some k_ ≠ (v177 : Value).ownBlock)) Yq443 hg hat)
   replace BK141 := Aa4q (blk_grown (g := g141) (o := .cells #[.slice none 0 0, .slice none 0 0] 24 (0, 0)) Ub4141 hg (Kd.R_ne HO166.out BK141.out Za431))
   replace BK144 := Aa4q (blk_grown (g := g144) (o := .cells #[.slice Ao75 xa_4.length co75, .slice (some ⟨go61, 0, none⟩) xb_4.length co61] 24 (0, 0)) Ub4144 hg (Kd.R_ne HO166.out BK144.out Za431))
   replace HO169 := Aa4q (Kd.R_after (ok := (fun k_ => some k_ ≠ (.slice Ao75 xa_4.length co75 : Value).ownBlock ∧ some k_ ≠ (.slice (some ⟨go61, 0, none⟩) xb_4.length co61 : Value).ownBlock ∧ some k_ ≠ (v177 : Value).ownBlock)) Yq432 hg hat)
   replace HO178 := Aa4q (Kd.R_after (ok := (fun k_ => some k_ ≠ (.slice Ao75 xa_4.length co75 : Value).ownBlock ∧ some k_ ≠ (.slice (some ⟨go61, 0, none⟩) xb_4.length co61 : Value).ownBlock ∧ some k_ ≠ (.slice Ao84 y167.length co84 : Value).ownBlock)) Yq433 hg hat)
   replace HB := Aa4q (hb)
   clear ho hb hg hat
   refine hK.out _ _ Zhh (fun hHeld => ?_)
   clear hK K
   refine norm_ (a' := ?_) ?_ ?_
   rotate_left
   ·
    show Act.put _ (some 100) _ = _
    simp only [Act.put, y1a4, y2a4, y3a4, i64_w, i32_w]
    rfl
   exact norm_ Za43 (hJ2_3_4_8 (v165, .slice Ao84 y167.length co84, v171, v177) _ ⟨hHeld, Yq434, Yq435, Yq436, Yq444, Yq445, Ub4141, Ub4144, Hb4⟩)
  intro hJ2_3_8
  refine join_ (σ := Value × Value × Nat) 6 #[true, true, true, true, false, true, true, false, false, false, false, true, false] (fun s_ => [(98, s_.1), (99, s_.2.1), (9, .pointer (some ⟨s_.2.2, 0, none⟩))]) (fun s_ w' => (w'.cell? ⟨g144, 0, none⟩ = some (.slice Ao75 xa_4.length co75) ∧ w'.cell? ⟨g144, 1, none⟩ = some (.slice (some ⟨go61, 0, none⟩) xb_4.length co61)) ∧ (Kd.R (Kd.int .i64) 3 w' w.heap.size (fun k_ => some k_ ≠ (s_.2.1 : Value).ownBlock ∧ some k_ ≠ (.slice Ao75 xa_4.length co75 : Value).ownBlock ∧ some k_ ≠ (.slice (some ⟨go61, 0, none⟩) xb_4.length co61 : Value).ownBlock) s_.1 t164) ∧ (Kd.R (Kd.int .i64) 3 w' w.heap.size (fun k_ => some k_ ≠ (s_.1 : Value).ownBlock ∧ some k_ ≠ (.slice Ao75 xa_4.length co75 : Value).ownBlock ∧ some k_ ≠ (.slice (some ⟨go61, 0, none⟩) xb_4.length co61 : Value).ownBlock) s_.2.1 y167) ∧ (Kd.R (Kd.int .i64) 3 w' w.heap.size (fun k_ => some k_ ≠ (s_.1 : Value).ownBlock ∧ some k_ ≠ (s_.2.1 : Value).ownBlock ∧ some k_ ≠ (.slice (some ⟨go61, 0, none⟩) xb_4.length co61 : Value).ownBlock) (.slice Ao75 xa_4.length co75) xa_4) ∧ (Kd.R (Kd.int .i64) 3 w' w.heap.size (fun k_ => some k_ ≠ (s_.1 : Value).ownBlock ∧ some k_ ≠ (s_.2.1 : Value).ownBlock ∧ some k_ ≠ (.slice Ao75 xa_4.length co75 : Value).ownBlock) (.slice (some ⟨go61, 0, none⟩) xb_4.length co61) y163) ∧ (w'.heap[g141]? = some (.cells #[.slice none 0 0, .slice none 0 0] 24 (0, 0))) ∧ (w'.heap[g144]? = some (.cells #[.slice Ao75 xa_4.length co75, .slice (some ⟨go61, 0, none⟩) xb_4.length co61] 24 (0, 0))) ∧ (w'.heap[s_.2.2]? = some (.cells #[.slice none 0 0, .slice none 0 0] 24 (0, 0))) ∧ (w.heap.size ≤ s_.2.2) ∧ (w.heap.size ≤ s_.2.2) ∧ (g141 ≠ s_.2.2) ∧ (s_.2.2 ≠ g141) ∧ (g144 ≠ s_.2.2) ∧ (s_.2.2 ≠ g144) ∧ (Below w.heap.size w w')) ?_ ?_
  rotate_left
  rotate_left
  ·
   skip
   rintro ⟨v165, v168, g182⟩ w81 ⟨hS_, h0_, h1_, h2_, h3_, h4_, h5_, h6_, h7_, h8_, h9_, h10_, h11_, h12_, h13_⟩
   have HO166 := Aa4q h0_
   have HO169 := Aa4q h1_
   have n2_ := Aa4q h2_
   have n3_ := Aa4q h3_
   have n4_ : Aside0 (w81.heap[g141]? = some (.cells #[.slice none 0 0, .slice none 0 0] 24 (0, 0))) := ⟨h4_⟩
   have n5_ : Aside0 (w81.heap[g144]? = some (.cells #[.slice Ao75 xa_4.length co75, .slice (some ⟨go61, 0, none⟩) xb_4.length co61] 24 (0, 0))) := ⟨h5_⟩
   have BK182 : Aside0 (w81.heap[g182]? = some (.cells #[.slice none 0 0, .slice none 0 0] 24 (0, 0))) := ⟨h6_⟩
   have GW182 := Aa4q h7_
   have GE182 := Aa4q h8_
   have NB141_182 := Aa4q h9_
   have NB182_141 := Aa4q h10_
   have NB144_182 := Aa4q h11_
   have NB182_144 := Aa4q h12_
   have n13_ : Aside0 (Below w.heap.size w w81) := ⟨h13_⟩
   clear P0 P1 BK141 BK144 HB
   clear h0_ h1_ h2_ h3_ h4_ h5_ h6_ h7_ h8_ h9_ h10_ h11_ h12_ h13_
   have P0 := n2_
   have P1 := n3_
   have BK141 := n4_
   have BK144 := n5_
   have HB := n13_
   clear n2_ n3_ n4_ n5_ n13_
   have hHeld : w81.cell? ⟨g144, 0, none⟩ = some (.slice Ao75 xa_4.length co75) ∧ w81.cell? ⟨g144, 1, none⟩ = some (.slice (some ⟨go61, 0, none⟩) xb_4.length co61) := hS_
   obtain ⟨Ao83, co83, eo83⟩ := Kd.R_slice HO169.out
   (first | subst eo83 | (injection eo83 with f1_ f2_ f3_; have f4_ := f1_.symm; have f5_ := f3_.symm; clear f1_ f2_ f3_; subst f4_; subst f5_))
   refine norm_ (a' := ?_) ?_ ?_
   rotate_left
   ·
    simp only [putAll, Act.put, y1a4, y2a4, y3a4]
    rfl
   refine two_ (i := 4) (j := 8) (Ni := some 100) (Nj := some 104) #[true, true, true, true, true, true, true, false, false, false, false, true, false] #[true, true, true, true, false, true, true, false, true, false, false, true, false] rfl rfl rfl rfl (two_of HT_.out Za430) Za431 Za431 (fun K hK => ?_) (fun K hK => ?_)
   rotate_left
   ·
    skip
    refine Kd.R_lit_step (Kd.int .i64) _ 3 ?hg (N := 104) ?hd (xs := ([1] : List Int)) (inner := [.int .i64 1]) (ok := fun _ => True) (okp := fun _ => True) ?hr ?hp (fun _ hk => hk) trivial (Below.refl _ _) (Nat.le_refl _) (by simp) ?_; (case hd => rfl); (case hg => rfl); (case hr => first | (go_simp; done) | (go_simp; rfl)); (case hp => exact (Reps.one (show Kd.M (Kd.int .i64) _ _ _ 1 [.int .i64 1] from rfl) (Reps.none _ _)))
    intro v177 w82 ho83 hb hg_ hnew_
    clear hg_ hnew_
    (first | rw [← Ny176.out] at ho83 | (simp only [Int.reduceToNat] at ho83; rw [← Ny176.out] at ho83))
    have HO178 := Aa4q (Kd.R_lower (Kd.R_new' (Kd.R_new' (Kd.R_new' (Kd.R_new' ho83 (Kd.R_lt Za421)) (Kd.R_lt Za422)) (Kd.R_lt Za425)) (Kd.R_lt Za424)) (below_size Hb4))
    replace P0 := Aa4q (Kd.R_elder' Za421 (Kd.R_base ho83) hb)
    replace P1 := Aa4q (Kd.R_elder' Za422 (Kd.R_base ho83) hb)
    replace HO166 := Aa4q (Kd.R_elder' Za425 (Kd.R_base ho83) hb)
    replace HO169 := Aa4q (Kd.R_elder' Za424 (Kd.R_base ho83) hb)
    replace BK141 := bb4 BK141 Ub4141 hb
    replace BK144 := bb4 BK144 Ub4144 hb
    replace BK182 := bb4 BK182 Ub4182 hb
    replace HB := tb4 Hb4 hb
    clear hb ho83
    refine hK.out _ _ Zhh (fun hHeld => ?_)
    clear hK K
    refine norm_ (a' := ?_) ?_ ?_
    rotate_left
    ·
     show Act.put _ (some 104) _ = _
     simp only [Act.put, y1a4, y2a4, y3a4, i64_w, i32_w]
     rfl
    exact norm_ Za43 (hJ2_3_8_11 (v165, .slice Ao83 y167.length co83, v177, g182) _ ⟨hHeld, Yq437, Za47, Za46, Za44, Za45, Ub4141, Ub4144, Ub4182, GW182.out, GE182.out, NB141_182.out, NB182_141.out, NB144_182.out, NB182_144.out, Hb4⟩)
   skip
   refine Kd.R_append_rows_step (Kd.int .i64) (w0 := w) w.heap.size (by rfl) (.tmp 98) (.tmp 99) 22 3 (.int .i64 0) 8 rfl Try.underlying22 info3 rfl Za431 (by omega) v165 t164 y167 _ _ _ (fun k_ => some k_ ≠ (.slice Ao75 xa_4.length co75 : Value).ownBlock ∧ some k_ ≠ (.slice (some ⟨go61, 0, none⟩) xb_4.length co61 : Value).ownBlock ∧ some k_ ≠ (.slice Ao83 y167.length co83 : Value).ownBlock) (fun _ => False) rfl rfl ?aO ?aR (fun _ _ h => h) (fun _ h => h.elim) ?aF ?aB ?aS ?aL ?_
   (case aR => repeat (first | exact (Kd.R_reads' HO169.out).2.2 | (with_reducible refine Kd.C_alloc ?_ _) | (with_reducible refine Kd.C_drewN ?_ _) | (with_reducible refine Kd.C_drew ?_)))
   (case aB => exact Hb4)
   (case aF => exact (fun k_ hk => ⟨Kd.fresh' (Kd.R_lt Za421) k_ hk, Kd.fresh' (Kd.R_lt Za422) k_ hk, Kd.fresh' (Kd.R_lt Za424) k_ hk⟩))
   (case aO => exact Yq450)
   (case aS => exact (below_size Hb4))
   (case aL => have := LMc63.out; omega)
   intro v171 w82 ho hb hg hat
   rw [← Ny170.out] at ho
   have HO172 := Aa4q (ho)
   replace P0 := Aa4q (Kd.R_after (ok := (fun k_ => some k_ ≠ (.slice (some ⟨go61, 0, none⟩) xb_4.length co61 : Value).ownBlock ∧ some k_ ≠ (.slice Ao83 y167.length co83 : Value).ownBlock)) Yq453 hg hat)
   replace P1 := Aa4q (Kd.R_after (ok := (fun k_ => some k_ ≠ (.slice Ao75 xa_4.length co75 : Value).ownBlock ∧ some k_ ≠ (.slice Ao83 y167.length co83 : Value).ownBlock)) Yq454 hg hat)
   replace BK141 := Aa4q (blk_grown (g := g141) (o := .cells #[.slice none 0 0, .slice none 0 0] 24 (0, 0)) Ub4141 hg (Kd.R_ne HO166.out BK141.out Za431))
   replace BK144 := Aa4q (blk_grown (g := g144) (o := .cells #[.slice Ao75 xa_4.length co75, .slice (some ⟨go61, 0, none⟩) xb_4.length co61] 24 (0, 0)) Ub4144 hg (Kd.R_ne HO166.out BK144.out Za431))
   replace HO169 := Aa4q (Kd.R_after (ok := (fun k_ => some k_ ≠ (.slice Ao75 xa_4.length co75 : Value).ownBlock ∧ some k_ ≠ (.slice (some ⟨go61, 0, none⟩) xb_4.length co61 : Value).ownBlock)) Yq451 hg hat)
   replace BK182 := Aa4q (blk_grown (g := g182) (o := .cells #[.slice none 0 0, .slice none 0 0] 24 (0, 0)) Ub4182 hg (Kd.R_ne HO166.out BK182.out Za431))
   replace HB := Aa4q (hb)
   clear ho hb hg hat
   refine hK.out _ _ Zhh (fun hHeld => ?_)
   clear hK K
   refine norm_ (a' := ?_) ?_ ?_
   rotate_left
   ·
    show Act.put _ (some 100) _ = _
    simp only [Act.put, y1a4, y2a4, y3a4, i64_w, i32_w]
    rfl
   exact norm_ Za43 (hJ2_3_4_11 (v165, .slice Ao83 y167.length co83, v171, g182) _ ⟨hHeld, Za417, Yq452, Yq455, Yq456, Ub4141, Ub4144, Ub4182, GW182.out, GE182.out, NB141_182.out, NB182_141.out, NB144_182.out, NB182_144.out, Hb4⟩)
  intro hJ2_3_11
  refine join_ (σ := Value × Value × Nat) 6 #[true, true, true, false, false, true, true, false, true, false, false, true, false] (fun s_ => [(98, s_.1), (104, s_.2.1), (9, .pointer (some ⟨s_.2.2, 0, none⟩))]) (fun s_ w' => (w'.cell? ⟨g144, 0, none⟩ = some (.slice Ao75 xa_4.length co75) ∧ w'.cell? ⟨g144, 1, none⟩ = some (.slice (some ⟨go61, 0, none⟩) xb_4.length co61)) ∧ (Kd.R (Kd.int .i64) 3 w' w.heap.size (fun k_ => some k_ ≠ (s_.2.1 : Value).ownBlock ∧ some k_ ≠ (.slice Ao75 xa_4.length co75 : Value).ownBlock ∧ some k_ ≠ (.slice (some ⟨go61, 0, none⟩) xb_4.length co61 : Value).ownBlock) s_.1 t164) ∧ (Kd.R (Kd.int .i64) 3 w' w.heap.size (fun k_ => some k_ ≠ (s_.1 : Value).ownBlock ∧ some k_ ≠ (.slice Ao75 xa_4.length co75 : Value).ownBlock ∧ some k_ ≠ (.slice (some ⟨go61, 0, none⟩) xb_4.length co61 : Value).ownBlock) s_.2.1 y176) ∧ (Kd.R (Kd.int .i64) 3 w' w.heap.size (fun k_ => some k_ ≠ (s_.1 : Value).ownBlock ∧ some k_ ≠ (s_.2.1 : Value).ownBlock ∧ some k_ ≠ (.slice (some ⟨go61, 0, none⟩) xb_4.length co61 : Value).ownBlock) (.slice Ao75 xa_4.length co75) xa_4) ∧ (Kd.R (Kd.int .i64) 3 w' w.heap.size (fun k_ => some k_ ≠ (s_.1 : Value).ownBlock ∧ some k_ ≠ (s_.2.1 : Value).ownBlock ∧ some k_ ≠ (.slice Ao75 xa_4.length co75 : Value).ownBlock) (.slice (some ⟨go61, 0, none⟩) xb_4.length co61) y163) ∧ (w'.heap[g141]? = some (.cells #[.slice none 0 0, .slice none 0 0] 24 (0, 0))) ∧ (w'.heap[g144]? = some (.cells #[.slice Ao75 xa_4.length co75, .slice (some ⟨go61, 0, none⟩) xb_4.length co61] 24 (0, 0))) ∧ (w'.heap[s_.2.2]? = some (.cells #[.slice none 0 0, .slice none 0 0] 24 (0, 0))) ∧ (w.heap.size ≤ s_.2.2) ∧ (w.heap.size ≤ s_.2.2) ∧ (g141 ≠ s_.2.2) ∧ (s_.2.2 ≠ g141) ∧ (g144 ≠ s_.2.2) ∧ (s_.2.2 ≠ g144) ∧ (Below w.heap.size w w')) ?_ ?_
  rotate_left
  rotate_left
  ·
   skip
   rintro ⟨v165, v177, g182⟩ w81 ⟨hS_, h0_, h1_, h2_, h3_, h4_, h5_, h6_, h7_, h8_, h9_, h10_, h11_, h12_, h13_⟩
   have HO166 := Aa4q h0_
   have HO178 := Aa4q h1_
   have n2_ := Aa4q h2_
   have n3_ := Aa4q h3_
   have n4_ : Aside0 (w81.heap[g141]? = some (.cells #[.slice none 0 0, .slice none 0 0] 24 (0, 0))) := ⟨h4_⟩
   have n5_ : Aside0 (w81.heap[g144]? = some (.cells #[.slice Ao75 xa_4.length co75, .slice (some ⟨go61, 0, none⟩) xb_4.length co61] 24 (0, 0))) := ⟨h5_⟩
   have BK182 : Aside0 (w81.heap[g182]? = some (.cells #[.slice none 0 0, .slice none 0 0] 24 (0, 0))) := ⟨h6_⟩
   have GW182 := Aa4q h7_
   have GE182 := Aa4q h8_
   have NB141_182 := Aa4q h9_
   have NB182_141 := Aa4q h10_
   have NB144_182 := Aa4q h11_
   have NB182_144 := Aa4q h12_
   have n13_ : Aside0 (Below w.heap.size w w81) := ⟨h13_⟩
   clear P0 P1 BK141 BK144 HB
   clear h0_ h1_ h2_ h3_ h4_ h5_ h6_ h7_ h8_ h9_ h10_ h11_ h12_ h13_
   have P0 := n2_
   have P1 := n3_
   have BK141 := n4_
   have BK144 := n5_
   have HB := n13_
   clear n2_ n3_ n4_ n5_ n13_
   have hHeld : w81.cell? ⟨g144, 0, none⟩ = some (.slice Ao75 xa_4.length co75) ∧ w81.cell? ⟨g144, 1, none⟩ = some (.slice (some ⟨go61, 0, none⟩) xb_4.length co61) := hS_
   refine norm_ (a' := ?_) ?_ ?_
   rotate_left
   ·
    simp only [putAll, Act.put, y1a4, y2a4, y3a4]
    rfl
   refine one_ (i := 3) (N := some 99) #[true, true, true, true, false, true, true, false, true, false, false, true, false] rfl rfl (one_of HT_.out Za430) Za431 (fun K hK => ?_)
   refine Kd.R_lit_step (Kd.int .i64) _ 3 ?hg (N := 99) ?hd (xs := ([0] : List Int)) (inner := [.int .i64 0]) (ok := fun _ => True) (okp := fun _ => True) ?hr ?hp (fun _ hk => hk) trivial (Below.refl _ _) (Nat.le_refl _) (by simp) ?_; (case hd => rfl); (case hg => rfl); (case hr => first | (go_simp; done) | (go_simp; rfl)); (case hp => exact (Reps.one (show Kd.M (Kd.int .i64) _ _ _ 0 [.int .i64 0] from rfl) (Reps.none _ _)))
   intro v168 w82 ho83 hb hg_ hnew_
   clear hg_ hnew_
   (first | rw [← Ny167.out] at ho83 | (simp only [Int.reduceToNat] at ho83; rw [← Ny167.out] at ho83))
   have HO169 := Aa4q (Kd.R_lower (Kd.R_new' (Kd.R_new' (Kd.R_new' (Kd.R_new' ho83 (Kd.R_lt Za421)) (Kd.R_lt Za422)) (Kd.R_lt Za425)) (Kd.R_lt Za423)) (below_size Hb4))
   replace P0 := Aa4q (Kd.R_elder' Za421 (Kd.R_base ho83) hb)
   replace P1 := Aa4q (Kd.R_elder' Za422 (Kd.R_base ho83) hb)
   replace HO166 := Aa4q (Kd.R_elder' Za425 (Kd.R_base ho83) hb)
   replace HO178 := Aa4q (Kd.R_elder' Za423 (Kd.R_base ho83) hb)
   replace BK141 := bb4 BK141 Ub4141 hb
   replace BK144 := bb4 BK144 Ub4144 hb
   replace BK182 := bb4 BK182 Ub4182 hb
   replace HB := tb4 Hb4 hb
   clear hb ho83
   refine hK.out _ _ Zhh (fun hHeld => ?_)
   clear hK K
   refine norm_ (a' := ?_) ?_ ?_
   rotate_left
   ·
    show Act.put _ (some 99) _ = _
    simp only [Act.put, y1a4, y2a4, y3a4, i64_w, i32_w]
    rfl
   exact norm_ Za43 (hJ2_3_8_11 (v165, v168, v177, g182) _ ⟨hHeld, Yq438, Yq429, Yq439, Yq446, Yq447, Ub4141, Ub4144, Ub4182, GW182.out, GE182.out, NB141_182.out, NB182_141.out, NB144_182.out, NB182_144.out, Hb4⟩)
  intro hJ2_8_11
  refine join_ (σ := Value × Value × Nat) 6 #[true, true, false, true, false, true, true, false, true, false, false, true, false] (fun s_ => [(99, s_.1), (104, s_.2.1), (9, .pointer (some ⟨s_.2.2, 0, none⟩))]) (fun s_ w' => (w'.cell? ⟨g144, 0, none⟩ = some (.slice Ao75 xa_4.length co75) ∧ w'.cell? ⟨g144, 1, none⟩ = some (.slice (some ⟨go61, 0, none⟩) xb_4.length co61)) ∧ (Kd.R (Kd.int .i64) 3 w' w.heap.size (fun k_ => some k_ ≠ (s_.2.1 : Value).ownBlock ∧ some k_ ≠ (.slice Ao75 xa_4.length co75 : Value).ownBlock ∧ some k_ ≠ (.slice (some ⟨go61, 0, none⟩) xb_4.length co61 : Value).ownBlock) s_.1 y167) ∧ (Kd.R (Kd.int .i64) 3 w' w.heap.size (fun k_ => some k_ ≠ (s_.1 : Value).ownBlock ∧ some k_ ≠ (.slice Ao75 xa_4.length co75 : Value).ownBlock ∧ some k_ ≠ (.slice (some ⟨go61, 0, none⟩) xb_4.length co61 : Value).ownBlock) s_.2.1 y176) ∧ (Kd.R (Kd.int .i64) 3 w' w.heap.size (fun k_ => some k_ ≠ (s_.1 : Value).ownBlock ∧ some k_ ≠ (s_.2.1 : Value).ownBlock ∧ some k_ ≠ (.slice (some ⟨go61, 0, none⟩) xb_4.length co61 : Value).ownBlock) (.slice Ao75 xa_4.length co75) xa_4) ∧ (Kd.R (Kd.int .i64) 3 w' w.heap.size (fun k_ => some k_ ≠ (s_.1 : Value).ownBlock ∧ some k_ ≠ (s_.2.1 : Value).ownBlock ∧ some k_ ≠ (.slice Ao75 xa_4.length co75 : Value).ownBlock) (.slice (some ⟨go61, 0, none⟩) xb_4.length co61) y163) ∧ (w'.heap[g141]? = some (.cells #[.slice none 0 0, .slice none 0 0] 24 (0, 0))) ∧ (w'.heap[g144]? = some (.cells #[.slice Ao75 xa_4.length co75, .slice (some ⟨go61, 0, none⟩) xb_4.length co61] 24 (0, 0))) ∧ (w'.heap[s_.2.2]? = some (.cells #[.slice none 0 0, .slice none 0 0] 24 (0, 0))) ∧ (w.heap.size ≤ s_.2.2) ∧ (w.heap.size ≤ s_.2.2) ∧ (g141 ≠ s_.2.2) ∧ (s_.2.2 ≠ g141) ∧ (g144 ≠ s_.2.2) ∧ (s_.2.2 ≠ g144) ∧ (Below w.heap.size w w')) ?_ ?_
  rotate_left
  rotate_left
  ·
   skip
   rintro ⟨v168, v177, g182⟩ w82 ⟨hS_, h0_, h1_, h2_, h3_, h4_, h5_, h6_, h7_, h8_, h9_, h10_, h11_, h12_, h13_⟩
   have HO169 := Aa4q h0_
   have HO178 := Aa4q h1_
   have n2_ := Aa4q h2_
   have n3_ := Aa4q h3_
   have n4_ : Aside0 (w82.heap[g141]? = some (.cells #[.slice none 0 0, .slice none 0 0] 24 (0, 0))) := ⟨h4_⟩
   have n5_ : Aside0 (w82.heap[g144]? = some (.cells #[.slice Ao75 xa_4.length co75, .slice (some ⟨go61, 0, none⟩) xb_4.length co61] 24 (0, 0))) := ⟨h5_⟩
   have BK182 : Aside0 (w82.heap[g182]? = some (.cells #[.slice none 0 0, .slice none 0 0] 24 (0, 0))) := ⟨h6_⟩
   have GW182 := Aa4q h7_
   have GE182 := Aa4q h8_
   have NB141_182 := Aa4q h9_
   have NB182_141 := Aa4q h10_
   have NB144_182 := Aa4q h11_
   have NB182_144 := Aa4q h12_
   have n13_ : Aside0 (Below w.heap.size w w82) := ⟨h13_⟩
   clear P0 P1 BK141 BK144 HB
   clear h0_ h1_ h2_ h3_ h4_ h5_ h6_ h7_ h8_ h9_ h10_ h11_ h12_ h13_
   have P0 := n2_
   have P1 := n3_
   have BK141 := n4_
   have BK144 := n5_
   have HB := n13_
   clear n2_ n3_ n4_ n5_ n13_
   have hHeld : w82.cell? ⟨g144, 0, none⟩ = some (.slice Ao75 xa_4.length co75) ∧ w82.cell? ⟨g144, 1, none⟩ = some (.slice (some ⟨go61, 0, none⟩) xb_4.length co61) := hS_
   refine norm_ (a' := ?_) ?_ ?_
   rotate_left
   ·
    simp only [putAll, Act.put, y1a4, y2a4, y3a4]
    rfl
   refine one_ (i := 2) (N := some 98) #[true, true, true, true, false, true, true, false, true, false, false, true, false] rfl rfl (one_of HT_.out Za430) Za431 (fun K hK => ?_)
   refine goes_ Try.func14 Za430 rfl #[.slice Ao75 xa_4.length co75] (by rfl) rfl rfl Za420 ?_
   with_reducible refine (spec_l1Own.calls _ _ xa_4 t164 _ ?side1 ?side2 A62.out).mono ?_
   (case side1 => repeat (first | exact (Kd.R_reads' P0.out).2.2 | (with_reducible refine Kd.C_alloc ?_ _) | (with_reducible refine Kd.C_drewN ?_ _) | (with_reducible refine Kd.C_drew ?_)))
   (case side2 => exact (Kd.R_reads' P0.out).2.1)
   rintro e w83 ⟨v165, rfl, ho0, hb⟩
   refine ⟨_, rfl, ?_⟩
   have HO166 := Aa4q (Kd.R_lower (Kd.R_new' (Kd.R_new' (Kd.R_new' (Kd.R_new' ho0 (Kd.R_lt Za421)) (Kd.R_lt Za422)) (Kd.R_lt Za424)) (Kd.R_lt Za423)) (below_size Hb4))
   replace P0 := Aa4q (Kd.R_elder' Za421 (Kd.R_base ho0) hb)
   replace P1 := Aa4q (Kd.R_elder' Za422 (Kd.R_base ho0) hb)
   replace HO169 := Aa4q (Kd.R_elder' Za424 (Kd.R_base ho0) hb)
   replace HO178 := Aa4q (Kd.R_elder' Za423 (Kd.R_base ho0) hb)
   replace BK141 := bb4 BK141 Ub4141 hb
   replace BK144 := bb4 BK144 Ub4144 hb
   replace BK182 := bb4 BK182 Ub4182 hb
   replace HB := tb4 Hb4 hb
   (try clear hb)
   (try clear hb2)
   (try clear hk)
   (try clear hi)
   (try clear ho0)
   refine hK.out _ _ Zhh (fun hHeld => ?_)
   clear hK K
   refine norm_ (a' := ?_) ?_ ?_
   rotate_left
   ·
    show Act.put _ (some 98) _ = _
    simp only [Act.put, y1a4, y2a4, y3a4, i64_w, i32_w]
    rfl
   exact norm_ Za43 (hJ2_3_8_11 (v165, v168, v177, g182) _ ⟨hHeld, Yq430, Yq440, Yq441, Yq448, Yq449, Ub4141, Ub4144, Ub4182, GW182.out, GE182.out, NB141_182.out, NB182_141.out, NB144_182.out, NB182_144.out, Hb4⟩)
  intro hJ3_8_11
  refine join_ (σ := Value × Value) 7 #[true, true, true, true, false, true, true, false, false, false, false, false, false] (fun s_ => [(98, s_.1), (99, s_.2)]) (fun s_ w' => (w'.cell? ⟨g144, 0, none⟩ = some (.slice Ao75 xa_4.length co75) ∧ w'.cell? ⟨g144, 1, none⟩ = some (.slice (some ⟨go61, 0, none⟩) xb_4.length co61)) ∧ (Kd.R (Kd.int .i64) 3 w' w.heap.size (fun k_ => some k_ ≠ (s_.2 : Value).ownBlock ∧ some k_ ≠ (.slice Ao75 xa_4.length co75 : Value).ownBlock ∧ some k_ ≠ (.slice (some ⟨go61, 0, none⟩) xb_4.length co61 : Value).ownBlock) s_.1 t164) ∧ (Kd.R (Kd.int .i64) 3 w' w.heap.size (fun k_ => some k_ ≠ (s_.1 : Value).ownBlock ∧ some k_ ≠ (.slice Ao75 xa_4.length co75 : Value).ownBlock ∧ some k_ ≠ (.slice (some ⟨go61, 0, none⟩) xb_4.length co61 : Value).ownBlock) s_.2 y167) ∧ (Kd.R (Kd.int .i64) 3 w' w.heap.size (fun k_ => some k_ ≠ (s_.1 : Value).ownBlock ∧ some k_ ≠ (s_.2 : Value).ownBlock ∧ some k_ ≠ (.slice (some ⟨go61, 0, none⟩) xb_4.length co61 : Value).ownBlock) (.slice Ao75 xa_4.length co75) xa_4) ∧ (Kd.R (Kd.int .i64) 3 w' w.heap.size (fun k_ => some k_ ≠ (s_.1 : Value).ownBlock ∧ some k_ ≠ (s_.2 : Value).ownBlock ∧ some k_ ≠ (.slice Ao75 xa_4.length co75 : Value).ownBlock) (.slice (some ⟨go61, 0, none⟩) xb_4.length co61) y163) ∧ (w'.heap[g141]? = some (.cells #[.slice none 0 0, .slice none 0 0] 24 (0, 0))) ∧ (w'.heap[g144]? = some (.cells #[.slice Ao75 xa_4.length co75, .slice (some ⟨go61, 0, none⟩) xb_4.length co61] 24 (0, 0))) ∧ (Below w.heap.size w w')) ?_ ?_
  rotate_left
  rotate_left
  ·
   skip
   rintro ⟨v165, v168⟩ w80 ⟨hS_, h0_, h1_, h2_, h3_, h4_, h5_, h6_⟩
   have HO166 := Aa4q h0_
   have HO169 := Aa4q h1_
   have n2_ := Aa4q h2_
   have n3_ := Aa4q h3_
   have n4_ : Aside0 (w80.heap[g141]? = some (.cells #[.slice none 0 0, .slice none 0 0] 24 (0, 0))) := ⟨h4_⟩
   have n5_ : Aside0 (w80.heap[g144]? = some (.cells #[.slice Ao75 xa_4.length co75, .slice (some ⟨go61, 0, none⟩) xb_4.length co61] 24 (0, 0))) := ⟨h5_⟩
   have n6_ : Aside0 (Below w.heap.size w w80) := ⟨h6_⟩
   clear P0 P1 BK141 BK144 HB
   clear h0_ h1_ h2_ h3_ h4_ h5_ h6_
   have P0 := n2_
   have P1 := n3_
   have BK141 := n4_
   have BK144 := n5_
   have HB := n6_
   clear n2_ n3_ n4_ n5_ n6_
   have hHeld : w80.cell? ⟨g144, 0, none⟩ = some (.slice Ao75 xa_4.length co75) ∧ w80.cell? ⟨g144, 1, none⟩ = some (.slice (some ⟨go61, 0, none⟩) xb_4.length co61) := hS_
   obtain ⟨Ao82, co82, eo82⟩ := Kd.R_slice HO169.out
   (first | subst eo82 | (injection eo82 with f1_ f2_ f3_; have f4_ := f1_.symm; have f5_ := f3_.symm; clear f1_ f2_ f3_; subst f4_; subst f5_))
   refine norm_ (a' := ?_) ?_ ?_
   rotate_left
   ·
    simp only [putAll, Act.put, y1a4, y2a4, y3a4]
    rfl
   refine three_ (i := 4) (j := 8) (k := 11) (Ni := some 100) (Nj := some 104) (Nk := some 9) #[true, true, true, true, true, true, true, false, false, false, false, false, false] #[true, true, true, true, false, true, true, false, true, false, false, false, false] #[true, true, true, true, false, true, true, false, false, false, false, true, false] rfl rfl rfl rfl rfl rfl (three_of HT_.out Za430) Za431 Za431 Za431 (fun K hK => ?_) (fun K hK => ?_) (fun K hK => ?_)
   rotate_left
   ·
    skip
    refine Kd.R_lit_step (Kd.int .i64) _ 3 ?hg (N := 104) ?hd (xs := ([1] : List Int)) (inner := [.int .i64 1]) (ok := fun _ => True) (okp := fun _ => True) ?hr ?hp (fun _ hk => hk) trivial (Below.refl _ _) (Nat.le_refl _) (by simp) ?_; (case hd => rfl); (case hg => rfl); (case hr => first | (go_simp; done) | (go_simp; rfl)); (case hp => exact (Reps.one (show Kd.M (Kd.int .i64) _ _ _ 1 [.int .i64 1] from rfl) (Reps.none _ _)))
    intro v177 w81 ho82 hb hg_ hnew_
    clear hg_ hnew_
    (first | rw [← Ny176.out] at ho82 | (simp only [Int.reduceToNat] at ho82; rw [← Ny176.out] at ho82))
    have HO178 := Aa4q (Kd.R_lower (Kd.R_new' (Kd.R_new' (Kd.R_new' (Kd.R_new' ho82 (Kd.R_lt Za421)) (Kd.R_lt Za422)) (Kd.R_lt Za425)) (Kd.R_lt Za424)) (below_size Hb4))
    replace P0 := Aa4q (Kd.R_elder' Za421 (Kd.R_base ho82) hb)
    replace P1 := Aa4q (Kd.R_elder' Za422 (Kd.R_base ho82) hb)
    replace HO166 := Aa4q (Kd.R_elder' Za425 (Kd.R_base ho82) hb)
    replace HO169 := Aa4q (Kd.R_elder' Za424 (Kd.R_base ho82) hb)
    replace BK141 := bb4 BK141 Ub4141 hb
    replace BK144 := bb4 BK144 Ub4144 hb
    replace HB := tb4 Hb4 hb
    clear hb ho82
    refine hK.out _ _ Zhh (fun hHeld => ?_)
    clear hK K
    refine norm_ (a' := ?_) ?_ ?_
    rotate_left
    ·
     show Act.put _ (some 104) _ = _
     simp only [Act.put, y1a4, y2a4, y3a4, i64_w, i32_w]
     rfl
    exact norm_ Za43 (hJ2_3_8 (v165, .slice Ao82 y167.length co82, v177) _ ⟨hHeld, Yq437, Za47, Za46, Za44, Za45, Ub4141, Ub4144, Hb4⟩)
   ·
    skip
    refine box_step ?hg (N := 9) ?hd (cs := #[.slice none 0 0, .slice none 0 0]) (t := 24) ?hr ?_; (case hd => rfl); (case hg => rfl); (case hr => first | (go_simp; done) | (go_simp; rfl))
    intro g182 hg w81 hbox hb
    have BK182 := Aa4q (hbox)
    have GW182 := sb4 Hb4 hg
    have GE182 := sb4 Hb4 hg
    have NB141_182 := nb4 BK141 Ub4141 hg
    have NB182_141 := mb4 BK141 Ub4141 hg
    have NB144_182 := nb4 BK144 Ub4144 hg
    have NB182_144 := mb4 BK144 Ub4144 hg
    replace P0 := Aa4q (Kd.R_below Za421 hb)
    replace P1 := Aa4q (Kd.R_below Za422 hb)
    replace HO166 := Aa4q (Kd.R_below Za425 hb)
    replace HO169 := Aa4q (Kd.R_below Za424 hb)
    replace BK141 := bb4 BK141 Ub4141 hb
    replace BK144 := bb4 BK144 Ub4144 hb
    replace HB := tb4 Hb4 hb
    clear hb hbox hg
    refine hK.out _ _ Zhh (fun hHeld => ?_)
    clear hK K
    refine norm_ (a' := ?_) ?_ ?_
    rotate_left
    ·
     show Act.put _ (some 9) _ = _
     simp only [Act.put, y1a4, y2a4, y3a4, i64_w, i32_w]
     rfl
    exact norm_ Za43 (hJ2_3_11 (v165, .slice Ao82 y167.length co82, g182) _ ⟨hHeld, Za425, Za424, Za421, Za422, Ub4141, Ub4144, Ub4182, GW182.out, GE182.out, NB141_182.out, NB182_141.out, NB144_182.out, NB182_144.out, Hb4⟩)
   skip
   refine Kd.R_append_rows_step (Kd.int .i64) (w0 := w) w.heap.size (by rfl) (.tmp 98) (.tmp 99) 22 3 (.int .i64 0) 8 rfl Try.underlying22 info3 rfl Za431 (by omega) v165 t164 y167 _ _ _ (fun k_ => some k_ ≠ (.slice Ao75 xa_4.length co75 : Value).ownBlock ∧ some k_ ≠ (.slice (some ⟨go61, 0, none⟩) xb_4.length co61 : Value).ownBlock ∧ some k_ ≠ (.slice Ao82 y167.length co82 : Value).ownBlock) (fun _ => False) rfl rfl ?aO ?aR (fun _ _ h => h) (fun _ h => h.elim) ?aF ?aB ?aS ?aL ?_
   (case aR => repeat (first | exact (Kd.R_reads' HO169.out).2.2 | (with_reducible refine Kd.C_alloc ?_ _) | (with_reducible refine Kd.C_drewN ?_ _) | (with_reducible refine Kd.C_drew ?_)))
   (case aB => exact Hb4)
   (case aF => exact (fun k_ hk => ⟨Kd.fresh' (Kd.R_lt Za421) k_ hk, Kd.fresh' (Kd.R_lt Za422) k_ hk, Kd.fresh' (Kd.R_lt Za424) k_ hk⟩))
   (case aO => exact Yq450)
   (case aS => exact (below_size Hb4))
   (case aL => have := LMc63.out; omega)
   intro v171 w81 ho hb hg hat
   rw [← Ny170.out] at ho
   have HO172 := Aa4q (ho)
   replace P0 := Aa4q (Kd.R_after (ok := (fun k_ => some k_ ≠ (.slice (some ⟨go61, 0, none⟩) xb_4.length co61 : Value).ownBlock ∧ some k_ ≠ (.slice Ao82 y167.length co82 : Value).ownBlock)) Yq453 hg hat)
   replace P1 := Aa4q (Kd.R_after (ok := (fun k_ => some k_ ≠ (.slice Ao75 xa_4.length co75 : Value).ownBlock ∧ some k_ ≠ (.slice Ao82 y167.length co82 : Value).ownBlock)) Yq454 hg hat)
   replace BK141 := Aa4q (blk_grown (g := g141) (o := .cells #[.slice none 0 0, .slice none 0 0] 24 (0, 0)) Ub4141 hg (Kd.R_ne HO166.out BK141.out Za431))
   replace BK144 := Aa4q (blk_grown (g := g144) (o := .cells #[.slice Ao75 xa_4.length co75, .slice (some ⟨go61, 0, none⟩) xb_4.length co61] 24 (0, 0)) Ub4144 hg (Kd.R_ne HO166.out BK144.out Za431))
   replace HO169 := Aa4q (Kd.R_after (ok := (fun k_ => some k_ ≠ (.slice Ao75 xa_4.length co75 : Value).ownBlock ∧ some k_ ≠ (.slice (some ⟨go61, 0, none⟩) xb_4.length co61 : Value).ownBlock)) Yq451 hg hat)
   replace HB := Aa4q (hb)
   clear ho hb hg hat
   refine hK.out _ _ Zhh (fun hHeld => ?_)
   clear hK K
   refine norm_ (a' := ?_) ?_ ?_
   rotate_left
   ·
    show Act.put _ (some 100) _ = _
    simp only [Act.put, y1a4, y2a4, y3a4, i64_w, i32_w]
    rfl
   exact norm_ Za43 (hJ2_3_4 (v165, .slice Ao82 y167.length co82, v171) _ ⟨hHeld, Za417, Yq452, Yq455, Yq456, Ub4141, Ub4144, Hb4⟩)
  intro hJ2_3
  refine join_ (σ := Value × Value) 7 #[true, true, true, false, false, true, true, false, true, false, false, false, false] (fun s_ => [(98, s_.1), (104, s_.2)]) (fun s_ w' => (w'.cell? ⟨g144, 0, none⟩ = some (.slice Ao75 xa_4.length co75) ∧ w'.cell? ⟨g144, 1, none⟩ = some (.slice (some ⟨go61, 0, none⟩) xb_4.length co61)) ∧ (Kd.R (Kd.int .i64) 3 w' w.heap.size (fun k_ => some k_ ≠ (s_.2 : Value).ownBlock ∧ some k_ ≠ (.slice Ao75 xa_4.length co75 : Value).ownBlock ∧ some k_ ≠ (.slice (some ⟨go61, 0, none⟩) xb_4.length co61 : Value).ownBlock) s_.1 t164) ∧ (Kd.R (Kd.int .i64) 3 w' w.heap.size (fun k_ => some k_ ≠ (s_.1 : Value).ownBlock ∧ some k_ ≠ (.slice Ao75 xa_4.length co75 : Value).ownBlock ∧ some k_ ≠ (.slice (some ⟨go61, 0, none⟩) xb_4.length co61 : Value).ownBlock) s_.2 y176) ∧ (Kd.R (Kd.int .i64) 3 w' w.heap.size (fun k_ => some k_ ≠ (s_.1 : Value).ownBlock ∧ some k_ ≠ (s_.2 : Value).ownBlock ∧ some k_ ≠ (.slice (some ⟨go61, 0, none⟩) xb_4.length co61 : Value).ownBlock) (.slice Ao75 xa_4.length co75) xa_4) ∧ (Kd.R (Kd.int .i64) 3 w' w.heap.size (fun k_ => some k_ ≠ (s_.1 : Value).ownBlock ∧ some k_ ≠ (s_.2 : Value).ownBlock ∧ some k_ ≠ (.slice Ao75 xa_4.length co75 : Value).ownBlock) (.slice (some ⟨go61, 0, none⟩) xb_4.length co61) y163) ∧ (w'.heap[g141]? = some (.cells #[.slice none 0 0, .slice none 0 0] 24 (0, 0))) ∧ (w'.heap[g144]? = some (.cells #[.slice Ao75 xa_4.length co75, .slice (some ⟨go61, 0, none⟩) xb_4.length co61] 24 (0, 0))) ∧ (Below w.heap.size w w')) ?_ ?_
  rotate_left
  rotate_left
  ·
   skip
   rintro ⟨v165, v177⟩ w80 ⟨hS_, h0_, h1_, h2_, h3_, h4_, h5_, h6_⟩
   have HO166 := Aa4q h0_
   have HO178 := Aa4q h1_
   have n2_ := Aa4q h2_
   have n3_ := Aa4q h3_
   have n4_ : Aside0 (w80.heap[g141]? = some (.cells #[.slice none 0 0, .slice none 0 0] 24 (0, 0))) := ⟨h4_⟩
   have n5_ : Aside0 (w80.heap[g144]? = some (.cells #[.slice Ao75 xa_4.length co75, .slice (some ⟨go61, 0, none⟩) xb_4.length co61] 24 (0, 0))) := ⟨h5_⟩
   have n6_ : Aside0 (Below w.heap.size w w80) := ⟨h6_⟩
   clear P0 P1 BK141 BK144 HB
   clear h0_ h1_ h2_ h3_ h4_ h5_ h6_
   have P0 := n2_
   have P1 := n3_
   have BK141 := n4_
   have BK144 := n5_
   have HB := n6_
   clear n2_ n3_ n4_ n5_ n6_
   have hHeld : w80.cell? ⟨g144, 0, none⟩ = some (.slice Ao75 xa_4.length co75) ∧ w80.cell? ⟨g144, 1, none⟩ = some (.slice (some ⟨go61, 0, none⟩) xb_4.length co61) := hS_
   refine norm_ (a' := ?_) ?_ ?_
   rotate_left
   ·
    simp only [putAll, Act.put, y1a4, y2a4, y3a4]
    rfl
   refine two_ (i := 3) (j := 11) (Ni := some 99) (Nj := some 9) #[true, true, true, true, false, true, true, false, true, false, false, false, false] #[true, true, true, false, false, true, true, false, true, false, false, true, false] rfl rfl rfl rfl (two_of HT_.out Za430) Za431 Za431 (fun K hK => ?_) (fun K hK => ?_)
   rotate_left
   ·
    skip
    refine box_step ?hg (N := 9) ?hd (cs := #[.slice none 0 0, .slice none 0 0]) (t := 24) ?hr ?_; (case hd => rfl); (case hg => rfl); (case hr => first | (go_simp; done) | (go_simp; rfl))
    intro g182 hg w81 hbox hb
    have BK182 := Aa4q (hbox)
    have GW182 := sb4 Hb4 hg
    have GE182 := sb4 Hb4 hg
    have NB141_182 := nb4 BK141 Ub4141 hg
    have NB182_141 := mb4 BK141 Ub4141 hg
    have NB144_182 := nb4 BK144 Ub4144 hg
    have NB182_144 := mb4 BK144 Ub4144 hg
    replace P0 := Aa4q (Kd.R_below Za421 hb)
    replace P1 := Aa4q (Kd.R_below Za422 hb)
    replace HO166 := Aa4q (Kd.R_below Za425 hb)
    replace HO178 := Aa4q (Kd.R_below Za423 hb)
    replace BK141 := bb4 BK141 Ub4141 hb
    replace BK144 := bb4 BK144 Ub4144 hb
    replace HB := tb4 Hb4 hb
    clear hb hbox hg
    refine hK.out _ _ Zhh (fun hHeld => ?_)
    clear hK K
    refine norm_ (a' := ?_) ?_ ?_
    rotate_left
    ·
     show Act.put _ (some 9) _ = _
     simp only [Act.put, y1a4, y2a4, y3a4, i64_w, i32_w]
     rfl
    exact norm_ Za43 (hJ2_8_11 (v165, v177, g182) _ ⟨hHeld, Za425, Za423, Za421, Za422, Ub4141, Ub4144, Ub4182, GW182.out, GE182.out, NB141_182.out, NB182_141.out, NB144_182.out, NB182_144.out, Hb4⟩)
   skip
   refine Kd.R_lit_step (Kd.int .i64) _ 3 ?hg (N := 99) ?hd (xs := ([0] : List Int)) (inner := [.int .i64 0]) (ok := fun _ => True) (okp := fun _ => True) ?hr ?hp (fun _ hk => hk) trivial (Below.refl _ _) (Nat.le_refl _) (by simp) ?_; (case hd => rfl); (case hg => rfl); (case hr => first | (go_simp; done) | (go_simp; rfl)); (case hp => exact (Reps.one (show Kd.M (Kd.int .i64) _ _ _ 0 [.int .i64 0] from rfl) (Reps.none _ _)))
   intro v168 w81 ho82 hb hg_ hnew_
   clear hg_ hnew_
   (first | rw [← Ny167.out] at ho82 | (simp only [Int.reduceToNat] at ho82; rw [← Ny167.out] at ho82))
   have HO169 := Aa4q (Kd.R_lower (Kd.R_new' (Kd.R_new' (Kd.R_new' (Kd.R_new' ho82 (Kd.R_lt Za421)) (Kd.R_lt Za422)) (Kd.R_lt Za425)) (Kd.R_lt Za423)) (below_size Hb4))
   replace P0 := Aa4q (Kd.R_elder' Za421 (Kd.R_base ho82) hb)
   replace P1 := Aa4q (Kd.R_elder' Za422 (Kd.R_base ho82) hb)
   replace HO166 := Aa4q (Kd.R_elder' Za425 (Kd.R_base ho82) hb)
   replace HO178 := Aa4q (Kd.R_elder' Za423 (Kd.R_base ho82) hb)
   replace BK141 := bb4 BK141 Ub4141 hb
   replace BK144 := bb4 BK144 Ub4144 hb
   replace HB := tb4 Hb4 hb
   clear hb ho82
   refine hK.out _ _ Zhh (fun hHeld => ?_)
   clear hK K
   refine norm_ (a' := ?_) ?_ ?_
   rotate_left
   ·
    show Act.put _ (some 99) _ = _
    simp only [Act.put, y1a4, y2a4, y3a4, i64_w, i32_w]
    rfl
   exact norm_ Za43 (hJ2_3_8 (v165, v168, v177) _ ⟨hHeld, Yq438, Yq429, Yq439, Yq446, Yq447, Ub4141, Ub4144, Hb4⟩)
  intro hJ2_8
  refine join_ (σ := Value × Nat) 7 #[true, true, true, false, false, true, true, false, false, false, false, true, false] (fun s_ => [(98, s_.1), (9, .pointer (some ⟨s_.2, 0, none⟩))]) (fun s_ w' => (w'.cell? ⟨g144, 0, none⟩ = some (.slice Ao75 xa_4.length co75) ∧ w'.cell? ⟨g144, 1, none⟩ = some (.slice (some ⟨go61, 0, none⟩) xb_4.length co61)) ∧ (Kd.R (Kd.int .i64) 3 w' w.heap.size (fun k_ => some k_ ≠ (.slice Ao75 xa_4.length co75 : Value).ownBlock ∧ some k_ ≠ (.slice (some ⟨go61, 0, none⟩) xb_4.length co61 : Value).ownBlock) s_.1 t164) ∧ (Kd.R (Kd.int .i64) 3 w' w.heap.size (fun k_ => some k_ ≠ (s_.1 : Value).ownBlock ∧ some k_ ≠ (.slice (some ⟨go61, 0, none⟩) xb_4.length co61 : Value).ownBlock) (.slice Ao75 xa_4.length co75) xa_4) ∧ (Kd.R (Kd.int .i64) 3 w' w.heap.size (fun k_ => some k_ ≠ (s_.1 : Value).ownBlock ∧ some k_ ≠ (.slice Ao75 xa_4.length co75 : Value).ownBlock) (.slice (some ⟨go61, 0, none⟩) xb_4.length co61) y163) ∧ (w'.heap[g141]? = some (.cells #[.slice none 0 0, .slice none 0 0] 24 (0, 0))) ∧ (w'.heap[g144]? = some (.cells #[.slice Ao75 xa_4.length co75, .slice (some ⟨go61, 0, none⟩) xb_4.length co61] 24 (0, 0))) ∧ (w'.heap[s_.2]? = some (.cells #[.slice none 0 0, .slice none 0 0] 24 (0, 0))) ∧ (w.heap.size ≤ s_.2) ∧ (w.heap.size ≤ s_.2) ∧ (g141 ≠ s_.2) ∧ (s_.2 ≠ g141) ∧ (g144 ≠ s_.2) ∧ (s_.2 ≠ g144) ∧ (Below w.heap.size w w')) ?_ ?_
  rotate_left
  rotate_left
  ·
   skip
   rintro ⟨v165, g182⟩ w79 ⟨hS_, h0_, h1_, h2_, h3_, h4_, h5_, h6_, h7_, h8_, h9_, h10_, h11_, h12_⟩
   have HO166 := Aa4q h0_
   have n1_ := Aa4q h1_
   have n2_ := Aa4q h2_
   have n3_ : Aside0 (w79.heap[g141]? = some (.cells #[.slice none 0 0, .slice none 0 0] 24 (0, 0))) := ⟨h3_⟩
   have n4_ : Aside0 (w79.heap[g144]? = some (.cells #[.slice Ao75 xa_4.length co75, .slice (some ⟨go61, 0, none⟩) xb_4.length co61] 24 (0, 0))) := ⟨h4_⟩
   have BK182 : Aside0 (w79.heap[g182]? = some (.cells #[.slice none 0 0, .slice none 0 0] 24 (0, 0))) := ⟨h5_⟩
   have GW182 := Aa4q h6_
   have GE182 := Aa4q h7_
   have NB141_182 := Aa4q h8_
   have NB182_141 := Aa4q h9_
   have NB144_182 := Aa4q h10_
   have NB182_144 := Aa4q h11_
   have n12_ : Aside0 (Below w.heap.size w w79) := ⟨h12_⟩
   clear P0 P1 BK141 BK144 HB
   clear h0_ h1_ h2_ h3_ h4_ h5_ h6_ h7_ h8_ h9_ h10_ h11_ h12_
   have P0 := n1_
   have P1 := n2_
   have BK141 := n3_
   have BK144 := n4_
   have HB := n12_
   clear n1_ n2_ n3_ n4_ n12_
   have hHeld : w79.cell? ⟨g144, 0, none⟩ = some (.slice Ao75 xa_4.length co75) ∧ w79.cell? ⟨g144, 1, none⟩ = some (.slice (some ⟨go61, 0, none⟩) xb_4.length co61) := hS_
   refine norm_ (a' := ?_) ?_ ?_
   rotate_left
   ·
    simp only [putAll, Act.put, y1a4, y2a4, y3a4]
    rfl
   refine two_ (i := 3) (j := 8) (Ni := some 99) (Nj := some 104) #[true, true, true, true, false, true, true, false, false, false, false, true, false] #[true, true, true, false, false, true, true, false, true, false, false, true, false] rfl rfl rfl rfl (two_of HT_.out Za430) Za431 Za431 (fun K hK => ?_) (fun K hK => ?_)
   ·
    skip
    refine Kd.R_lit_step (Kd.int .i64) _ 3 ?hg (N := 99) ?hd (xs := ([0] : List Int)) (inner := [.int .i64 0]) (ok := fun _ => True) (okp := fun _ => True) ?hr ?hp (fun _ hk => hk) trivial (Below.refl _ _) (Nat.le_refl _) (by simp) ?_; (case hd => rfl); (case hg => rfl); (case hr => first | (go_simp; done) | (go_simp; rfl)); (case hp => exact (Reps.one (show Kd.M (Kd.int .i64) _ _ _ 0 [.int .i64 0] from rfl) (Reps.none _ _)))
    intro v168 w80 ho81 hb hg_ hnew_
    clear hg_ hnew_
    (first | rw [← Ny167.out] at ho81 | (simp only [Int.reduceToNat] at ho81; rw [← Ny167.out] at ho81))
    have HO169 := Aa4q (Kd.R_lower (Kd.R_new' (Kd.R_new' (Kd.R_new' ho81 (Kd.R_lt Za421)) (Kd.R_lt Za422)) (Kd.R_lt Za425)) (below_size Hb4))
    replace P0 := Aa4q (Kd.R_elder' Za421 (Kd.R_base ho81) hb)
    replace P1 := Aa4q (Kd.R_elder' Za422 (Kd.R_base ho81) hb)
    replace HO166 := Aa4q (Kd.R_elder' Za425 (Kd.R_base ho81) hb)
    replace BK141 := bb4 BK141 Ub4141 hb
    replace BK144 := bb4 BK144 Ub4144 hb
    replace BK182 := bb4 BK182 Ub4182 hb
    replace HB := tb4 Hb4 hb
    clear hb ho81
    refine hK.out _ _ Zhh (fun hHeld => ?_)
    clear hK K
    refine norm_ (a' := ?_) ?_ ?_
    rotate_left
    ·
     show Act.put _ (some 99) _ = _
     simp only [Act.put, y1a4, y2a4, y3a4, i64_w, i32_w]
     rfl
    exact norm_ Za43 (hJ2_3_11 (v165, v168, g182) _ ⟨hHeld, Za418, Za414, Za411, Za412, Ub4141, Ub4144, Ub4182, GW182.out, GE182.out, NB141_182.out, NB182_141.out, NB144_182.out, NB182_144.out, Hb4⟩)
   skip
   refine Kd.R_lit_step (Kd.int .i64) _ 3 ?hg (N := 104) ?hd (xs := ([1] : List Int)) (inner := [.int .i64 1]) (ok := fun _ => True) (okp := fun _ => True) ?hr ?hp (fun _ hk => hk) trivial (Below.refl _ _) (Nat.le_refl _) (by simp) ?_; (case hd => rfl); (case hg => rfl); (case hr => first | (go_simp; done) | (go_simp; rfl)); (case hp => exact (Reps.one (show Kd.M (Kd.int .i64) _ _ _ 1 [.int .i64 1] from rfl) (Reps.none _ _)))
   intro v177 w80 ho81 hb hg_ hnew_
   clear hg_ hnew_
   (first | rw [← Ny176.out] at ho81 | (simp only [Int.reduceToNat] at ho81; rw [← Ny176.out] at ho81))
   have HO178 := Aa4q (Kd.R_lower (Kd.R_new' (Kd.R_new' (Kd.R_new' ho81 (Kd.R_lt Za421)) (Kd.R_lt Za422)) (Kd.R_lt Za425)) (below_size Hb4))
   replace P0 := Aa4q (Kd.R_elder' Za421 (Kd.R_base ho81) hb)
   replace P1 := Aa4q (Kd.R_elder' Za422 (Kd.R_base ho81) hb)
   replace HO166 := Aa4q (Kd.R_elder' Za425 (Kd.R_base ho81) hb)
   replace BK141 := bb4 BK141 Ub4141 hb
   replace BK144 := bb4 BK144 Ub4144 hb
   replace BK182 := bb4 BK182 Ub4182 hb
   replace HB := tb4 Hb4 hb
   clear hb ho81
   refine hK.out _ _ Zhh (fun hHeld => ?_)
   clear hK K
   refine norm_ (a' := ?_) ?_ ?_
   rotate_left
   ·
    show Act.put _ (some 104) _ = _
    simp only [Act.put, y1a4, y2a4, y3a4, i64_w, i32_w]
    rfl
   exact norm_ Za43 (hJ2_8_11 (v165, v177, g182) _ ⟨hHeld, Za418, Za415, Za411, Za412, Ub4141, Ub4144, Ub4182, GW182.out, GE182.out, NB141_182.out, NB182_141.out, NB144_182.out, NB182_144.out, Hb4⟩)
  intro hJ2_11
  refine join_ (σ := Value × Value) 7 #[true, true, false, true, false, true, true, false, true, false, false, false, false] (fun s_ => [(99, s_.1), (104, s_.2)]) (fun s_ w' => (w'.cell? ⟨g144, 0, none⟩ = some (.slice Ao75 xa_4.length co75) ∧ w'.cell? ⟨g144, 1, none⟩ = some (.slice (some ⟨go61, 0, none⟩) xb_4.length co61)) ∧ (Kd.R (Kd.int .i64) 3 w' w.heap.size (fun k_ => some k_ ≠ (s_.2 : Value).ownBlock ∧ some k_ ≠ (.slice Ao75 xa_4.length co75 : Value).ownBlock ∧ some k_ ≠ (.slice (some ⟨go61, 0, none⟩) xb_4.length co61 : Value).ownBlock) s_.1 y167) ∧ (Kd.R (Kd.int .i64) 3 w' w.heap.size (fun k_ => some k_ ≠ (s_.1 : Value).ownBlock ∧ some k_ ≠ (.slice Ao75 xa_4.length co75 : Value).ownBlock ∧ some k_ ≠ (.slice (some ⟨go61, 0, none⟩) xb_4.length co61 : Value).ownBlock) s_.2 y176) ∧ (Kd.R (Kd.int .i64) 3 w' w.heap.size (fun k_ => some k_ ≠ (s_.1 : Value).ownBlock ∧ some k_ ≠ (s_.2 : Value).ownBlock ∧ some k_ ≠ (.slice (some ⟨go61, 0, none⟩) xb_4.length co61 : Value).ownBlock) (.slice Ao75 xa_4.length co75) xa_4) ∧ (Kd.R (Kd.int .i64) 3 w' w.heap.size (fun k_ => some k_ ≠ (s_.1 : Value).ownBlock ∧ some k_ ≠ (s_.2 : Value).ownBlock ∧ some k_ ≠ (.slice Ao75 xa_4.length co75 : Value).ownBlock) (.slice (some ⟨go61, 0, none⟩) xb_4.length co61) y163) ∧ (w'.heap[g141]? = some (.cells #[.slice none 0 0, .slice none 0 0] 24 (0, 0))) ∧ (w'.heap[g144]? = some (.cells #[.slice Ao75 xa_4.length co75, .slice (some ⟨go61, 0, none⟩) xb_4.length co61] 24 (0, 0))) ∧ (Below w.heap.size w w')) ?_ ?_
  rotate_left
  rotate_left
  ·
   skip
   rintro ⟨v168, v177⟩ w81 ⟨hS_, h0_, h1_, h2_, h3_, h4_, h5_, h6_⟩
   have HO169 := Aa4q h0_
   have HO178 := Aa4q h1_
   have n2_ := Aa4q h2_
   have n3_ := Aa4q h3_
   have n4_ : Aside0 (w81.heap[g141]? = some (.cells #[.slice none 0 0, .slice none 0 0] 24 (0, 0))) := ⟨h4_⟩
   have n5_ : Aside0 (w81.heap[g144]? = some (.cells #[.slice Ao75 xa_4.length co75, .slice (some ⟨go61, 0, none⟩) xb_4.length co61] 24 (0, 0))) := ⟨h5_⟩
   have n6_ : Aside0 (Below w.heap.size w w81) := ⟨h6_⟩
   clear P0 P1 BK141 BK144 HB
   clear h0_ h1_ h2_ h3_ h4_ h5_ h6_
   have P0 := n2_
   have P1 := n3_
   have BK141 := n4_
   have BK144 := n5_
   have HB := n6_
   clear n2_ n3_ n4_ n5_ n6_
   have hHeld : w81.cell? ⟨g144, 0, none⟩ = some (.slice Ao75 xa_4.length co75) ∧ w81.cell? ⟨g144, 1, none⟩ = some (.slice (some ⟨go61, 0, none⟩) xb_4.length co61) := hS_
   refine norm_ (a' := ?_) ?_ ?_
   rotate_left
   ·
    simp only [putAll, Act.put, y1a4, y2a4, y3a4]
    rfl
   refine two_ (i := 2) (j := 11) (Ni := some 98) (Nj := some 9) #[true, true, true, true, false, true, true, false, true, false, false, false, false] #[true, true, false, true, false, true, true, false, true, false, false, true, false] rfl rfl rfl rfl (two_of HT_.out Za430) Za431 Za431 (fun K hK => ?_) (fun K hK => ?_)
   rotate_left
   ·
    skip
    refine box_step ?hg (N := 9) ?hd (cs := #[.slice none 0 0, .slice none 0 0]) (t := 24) ?hr ?_; (case hd => rfl); (case hg => rfl); (case hr => first | (go_simp; done) | (go_simp; rfl))
    intro g182 hg w82 hbox hb
    have BK182 := Aa4q (hbox)
    have GW182 := sb4 Hb4 hg
    have GE182 := sb4 Hb4 hg
    have NB141_182 := nb4 BK141 Ub4141 hg
    have NB182_141 := mb4 BK141 Ub4141 hg
    have NB144_182 := nb4 BK144 Ub4144 hg
    have NB182_144 := mb4 BK144 Ub4144 hg
    replace P0 := Aa4q (Kd.R_below Za421 hb)
    replace P1 := Aa4q (Kd.R_below Za422 hb)
    replace HO169 := Aa4q (Kd.R_below Za424 hb)
    replace HO178 := Aa4q (Kd.R_below Za423 hb)
    replace BK141 := bb4 BK141 Ub4141 hb
    replace BK144 := bb4 BK144 Ub4144 hb
    replace HB := tb4 Hb4 hb
    clear hb hbox hg
    refine hK.out _ _ Zhh (fun hHeld => ?_)
    clear hK K
    refine norm_ (a' := ?_) ?_ ?_
    rotate_left
    ·
     show Act.put _ (some 9) _ = _
     simp only [Act.put, y1a4, y2a4, y3a4, i64_w, i32_w]
     rfl
    exact norm_ Za43 (hJ3_8_11 (v168, v177, g182) _ ⟨hHeld, Za424, Za423, Za421, Za422, Ub4141, Ub4144, Ub4182, GW182.out, GE182.out, NB141_182.out, NB182_141.out, NB144_182.out, NB182_144.out, Hb4⟩)
   skip
   refine goes_ Try.func14 Za430 rfl #[.slice Ao75 xa_4.length co75] (by rfl) rfl rfl Za420 ?_
   with_reducible refine (spec_l1Own.calls _ _ xa_4 t164 _ ?side1 ?side2 A62.out).mono ?_
   (case side1 => repeat (first | exact (Kd.R_reads' P0.out).2.2 | (with_reducible refine Kd.C_alloc ?_ _) | (with_reducible refine Kd.C_drewN ?_ _) | (with_reducible refine Kd.C_drew ?_)))
   (case side2 => exact (Kd.R_reads' P0.out).2.1)
   rintro e w82 ⟨v165, rfl, ho0, hb⟩
   refine ⟨_, rfl, ?_⟩
   have HO166 := Aa4q (Kd.R_lower (Kd.R_new' (Kd.R_new' (Kd.R_new' (Kd.R_new' ho0 (Kd.R_lt Za421)) (Kd.R_lt Za422)) (Kd.R_lt Za424)) (Kd.R_lt Za423)) (below_size Hb4))
   replace P0 := Aa4q (Kd.R_elder' Za421 (Kd.R_base ho0) hb)
   replace P1 := Aa4q (Kd.R_elder' Za422 (Kd.R_base ho0) hb)
   replace HO169 := Aa4q (Kd.R_elder' Za424 (Kd.R_base ho0) hb)
   replace HO178 := Aa4q (Kd.R_elder' Za423 (Kd.R_base ho0) hb)
   replace BK141 := bb4 BK141 Ub4141 hb
   replace BK144 := bb4 BK144 Ub4144 hb
   replace HB := tb4 Hb4 hb
   (try clear hb)
   (try clear hb2)
   (try clear hk)
   (try clear hi)
   (try clear ho0)
   refine hK.out _ _ Zhh (fun hHeld => ?_)
   clear hK K
   refine norm_ (a' := ?_) ?_ ?_
   rotate_left
   ·
    show Act.put _ (some 98) _ = _
    simp only [Act.put, y1a4, y2a4, y3a4, i64_w, i32_w]
    rfl
   exact norm_ Za43 (hJ2_3_8 (v165, v168, v177) _ ⟨hHeld, Yq430, Yq440, Yq441, Yq448, Yq449, Ub4141, Ub4144, Hb4⟩)
  intro hJ3_8
  refine join_ (σ := Value × Nat) 7 #[true, true, false, true, false, true, true, false, false, false, false, true, false] (fun s_ => [(99, s_.1), (9, .pointer (some ⟨s_.2, 0, none⟩))]) (fun s_ w' => (w'.cell? ⟨g144, 0, none⟩ = some (.slice Ao75 xa_4.length co75) ∧ w'.cell? ⟨g144, 1, none⟩ = some (.slice (some ⟨go61, 0, none⟩) xb_4.length co61)) ∧ (Kd.R (Kd.int .i64) 3 w' w.heap.size (fun k_ => some k_ ≠ (.slice Ao75 xa_4.length co75 : Value).ownBlock ∧ some k_ ≠ (.slice (some ⟨go61, 0, none⟩) xb_4.length co61 : Value).ownBlock) s_.1 y167) ∧ (Kd.R (Kd.int .i64) 3 w' w.heap.size (fun k_ => some k_ ≠ (s_.1 : Value).ownBlock ∧ some k_ ≠ (.slice (some ⟨go61, 0, none⟩) xb_4.length co61 : Value).ownBlock) (.slice Ao75 xa_4.length co75) xa_4) ∧ (Kd.R (Kd.int .i64) 3 w' w.heap.size (fun k_ => some k_ ≠ (s_.1 : Value).ownBlock ∧ some k_ ≠ (.slice Ao75 xa_4.length co75 : Value).ownBlock) (.slice (some ⟨go61, 0, none⟩) xb_4.length co61) y163) ∧ (w'.heap[g141]? = some (.cells #[.slice none 0 0, .slice none 0 0] 24 (0, 0))) ∧ (w'.heap[g144]? = some (.cells #[.slice Ao75 xa_4.length co75, .slice (some ⟨go61, 0, none⟩) xb_4.length co61] 24 (0, 0))) ∧ (w'.heap[s_.2]? = some (.cells #[.slice none 0 0, .slice none 0 0] 24 (0, 0))) ∧ (w.heap.size ≤ s_.2) ∧ (w.heap.size ≤ s_.2) ∧ (g141 ≠ s_.2) ∧ (s_.2 ≠ g141) ∧ (g144 ≠ s_.2) ∧ (s_.2 ≠ g144) ∧ (Below w.heap.size w w')) ?_ ?_
  rotate_left
  rotate_left
  ·
   skip
   rintro ⟨v168, g182⟩ w80 ⟨hS_, h0_, h1_, h2_, h3_, h4_, h5_, h6_, h7_, h8_, h9_, h10_, h11_, h12_⟩
   have HO169 := Aa4q h0_
   have n1_ := Aa4q h1_
   have n2_ := Aa4q h2_
   have n3_ : Aside0 (w80.heap[g141]? = some (.cells #[.slice none 0 0, .slice none 0 0] 24 (0, 0))) := ⟨h3_⟩
   have n4_ : Aside0 (w80.heap[g144]? = some (.cells #[.slice Ao75 xa_4.length co75, .slice (some ⟨go61, 0, none⟩) xb_4.length co61] 24 (0, 0))) := ⟨h4_⟩
   have BK182 : Aside0 (w80.heap[g182]? = some (.cells #[.slice none 0 0, .slice none 0 0] 24 (0, 0))) := ⟨h5_⟩
   have GW182 := Aa4q h6_
   have GE182 := Aa4q h7_
   have NB141_182 := Aa4q h8_
   have NB182_141 := Aa4q h9_
   have NB144_182 := Aa4q h10_
   have NB182_144 := Aa4q h11_
   have n12_ : Aside0 (Below w.heap.size w w80) := ⟨h12_⟩
   clear P0 P1 BK141 BK144 HB
   clear h0_ h1_ h2_ h3_ h4_ h5_ h6_ h7_ h8_ h9_ h10_ h11_ h12_
   have P0 := n1_
   have P1 := n2_
   have BK141 := n3_
   have BK144 := n4_
   have HB := n12_
   clear n1_ n2_ n3_ n4_ n12_
   have hHeld : w80.cell? ⟨g144, 0, none⟩ = some (.slice Ao75 xa_4.length co75) ∧ w80.cell? ⟨g144, 1, none⟩ = some (.slice (some ⟨go61, 0, none⟩) xb_4.length co61) := hS_
   refine norm_ (a' := ?_) ?_ ?_
   rotate_left
   ·
    simp only [putAll, Act.put, y1a4, y2a4, y3a4]
    rfl
   refine two_ (i := 2) (j := 8) (Ni := some 98) (Nj := some 104) #[true, true, true, true, false, true, true, false, false, false, false, true, false] #[true, true, false, true, false, true, true, false, true, false, false, true, false] rfl rfl rfl rfl (two_of HT_.out Za430) Za431 Za431 (fun K hK => ?_) (fun K hK => ?_)
   rotate_left
   ·
    skip
    refine Kd.R_lit_step (Kd.int .i64) _ 3 ?hg (N := 104) ?hd (xs := ([1] : List Int)) (inner := [.int .i64 1]) (ok := fun _ => True) (okp := fun _ => True) ?hr ?hp (fun _ hk => hk) trivial (Below.refl _ _) (Nat.le_refl _) (by simp) ?_; (case hd => rfl); (case hg => rfl); (case hr => first | (go_simp; done) | (go_simp; rfl)); (case hp => exact (Reps.one (show Kd.M (Kd.int .i64) _ _ _ 1 [.int .i64 1] from rfl) (Reps.none _ _)))
    intro v177 w81 ho82 hb hg_ hnew_
    clear hg_ hnew_
    (first | rw [← Ny176.out] at ho82 | (simp only [Int.reduceToNat] at ho82; rw [← Ny176.out] at ho82))
    have HO178 := Aa4q (Kd.R_lower (Kd.R_new' (Kd.R_new' (Kd.R_new' ho82 (Kd.R_lt Za421)) (Kd.R_lt Za422)) (Kd.R_lt Za424)) (below_size Hb4))
    replace P0 := Aa4q (Kd.R_elder' Za421 (Kd.R_base ho82) hb)
    replace P1 := Aa4q (Kd.R_elder' Za422 (Kd.R_base ho82) hb)
    replace HO169 := Aa4q (Kd.R_elder' Za424 (Kd.R_base ho82) hb)
    replace BK141 := bb4 BK141 Ub4141 hb
    replace BK144 := bb4 BK144 Ub4144 hb
    replace BK182 := bb4 BK182 Ub4182 hb
    replace HB := tb4 Hb4 hb
    clear hb ho82
    refine hK.out _ _ Zhh (fun hHeld => ?_)
    clear hK K
    refine norm_ (a' := ?_) ?_ ?_
    rotate_left
    ·
     show Act.put _ (some 104) _ = _
     simp only [Act.put, y1a4, y2a4, y3a4, i64_w, i32_w]
     rfl
    exact norm_ Za43 (hJ3_8_11 (v168, v177, g182) _ ⟨hHeld, Za417, Za415, Za411, Za412, Ub4141, Ub4144, Ub4182, GW182.out, GE182.out, NB141_182.out, NB182_141.out, NB144_182.out, NB182_144.out, Hb4⟩)
   skip
   refine goes_ Try.func14 Za430 rfl #[.slice Ao75 xa_4.length co75] (by rfl) rfl rfl Za420 ?_
   with_reducible refine (spec_l1Own.calls _ _ xa_4 t164 _ ?side1 ?side2 A62.out).mono ?_
   (case side1 => repeat (first | exact (Kd.R_reads' P0.out).2.2 | (with_reducible refine Kd.C_alloc ?_ _) | (with_reducible refine Kd.C_drewN ?_ _) | (with_reducible refine Kd.C_drew ?_)))
   (case side2 => exact (Kd.R_reads' P0.out).2.1)
   rintro e w81 ⟨v165, rfl, ho0, hb⟩
   refine ⟨_, rfl, ?_⟩
   have HO166 := Aa4q (Kd.R_lower (Kd.R_new' (Kd.R_new' (Kd.R_new' ho0 (Kd.R_lt Za421)) (Kd.R_lt Za422)) (Kd.R_lt Za424)) (below_size Hb4))
   replace P0 := Aa4q (Kd.R_elder' Za421 (Kd.R_base ho0) hb)
   replace P1 := Aa4q (Kd.R_elder' Za422 (Kd.R_base ho0) hb)
   replace HO169 := Aa4q (Kd.R_elder' Za424 (Kd.R_base ho0) hb)
   replace BK141 := bb4 BK141 Ub4141 hb
   replace BK144 := bb4 BK144 Ub4144 hb
   replace BK182 := bb4 BK182 Ub4182 hb
   replace HB := tb4 Hb4 hb
   (try clear hb)
   (try clear hb2)
   (try clear hk)
   (try clear hi)
   (try clear ho0)
   refine hK.out _ _ Zhh (fun hHeld => ?_)
   clear hK K
   refine norm_ (a' := ?_) ?_ ?_
   rotate_left
   ·
    show Act.put _ (some 98) _ = _
    simp only [Act.put, y1a4, y2a4, y3a4, i64_w, i32_w]
    rfl
   exact norm_ Za43 (hJ2_3_11 (v165, v168, g182) _ ⟨hHeld, Za413, Za417, Za49, Za410, Ub4141, Ub4144, Ub4182, GW182.out, GE182.out, NB141_182.out, NB182_141.out, NB144_182.out, NB182_144.out, Hb4⟩)
  intro hJ3_11
  refine join_ (σ := Value × Nat) 7 #[true, true, false, false, false, true, true, false, true, false, false, true, false] (fun s_ => [(104, s_.1), (9, .pointer (some ⟨s_.2, 0, none⟩))]) (fun s_ w' => (w'.cell? ⟨g144, 0, none⟩ = some (.slice Ao75 xa_4.length co75) ∧ w'.cell? ⟨g144, 1, none⟩ = some (.slice (some ⟨go61, 0, none⟩) xb_4.length co61)) ∧ (Kd.R (Kd.int .i64) 3 w' w.heap.size (fun k_ => some k_ ≠ (.slice Ao75 xa_4.length co75 : Value).ownBlock ∧ some k_ ≠ (.slice (some ⟨go61, 0, none⟩) xb_4.length co61 : Value).ownBlock) s_.1 y176) ∧ (Kd.R (Kd.int .i64) 3 w' w.heap.size (fun k_ => some k_ ≠ (s_.1 : Value).ownBlock ∧ some k_ ≠ (.slice (some ⟨go61, 0, none⟩) xb_4.length co61 : Value).ownBlock) (.slice Ao75 xa_4.length co75) xa_4) ∧ (Kd.R (Kd.int .i64) 3 w' w.heap.size (fun k_ => some k_ ≠ (s_.1 : Value).ownBlock ∧ some k_ ≠ (.slice Ao75 xa_4.length co75 : Value).ownBlock) (.slice (some ⟨go61, 0, none⟩) xb_4.length co61) y163) ∧ (w'.heap[g141]? = some (.cells #[.slice none 0 0, .slice none 0 0] 24 (0, 0))) ∧ (w'.heap[g144]? = some (.cells #[.slice Ao75 xa_4.length co75, .slice (some ⟨go61, 0, none⟩) xb_4.length co61] 24 (0, 0))) ∧ (w'.heap[s_.2]? = some (.cells #[.slice none 0 0, .slice none 0 0] 24 (0, 0))) ∧ (w.heap.size ≤ s_.2) ∧ (w.heap.size ≤ s_.2) ∧ (g141 ≠ s_.2) ∧ (s_.2 ≠ g141) ∧ (g144 ≠ s_.2) ∧ (s_.2 ≠ g144) ∧ (Below w.heap.size w w')) ?_ ?_
  rotate_left
  rotate_left
  ·
   skip
   rintro ⟨v177, g182⟩ w80 ⟨hS_, h0_, h1_, h2_, h3_, h4_, h5_, h6_, h7_, h8_, h9_, h10_, h11_, h12_⟩
   have HO178 := Aa4q h0_
   have n1_ := Aa4q h1_
   have n2_ := Aa4q h2_
   have n3_ : Aside0 (w80.heap[g141]? = some (.cells #[.slice none 0 0, .slice none 0 0] 24 (0, 0))) := ⟨h3_⟩
   have n4_ : Aside0 (w80.heap[g144]? = some (.cells #[.slice Ao75 xa_4.length co75, .slice (some ⟨go61, 0, none⟩) xb_4.length co61] 24 (0, 0))) := ⟨h4_⟩
   have BK182 : Aside0 (w80.heap[g182]? = some (.cells #[.slice none 0 0, .slice none 0 0] 24 (0, 0))) := ⟨h5_⟩
   have GW182 := Aa4q h6_
   have GE182 := Aa4q h7_
   have NB141_182 := Aa4q h8_
   have NB182_141 := Aa4q h9_
   have NB144_182 := Aa4q h10_
   have NB182_144 := Aa4q h11_
   have n12_ : Aside0 (Below w.heap.size w w80) := ⟨h12_⟩
   clear P0 P1 BK141 BK144 HB
   clear h0_ h1_ h2_ h3_ h4_ h5_ h6_ h7_ h8_ h9_ h10_ h11_ h12_
   have P0 := n1_
   have P1 := n2_
   have BK141 := n3_
   have BK144 := n4_
   have HB := n12_
   clear n1_ n2_ n3_ n4_ n12_
   have hHeld : w80.cell? ⟨g144, 0, none⟩ = some (.slice Ao75 xa_4.length co75) ∧ w80.cell? ⟨g144, 1, none⟩ = some (.slice (some ⟨go61, 0, none⟩) xb_4.length co61) := hS_
   refine norm_ (a' := ?_) ?_ ?_
   rotate_left
   ·
    simp only [putAll, Act.put, y1a4, y2a4, y3a4]
    rfl
   refine two_ (i := 2) (j := 3) (Ni := some 98) (Nj := some 99) #[true, true, true, false, false, true, true, false, true, false, false, true, false] #[true, true, false, true, false, true, true, false, true, false, false, true, false] rfl rfl rfl rfl (two_of HT_.out Za430) Za431 Za431 (fun K hK => ?_) (fun K hK => ?_)
   rotate_left
   ·
    skip
    refine Kd.R_lit_step (Kd.int .i64) _ 3 ?hg (N := 99) ?hd (xs := ([0] : List Int)) (inner := [.int .i64 0]) (ok := fun _ => True) (okp := fun _ => True) ?hr ?hp (fun _ hk => hk) trivial (Below.refl _ _) (Nat.le_refl _) (by simp) ?_; (case hd => rfl); (case hg => rfl); (case hr => first | (go_simp; done) | (go_simp; rfl)); (case hp => exact (Reps.one (show Kd.M (Kd.int .i64) _ _ _ 0 [.int .i64 0] from rfl) (Reps.none _ _)))
    intro v168 w81 ho82 hb hg_ hnew_
    clear hg_ hnew_
    (first | rw [← Ny167.out] at ho82 | (simp only [Int.reduceToNat] at ho82; rw [← Ny167.out] at ho82))
    have HO169 := Aa4q (Kd.R_lower (Kd.R_new' (Kd.R_new' (Kd.R_new' ho82 (Kd.R_lt Za421)) (Kd.R_lt Za422)) (Kd.R_lt Za423)) (below_size Hb4))
    replace P0 := Aa4q (Kd.R_elder' Za421 (Kd.R_base ho82) hb)
    replace P1 := Aa4q (Kd.R_elder' Za422 (Kd.R_base ho82) hb)
    replace HO178 := Aa4q (Kd.R_elder' Za423 (Kd.R_base ho82) hb)
    replace BK141 := bb4 BK141 Ub4141 hb
    replace BK144 := bb4 BK144 Ub4144 hb
    replace BK182 := bb4 BK182 Ub4182 hb
    replace HB := tb4 Hb4 hb
    clear hb ho82
    refine hK.out _ _ Zhh (fun hHeld => ?_)
    clear hK K
    refine norm_ (a' := ?_) ?_ ?_
    rotate_left
    ·
     show Act.put _ (some 99) _ = _
     simp only [Act.put, y1a4, y2a4, y3a4, i64_w, i32_w]
     rfl
    exact norm_ Za43 (hJ3_8_11 (v168, v177, g182) _ ⟨hHeld, Za414, Za416, Za49, Za410, Ub4141, Ub4144, Ub4182, GW182.out, GE182.out, NB141_182.out, NB182_141.out, NB144_182.out, NB182_144.out, Hb4⟩)
   skip
   refine goes_ Try.func14 Za430 rfl #[.slice Ao75 xa_4.length co75] (by rfl) rfl rfl Za420 ?_
   with_reducible refine (spec_l1Own.calls _ _ xa_4 t164 _ ?side1 ?side2 A62.out).mono ?_
   (case side1 => repeat (first | exact (Kd.R_reads' P0.out).2.2 | (with_reducible refine Kd.C_alloc ?_ _) | (with_reducible refine Kd.C_drewN ?_ _) | (with_reducible refine Kd.C_drew ?_)))
   (case side2 => exact (Kd.R_reads' P0.out).2.1)
   rintro e w81 ⟨v165, rfl, ho0, hb⟩
   refine ⟨_, rfl, ?_⟩
   have HO166 := Aa4q (Kd.R_lower (Kd.R_new' (Kd.R_new' (Kd.R_new' ho0 (Kd.R_lt Za421)) (Kd.R_lt Za422)) (Kd.R_lt Za423)) (below_size Hb4))
   replace P0 := Aa4q (Kd.R_elder' Za421 (Kd.R_base ho0) hb)
   replace P1 := Aa4q (Kd.R_elder' Za422 (Kd.R_base ho0) hb)
   replace HO178 := Aa4q (Kd.R_elder' Za423 (Kd.R_base ho0) hb)
   replace BK141 := bb4 BK141 Ub4141 hb
   replace BK144 := bb4 BK144 Ub4144 hb
   replace BK182 := bb4 BK182 Ub4182 hb
   replace HB := tb4 Hb4 hb
   (try clear hb)
   (try clear hb2)
   (try clear hk)
   (try clear hi)
   (try clear ho0)
   refine hK.out _ _ Zhh (fun hHeld => ?_)
   clear hK K
   refine norm_ (a' := ?_) ?_ ?_
   rotate_left
   ·
    show Act.put _ (some 98) _ = _
    simp only [Act.put, y1a4, y2a4, y3a4, i64_w, i32_w]
    rfl
   exact norm_ Za43 (hJ2_8_11 (v165, v177, g182) _ ⟨hHeld, Za413, Za416, Za49, Za410, Ub4141, Ub4144, Ub4182, GW182.out, GE182.out, NB141_182.out, NB182_141.out, NB144_182.out, NB182_144.out, Hb4⟩)
  intro hJ8_11
  refine join_ (σ := Value) 8 #[true, true, true, false, false, true, true, false, false, false, false, false, false] (fun s_ => [(98, s_)]) (fun s_ w' => (w'.cell? ⟨g144, 0, none⟩ = some (.slice Ao75 xa_4.length co75) ∧ w'.cell? ⟨g144, 1, none⟩ = some (.slice (some ⟨go61, 0, none⟩) xb_4.length co61)) ∧ (Kd.R (Kd.int .i64) 3 w' w.heap.size (fun k_ => some k_ ≠ (.slice Ao75 xa_4.length co75 : Value).ownBlock ∧ some k_ ≠ (.slice (some ⟨go61, 0, none⟩) xb_4.length co61 : Value).ownBlock) s_ t164) ∧ (Kd.R (Kd.int .i64) 3 w' w.heap.size (fun k_ => some k_ ≠ (s_ : Value).ownBlock ∧ some k_ ≠ (.slice (some ⟨go61, 0, none⟩) xb_4.length co61 : Value).ownBlock) (.slice Ao75 xa_4.length co75) xa_4) ∧ (Kd.R (Kd.int .i64) 3 w' w.heap.size (fun k_ => some k_ ≠ (s_ : Value).ownBlock ∧ some k_ ≠ (.slice Ao75 xa_4.length co75 : Value).ownBlock) (.slice (some ⟨go61, 0, none⟩) xb_4.length co61) y163) ∧ (w'.heap[g141]? = some (.cells #[.slice none 0 0, .slice none 0 0] 24 (0, 0))) ∧ (w'.heap[g144]? = some (.cells #[.slice Ao75 xa_4.length co75, .slice (some ⟨go61, 0, none⟩) xb_4.length co61] 24 (0, 0))) ∧ (Below w.heap.size w w')) ?_ ?_
  rotate_left
  rotate_left
  ·
   skip
   rintro v165 w78 ⟨hS_, h0_, h1_, h2_, h3_, h4_, h5_⟩
   have HO166 := Aa4q h0_
   have n1_ := Aa4q h1_
   have n2_ := Aa4q h2_
   have n3_ : Aside0 (w78.heap[g141]? = some (.cells #[.slice none 0 0, .slice none 0 0] 24 (0, 0))) := ⟨h3_⟩
   have n4_ : Aside0 (w78.heap[g144]? = some (.cells #[.slice Ao75 xa_4.length co75, .slice (some ⟨go61, 0, none⟩) xb_4.length co61] 24 (0, 0))) := ⟨h4_⟩
   have n5_ : Aside0 (Below w.heap.size w w78) := ⟨h5_⟩
   clear P0 P1 BK141 BK144 HB
   clear h0_ h1_ h2_ h3_ h4_ h5_
   have P0 := n1_
   have P1 := n2_
   have BK141 := n3_
   have BK144 := n4_
   have HB := n5_
   clear n1_ n2_ n3_ n4_ n5_
   have hHeld : w78.cell? ⟨g144, 0, none⟩ = some (.slice Ao75 xa_4.length co75) ∧ w78.cell? ⟨g144, 1, none⟩ = some (.slice (some ⟨go61, 0, none⟩) xb_4.length co61) := hS_
   refine norm_ (a' := ?_) ?_ ?_
   rotate_left
   ·
    simp only [putAll, Act.put, y1a4, y2a4, y3a4]
    rfl
   refine three_ (i := 3) (j := 8) (k := 11) (Ni := some 99) (Nj := some 104) (Nk := some 9) #[true, true, true, true, false, true, true, false, false, false, false, false, false] #[true, true, true, false, false, true, true, false, true, false, false, false, false] #[true, true, true, false, false, true, true, false, false, false, false, true, false] rfl rfl rfl rfl rfl rfl (three_of HT_.out Za430) Za431 Za431 Za431 (fun K hK => ?_) (fun K hK => ?_) (fun K hK => ?_)
   ·
    skip
    refine Kd.R_lit_step (Kd.int .i64) _ 3 ?hg (N := 99) ?hd (xs := ([0] : List Int)) (inner := [.int .i64 0]) (ok := fun _ => True) (okp := fun _ => True) ?hr ?hp (fun _ hk => hk) trivial (Below.refl _ _) (Nat.le_refl _) (by simp) ?_; (case hd => rfl); (case hg => rfl); (case hr => first | (go_simp; done) | (go_simp; rfl)); (case hp => exact (Reps.one (show Kd.M (Kd.int .i64) _ _ _ 0 [.int .i64 0] from rfl) (Reps.none _ _)))
    intro v168 w79 ho80 hb hg_ hnew_
    clear hg_ hnew_
    (first | rw [← Ny167.out] at ho80 | (simp only [Int.reduceToNat] at ho80; rw [← Ny167.out] at ho80))
    have HO169 := Aa4q (Kd.R_lower (Kd.R_new' (Kd.R_new' (Kd.R_new' ho80 (Kd.R_lt Za421)) (Kd.R_lt Za422)) (Kd.R_lt Za425)) (below_size Hb4))
    replace P0 := Aa4q (Kd.R_elder' Za421 (Kd.R_base ho80) hb)
    replace P1 := Aa4q (Kd.R_elder' Za422 (Kd.R_base ho80) hb)
    replace HO166 := Aa4q (Kd.R_elder' Za425 (Kd.R_base ho80) hb)
    replace BK141 := bb4 BK141 Ub4141 hb
    replace BK144 := bb4 BK144 Ub4144 hb
    replace HB := tb4 Hb4 hb
    clear hb ho80
    refine hK.out _ _ Zhh (fun hHeld => ?_)
    clear hK K
    refine norm_ (a' := ?_) ?_ ?_
    rotate_left
    ·
     show Act.put _ (some 99) _ = _
     simp only [Act.put, y1a4, y2a4, y3a4, i64_w, i32_w]
     rfl
    exact norm_ Za43 (hJ2_3 (v165, v168) _ ⟨hHeld, Za418, Za414, Za411, Za412, Ub4141, Ub4144, Hb4⟩)
   rotate_left
   ·
    skip
    refine box_step ?hg (N := 9) ?hd (cs := #[.slice none 0 0, .slice none 0 0]) (t := 24) ?hr ?_; (case hd => rfl); (case hg => rfl); (case hr => first | (go_simp; done) | (go_simp; rfl))
    intro g182 hg w79 hbox hb
    have BK182 := Aa4q (hbox)
    have GW182 := sb4 Hb4 hg
    have GE182 := sb4 Hb4 hg
    have NB141_182 := nb4 BK141 Ub4141 hg
    have NB182_141 := mb4 BK141 Ub4141 hg
    have NB144_182 := nb4 BK144 Ub4144 hg
    have NB182_144 := mb4 BK144 Ub4144 hg
    replace P0 := Aa4q (Kd.R_below Za421 hb)
    replace P1 := Aa4q (Kd.R_below Za422 hb)
    replace HO166 := Aa4q (Kd.R_below Za425 hb)
    replace BK141 := bb4 BK141 Ub4141 hb
    replace BK144 := bb4 BK144 Ub4144 hb
    replace HB := tb4 Hb4 hb
    clear hb hbox hg
    refine hK.out _ _ Zhh (fun hHeld => ?_)
    clear hK K
    refine norm_ (a' := ?_) ?_ ?_
    rotate_left
    ·
     show Act.put _ (some 9) _ = _
     simp only [Act.put, y1a4, y2a4, y3a4, i64_w, i32_w]
     rfl
    exact norm_ Za43 (hJ2_11 (v165, g182) _ ⟨hHeld, Za425, Za421, Za422, Ub4141, Ub4144, Ub4182, GW182.out, GE182.out, NB141_182.out, NB182_141.out, NB144_182.out, NB182_144.out, Hb4⟩)
   skip
   refine Kd.R_lit_step (Kd.int .i64) _ 3 ?hg (N := 104) ?hd (xs := ([1] : List Int)) (inner := [.int .i64 1]) (ok := fun _ => True) (okp := fun _ => True) ?hr ?hp (fun _ hk => hk) trivial (Below.refl _ _) (Nat.le_refl _) (by simp) ?_; (case hd => rfl); (case hg => rfl); (case hr => first | (go_simp; done) | (go_simp; rfl)); (case hp => exact (Reps.one (show Kd.M (Kd.int .i64) _ _ _ 1 [.int .i64 1] from rfl) (Reps.none _ _)))
   intro v177 w79 ho80 hb hg_ hnew_
   clear hg_ hnew_
   (first | rw [← Ny176.out] at ho80 | (simp only [Int.reduceToNat] at ho80; rw [← Ny176.out] at ho80))
   have HO178 := Aa4q (Kd.R_lower (Kd.R_new' (Kd.R_new' (Kd.R_new' ho80 (Kd.R_lt Za421)) (Kd.R_lt Za422)) (Kd.R_lt Za425)) (below_size Hb4))
   replace P0 := Aa4q (Kd.R_elder' Za421 (Kd.R_base ho80) hb)
   replace P1 := Aa4q (Kd.R_elder' Za422 (Kd.R_base ho80) hb)
   replace HO166 := Aa4q (Kd.R_elder' Za425 (Kd.R_base ho80) hb)
   replace BK141 := bb4 BK141 Ub4141 hb
   replace BK144 := bb4 BK144 Ub4144 hb
   replace HB := tb4 Hb4 hb
   clear hb ho80
   refine hK.out _ _ Zhh (fun hHeld => ?_)
   clear hK K
   refine norm_ (a' := ?_) ?_ ?_
   rotate_left
   ·
    show Act.put _ (some 104) _ = _
    simp only [Act.put, y1a4, y2a4, y3a4, i64_w, i32_w]
    rfl
   exact norm_ Za43 (hJ2_8 (v165, v177) _ ⟨hHeld, Za418, Za415, Za411, Za412, Ub4141, Ub4144, Hb4⟩)
  intro hJ2
  refine join_ (σ := Value) 8 #[true, true, false, true, false, true, true, false, false, false, false, false, false] (fun s_ => [(99, s_)]) (fun s_ w' => (w'.cell? ⟨g144, 0, none⟩ = some (.slice Ao75 xa_4.length co75) ∧ w'.cell? ⟨g144, 1, none⟩ = some (.slice (some ⟨go61, 0, none⟩) xb_4.length co61)) ∧ (Kd.R (Kd.int .i64) 3 w' w.heap.size (fun k_ => some k_ ≠ (.slice Ao75 xa_4.length co75 : Value).ownBlock ∧ some k_ ≠ (.slice (some ⟨go61, 0, none⟩) xb_4.length co61 : Value).ownBlock) s_ y167) ∧ (Kd.R (Kd.int .i64) 3 w' w.heap.size (fun k_ => some k_ ≠ (s_ : Value).ownBlock ∧ some k_ ≠ (.slice (some ⟨go61, 0, none⟩) xb_4.length co61 : Value).ownBlock) (.slice Ao75 xa_4.length co75) xa_4) ∧ (Kd.R (Kd.int .i64) 3 w' w.heap.size (fun k_ => some k_ ≠ (s_ : Value).ownBlock ∧ some k_ ≠ (.slice Ao75 xa_4.length co75 : Value).ownBlock) (.slice (some ⟨go61, 0, none⟩) xb_4.length co61) y163) ∧ (w'.heap[g141]? = some (.cells #[.slice none 0 0, .slice none 0 0] 24 (0, 0))) ∧ (w'.heap[g144]? = some (.cells #[.slice Ao75 xa_4.length co75, .slice (some ⟨go61, 0, none⟩) xb_4.length co61] 24 (0, 0))) ∧ (Below w.heap.size w w')) ?_ ?_
  rotate_left
  rotate_left
  ·
   skip
   rintro v168 w79 ⟨hS_, h0_, h1_, h2_, h3_, h4_, h5_⟩
   have HO169 := Aa4q h0_
   have n1_ := Aa4q h1_
   have n2_ := Aa4q h2_
   have n3_ : Aside0 (w79.heap[g141]? = some (.cells #[.slice none 0 0, .slice none 0 0] 24 (0, 0))) := ⟨h3_⟩
   have n4_ : Aside0 (w79.heap[g144]? = some (.cells #[.slice Ao75 xa_4.length co75, .slice (some ⟨go61, 0, none⟩) xb_4.length co61] 24 (0, 0))) := ⟨h4_⟩
   have n5_ : Aside0 (Below w.heap.size w w79) := ⟨h5_⟩
   clear P0 P1 BK141 BK144 HB
   clear h0_ h1_ h2_ h3_ h4_ h5_
   have P0 := n1_
   have P1 := n2_
   have BK141 := n3_
   have BK144 := n4_
   have HB := n5_
   clear n1_ n2_ n3_ n4_ n5_
   have hHeld : w79.cell? ⟨g144, 0, none⟩ = some (.slice Ao75 xa_4.length co75) ∧ w79.cell? ⟨g144, 1, none⟩ = some (.slice (some ⟨go61, 0, none⟩) xb_4.length co61) := hS_
   refine norm_ (a' := ?_) ?_ ?_
   rotate_left
   ·
    simp only [putAll, Act.put, y1a4, y2a4, y3a4]
    rfl
   refine three_ (i := 2) (j := 8) (k := 11) (Ni := some 98) (Nj := some 104) (Nk := some 9) #[true, true, true, true, false, true, true, false, false, false, false, false, false] #[true, true, false, true, false, true, true, false, true, false, false, false, false] #[true, true, false, true, false, true, true, false, false, false, false, true, false] rfl rfl rfl rfl rfl rfl (three_of HT_.out Za430) Za431 Za431 Za431 (fun K hK => ?_) (fun K hK => ?_) (fun K hK => ?_)
   rotate_left
   ·
    skip
    refine Kd.R_lit_step (Kd.int .i64) _ 3 ?hg (N := 104) ?hd (xs := ([1] : List Int)) (inner := [.int .i64 1]) (ok := fun _ => True) (okp := fun _ => True) ?hr ?hp (fun _ hk => hk) trivial (Below.refl _ _) (Nat.le_refl _) (by simp) ?_; (case hd => rfl); (case hg => rfl); (case hr => first | (go_simp; done) | (go_simp; rfl)); (case hp => exact (Reps.one (show Kd.M (Kd.int .i64) _ _ _ 1 [.int .i64 1] from rfl) (Reps.none _ _)))
    intro v177 w80 ho81 hb hg_ hnew_
    clear hg_ hnew_
    (first | rw [← Ny176.out] at ho81 | (simp only [Int.reduceToNat] at ho81; rw [← Ny176.out] at ho81))
    have HO178 := Aa4q (Kd.R_lower (Kd.R_new' (Kd.R_new' (Kd.R_new' ho81 (Kd.R_lt Za421)) (Kd.R_lt Za422)) (Kd.R_lt Za424)) (below_size Hb4))
    replace P0 := Aa4q (Kd.R_elder' Za421 (Kd.R_base ho81) hb)
    replace P1 := Aa4q (Kd.R_elder' Za422 (Kd.R_base ho81) hb)
    replace HO169 := Aa4q (Kd.R_elder' Za424 (Kd.R_base ho81) hb)
    replace BK141 := bb4 BK141 Ub4141 hb
    replace BK144 := bb4 BK144 Ub4144 hb
    replace HB := tb4 Hb4 hb
    clear hb ho81
    refine hK.out _ _ Zhh (fun hHeld => ?_)
    clear hK K
    refine norm_ (a' := ?_) ?_ ?_
    rotate_left
    ·
     show Act.put _ (some 104) _ = _
     simp only [Act.put, y1a4, y2a4, y3a4, i64_w, i32_w]
     rfl
    exact norm_ Za43 (hJ3_8 (v168, v177) _ ⟨hHeld, Za417, Za415, Za411, Za412, Ub4141, Ub4144, Hb4⟩)
   ·
    skip
    refine box_step ?hg (N := 9) ?hd (cs := #[.slice none 0 0, .slice none 0 0]) (t := 24) ?hr ?_; (case hd => rfl); (case hg => rfl); (case hr => first | (go_simp; done) | (go_simp; rfl))
    intro g182 hg w80 hbox hb
    have BK182 := Aa4q (hbox)
    have GW182 := sb4 Hb4 hg
    have GE182 := sb4 Hb4 hg
    have NB141_182 := nb4 BK141 Ub4141 hg
    have NB182_141 := mb4 BK141 Ub4141 hg
    have NB144_182 := nb4 BK144 Ub4144 hg
    have NB182_144 := mb4 BK144 Ub4144 hg
    replace P0 := Aa4q (Kd.R_below Za421 hb)
    replace P1 := Aa4q (Kd.R_below Za422 hb)
    replace HO169 := Aa4q (Kd.R_below Za424 hb)
    replace BK141 := bb4 BK141 Ub4141 hb
    replace BK144 := bb4 BK144 Ub4144 hb
    replace HB := tb4 Hb4 hb
    clear hb hbox hg
    refine hK.out _ _ Zhh (fun hHeld => ?_)
    clear hK K
    refine norm_ (a' := ?_) ?_ ?_
    rotate_left
    ·
     show Act.put _ (some 9) _ = _
     simp only [Act.put, y1a4, y2a4, y3a4, i64_w, i32_w]
     rfl
    exact norm_ Za43 (hJ3_11 (v168, g182) _ ⟨hHeld, Za424, Za421, Za422, Ub4141, Ub4144, Ub4182, GW182.out, GE182.out, NB141_182.out, NB182_141.out, NB144_182.out, NB182_144.out, Hb4⟩)
   skip
   refine goes_ Try.func14 Za430 rfl #[.slice Ao75 xa_4.length co75] (by rfl) rfl rfl Za420 ?_
   with_reducible refine (spec_l1Own.calls _ _ xa_4 t164 _ ?side1 ?side2 A62.out).mono ?_
   (case side1 => repeat (first | exact (Kd.R_reads' P0.out).2.2 | (with_reducible refine Kd.C_alloc ?_ _) | (with_reducible refine Kd.C_drewN ?_ _) | (with_reducible refine Kd.C_drew ?_)))
   (case side2 => exact (Kd.R_reads' P0.out).2.1)
   rintro e w80 ⟨v165, rfl, ho0, hb⟩
   refine ⟨_, rfl, ?_⟩
   have HO166 := Aa4q (Kd.R_lower (Kd.R_new' (Kd.R_new' (Kd.R_new' ho0 (Kd.R_lt Za421)) (Kd.R_lt Za422)) (Kd.R_lt Za424)) (below_size Hb4))
   replace P0 := Aa4q (Kd.R_elder' Za421 (Kd.R_base ho0) hb)
   replace P1 := Aa4q (Kd.R_elder' Za422 (Kd.R_base ho0) hb)
   replace HO169 := Aa4q (Kd.R_elder' Za424 (Kd.R_base ho0) hb)
   replace BK141 := bb4 BK141 Ub4141 hb
   replace BK144 := bb4 BK144 Ub4144 hb
   replace HB := tb4 Hb4 hb
   (try clear hb)
   (try clear hb2)
   (try clear hk)
   (try clear hi)
   (try clear ho0)
   refine hK.out _ _ Zhh (fun hHeld => ?_)
   clear hK K
   refine norm_ (a' := ?_) ?_ ?_
   rotate_left
   ·
    show Act.put _ (some 98) _ = _
    simp only [Act.put, y1a4, y2a4, y3a4, i64_w, i32_w]
    rfl
   exact norm_ Za43 (hJ2_3 (v165, v168) _ ⟨hHeld, Za413, Za417, Za49, Za410, Ub4141, Ub4144, Hb4⟩)
  intro hJ3
  refine join_ (σ := Value) 8 #[true, true, false, false, false, true, true, false, true, false, false, false, false] (fun s_ => [(104, s_)]) (fun s_ w' => (w'.cell? ⟨g144, 0, none⟩ = some (.slice Ao75 xa_4.length co75) ∧ w'.cell? ⟨g144, 1, none⟩ = some (.slice (some ⟨go61, 0, none⟩) xb_4.length co61)) ∧ (Kd.R (Kd.int .i64) 3 w' w.heap.size (fun k_ => some k_ ≠ (.slice Ao75 xa_4.length co75 : Value).ownBlock ∧ some k_ ≠ (.slice (some ⟨go61, 0, none⟩) xb_4.length co61 : Value).ownBlock) s_ y176) ∧ (Kd.R (Kd.int .i64) 3 w' w.heap.size (fun k_ => some k_ ≠ (s_ : Value).ownBlock ∧ some k_ ≠ (.slice (some ⟨go61, 0, none⟩) xb_4.length co61 : Value).ownBlock) (.slice Ao75 xa_4.length co75) xa_4) ∧ (Kd.R (Kd.int .i64) 3 w' w.heap.size (fun k_ => some k_ ≠ (s_ : Value).ownBlock ∧ some k_ ≠ (.slice Ao75 xa_4.length co75 : Value).ownBlock) (.slice (some ⟨go61, 0, none⟩) xb_4.length co61) y163) ∧ (w'.heap[g141]? = some (.cells #[.slice none 0 0, .slice none 0 0] 24 (0, 0))) ∧ (w'.heap[g144]? = some (.cells #[.slice Ao75 xa_4.length co75, .slice (some ⟨go61, 0, none⟩) xb_4.length co61] 24 (0, 0))) ∧ (Below w.heap.size w w')) ?_ ?_
  rotate_left
  rotate_left
  ·
   skip
   rintro v177 w79 ⟨hS_, h0_, h1_, h2_, h3_, h4_, h5_⟩
   have HO178 := Aa4q h0_
   have n1_ := Aa4q h1_
   have n2_ := Aa4q h2_
   have n3_ : Aside0 (w79.heap[g141]? = some (.cells #[.slice none 0 0, .slice none 0 0] 24 (0, 0))) := ⟨h3_⟩
   have n4_ : Aside0 (w79.heap[g144]? = some (.cells #[.slice Ao75 xa_4.length co75, .slice (some ⟨go61, 0, none⟩) xb_4.length co61] 24 (0, 0))) := ⟨h4_⟩
   have n5_ : Aside0 (Below w.heap.size w w79) := ⟨h5_⟩
   clear P0 P1 BK141 BK144 HB
   clear h0_ h1_ h2_ h3_ h4_ h5_
   have P0 := n1_
   have P1 := n2_
   have BK141 := n3_
   have BK144 := n4_
   have HB := n5_
   clear n1_ n2_ n3_ n4_ n5_
   have hHeld : w79.cell? ⟨g144, 0, none⟩ = some (.slice Ao75 xa_4.length co75) ∧ w79.cell? ⟨g144, 1, none⟩ = some (.slice (some ⟨go61, 0, none⟩) xb_4.length co61) := hS_
   refine norm_ (a' := ?_) ?_ ?_
   rotate_left
   ·
    simp only [putAll, Act.put, y1a4, y2a4, y3a4]
    rfl
   refine three_ (i := 2) (j := 3) (k := 11) (Ni := some 98) (Nj := some 99) (Nk := some 9) #[true, true, true, false, false, true, true, false, true, false, false, false, false] #[true, true, false, true, false, true, true, false, true, false, false, false, false] #[true, true, false, false, false, true, true, false, true, false, false, true, false] rfl rfl rfl rfl rfl rfl (three_of HT_.out Za430) Za431 Za431 Za431 (fun K hK => ?_) (fun K hK => ?_) (fun K hK => ?_)
   rotate_left
   ·
    skip
    refine Kd.R_lit_step (Kd.int .i64) _ 3 ?hg (N := 99) ?hd (xs := ([0] : List Int)) (inner := [.int .i64 0]) (ok := fun _ => True) (okp := fun _ => True) ?hr ?hp (fun _ hk => hk) trivial (Below.refl _ _) (Nat.le_refl _) (by simp) ?_; (case hd => rfl); (case hg => rfl); (case hr => first | (go_simp; done) | (go_simp; rfl)); (case hp => exact (Reps.one (show Kd.M (Kd.int .i64) _ _ _ 0 [.int .i64 0] from rfl) (Reps.none _ _)))
    intro v168 w80 ho81 hb hg_ hnew_
    clear hg_ hnew_
    (first | rw [← Ny167.out] at ho81 | (simp only [Int.reduceToNat] at ho81; rw [← Ny167.out] at ho81))
    have HO169 := Aa4q (Kd.R_lower (Kd.R_new' (Kd.R_new' (Kd.R_new' ho81 (Kd.R_lt Za421)) (Kd.R_lt Za422)) (Kd.R_lt Za423)) (below_size Hb4))
    replace P0 := Aa4q (Kd.R_elder' Za421 (Kd.R_base ho81) hb)
    replace P1 := Aa4q (Kd.R_elder' Za422 (Kd.R_base ho81) hb)
    replace HO178 := Aa4q (Kd.R_elder' Za423 (Kd.R_base ho81) hb)
    replace BK141 := bb4 BK141 Ub4141 hb
    replace BK144 := bb4 BK144 Ub4144 hb
    replace HB := tb4 Hb4 hb
    clear hb ho81
    refine hK.out _ _ Zhh (fun hHeld => ?_)
    clear hK K
    refine norm_ (a' := ?_) ?_ ?_
    rotate_left
    ·
     show Act.put _ (some 99) _ = _
     simp only [Act.put, y1a4, y2a4, y3a4, i64_w, i32_w]
     rfl
    exact norm_ Za43 (hJ3_8 (v168, v177) _ ⟨hHeld, Za414, Za416, Za49, Za410, Ub4141, Ub4144, Hb4⟩)
   ·
    skip
    refine box_step ?hg (N := 9) ?hd (cs := #[.slice none 0 0, .slice none 0 0]) (t := 24) ?hr ?_; (case hd => rfl); (case hg => rfl); (case hr => first | (go_simp; done) | (go_simp; rfl))
    intro g182 hg w80 hbox hb
    have BK182 := Aa4q (hbox)
    have GW182 := sb4 Hb4 hg
    have GE182 := sb4 Hb4 hg
    have NB141_182 := nb4 BK141 Ub4141 hg
    have NB182_141 := mb4 BK141 Ub4141 hg
    have NB144_182 := nb4 BK144 Ub4144 hg
    have NB182_144 := mb4 BK144 Ub4144 hg
    replace P0 := Aa4q (Kd.R_below Za421 hb)
    replace P1 := Aa4q (Kd.R_below Za422 hb)
    replace HO178 := Aa4q (Kd.R_below Za423 hb)
    replace BK141 := bb4 BK141 Ub4141 hb
    replace BK144 := bb4 BK144 Ub4144 hb
    replace HB := tb4 Hb4 hb
    clear hb hbox hg
    refine hK.out _ _ Zhh (fun hHeld => ?_)
    clear hK K
    refine norm_ (a' := ?_) ?_ ?_
    rotate_left
    ·
     show Act.put _ (some 9) _ = _
     simp only [Act.put, y1a4, y2a4, y3a4, i64_w, i32_w]
     rfl
    exact norm_ Za43 (hJ8_11 (v177, g182) _ ⟨hHeld, Za423, Za421, Za422, Ub4141, Ub4144, Ub4182, GW182.out, GE182.out, NB141_182.out, NB182_141.out, NB144_182.out, NB182_144.out, Hb4⟩)
   skip
   refine goes_ Try.func14 Za430 rfl #[.slice Ao75 xa_4.length co75] (by rfl) rfl rfl Za420 ?_
   with_reducible refine (spec_l1Own.calls _ _ xa_4 t164 _ ?side1 ?side2 A62.out).mono ?_
   (case side1 => repeat (first | exact (Kd.R_reads' P0.out).2.2 | (with_reducible refine Kd.C_alloc ?_ _) | (with_reducible refine Kd.C_drewN ?_ _) | (with_reducible refine Kd.C_drew ?_)))
   (case side2 => exact (Kd.R_reads' P0.out).2.1)
   rintro e w80 ⟨v165, rfl, ho0, hb⟩
   refine ⟨_, rfl, ?_⟩
   have HO166 := Aa4q (Kd.R_lower (Kd.R_new' (Kd.R_new' (Kd.R_new' ho0 (Kd.R_lt Za421)) (Kd.R_lt Za422)) (Kd.R_lt Za423)) (below_size Hb4))
   replace P0 := Aa4q (Kd.R_elder' Za421 (Kd.R_base ho0) hb)
   replace P1 := Aa4q (Kd.R_elder' Za422 (Kd.R_base ho0) hb)
   replace HO178 := Aa4q (Kd.R_elder' Za423 (Kd.R_base ho0) hb)
   replace BK141 := bb4 BK141 Ub4141 hb
   replace BK144 := bb4 BK144 Ub4144 hb
   replace HB := tb4 Hb4 hb
   (try clear hb)
   (try clear hb2)
   (try clear hk)
   (try clear hi)
   (try clear ho0)
   refine hK.out _ _ Zhh (fun hHeld => ?_)
   clear hK K
   refine norm_ (a' := ?_) ?_ ?_
   rotate_left
   ·
    show Act.put _ (some 98) _ = _
    simp only [Act.put, y1a4, y2a4, y3a4, i64_w, i32_w]
    rfl
   exact norm_ Za43 (hJ2_8 (v165, v177) _ ⟨hHeld, Za413, Za416, Za49, Za410, Ub4141, Ub4144, Hb4⟩)
  intro hJ8
  refine join_ (σ := Nat) 8 #[true, true, false, false, false, true, true, false, false, false, false, true, false] (fun s_ => [(9, .pointer (some ⟨s_, 0, none⟩))]) (fun s_ w' => (w'.cell? ⟨g144, 0, none⟩ = some (.slice Ao75 xa_4.length co75) ∧ w'.cell? ⟨g144, 1, none⟩ = some (.slice (some ⟨go61, 0, none⟩) xb_4.length co61)) ∧ (Kd.R (Kd.int .i64) 3 w' w.heap.size (fun k_ => some k_ ≠ (.slice (some ⟨go61, 0, none⟩) xb_4.length co61 : Value).ownBlock) (.slice Ao75 xa_4.length co75) xa_4) ∧ (Kd.R (Kd.int .i64) 3 w' w.heap.size (fun k_ => some k_ ≠ (.slice Ao75 xa_4.length co75 : Value).ownBlock) (.slice (some ⟨go61, 0, none⟩) xb_4.length co61) y163) ∧ (w'.heap[g141]? = some (.cells #[.slice none 0 0, .slice none 0 0] 24 (0, 0))) ∧ (w'.heap[g144]? = some (.cells #[.slice Ao75 xa_4.length co75, .slice (some ⟨go61, 0, none⟩) xb_4.length co61] 24 (0, 0))) ∧ (w'.heap[s_]? = some (.cells #[.slice none 0 0, .slice none 0 0] 24 (0, 0))) ∧ (w.heap.size ≤ s_) ∧ (w.heap.size ≤ s_) ∧ (g141 ≠ s_) ∧ (s_ ≠ g141) ∧ (g144 ≠ s_) ∧ (s_ ≠ g144) ∧ (Below w.heap.size w w')) ?_ ?_
  rotate_left
  ·
   intro hJ11
   refine four_ (i := 2) (j := 3) (k := 8) (m := 11) (Ni := some 98) (Nj := some 99) (Nk := some 104) (Nm := some 9) #[true, true, true, false, false, true, true, false, false, false, false, false, false] #[true, true, false, true, false, true, true, false, false, false, false, false, false] #[true, true, false, false, false, true, true, false, true, false, false, false, false] #[true, true, false, false, false, true, true, false, false, false, false, true, false] rfl rfl rfl rfl rfl rfl rfl rfl (four_of HT_.out Za430) Za431 Za431 Za431 Za431 (fun K hK => ?_) (fun K hK => ?_) (fun K hK => ?_) (fun K hK => ?_)
   rotate_left
   ·
    skip
    refine Kd.R_lit_step (Kd.int .i64) _ 3 ?hg (N := 99) ?hd (xs := ([0] : List Int)) (inner := [.int .i64 0]) (ok := fun _ => True) (okp := fun _ => True) ?hr ?hp (fun _ hk => hk) trivial (Below.refl _ _) (Nat.le_refl _) (by simp) ?_; (case hd => rfl); (case hg => rfl); (case hr => first | (go_simp; done) | (go_simp; rfl)); (case hp => exact (Reps.one (show Kd.M (Kd.int .i64) _ _ _ 0 [.int .i64 0] from rfl) (Reps.none _ _)))
    intro v168 w77 ho78 hb hg_ hnew_
    clear hg_ hnew_
    (first | rw [← Ny167.out] at ho78 | (simp only [Int.reduceToNat] at ho78; rw [← Ny167.out] at ho78))
    have HO169 := Aa4q (Kd.R_lower (Kd.R_new' (Kd.R_new' ho78 (Kd.R_lt Za421)) (Kd.R_lt Za422)) (below_size Hb4))
    replace P0 := Aa4q (Kd.R_elder' Za421 (Kd.R_base ho78) hb)
    replace P1 := Aa4q (Kd.R_elder' Za422 (Kd.R_base ho78) hb)
    replace BK141 := bb4 BK141 Ub4141 hb
    replace BK144 := bb4 BK144 Ub4144 hb
    replace HB := tb4 Hb4 hb
    clear hb ho78
    refine hK.out _ _ Zhh (fun hHeld => ?_)
    clear hK K
    refine norm_ (a' := ?_) ?_ ?_
    rotate_left
    ·
     show Act.put _ (some 99) _ = _
     simp only [Act.put, y1a4, y2a4, y3a4, i64_w, i32_w]
     rfl
    exact norm_ Za43 (hJ3 (v168) _ ⟨hHeld, Yq457, Yq461, Za419, Ub4141, Ub4144, Hb4⟩)
   ·
    skip
    refine Kd.R_lit_step (Kd.int .i64) _ 3 ?hg (N := 104) ?hd (xs := ([1] : List Int)) (inner := [.int .i64 1]) (ok := fun _ => True) (okp := fun _ => True) ?hr ?hp (fun _ hk => hk) trivial (Below.refl _ _) (Nat.le_refl _) (by simp) ?_; (case hd => rfl); (case hg => rfl); (case hr => first | (go_simp; done) | (go_simp; rfl)); (case hp => exact (Reps.one (show Kd.M (Kd.int .i64) _ _ _ 1 [.int .i64 1] from rfl) (Reps.none _ _)))
    intro v177 w77 ho78 hb hg_ hnew_
    clear hg_ hnew_
    (first | rw [← Ny176.out] at ho78 | (simp only [Int.reduceToNat] at ho78; rw [← Ny176.out] at ho78))
    have HO178 := Aa4q (Kd.R_lower (Kd.R_new' (Kd.R_new' ho78 (Kd.R_lt Za421)) (Kd.R_lt Za422)) (below_size Hb4))
    replace P0 := Aa4q (Kd.R_elder' Za421 (Kd.R_base ho78) hb)
    replace P1 := Aa4q (Kd.R_elder' Za422 (Kd.R_base ho78) hb)
    replace BK141 := bb4 BK141 Ub4141 hb
    replace BK144 := bb4 BK144 Ub4144 hb
    replace HB := tb4 Hb4 hb
    clear hb ho78
    refine hK.out _ _ Zhh (fun hHeld => ?_)
    clear hK K
    refine norm_ (a' := ?_) ?_ ?_
    rotate_left
    ·
     show Act.put _ (some 104) _ = _
     simp only [Act.put, y1a4, y2a4, y3a4, i64_w, i32_w]
     rfl
    exact norm_ Za43 (hJ8 (v177) _ ⟨hHeld, Yq458, Yq461, Za419, Ub4141, Ub4144, Hb4⟩)
   ·
    skip
    refine box_step ?hg (N := 9) ?hd (cs := #[.slice none 0 0, .slice none 0 0]) (t := 24) ?hr ?_; (case hd => rfl); (case hg => rfl); (case hr => first | (go_simp; done) | (go_simp; rfl))
    intro g182 hg w77 hbox hb
    have BK182 := Aa4q (hbox)
    have GW182 := sb4 Hb4 hg
    have GE182 := sb4 Hb4 hg
    have NB141_182 := nb4 BK141 Ub4141 hg
    have NB182_141 := mb4 BK141 Ub4141 hg
    have NB144_182 := nb4 BK144 Ub4144 hg
    have NB182_144 := mb4 BK144 Ub4144 hg
    replace P0 := Aa4q (Kd.R_below Za421 hb)
    replace P1 := Aa4q (Kd.R_below Za422 hb)
    replace BK141 := bb4 BK141 Ub4141 hb
    replace BK144 := bb4 BK144 Ub4144 hb
    replace HB := tb4 Hb4 hb
    clear hb hbox hg
    refine hK.out _ _ Zhh (fun hHeld => ?_)
    clear hK K
    refine norm_ (a' := ?_) ?_ ?_
    rotate_left
    ·
     show Act.put _ (some 9) _ = _
     simp only [Act.put, y1a4, y2a4, y3a4, i64_w, i32_w]
     rfl
    exact norm_ Za43 (hJ11 (g182) _ ⟨hHeld, (by (with_reducible repeat (first | apply Kd.R_alloc | apply Kd.R_drewN | apply Kd.R_drew)); exact Kd.R_mono P0.out (fun _ hk => hk.2)), Za422, Ub4141, Ub4144, Ub4182, GW182.out, GE182.out, NB141_182.out, NB182_141.out, NB144_182.out, NB182_144.out, Hb4⟩)
   skip
   refine goes_ Try.func14 Za430 rfl #[.slice Ao75 xa_4.length co75] (by rfl) rfl rfl Za420 ?_
   with_reducible refine (spec_l1Own.calls _ _ xa_4 t164 _ ?side1 ?side2 A62.out).mono ?_
   (case side1 => repeat (first | exact (Kd.R_reads' P0.out).2.2 | (with_reducible refine Kd.C_alloc ?_ _) | (with_reducible refine Kd.C_drewN ?_ _) | (with_reducible refine Kd.C_drew ?_)))
   (case side2 => exact (Kd.R_reads' P0.out).2.1)
   rintro e w77 ⟨v165, rfl, ho0, hb⟩
   refine ⟨_, rfl, ?_⟩
   have HO166 := Aa4q (Kd.R_lower (Kd.R_new' (Kd.R_new' ho0 (Kd.R_lt Za421)) (Kd.R_lt Za422)) (below_size Hb4))
   replace P0 := Aa4q (Kd.R_elder' Za421 (Kd.R_base ho0) hb)
   replace P1 := Aa4q (Kd.R_elder' Za422 (Kd.R_base ho0) hb)
   replace BK141 := bb4 BK141 Ub4141 hb
   replace BK144 := bb4 BK144 Ub4144 hb
   replace HB := tb4 Hb4 hb
   (try clear hb)
   (try clear hb2)
   (try clear hk)
   (try clear hi)
   (try clear ho0)
   refine hK.out _ _ Zhh (fun hHeld => ?_)
   clear hK K
   refine norm_ (a' := ?_) ?_ ?_
   rotate_left
   ·
    show Act.put _ (some 98) _ = _
    simp only [Act.put, y1a4, y2a4, y3a4, i64_w, i32_w]
    rfl
   exact norm_ Za43 (hJ2 (v165) _ ⟨hHeld, Yq459, Yq461, Za419, Ub4141, Ub4144, Hb4⟩)
  skip
  rintro g182 w78 ⟨hS_, h0_, h1_, h2_, h3_, h4_, h5_, h6_, h7_, h8_, h9_, h10_, h11_⟩
  have n0_ := Aa4q h0_
  have n1_ := Aa4q h1_
  have n2_ : Aside0 (w78.heap[g141]? = some (.cells #[.slice none 0 0, .slice none 0 0] 24 (0, 0))) := ⟨h2_⟩
  have n3_ : Aside0 (w78.heap[g144]? = some (.cells #[.slice Ao75 xa_4.length co75, .slice (some ⟨go61, 0, none⟩) xb_4.length co61] 24 (0, 0))) := ⟨h3_⟩
  have BK182 : Aside0 (w78.heap[g182]? = some (.cells #[.slice none 0 0, .slice none 0 0] 24 (0, 0))) := ⟨h4_⟩
  have GW182 := Aa4q h5_
  have GE182 := Aa4q h6_
  have NB141_182 := Aa4q h7_
  have NB182_141 := Aa4q h8_
  have NB144_182 := Aa4q h9_
  have NB182_144 := Aa4q h10_
  have n11_ : Aside0 (Below w.heap.size w w78) := ⟨h11_⟩
  clear P0 P1 BK141 BK144 HB
  clear h0_ h1_ h2_ h3_ h4_ h5_ h6_ h7_ h8_ h9_ h10_ h11_
  have P0 := n0_
  have P1 := n1_
  have BK141 := n2_
  have BK144 := n3_
  have HB := n11_
  clear n0_ n1_ n2_ n3_ n11_
  have hHeld : w78.cell? ⟨g144, 0, none⟩ = some (.slice Ao75 xa_4.length co75) ∧ w78.cell? ⟨g144, 1, none⟩ = some (.slice (some ⟨go61, 0, none⟩) xb_4.length co61) := hS_
  refine norm_ (a' := ?_) ?_ ?_
  rotate_left
  ·
   simp only [putAll, Act.put, y1a4, y2a4, y3a4]
   rfl
  refine three_ (i := 2) (j := 3) (k := 8) (Ni := some 98) (Nj := some 99) (Nk := some 104) #[true, true, true, false, false, true, true, false, false, false, false, true, false] #[true, true, false, true, false, true, true, false, false, false, false, true, false] #[true, true, false, false, false, true, true, false, true, false, false, true, false] rfl rfl rfl rfl rfl rfl (three_of HT_.out Za430) Za431 Za431 Za431 (fun K hK => ?_) (fun K hK => ?_) (fun K hK => ?_)
  rotate_left
  ·
   skip
   refine Kd.R_lit_step (Kd.int .i64) _ 3 ?hg (N := 99) ?hd (xs := ([0] : List Int)) (inner := [.int .i64 0]) (ok := fun _ => True) (okp := fun _ => True) ?hr ?hp (fun _ hk => hk) trivial (Below.refl _ _) (Nat.le_refl _) (by simp) ?_; (case hd => rfl); (case hg => rfl); (case hr => first | (go_simp; done) | (go_simp; rfl)); (case hp => exact (Reps.one (show Kd.M (Kd.int .i64) _ _ _ 0 [.int .i64 0] from rfl) (Reps.none _ _)))
   intro v168 w79 ho80 hb hg_ hnew_
   clear hg_ hnew_
   (first | rw [← Ny167.out] at ho80 | (simp only [Int.reduceToNat] at ho80; rw [← Ny167.out] at ho80))
   have HO169 := Aa4q (Kd.R_lower (Kd.R_new' (Kd.R_new' ho80 (Kd.R_lt Za421)) (Kd.R_lt Za422)) (below_size Hb4))
   replace P0 := Aa4q (Kd.R_elder' Za421 (Kd.R_base ho80) hb)
   replace P1 := Aa4q (Kd.R_elder' Za422 (Kd.R_base ho80) hb)
   replace BK141 := bb4 BK141 Ub4141 hb
   replace BK144 := bb4 BK144 Ub4144 hb
   replace BK182 := bb4 BK182 Ub4182 hb
   replace HB := tb4 Hb4 hb
   clear hb ho80
   refine hK.out _ _ Zhh (fun hHeld => ?_)
   clear hK K
   refine norm_ (a' := ?_) ?_ ?_
   rotate_left
   ·
    show Act.put _ (some 99) _ = _
    simp only [Act.put, y1a4, y2a4, y3a4, i64_w, i32_w]
    rfl
   exact norm_ Za43 (hJ3_11 (v168, g182) _ ⟨hHeld, Yq457, Yq462, Za419, Ub4141, Ub4144, Ub4182, GW182.out, GE182.out, NB141_182.out, NB182_141.out, NB144_182.out, NB182_144.out, Hb4⟩)
  ·
   skip
   refine Kd.R_lit_step (Kd.int .i64) _ 3 ?hg (N := 104) ?hd (xs := ([1] : List Int)) (inner := [.int .i64 1]) (ok := fun _ => True) (okp := fun _ => True) ?hr ?hp (fun _ hk => hk) trivial (Below.refl _ _) (Nat.le_refl _) (by simp) ?_; (case hd => rfl); (case hg => rfl); (case hr => first | (go_simp; done) | (go_simp; rfl)); (case hp => exact (Reps.one (show Kd.M (Kd.int .i64) _ _ _ 1 [.int .i64 1] from rfl) (Reps.none _ _)))
   intro v177 w79 ho80 hb hg_ hnew_
   clear hg_ hnew_
   (first | rw [← Ny176.out] at ho80 | (simp only [Int.reduceToNat] at ho80; rw [← Ny176.out] at ho80))
   have HO178 := Aa4q (Kd.R_lower (Kd.R_new' (Kd.R_new' ho80 (Kd.R_lt Za421)) (Kd.R_lt Za422)) (below_size Hb4))
   replace P0 := Aa4q (Kd.R_elder' Za421 (Kd.R_base ho80) hb)
   replace P1 := Aa4q (Kd.R_elder' Za422 (Kd.R_base ho80) hb)
   replace BK141 := bb4 BK141 Ub4141 hb
   replace BK144 := bb4 BK144 Ub4144 hb
   replace BK182 := bb4 BK182 Ub4182 hb
   replace HB := tb4 Hb4 hb
   clear hb ho80
   refine hK.out _ _ Zhh (fun hHeld => ?_)
   clear hK K
   refine norm_ (a' := ?_) ?_ ?_
   rotate_left
   ·
    show Act.put _ (some 104) _ = _
    simp only [Act.put, y1a4, y2a4, y3a4, i64_w, i32_w]
    rfl
   exact norm_ Za43 (hJ8_11 (v177, g182) _ ⟨hHeld, Yq458, Yq462, Za419, Ub4141, Ub4144, Ub4182, GW182.out, GE182.out, NB141_182.out, NB182_141.out, NB144_182.out, NB182_144.out, Hb4⟩)
  skip
  refine goes_ Try.func14 Za430 rfl #[.slice Ao75 xa_4.length co75] (by rfl) rfl rfl Za420 ?_
  with_reducible refine (spec_l1Own.calls _ _ xa_4 t164 _ ?side1 ?side2 A62.out).mono ?_
  (case side1 => repeat (first | exact (Kd.R_reads' P0.out).2.2 | (with_reducible refine Kd.C_alloc ?_ _) | (with_reducible refine Kd.C_drewN ?_ _) | (with_reducible refine Kd.C_drew ?_)))
  (case side2 => exact (Kd.R_reads' P0.out).2.1)
  rintro e w79 ⟨v165, rfl, ho0, hb⟩
  refine ⟨_, rfl, ?_⟩
  have HO166 := Aa4q (Kd.R_lower (Kd.R_new' (Kd.R_new' ho0 (Kd.R_lt Za421)) (Kd.R_lt Za422)) (below_size Hb4))
  replace P0 := Aa4q (Kd.R_elder' Za421 (Kd.R_base ho0) hb)
  replace P1 := Aa4q (Kd.R_elder' Za422 (Kd.R_base ho0) hb)
  replace BK141 := bb4 BK141 Ub4141 hb
  replace BK144 := bb4 BK144 Ub4144 hb
  replace BK182 := bb4 BK182 Ub4182 hb
  replace HB := tb4 Hb4 hb
  (try clear hb)
  (try clear hb2)
  (try clear hk)
  (try clear hi)
  (try clear ho0)
  refine hK.out _ _ Zhh (fun hHeld => ?_)
  clear hK K
  refine norm_ (a' := ?_) ?_ ?_
  rotate_left
  ·
   show Act.put _ (some 98) _ = _
   simp only [Act.put, y1a4, y2a4, y3a4, i64_w, i32_w]
   rfl
  exact norm_ Za43 (hJ2_11 (v165, g182) _ ⟨hHeld, Yq459, Yq462, Za419, Ub4141, Ub4144, Ub4182, GW182.out, GE182.out, NB141_182.out, NB182_141.out, NB144_182.out, NB182_144.out, Hb4⟩)
 rintro ⟨v165, v168, v171, v174, v177, v180, g182⟩ w90 ⟨hS_, h0_, h1_, h2_, h3_, h4_, h5_, h6_, h7_, h8_, h9_, h10_, h11_, h12_, h13_, h14_, h15_⟩
 have HO169 := Aa4q h0_
 have HO172 := Aa4q h1_
 have HO178 := Aa4q h2_
 have HO181 := Aa4q h3_
 have n4_ := Aa4q h4_
 have n5_ := Aa4q h5_
 have n6_ : Aside0 (w90.heap[g141]? = some (.cells #[.slice none 0 0, .slice none 0 0] 24 (0, 0))) := ⟨h6_⟩
 have n7_ : Aside0 (w90.heap[g144]? = some (.cells #[.slice Ao75 xa_4.length co75, .slice (some ⟨go61, 0, none⟩) xb_4.length co61] 24 (0, 0))) := ⟨h7_⟩
 have BK182 : Aside0 (w90.heap[g182]? = some (.cells #[.slice none 0 0, .slice none 0 0] 24 (0, 0))) := ⟨h8_⟩
 have GW182 := Aa4q h9_
 have GE182 := Aa4q h10_
 have NB141_182 := Aa4q h11_
 have NB182_141 := Aa4q h12_
 have NB144_182 := Aa4q h13_
 have NB182_144 := Aa4q h14_
 have n15_ : Aside0 (Below w.heap.size w w90) := ⟨h15_⟩
 clear P0 P1 BK141 BK144 HB
 clear h0_ h1_ h2_ h3_ h4_ h5_ h6_ h7_ h8_ h9_ h10_ h11_ h12_ h13_ h14_ h15_
 have P0 := n4_
 have P1 := n5_
 have BK141 := n6_
 have BK144 := n7_
 have HB := n15_
 clear n4_ n5_ n6_ n7_ n15_
 have hHeld : w90.cell? ⟨g144, 0, none⟩ = some (.slice Ao75 xa_4.length co75) ∧ w90.cell? ⟨g144, 1, none⟩ = some (.slice (some ⟨go61, 0, none⟩) xb_4.length co61) := hS_
 obtain ⟨Ao91, co91, eo91⟩ := Kd.R_slice HO181.out
 (first | subst eo91 | (injection eo91 with f1_ f2_ f3_; have f4_ := f1_.symm; have f5_ := f3_.symm; clear f1_ f2_ f3_; subst f4_; subst f5_))
 obtain ⟨Ao92, co92, eo92⟩ := Kd.R_slice HO172.out
 (first | subst eo92 | (injection eo92 with f1_ f2_ f3_; have f4_ := f1_.symm; have f5_ := f3_.symm; clear f1_ f2_ f3_; subst f4_; subst f5_))
 refine norm_ (a' := ?_) ?_ ?_
 rotate_left
 ·
  simp only [putAll, Act.put, y1a4, y2a4, y3a4]
  rfl
 refine one_ (i := 12) (N := none) #[true, true, true, true, true, true, true, true, true, true, true, true, true] rfl rfl (one_of HT_.out Za430) Za431 (fun K hK => ?_)
 have hs93 : w90.cell? ⟨g182, 0, none⟩ = some (.slice none 0 0) := (blk_cell BK182.out 0).trans rfl
 have hfs93 := blk_frozen BK182.out 0
 have hns93_0 := NB141_182.out
 have hns93_1 := NB144_182.out
 have hms93_0 := NB182_141.out
 have hms93_1 := NB182_144.out
 have hs94 : w90.cell? ⟨g182, 1, none⟩ = some (.slice none 0 0) := (blk_cell BK182.out 1).trans rfl
 have hfs94 := blk_frozen BK182.out 1
 have hns94_0 := NB141_182.out
 have hns94_1 := NB144_182.out
 have hms94_0 := NB182_141.out
 have hms94_1 := NB182_144.out
 refine skip_ (w1 := ?_) (by rfl) rfl ?_ ?_
 rotate_left
 ·
  go_simp
  rfl
 refine hK.out _ _ ⟨((cell_far (p := ⟨g182, _, none⟩) NB144_182.out _).trans (((cell_far (p := ⟨g182, _, none⟩) NB144_182.out _).trans (hHeld.1)))), ((cell_far (p := ⟨g182, _, none⟩) NB144_182.out _).trans (((cell_far (p := ⟨g182, _, none⟩) NB144_182.out _).trans (hHeld.2))))⟩ (fun hHeld => ?_)
 clear hK K
 refine done_ (done_of HT_.out Za430) ?_
 try go_wp2
 have n0_ : Aside0 (Kd.R (Kd.int .i64) 3 ((w90.setCell ⟨g182, 0, none⟩ (.slice Ao92 y170.length co92)).setCell ⟨g182, 1, none⟩ (.slice Ao91 y179.length co91)) w.heap.size (fun k_ => some k_ ≠ (.slice (some ⟨go61, 0, none⟩) xb_4.length co61 : Value).ownBlock ∧ some k_ ≠ (v168 : Value).ownBlock ∧ some k_ ≠ (.slice Ao92 y170.length co92 : Value).ownBlock ∧ some k_ ≠ (v177 : Value).ownBlock ∧ some k_ ≠ (.slice Ao91 y179.length co91 : Value).ownBlock) (.slice Ao75 xa_4.length co75) xa_4) := ⟨by (with_reducible repeat (first | apply Kd.R_alloc | apply Kd.R_drewN | apply Kd.R_drew)); exact Kd.R_mono (Kd.R_far (p := ⟨g182, 1, none⟩) (Kd.R_far (p := ⟨g182, 0, none⟩) (Kd.R_types P0.out BK182.out Za431) (fun _ hk => hk.2) (.slice Ao92 y170.length co92)) (fun _ hk => hk.2) (.slice Ao91 y179.length co91)) (fun _ hk => ⟨hk.1.2.2.2.2, ⟨hk.1.1, ⟨hk.1.2.1, ⟨hk.1.2.2.1, hk.1.2.2.2.1⟩⟩⟩⟩)⟩
 have n1_ : Aside0 (Kd.R (Kd.int .i64) 3 ((w90.setCell ⟨g182, 0, none⟩ (.slice Ao92 y170.length co92)).setCell ⟨g182, 1, none⟩ (.slice Ao91 y179.length co91)) w.heap.size (fun k_ => some k_ ≠ (.slice Ao75 xa_4.length co75 : Value).ownBlock ∧ some k_ ≠ (v168 : Value).ownBlock ∧ some k_ ≠ (.slice Ao92 y170.length co92 : Value).ownBlock ∧ some k_ ≠ (v177 : Value).ownBlock ∧ some k_ ≠ (.slice Ao91 y179.length co91 : Value).ownBlock) (.slice (some ⟨go61, 0, none⟩) xb_4.length co61) y163) := ⟨by (with_reducible repeat (first | apply Kd.R_alloc | apply Kd.R_drewN | apply Kd.R_drew)); exact Kd.R_mono (Kd.R_far (p := ⟨g182, 1, none⟩) (Kd.R_far (p := ⟨g182, 0, none⟩) (Kd.R_types P1.out BK182.out Za431) (fun _ hk => hk.2) (.slice Ao92 y170.length co92)) (fun _ hk => hk.2) (.slice Ao91 y179.length co91)) (fun _ hk => ⟨hk.1.2.2.2.2, ⟨hk.1.1, ⟨hk.1.2.1, ⟨hk.1.2.2.1, hk.1.2.2.2.1⟩⟩⟩⟩)⟩
 have n2_ : Aside0 (Kd.R (Kd.int .i64) 3 ((w90.setCell ⟨g182, 0, none⟩ (.slice Ao92 y170.length co92)).setCell ⟨g182, 1, none⟩ (.slice Ao91 y179.length co91)) w.heap.size (fun k_ => some k_ ≠ (.slice Ao75 xa_4.length co75 : Value).ownBlock ∧ some k_ ≠ (.slice (some ⟨go61, 0, none⟩) xb_4.length co61 : Value).ownBlock ∧ some k_ ≠ (.slice Ao92 y170.length co92 : Value).ownBlock ∧ some k_ ≠ (v177 : Value).ownBlock ∧ some k_ ≠ (.slice Ao91 y179.length co91 : Value).ownBlock) v168 y167) := ⟨by (with_reducible repeat (first | apply Kd.R_alloc | apply Kd.R_drewN | apply Kd.R_drew)); exact Kd.R_mono (Kd.R_far (p := ⟨g182, 1, none⟩) (Kd.R_far (p := ⟨g182, 0, none⟩) (Kd.R_types HO169.out BK182.out Za431) (fun _ hk => hk.2) (.slice Ao92 y170.length co92)) (fun _ hk => hk.2) (.slice Ao91 y179.length co91)) (fun _ hk => ⟨hk.1.2.2.2.1, ⟨hk.1.2.2.2.2, ⟨hk.1.1, ⟨hk.1.2.1, hk.1.2.2.1⟩⟩⟩⟩)⟩
 have n3_ : Aside0 (Kd.R (Kd.int .i64) 3 ((w90.setCell ⟨g182, 0, none⟩ (.slice Ao92 y170.length co92)).setCell ⟨g182, 1, none⟩ (.slice Ao91 y179.length co91)) w.heap.size (fun k_ => some k_ ≠ (.slice Ao75 xa_4.length co75 : Value).ownBlock ∧ some k_ ≠ (.slice (some ⟨go61, 0, none⟩) xb_4.length co61 : Value).ownBlock ∧ some k_ ≠ (v168 : Value).ownBlock ∧ some k_ ≠ (v177 : Value).ownBlock ∧ some k_ ≠ (.slice Ao91 y179.length co91 : Value).ownBlock) (.slice Ao92 y170.length co92) y170) := ⟨by (with_reducible repeat (first | apply Kd.R_alloc | apply Kd.R_drewN | apply Kd.R_drew)); exact Kd.R_mono (Kd.R_far (p := ⟨g182, 1, none⟩) (Kd.R_far (p := ⟨g182, 0, none⟩) (Kd.R_types HO172.out BK182.out Za431) (fun _ hk => hk.2) (.slice Ao92 y170.length co92)) (fun _ hk => hk.2) (.slice Ao91 y179.length co91)) (fun _ hk => ⟨hk.1.2.2.2.1, ⟨hk.1.2.2.2.2, ⟨hk.1.1, ⟨hk.1.2.1, hk.1.2.2.1⟩⟩⟩⟩)⟩
 have n4_ : Aside0 (Kd.R (Kd.int .i64) 3 ((w90.setCell ⟨g182, 0, none⟩ (.slice Ao92 y170.length co92)).setCell ⟨g182, 1, none⟩ (.slice Ao91 y179.length co91)) w.heap.size (fun k_ => some k_ ≠ (.slice Ao75 xa_4.length co75 : Value).ownBlock ∧ some k_ ≠ (.slice (some ⟨go61, 0, none⟩) xb_4.length co61 : Value).ownBlock ∧ some k_ ≠ (v168 : Value).ownBlock ∧ some k_ ≠ (.slice Ao92 y170.length co92 : Value).ownBlock ∧ some k_ ≠ (.slice Ao91 y179.length co91 : Value).ownBlock) v177 y176) := ⟨by (with_reducible repeat (first | apply Kd.R_alloc | apply Kd.R_drewN | apply Kd.R_drew)); exact Kd.R_mono (Kd.R_far (p := ⟨g182, 1, none⟩) (Kd.R_far (p := ⟨g182, 0, none⟩) (Kd.R_types HO178.out BK182.out Za431) (fun _ hk => hk.2) (.slice Ao92 y170.length co92)) (fun _ hk => hk.2) (.slice Ao91 y179.length co91)) (fun _ hk => ⟨hk.1.2.2.2.1, ⟨hk.1.2.2.2.2, ⟨hk.1.1, ⟨hk.1.2.1, hk.1.2.2.1⟩⟩⟩⟩)⟩
 have n5_ : Aside0 (Kd.R (Kd.int .i64) 3 ((w90.setCell ⟨g182, 0, none⟩ (.slice Ao92 y170.length co92)).setCell ⟨g182, 1, none⟩ (.slice Ao91 y179.length co91)) w.heap.size (fun k_ => some k_ ≠ (.slice Ao75 xa_4.length co75 : Value).ownBlock ∧ some k_ ≠ (.slice (some ⟨go61, 0, none⟩) xb_4.length co61 : Value).ownBlock ∧ some k_ ≠ (v168 : Value).ownBlock ∧ some k_ ≠ (.slice Ao92 y170.length co92 : Value).ownBlock ∧ some k_ ≠ (v177 : Value).ownBlock) (.slice Ao91 y179.length co91) y179) := ⟨by (with_reducible repeat (first | apply Kd.R_alloc | apply Kd.R_drewN | apply Kd.R_drew)); exact Kd.R_mono (Kd.R_far (p := ⟨g182, 1, none⟩) (Kd.R_far (p := ⟨g182, 0, none⟩) (Kd.R_types HO181.out BK182.out Za431) (fun _ hk => hk.2) (.slice Ao92 y170.length co92)) (fun _ hk => hk.2) (.slice Ao91 y179.length co91)) (fun _ hk => ⟨hk.1.2.2.2.1, ⟨hk.1.2.2.2.2, ⟨hk.1.1, ⟨hk.1.2.1, hk.1.2.2.1⟩⟩⟩⟩)⟩
 have n6_ : Aside0 (((w90.setCell ⟨g182, 0, none⟩ (.slice Ao92 y170.length co92)).setCell ⟨g182, 1, none⟩ (.slice Ao91 y179.length co91)).heap[g141]? = some (.cells #[.slice none 0 0, .slice none 0 0] 24 (0, 0))) := ⟨Ub4141⟩
 have n7_ : Aside0 (((w90.setCell ⟨g182, 0, none⟩ (.slice Ao92 y170.length co92)).setCell ⟨g182, 1, none⟩ (.slice Ao91 y179.length co91)).heap[g144]? = some (.cells #[.slice Ao75 xa_4.length co75, .slice (some ⟨go61, 0, none⟩) xb_4.length co61] 24 (0, 0))) := ⟨Ub4144⟩
 have n8_ : Aside0 (((w90.setCell ⟨g182, 0, none⟩ (.slice Ao92 y170.length co92)).setCell ⟨g182, 1, none⟩ (.slice Ao91 y179.length co91)).heap[g182]? = some (.cells #[.slice Ao92 y170.length co92, .slice Ao91 y179.length co91] 24 (0, 0))) := ⟨by (with_reducible repeat (first | refine blk_drewN ?_ _ | refine blk_drew ?_ | refine blk_alloc ?_ _)); refine blk_put (cs := #[.slice Ao92 y170.length co92, .slice none 0 0]) ?_ 1 _ rfl; (with_reducible repeat (first | refine blk_drewN ?_ _ | refine blk_drew ?_ | refine blk_alloc ?_ _)); refine blk_put (cs := #[.slice none 0 0, .slice none 0 0]) ?_ 0 _ rfl; (with_reducible repeat (first | refine blk_drewN ?_ _ | refine blk_drew ?_ | refine blk_alloc ?_ _)); exact BK182.out⟩
 have n9_ : Aside0 (Below w.heap.size w ((w90.setCell ⟨g182, 0, none⟩ (.slice Ao92 y170.length co92)).setCell ⟨g182, 1, none⟩ (.slice Ao91 y179.length co91))) := ⟨Hb4⟩
 (try clear P0)
 (try clear P1)
 (try clear HO169)
 (try clear HO172)
 (try clear HO178)
 (try clear HO181)
 (try clear BK141)
 (try clear BK144)
 (try clear BK182)
 (try clear HB)
 generalize ((w90.setCell ⟨g182, 0, none⟩ (.slice Ao92 y170.length co92)).setCell ⟨g182, 1, none⟩ (.slice Ao91 y179.length co91)) = w95 at n0_ n1_ n2_ n3_ n4_ n5_ n6_ n7_ n8_ n9_ ⊢
 have P0 := n0_
 have P1 := n1_
 have HO169 := n2_
 have HO172 := n3_
 have HO178 := n4_
 have HO181 := n5_
 have BK141 := n6_
 have BK144 := n7_
 have BK182 := n8_
 have HB := n9_
 clear n0_ n1_ n2_ n3_ n4_ n5_ n6_ n7_ n8_ n9_
 replace P0 := Aa4q (Kd.R_drew P0.out)
 replace P1 := Aa4q (Kd.R_drew P1.out)
 replace HO169 := Aa4q (Kd.R_drew HO169.out)
 replace HO172 := Aa4q (Kd.R_drew HO172.out)
 replace HO178 := Aa4q (Kd.R_drew HO178.out)
 replace HO181 := Aa4q (Kd.R_drew HO181.out)
 replace BK141 := Aa4q (blk_drew BK141.out)
 replace BK144 := Aa4q (blk_drew BK144.out)
 replace BK182 := Aa4q (blk_drew BK182.out)
 replace HB := Aa4q (below_drew1 HB.out)
 have p187 : 0 ≤ ((ji67) : Int) := of_decide_eq_true Za429
 have q187 : (ji67) < (l0.length : Int) := of_decide_eq_true Za429
 obtain ⟨ad187, e187, hx187_0⟩ := Kd.at_int HR0.out (ji67) p187 q187
 have hw187_0 := hx187_0
 cases e187
 replace hx187_0 := (HB.out.cell (World.block_lt_of_cell? w _ hx187_0)).trans hx187_0
 replace p187 := eq_true p187
 replace q187 := eq_true q187
 refine start_ (n := 18) (S := fun w' => w'.cell? ⟨g182, 0, none⟩ = some (.slice Ao92 y170.length co92) ∧ w'.cell? ⟨g182, 1, none⟩ = some (.slice Ao91 y179.length co91) ∧ w'.cell? (ad187.add ((ji67)).toNat) = some (.int .i64 (rd l0 (ji67)))) (ds := []) #[false, false, false, false, false, false, false, false, false, false, false, false, false, false, false, false, false, false] Za430 rfl rfl ⟨(blk_cell BK182.out 0).trans rfl, (blk_cell BK182.out 1).trans rfl, ((HB.out.cell (World.block_lt_of_cell? w _ hw187_0)).trans hw187_0)⟩ (fun hHeld => ?_); refine with_tabW spec_LevelsOf.tab24 spec_LevelsOf.bits24 (fun HT_ HW_ => ?_)
 generalize w95.drew = w96 at P0 P1 HO169 HO172 HO178 HO181 BK141 BK144 BK182 HB hx187_0 hHeld ⊢
 refine pure_ (i := 1) (N := some 108) (v := ?_) (a' := ?_) #[false, true, false, false, false, false, false, false, false, false, false, false, false, false, false, false, false, false] rfl rfl (any_of HT_.out Za430) (fun _ _ _ h => h) (Or.inl ⟨by rfl, ?_⟩) ?_ ?_
 rotate_left
 ·
  intro w'
  go_simp
  with_reducible rfl
 rotate_left
 ·
  simp only [Act.put, y1a4, y2a4, y3a4, i64_w, i32_w]
  rfl
 refine pure_ (i := 2) (N := some 109) (v := ?_) (a' := ?_) #[false, true, true, false, false, false, false, false, false, false, false, false, false, false, false, false, false, false] rfl rfl (any_of HT_.out Za430) (fun _ _ _ h => h) (Or.inl ⟨by rfl, ?_⟩) ?_ ?_
 rotate_left
 ·
  intro w'
  go_simp
  with_reducible rfl
 rotate_left
 ·
  simp only [Act.put, y1a4, y2a4, y3a4, i64_w, i32_w]
  rfl
 refine pure_ (i := 3) (N := some 110) (v := ?_) (a' := ?_) #[false, true, true, true, false, false, false, false, false, false, false, false, false, false, false, false, false, false] rfl rfl (any_of HT_.out Za430) (fun _ _ _ h => h) (Or.inl ⟨by rfl, ?_⟩) ?_ ?_
 rotate_left
 ·
  intro w'
  go_simp
  with_reducible rfl
 rotate_left
 ·
  simp only [Act.put, y1a4, y2a4, y3a4, i64_w, i32_w]
  rfl
 refine pure_ (i := 5) (N := some 112) (v := ?_) (a' := ?_) #[false, true, true, true, false, true, false, false, false, false, false, false, false, false, false, false, false, false] rfl rfl (any_of HT_.out Za430) (fun _ _ _ h => h) (Or.inl ⟨by rfl, ?_⟩) ?_ ?_
 rotate_left
 ·
  intro w'
  go_simp
  with_reducible rfl
 rotate_left
 ·
  simp only [Act.put, y1a4, y2a4, y3a4, i64_w, i32_w]
  rfl
 refine pure_ (i := 6) (N := some 113) (v := ?_) (a' := ?_) #[false, true, true, true, false, true, true, false, false, false, false, false, false, false, false, false, false, false] rfl rfl (any_of HT_.out Za430) (fun _ _ _ h => h) (Or.inl ⟨by rfl, ?_⟩) ?_ ?_
 rotate_left
 ·
  intro w'
  go_simp
  with_reducible rfl
 rotate_left
 ·
  simp only [Act.put, y1a4, y2a4, y3a4, i64_w, i32_w]
  rfl
 refine pure_ (i := 7) (N := some 114) (v := ?_) (a' := ?_) #[false, true, true, true, false, true, true, true, false, false, false, false, false, false, false, false, false, false] rfl rfl (any_of HT_.out Za430) (fun _ _ _ h => h) (Or.inl ⟨by rfl, ?_⟩) ?_ ?_
 rotate_left
 ·
  intro w'
  go_simp
  with_reducible rfl
 rotate_left
 ·
  simp only [Act.put, y1a4, y2a4, y3a4, i64_w, i32_w]
  rfl
 refine pure_ (i := 10) (N := some 117) (v := ?_) (a' := ?_) #[false, true, true, true, false, true, true, true, false, false, true, false, false, false, false, false, false, false] rfl rfl (any_of HT_.out Za430) (fun _ _ _ h => h) (Or.inl ⟨by rfl, ?_⟩) ?_ ?_
 rotate_left
 ·
  intro w'
  go_simp
  with_reducible rfl
 rotate_left
 ·
  simp only [Act.put, y1a4, y2a4, y3a4, i64_w, i32_w]
  rfl
 refine pure_ (i := 11) (N := some 118) (v := ?_) (a' := ?_) #[false, true, true, true, false, true, true, true, false, false, true, true, false, false, false, false, false, false] rfl rfl (any_of HT_.out Za430) (fun _ _ _ h => h) (Or.inl ⟨by rfl, ?_⟩) ?_ ?_
 rotate_left
 ·
  intro w'
  go_simp
  with_reducible rfl
 rotate_left
 ·
  simp only [Act.put, y1a4, y2a4, y3a4, i64_w, i32_w]
  rfl
 refine pure_ (i := 12) (N := some 119) (v := ?_) (a' := ?_) #[false, true, true, true, false, true, true, true, false, false, true, true, true, false, false, false, false, false] rfl rfl (any_of HT_.out Za430) (fun _ _ _ h => h) (Or.inl ⟨by rfl, ?_⟩) ?_ ?_
 rotate_left
 ·
  intro w'
  go_simp
  with_reducible rfl
 rotate_left
 ·
  simp only [Act.put, y1a4, y2a4, y3a4, i64_w, i32_w]
  rfl
 refine pure_ (i := 13) (N := some 120) (v := ?_) (a' := ?_) #[false, true, true, true, false, true, true, true, false, false, true, true, true, true, false, false, false, false] rfl rfl (any_of HT_.out Za430) (fun _ _ _ h => h) (Or.inl ⟨by rfl, ?_⟩) ?_ ?_
 rotate_left
 ·
  intro w'
  go_simp
  with_reducible rfl
 rotate_left
 ·
  simp only [Act.put, y1a4, y2a4, y3a4, i64_w, i32_w]
  rfl
 refine pure_ (i := 14) (N := some 121) (v := ?_) (a' := ?_) #[false, true, true, true, false, true, true, true, false, false, true, true, true, true, true, false, false, false] rfl rfl (any_of HT_.out Za430) (fun _ _ _ h => h) (Or.inl ⟨by rfl, ?_⟩) ?_ ?_
 rotate_left
 ·
  intro w'
  go_simp
  with_reducible rfl
 rotate_left
 ·
  simp only [Act.put, y1a4, y2a4, y3a4, i64_w, i32_w]
  rfl
 refine take_ (i := 0) (N := some 107) (v := ?_) (a' := ?_) #[true, true, true, true, false, true, true, true, false, false, true, true, true, true, true, false, false, false] rfl rfl (take_ofW HT_.out HW_.out Za430) (fun _ _ _ h => h) (Or.inl ⟨by rfl, ?_⟩) hHeld ?_ ?_
 rotate_left
 ·
  rintro w' ⟨s0, s1, s2⟩
  go_simp
  with_reducible rfl
 rotate_left
 ·
  simp only [Act.put, y1a4, y2a4, y3a4, i64_w, i32_w]
  rfl
 refine take_ (i := 15) (N := some 122) (v := ?_) (a' := ?_) #[true, true, true, true, false, true, true, true, false, false, true, true, true, true, true, true, false, false] rfl rfl (take_ofW HT_.out HW_.out Za430) (fun _ _ _ h => h) (Or.inl ⟨by rfl, ?_⟩) hHeld ?_ ?_
 rotate_left
 ·
  rintro w' ⟨s0, s1, s2⟩
  go_simp
  with_reducible rfl
 rotate_left
 ·
  simp only [Act.put, y1a4, y2a4, y3a4, i64_w, i32_w]
  rfl
 refine one_ (i := 4) (N := some 111) #[true, true, true, true, true, true, true, true, false, false, true, true, true, true, true, true, false, false] rfl rfl (one_of HT_.out Za430) Za431 (fun K hK => ?_)
 refine goes_ Try.func13 Za430 rfl #[.agg #[.slice Ao92 y170.length co92, .slice Ao91 y179.length co91], .int .i64 (wrap64 ((wrap64 (2 * x5_2)) + 3))] (by rfl) rfl rfl Za420 ?_
 with_reducible refine (spec_kiMoments.calls kj55 _ _ y170 _ _ y179 (wrap64 ((wrap64 (2 * x5_2)) + 3)) t183 _ ?side1 ?side2 ?side3 ?side4 A66.out).mono ?_
 (case side1 => repeat (first | exact (Kd.R_reads' HO172.out).2.2 | (with_reducible refine Kd.C_alloc ?_ _) | (with_reducible refine Kd.C_drewN ?_ _) | (with_reducible refine Kd.C_drew ?_)))
 (case side2 => exact (Kd.R_reads' HO172.out).2.1)
 (case side3 => repeat (first | exact (Kd.R_reads' HO181.out).2.2 | (with_reducible refine Kd.C_alloc ?_ _) | (with_reducible refine Kd.C_drewN ?_ _) | (with_reducible refine Kd.C_drew ?_)))
 (case side4 => exact (Kd.R_reads' HO181.out).2.1)
 rintro e w97 ⟨v184, rfl, ho0, hb⟩
 refine ⟨_, rfl, ?_⟩
 have HO185 := Aa4q (Kd.R_lower (Kd.R_new' (Kd.R_new' (Kd.R_new' (Kd.R_new' (Kd.R_new' (Kd.R_new' ho0 (Kd.R_lt Za421)) (Kd.R_lt Za422)) (Kd.R_lt Za424)) (Kd.R_lt Za426)) (Kd.R_lt Za423)) (Kd.R_lt Yq465)) (below_size Hb4))
 replace P0 := Aa4q (Kd.R_elder' Za421 (Kd.R_base ho0) hb)
 replace P1 := Aa4q (Kd.R_elder' Za422 (Kd.R_base ho0) hb)
 replace HO169 := Aa4q (Kd.R_elder' Za424 (Kd.R_base ho0) hb)
 replace HO172 := Aa4q (Kd.R_elder' Za426 (Kd.R_base ho0) hb)
 replace HO178 := Aa4q (Kd.R_elder' Za423 (Kd.R_base ho0) hb)
 replace HO181 := Aa4q (Kd.R_elder' Yq465 (Kd.R_base ho0) hb)
 replace BK141 := bb4 BK141 Ub4141 hb
 replace BK144 := bb4 BK144 Ub4144 hb
 replace BK182 := bb4 BK182 Ub4182 hb
 replace HB := tb4 Hb4 hb
 (try clear hb)
 (try clear hb2)
 (try clear hk)
 (try clear hi)
 (try clear ho0)
 obtain ⟨Ao98, co98, eo98⟩ := Kd.R_slice HO185.out
 (first | subst eo98 | (injection eo98 with f1_ f2_ f3_; have f4_ := f1_.symm; have f5_ := f3_.symm; clear f1_ f2_ f3_; subst f4_; subst f5_))
 have p186 : 0 ≤ ((ji67) : Int) := of_decide_eq_true Za429
 have q186 : (ji67) < (t183.length : Int) := of_decide_eq_true Za429
 obtain ⟨ad186, e186, hx186_0⟩ := Kd.at_int (Kd.R_reads' HO185.out).2.2 (ji67) p186 q186
 cases e186
 replace p186 := eq_true p186
 replace q186 := eq_true q186
 refine hK.out _ _ ⟨(blk_cell BK182.out 0).trans rfl, (blk_cell BK182.out 1).trans rfl, ((HB.out.cell (World.block_lt_of_cell? w _ hw187_0)).trans hw187_0)⟩ (fun hHeld0 => ?_)
 have hHeld := (And.intro (And.left hHeld0) (And.intro (And.left (And.right hHeld0)) (And.intro (And.right (And.right hHeld0)) hx186_0)))
 refine stronger4 (S' := fun w' => w'.cell? ⟨g182, 0, none⟩ = some (.slice Ao92 y170.length co92) ∧ w'.cell? ⟨g182, 1, none⟩ = some (.slice Ao91 y179.length co91) ∧ w'.cell? (ad187.add ((ji67)).toNat) = some (.int .i64 (rd l0 (ji67))) ∧ w'.cell? (ad186.add ((ji67)).toNat) = some (.int .i64 (rd t183 (ji67)))) (fun _ h => ⟨h.1, h.2.1, h.2.2.1⟩) hHeld ?_
 clear hK K
 refine norm_ (a' := ?_) ?_ ?_
 rotate_left
 ·
  show Act.put _ (some 111) _ = _
  simp only [Act.put, y1a4, y2a4, y3a4, i64_w, i32_w]
  rfl
 refine pure_ (i := 8) (N := some 115) (v := ?_) (a' := ?_) #[true, true, true, true, true, true, true, true, true, false, true, true, true, true, true, true, false, false] rfl rfl (any_of HT_.out Za430) (fun _ _ _ h => h) (Or.inl ⟨by rfl, ?_⟩) ?_ ?_
 rotate_left
 ·
  intro w'
  go_simp
  with_reducible rfl
 rotate_left
 ·
  simp only [Act.put, y1a4, y2a4, y3a4, i64_w, i32_w]
  rfl
 refine take_ (i := 9) (N := some 116) (v := ?_) (a' := ?_) #[true, true, true, true, true, true, true, true, true, true, true, true, true, true, true, true, false, false] rfl rfl (take_ofW HT_.out HW_.out Za430) (fun _ _ _ h => h) (Or.inl ⟨by rfl, ?_⟩) hHeld ?_ ?_
 rotate_left
 ·
  rintro w' ⟨s0, s1, s2, s3⟩
  (try simp only [Int.toNat_natCast] at s3)
  go_simp
  with_reducible rfl
 rotate_left
 ·
  simp only [Act.put, y1a4, y2a4, y3a4, i64_w, i32_w]
  rfl
 refine pure_ (i := 16) (N := some 123) (v := ?_) (a' := ?_) #[true, true, true, true, true, true, true, true, true, true, true, true, true, true, true, true, true, false] rfl rfl (any_of HT_.out Za430) (fun _ _ _ h => h) (Or.inl ⟨by rfl, ?_⟩) ?_ ?_
 rotate_left
 ·
  intro w'
  go_simp
  with_reducible rfl
 rotate_left
 ·
  simp only [Act.put, y1a4, y2a4, y3a4, i64_w, i32_w]
  rfl
 refine pure_ (i := 17) (N := some 6) (v := ?_) (a' := ?_) #[true, true, true, true, true, true, true, true, true, true, true, true, true, true, true, true, true, true] rfl rfl (any_of HT_.out Za430) (fun _ _ _ h => h) (Or.inl ⟨by rfl, ?_⟩) ?_ ?_
 rotate_left
 ·
  intro w'
  go_simp
  with_reducible rfl
 rotate_left
 ·
  simp only [Act.put, y1a4, y2a4, y3a4, i64_w, i32_w]
  rfl
 refine done_ (done_of HT_.out Za430) ?_
 try go_wp2
 rw [← hji67]
 go_roundg kj55
 case measure => have := HJ1.out; have := HK2.out; have := HJ15.out; have := HK4.out; have := HJ55.out; omega
 case rel => exact ⟨(((rd t183 (ji67)) == (rd l0 (ji67)))), (wrap64 (x8_4 + 1)), (xa_4), (y163), (.slice Ao75 xa_4.length co75), (.slice (some ⟨go61, 0, none⟩) xb_4.length co61), (by first | rfl | (simp; done) | (simp only [← hji67] <;> (first | rfl | simp)) | (simp [*]; done)), Za428, H', ⟨Yq468⟩, ⟨by (with_reducible repeat (first | apply Kd.R_alloc | apply Kd.R_drewN | apply Kd.R_drew)); exact Kd.R_mono P0.out (fun _ hk => hk.1.1)⟩, ⟨by (with_reducible repeat (first | apply Kd.R_alloc | apply Kd.R_drewN | apply Kd.R_drew)); exact Kd.R_mono P1.out (fun _ hk => hk.1.1)⟩, ⟨Ub4141⟩, ⟨Ub4144⟩, ⟨Hb4⟩⟩
end Go.Proofs.Ytgoiohlmifgncaa.OFnExactLevelsOf
