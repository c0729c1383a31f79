/- The functions that 'FnRuinInTime' runs, each as a function over numbers and lists, with the proof that the Go text comes to its answers. No condition. -/
import Derived.Test.YtoglhflnfkmkcaaOFnRuinInTimex13
namespace Go.Proofs.Ytoglhflnfkmkcaa.OFnRuinInTime
open Go.Proofs.Ytoglhflnfkmkcaa.Stub
open Go.RowKit Go.Proofs.YtoglhflnfkmkcaaW.PrintWords Go.Proofs.YtoglhflnfkmkcaaW.PrintLast Go.Proofs.YtoglhflnfkmkcaaW.PrintMore
attribute [local go_sem] max2_int min2_int max_two min_two max_three min_three max_four min_four   -- for this text's walks alone
set_option linter.unusedVariables false
set_option linter.unusedSimpArgs false
attribute [local go_sem high] eqA25
theorem y1a14 {α : Type} (l : List α) (i : Nat) (a : α) : l.toArray.setIfInBounds i a = (l.set i a).toArray := List.setIfInBounds_toArray l i a
theorem y2a14 {α : Type} {x : α} {xs : List α} {b : α} : (x :: xs).set 0 b = b :: xs := List.set_cons_zero
theorem y3a14 {α : Type} {x : α} {xs : List α} {n : Nat} {b : α} : (x :: xs).set (n + 1) b = x :: xs.set n b := List.set_cons_succ
theorem Aa14q {p : Prop} (h : p) : Aside0 p := Aside0.mk h
theorem Za141 {p : Prop} (h : p := by (try simp only [List.map_toArray, List.map_cons, List.map_nil]); first | done | rfl | (simp only [List.length_drop, List.length_take]; rfl)) : p := h
theorem Za142 {p : Prop} (h : p := by (with_reducible repeat (first | apply Kd.R_alloc | apply Kd.R_drewN | apply Kd.R_drew)); exact HO405.out) : p := h
theorem Za143 {p : Prop} (h : p := by (with_reducible repeat (first | apply Kd.R_alloc | apply Kd.R_drewN | apply Kd.R_drew)); exact HO409.out) : p := h
theorem Za144 {p : Prop} (h : p := by (with_reducible repeat (first | apply Kd.R_alloc | apply Kd.R_drewN | apply Kd.R_drew)); exact HO_9.out) : p := h
theorem Za145 {p : Prop} (h : p := by first | rfl | (simp; done) | (simp [*]; done) | (simp only [i64_w]; done)) : p := h
theorem Za146 {p : Prop} (h : p := by kernel_rfl) : p := h
theorem dead_j0 : ∀ k y0 y1 y2 y3 y4 y5 y7 y8 y9 y10 y11 y12 y13 y14, laws_FnRuinInTime.j0 k y0 y1 y2 y3 y4 y5 true y7 y8 y9 y10 y11 y12 y13 y14 = none := by
  intro k; intros; cases k <;> simp [laws_FnRuinInTime.j0]
theorem dead_j3 : ∀ k y0 y1 y2 y3 y4 y5 y7 y8 y9 y10 y11 y12, laws_FnRuinInTime.j3 k y0 y1 y2 y3 y4 y5 true y7 y8 y9 y10 y11 y12 = none := by
  intro k; intros; cases k <;> simp [laws_FnRuinInTime.j3]
theorem dead_j4 : ∀ k y0 y1 y2 y3 y4 y5 y7 y8 y9 y10 y11 y12, laws_FnRuinInTime.j4 k y0 y1 y2 y3 y4 y5 true y7 y8 y9 y10 y11 y12 = none := by
  intro k; intros; cases k <;> simp [laws_FnRuinInTime.j4]
theorem dead_j9 : ∀ k y0 y1 y2 y3 y4, laws_FnRuinInTime.j9 k y0 y1 y2 y3 y4 true = none := by
  intro k; intros; cases k <;> simp [laws_FnRuinInTime.j9]
set_option maxHeartbeats 8000000 in
set_option maxRecDepth 100000 in
theorem laws_FnRuinInTime.calls (k : Nat) (A0 : Option Addr) (c0 : Nat) (l0 : List Int) (A1 : Option Addr) (c1 : Nat) (l1 : List Int) (r : Bool) (w : World) (hr0 : Kd.C (Kd.int .u8) w A0 l0.length l0) (hc0 : l0.length ≤ c0) (hr1 : Kd.C (Kd.int .u8) w A1 l1.length l1) (hc1 : l1.length ≤ c1) (h : laws_FnRuinInTime.f k l0 l1 = some r) :
  Calls Try.prog 3 #[.slice A0 l0.length c0, .slice A1 l1.length c1] w fun e w' => e = .returned (.bool r) ∧ Below w.heap.size w w' := by
 have hu25 := Try.underlying25
 have HR0 := Aa14q hr0
 have HC0 := Aa14q hc0
 clear hr0 hc0
 have HR1 := Aa14q hr1
 have HC1 := Aa14q hc1
 clear hr1 hc1
 have HB := Aa14q (Below.refl w.heap.size w)
 have H := h
 unfold laws_FnRuinInTime.f at H
 clear h
 replace H := Option.bind_eq_some_iff.mp H
 obtain ⟨t396, A30, H⟩ := H
 try dsimp only at H
 have A3 := Aa14q A30
 clear A30
 by_cases c4 : t396 = true
 ·
  subst c4
  rw [if_pos rfl] at H
  obtain rfl := Option.some.inj H
  go_enter Try.func3, Try.ntmps3
  go_wp2_with (first | ((with_reducible refine gate_callee (f := 4) rfl ?_); refine goesL_ (some 52) rfl rfl Try.func4 Za146 rfl #[.slice A0 l0.length c0, .slice A1 l1.length c1] rfl Za141 ?_; (with_reducible refine (laws_big.calls _ _ l0 _ _ l1 true _ ?side1 ?side2 ?side3 ?side4 A3.out).mono ?_); (case side1 => repeat (first | exact HR0.out | (with_reducible refine Kd.C_alloc ?_ _) | (with_reducible refine Kd.C_drewN ?_ _) | (with_reducible refine Kd.C_drew ?_))); (case side2 => exact HC0.out); (case side3 => repeat (first | exact HR1.out | (with_reducible refine Kd.C_alloc ?_ _) | (with_reducible refine Kd.C_drewN ?_ _) | (with_reducible refine Kd.C_drew ?_))); (case side4 => exact HC1.out); rintro e w' ⟨rfl, ⟨nd, rfl⟩⟩; refine ⟨_, rfl, ?_⟩))
  go_ret
  exact ⟨by first | rfl | (simp [errW_none, errW_some] <;> rfl) | (simp [*, errW_none, errW_some] <;> rfl), HL⟩
 ·
  replace c4 := Bool.eq_false_iff.mpr c4
  subst c4
  rw [if_neg Bool.false_ne_true] at H
  replace H := Option.bind_eq_some_iff.mp H
  obtain ⟨⟨t397, t398, t399, t400, t401⟩, A50, H⟩ := H
  try dsimp only at H
  have A5 := Aa14q A50
  clear A50
  replace H := Option.bind_eq_some_iff.mp H
  obtain ⟨⟨t403, t406⟩, A60, H⟩ := H
  try dsimp only at H
  have A6 := Aa14q A60
  clear A60
  replace H := Option.bind_eq_some_iff.mp H
  obtain ⟨⟨t407, t410⟩, A70, H⟩ := H
  try dsimp only at H
  have A7 := Aa14q A70
  clear A70
  replace H := Option.bind_eq_some_iff.mp H
  obtain ⟨⟨t411, t412, t413⟩, A80, H⟩ := H
  try dsimp only at H
  have A8 := Aa14q A80
  clear A80
  replace H := Option.bind_eq_some_iff.mp H
  obtain ⟨⟨t415, t416, t417⟩, A90, H⟩ := H
  try dsimp only at H
  have A9 := Aa14q A90
  clear A90
  replace H := Option.bind_eq_some_iff.mp H
  obtain ⟨⟨t419, t420, t421⟩, A100, H⟩ := H
  try dsimp only at H
  have A10 := Aa14q A100
  clear A100
  replace H := Option.bind_eq_some_iff.mp H
  obtain ⟨⟨t423, t424, t425⟩, A110, H⟩ := H
  try dsimp only at H
  have A11 := Aa14q A110
  clear A110
  replace H := Option.bind_eq_some_iff.mp H
  obtain ⟨⟨t427, t428, t429⟩, A120, H⟩ := H
  try dsimp only at H
  have A12 := Aa14q A120
  clear A120
  replace H := Option.bind_eq_some_iff.mp H
  obtain ⟨⟨t431, t432, t433⟩, A130, H⟩ := H
  try dsimp only at H
  have A13 := Aa14q A130
  clear A130
  have HC14 := Aa14q H
  clear H
  go_enter Try.func3, Try.ntmps3
  go_upto_region 12 with (first | ((with_reducible refine gate_callee (f := 4) rfl ?_); refine goesL_ (some 52) rfl rfl Try.func4 Za146 rfl #[.slice A0 l0.length c0, .slice A1 l1.length c1] rfl Za141 ?_; (with_reducible refine (laws_big.calls _ _ l0 _ _ l1 false _ ?side1 ?side2 ?side3 ?side4 A3.out).mono ?_); (case side1 => repeat (first | exact HR0.out | (with_reducible refine Kd.C_alloc ?_ _) | (with_reducible refine Kd.C_drewN ?_ _) | (with_reducible refine Kd.C_drew ?_))); (case side2 => exact HC0.out); (case side3 => repeat (first | exact HR1.out | (with_reducible refine Kd.C_alloc ?_ _) | (with_reducible refine Kd.C_drewN ?_ _) | (with_reducible refine Kd.C_drew ?_))); (case side4 => exact HC1.out); rintro e w' ⟨rfl, ⟨nd, rfl⟩⟩; refine ⟨_, rfl, ?_⟩) | ((with_reducible refine gate_callee (f := 5) rfl ?_); refine goesL_ (some 55) rfl rfl Try.func5 Za146 rfl #[.slice A0 l0.length c0] rfl Za141 ?_; (with_reducible refine (spec_DrawHeldAfter.calls k _ _ l0 t397 t398 t399 t400 t401 _ ?side1 ?side2 A5.out).mono ?_); (case side1 => repeat (first | exact HR0.out | (with_reducible refine Kd.C_alloc ?_ _) | (with_reducible refine Kd.C_drewN ?_ _) | (with_reducible refine Kd.C_drew ?_))); (case side2 => exact HC0.out); rintro e w15 ⟨rfl, hb⟩; refine ⟨_, rfl, ?_⟩; replace HB := tL HL hb; (try clear hb); (try clear hb2); (try clear hk); (try clear hi)) | ((with_reducible refine gate_dst (N := 7) rfl ?_); refine box_event ?hg (N := 7) ?hd (cs := #[.int .i64 0, .int .i64 0]) (t := 25) ?hr ?_; (case hd => rfl); (case hg => rfl); (case hr => first | (go_simp; done) | (go_simp; rfl)); intro g402 hg w16 hbox hb; have BK402 := Aa14q (hbox); have GE402 := sL HL hg; replace HB := tL HL hb; clear hb hbox hg; have hcz17_0 : w16.cell? ⟨g402, 0, none⟩ = some (.int .i64 0) := (blk_cell BK402.out 0).trans rfl; have hcz17_1 : w16.cell? ⟨g402, 1, none⟩ = some (.int .i64 0) := (blk_cell BK402.out 1).trans rfl; have hfz17_0 := blk_frozen BK402.out 0; have hfz17_1 := blk_frozen BK402.out 1) | ((with_reducible refine gate_callee (f := 6) rfl ?_); refine goesL_ (some 65) rfl rfl Try.func6 Za146 rfl #[.int .i64 t397, .int .i64 t398, .agg #[.int .i64 t399, .int .i64 t400], .int .i64 t401] rfl Za141 ?_; (with_reducible refine (impl_HeldAfter.calls k t397 t398 t399 t400 t401 t403 t406 _ A6.out).mono ?_); rintro e w18 ⟨v404, rfl, ho0, hb⟩; refine ⟨_, rfl, ?_⟩; have HO405 := Aa14q (Kd.R_lower (Kd.R_newB ho0 (g := g402) (o := .cells #[.int .i64 t399, .int .i64 t400] 25 (0, 0)) (by (with_reducible repeat (first | refine blk_drewN ?_ _ | refine blk_drew ?_ | refine blk_alloc ?_ _)); refine blk_put (cs := #[.int .i64 t399, .int .i64 0]) ?_ 1 _ rfl; (with_reducible repeat (first | refine blk_drewN ?_ _ | refine blk_drew ?_ | refine blk_alloc ?_ _)); refine blk_put (cs := #[.int .i64 0, .int .i64 0]) ?_ 0 _ rfl; (with_reducible repeat (first | refine blk_drewN ?_ _ | refine blk_drew ?_ | refine blk_alloc ?_ _)); exact BK402.out)) (below_size HL)); replace BK402 := Aa14q (blk_below (g := g402) (o := .cells #[.int .i64 t399, .int .i64 t400] 25 (0, 0)) (by (with_reducible repeat (first | refine blk_drewN ?_ _ | refine blk_drew ?_ | refine blk_alloc ?_ _)); refine blk_put (cs := #[.int .i64 t399, .int .i64 0]) ?_ 1 _ rfl; (with_reducible repeat (first | refine blk_drewN ?_ _ | refine blk_drew ?_ | refine blk_alloc ?_ _)); refine blk_put (cs := #[.int .i64 0, .int .i64 0]) ?_ 0 _ rfl; (with_reducible repeat (first | refine blk_drewN ?_ _ | refine blk_drew ?_ | refine blk_alloc ?_ _)); exact BK402.out) hb); replace HB := tL HL hb; (try clear hb); (try clear hb2); (try clear hk); (try clear hi); (try clear ho0); have hcz19_0 : w18.cell? ⟨g402, 0, none⟩ = some (.int .i64 t399) := (blk_cell BK402.out 0).trans rfl; have hcz19_1 : w18.cell? ⟨g402, 1, none⟩ = some (.int .i64 t400) := (blk_cell BK402.out 1).trans rfl; have hfz19_0 := blk_frozen BK402.out 0; have hfz19_1 := blk_frozen BK402.out 1) | ((with_reducible refine gate_callee (f := 7) rfl ?_); refine goesL_ (some 73) rfl rfl Try.func7 Za146 rfl #[.int .i64 t397, .int .i64 t398, .agg #[.int .i64 t399, .int .i64 t400], .int .i64 t401] rfl Za141 ?_; (with_reducible refine (spec_HeldAfter.calls k t397 t398 t399 t400 t401 t407 t410 _ A7.out).mono ?_); rintro e w20 ⟨v408, rfl, ho0, hb⟩; refine ⟨_, rfl, ?_⟩; have HO409 := Aa14q (Kd.R_lower (Kd.R_newB (Kd.R_new' ho0 (Kd.R_lt Za142)) (g := g402) (o := .cells #[.int .i64 t399, .int .i64 t400] 25 (0, 0)) UL402) (below_size HL)); replace HO405 := Aa14q (Kd.R_elder' Za142 (Kd.R_base ho0) hb); replace BK402 := bL BK402 UL402 hb; replace HB := tL HL hb; (try clear hb); (try clear hb2); (try clear hk); (try clear hi); (try clear ho0); have hcz21_0 : w20.cell? ⟨g402, 0, none⟩ = some (.int .i64 t399) := (blk_cell BK402.out 0).trans rfl; have hcz21_1 : w20.cell? ⟨g402, 1, none⟩ = some (.int .i64 t400) := (blk_cell BK402.out 1).trans rfl; have hfz21_0 := blk_frozen BK402.out 0; have hfz21_1 := blk_frozen BK402.out 1) | ((with_reducible refine gate_callee (f := 8) rfl ?_); refine goesL_ (some 81) rfl rfl Try.func8 Za146 rfl #[.int .i64 t397, .int .i64 t398, .agg #[.int .i64 t399, .int .i64 t400], .int .i64 t401] rfl Za141 ?_; (with_reducible refine (impl_WinWithin.calls k t397 t398 t399 t400 t401 t411 t412 t413 _ A8.out).mono ?_); rintro e w22 ⟨rfl, hb⟩; refine ⟨_, rfl, ?_⟩; replace HO405 := Aa14q (Kd.R_below Za142 hb); replace HO409 := Aa14q (Kd.R_below Za143 hb); replace BK402 := bL BK402 UL402 hb; replace HB := tL HL hb; (try clear hb); (try clear hb2); (try clear hk); (try clear hi)) | ((with_reducible refine gate_dst (N := 13) rfl ?_); refine box_event ?hg (N := 13) ?hd (cs := #[.int .i64 0, .int .i64 0]) (t := 25) ?hr ?_; (case hd => rfl); (case hg => rfl); (case hr => first | (go_simp; done) | (go_simp; rfl)); intro g414 hg w23 hbox hb; have BK414 := Aa14q (hbox); have GE414 := sL HL hg; have NB402_414 := nL BK402 UL402 hg; have NB414_402 := mL BK402 UL402 hg; replace HO405 := Aa14q (Kd.R_below (Kd.R_elderB Za142 g414 (Nat.le_of_eq hg.symm)) hb); replace HO409 := Aa14q (Kd.R_below (Kd.R_elderB Za143 g414 (Nat.le_of_eq hg.symm)) hb); replace BK402 := bL BK402 UL402 hb; replace HB := tL HL hb; clear hb hbox hg; have hnb24 := NB414_402.out; have hnc24 := NB402_414.out; have hcz25_0 : w23.cell? ⟨g414, 0, none⟩ = some (.int .i64 0) := (blk_cell BK414.out 0).trans rfl; have hcz25_1 : w23.cell? ⟨g414, 1, none⟩ = some (.int .i64 0) := (blk_cell BK414.out 1).trans rfl; have hfz25_0 := blk_frozen BK414.out 0; have hfz25_1 := blk_frozen BK414.out 1; have hcz26_0 : w23.cell? ⟨g402, 0, none⟩ = some (.int .i64 t399) := (blk_cell BK402.out 0).trans rfl; have hcz26_1 : w23.cell? ⟨g402, 1, none⟩ = some (.int .i64 t400) := (blk_cell BK402.out 1).trans rfl; have hfz26_0 := blk_frozen BK402.out 0; have hfz26_1 := blk_frozen BK402.out 1) | ((with_reducible refine gate_callee (f := 9) rfl ?_); refine goesL_ (some 89) rfl rfl Try.func9 Za146 rfl #[.int .i64 t397, .int .i64 t398, .agg #[.int .i64 t399, .int .i64 t400], .int .i64 t401] rfl Za141 ?_; (with_reducible refine (spec_WinWithin.calls k t397 t398 t399 t400 t401 t415 t416 t417 _ A9.out).mono ?_); rintro e w27 ⟨rfl, hb⟩; refine ⟨_, rfl, ?_⟩; replace HO405 := Aa14q (Kd.R_below (by (with_reducible repeat (first | apply Kd.R_alloc | apply Kd.R_drewN | apply Kd.R_drew)); exact (Kd.R_mono (Kd.R_far (p := ⟨g414, 1, none⟩) (Kd.R_far (p := ⟨g414, 0, none⟩) (Kd.R_mono HO405.out (fun k_ hk => (⟨hk, hk.2⟩ : _ ∧ k_ ≠ g414))) (fun _ hk => hk.2) (.int .i64 t411)) (fun _ hk => hk.2) (.int .i64 t412)) (fun _ h_ => h_.1))) hb); replace HO409 := Aa14q (Kd.R_below (by (with_reducible repeat (first | apply Kd.R_alloc | apply Kd.R_drewN | apply Kd.R_drew)); exact (Kd.R_mono (Kd.R_far (p := ⟨g414, 1, none⟩) (Kd.R_far (p := ⟨g414, 0, none⟩) (Kd.R_mono HO409.out (fun k_ hk => (⟨hk, hk.2⟩ : _ ∧ k_ ≠ g414))) (fun _ hk => hk.2) (.int .i64 t411)) (fun _ hk => hk.2) (.int .i64 t412)) (fun _ h_ => h_.1))) hb); replace BK402 := bL BK402 UL402 hb; replace BK414 := Aa14q (blk_below (g := g414) (o := .cells #[.int .i64 t411, .int .i64 t412] 25 (0, 0)) (by (with_reducible repeat (first | refine blk_drewN ?_ _ | refine blk_drew ?_ | refine blk_alloc ?_ _)); refine blk_put (cs := #[.int .i64 t411, .int .i64 0]) ?_ 1 _ rfl; (with_reducible repeat (first | refine blk_drewN ?_ _ | refine blk_drew ?_ | refine blk_alloc ?_ _)); refine blk_put (cs := #[.int .i64 0, .int .i64 0]) ?_ 0 _ rfl; (with_reducible repeat (first | refine blk_drewN ?_ _ | refine blk_drew ?_ | refine blk_alloc ?_ _)); exact BK414.out) hb); replace HB := tL HL hb; (try clear hb); (try clear hb2); (try clear hk); (try clear hi)) | ((with_reducible refine gate_dst (N := 15) rfl ?_); refine box_event ?hg (N := 15) ?hd (cs := #[.int .i64 0, .int .i64 0]) (t := 25) ?hr ?_; (case hd => rfl); (case hg => rfl); (case hr => first | (go_simp; done) | (go_simp; rfl)); intro g418 hg w28 hbox hb; have BK418 := Aa14q (hbox); have GE418 := sL HL hg; have NB402_418 := nL BK402 UL402 hg; have NB418_402 := mL BK402 UL402 hg; have NB414_418 := nL BK414 UL414 hg; have NB418_414 := mL BK414 UL414 hg; replace HO405 := Aa14q (Kd.R_below (Kd.R_elderB Za142 g418 (Nat.le_of_eq hg.symm)) hb); replace HO409 := Aa14q (Kd.R_below (Kd.R_elderB Za143 g418 (Nat.le_of_eq hg.symm)) hb); replace BK402 := bL BK402 UL402 hb; replace BK414 := bL BK414 UL414 hb; replace HB := tL HL hb; clear hb hbox hg; have hnb29 := NB418_402.out; have hnc29 := NB402_418.out; have hcz31_0 : w28.cell? ⟨g418, 0, none⟩ = some (.int .i64 0) := (blk_cell BK418.out 0).trans rfl; have hcz31_1 : w28.cell? ⟨g418, 1, none⟩ = some (.int .i64 0) := (blk_cell BK418.out 1).trans rfl; have hfz31_0 := blk_frozen BK418.out 0; have hfz31_1 := blk_frozen BK418.out 1; have hcz32_0 : w28.cell? ⟨g402, 0, none⟩ = some (.int .i64 t399) := (blk_cell BK402.out 0).trans rfl; have hcz32_1 : w28.cell? ⟨g402, 1, none⟩ = some (.int .i64 t400) := (blk_cell BK402.out 1).trans rfl; have hfz32_0 := blk_frozen BK402.out 0; have hfz32_1 := blk_frozen BK402.out 1) | ((with_reducible refine gate_callee (f := 10) rfl ?_); refine goesL_ (some 97) rfl rfl Try.func10 Za146 rfl #[.int .i64 t397, .int .i64 t398, .agg #[.int .i64 t399, .int .i64 t400], .int .i64 t401] rfl Za141 ?_; (with_reducible refine (impl_RuinWithin.calls k t397 t398 t399 t400 t401 t419 t420 t421 _ A10.out).mono ?_); rintro e w33 ⟨rfl, hb⟩; refine ⟨_, rfl, ?_⟩; replace HO405 := Aa14q (Kd.R_below (by (with_reducible repeat (first | apply Kd.R_alloc | apply Kd.R_drewN | apply Kd.R_drew)); exact (Kd.R_mono (Kd.R_far (p := ⟨g418, 1, none⟩) (Kd.R_far (p := ⟨g418, 0, none⟩) (Kd.R_mono HO405.out (fun k_ hk => (⟨hk, hk.2⟩ : _ ∧ k_ ≠ g418))) (fun _ hk => hk.2) (.int .i64 t415)) (fun _ hk => hk.2) (.int .i64 t416)) (fun _ h_ => h_.1))) hb); replace HO409 := Aa14q (Kd.R_below (by (with_reducible repeat (first | apply Kd.R_alloc | apply Kd.R_drewN | apply Kd.R_drew)); exact (Kd.R_mono (Kd.R_far (p := ⟨g418, 1, none⟩) (Kd.R_far (p := ⟨g418, 0, none⟩) (Kd.R_mono HO409.out (fun k_ hk => (⟨hk, hk.2⟩ : _ ∧ k_ ≠ g418))) (fun _ hk => hk.2) (.int .i64 t415)) (fun _ hk => hk.2) (.int .i64 t416)) (fun _ h_ => h_.1))) hb); replace BK402 := bL BK402 UL402 hb; replace BK414 := bL BK414 UL414 hb; replace BK418 := Aa14q (blk_below (g := g418) (o := .cells #[.int .i64 t415, .int .i64 t416] 25 (0, 0)) (by (with_reducible repeat (first | refine blk_drewN ?_ _ | refine blk_drew ?_ | refine blk_alloc ?_ _)); refine blk_put (cs := #[.int .i64 t415, .int .i64 0]) ?_ 1 _ rfl; (with_reducible repeat (first | refine blk_drewN ?_ _ | refine blk_drew ?_ | refine blk_alloc ?_ _)); refine blk_put (cs := #[.int .i64 0, .int .i64 0]) ?_ 0 _ rfl; (with_reducible repeat (first | refine blk_drewN ?_ _ | refine blk_drew ?_ | refine blk_alloc ?_ _)); exact BK418.out) hb); replace HB := tL HL hb; (try clear hb); (try clear hb2); (try clear hk); (try clear hi)) | ((with_reducible refine gate_dst (N := 17) rfl ?_); refine box_event ?hg (N := 17) ?hd (cs := #[.int .i64 0, .int .i64 0]) (t := 25) ?hr ?_; (case hd => rfl); (case hg => rfl); (case hr => first | (go_simp; done) | (go_simp; rfl)); intro g422 hg w34 hbox hb; have BK422 := Aa14q (hbox); have GE422 := sL HL hg; have NB402_422 := nL BK402 UL402 hg; have NB422_402 := mL BK402 UL402 hg; have NB414_422 := nL BK414 UL414 hg; have NB422_414 := mL BK414 UL414 hg; have NB418_422 := nL BK418 UL418 hg; have NB422_418 := mL BK418 UL418 hg; replace HO405 := Aa14q (Kd.R_below (Kd.R_elderB Za142 g422 (Nat.le_of_eq hg.symm)) hb); replace HO409 := Aa14q (Kd.R_below (Kd.R_elderB Za143 g422 (Nat.le_of_eq hg.symm)) hb); replace BK402 := bL BK402 UL402 hb; replace BK414 := bL BK414 UL414 hb; replace BK418 := bL BK418 UL418 hb; replace HB := tL HL hb; clear hb hbox hg; have hnb35 := NB422_402.out; have hnc35 := NB402_422.out; have hcz38_0 : w34.cell? ⟨g422, 0, none⟩ = some (.int .i64 0) := (blk_cell BK422.out 0).trans rfl; have hcz38_1 : w34.cell? ⟨g422, 1, none⟩ = some (.int .i64 0) := (blk_cell BK422.out 1).trans rfl; have hfz38_0 := blk_frozen BK422.out 0; have hfz38_1 := blk_frozen BK422.out 1; have hcz39_0 : w34.cell? ⟨g402, 0, none⟩ = some (.int .i64 t399) := (blk_cell BK402.out 0).trans rfl; have hcz39_1 : w34.cell? ⟨g402, 1, none⟩ = some (.int .i64 t400) := (blk_cell BK402.out 1).trans rfl; have hfz39_0 := blk_frozen BK402.out 0; have hfz39_1 := blk_frozen BK402.out 1) | ((with_reducible refine gate_callee (f := 11) rfl ?_); refine goesL_ (some 105) rfl rfl Try.func11 Za146 rfl #[.int .i64 t397, .int .i64 t398, .agg #[.int .i64 t399, .int .i64 t400], .int .i64 t401] rfl Za141 ?_; (with_reducible refine (spec_RuinWithin.calls k t397 t398 t399 t400 t401 t423 t424 t425 _ A11.out).mono ?_); rintro e w40 ⟨rfl, hb⟩; refine ⟨_, rfl, ?_⟩; replace HO405 := Aa14q (Kd.R_below (by (with_reducible repeat (first | apply Kd.R_alloc | apply Kd.R_drewN | apply Kd.R_drew)); exact (Kd.R_mono (Kd.R_far (p := ⟨g422, 1, none⟩) (Kd.R_far (p := ⟨g422, 0, none⟩) (Kd.R_mono HO405.out (fun k_ hk => (⟨hk, hk.2⟩ : _ ∧ k_ ≠ g422))) (fun _ hk => hk.2) (.int .i64 t419)) (fun _ hk => hk.2) (.int .i64 t420)) (fun _ h_ => h_.1))) hb); replace HO409 := Aa14q (Kd.R_below (by (with_reducible repeat (first | apply Kd.R_alloc | apply Kd.R_drewN | apply Kd.R_drew)); exact (Kd.R_mono (Kd.R_far (p := ⟨g422, 1, none⟩) (Kd.R_far (p := ⟨g422, 0, none⟩) (Kd.R_mono HO409.out (fun k_ hk => (⟨hk, hk.2⟩ : _ ∧ k_ ≠ g422))) (fun _ hk => hk.2) (.int .i64 t419)) (fun _ hk => hk.2) (.int .i64 t420)) (fun _ h_ => h_.1))) hb); replace BK402 := bL BK402 UL402 hb; replace BK414 := bL BK414 UL414 hb; replace BK418 := bL BK418 UL418 hb; replace BK422 := Aa14q (blk_below (g := g422) (o := .cells #[.int .i64 t419, .int .i64 t420] 25 (0, 0)) (by (with_reducible repeat (first | refine blk_drewN ?_ _ | refine blk_drew ?_ | refine blk_alloc ?_ _)); refine blk_put (cs := #[.int .i64 t419, .int .i64 0]) ?_ 1 _ rfl; (with_reducible repeat (first | refine blk_drewN ?_ _ | refine blk_drew ?_ | refine blk_alloc ?_ _)); refine blk_put (cs := #[.int .i64 0, .int .i64 0]) ?_ 0 _ rfl; (with_reducible repeat (first | refine blk_drewN ?_ _ | refine blk_drew ?_ | refine blk_alloc ?_ _)); exact BK422.out) hb); replace HB := tL HL hb; (try clear hb); (try clear hb2); (try clear hk); (try clear hi)) | ((with_reducible refine gate_dst (N := 19) rfl ?_); refine box_event ?hg (N := 19) ?hd (cs := #[.int .i64 0, .int .i64 0]) (t := 25) ?hr ?_; (case hd => rfl); (case hg => rfl); (case hr => first | (go_simp; done) | (go_simp; rfl)); intro g426 hg w41 hbox hb; have BK426 := Aa14q (hbox); have GE426 := sL HL hg; have NB402_426 := nL BK402 UL402 hg; have NB426_402 := mL BK402 UL402 hg; have NB414_426 := nL BK414 UL414 hg; have NB426_414 := mL BK414 UL414 hg; have NB418_426 := nL BK418 UL418 hg; have NB426_418 := mL BK418 UL418 hg; have NB422_426 := nL BK422 UL422 hg; have NB426_422 := mL BK422 UL422 hg; replace HO405 := Aa14q (Kd.R_below (Kd.R_elderB Za142 g426 (Nat.le_of_eq hg.symm)) hb); replace HO409 := Aa14q (Kd.R_below (Kd.R_elderB Za143 g426 (Nat.le_of_eq hg.symm)) hb); replace BK402 := bL BK402 UL402 hb; replace BK414 := bL BK414 UL414 hb; replace BK418 := bL BK418 UL418 hb; replace BK422 := bL BK422 UL422 hb; replace HB := tL HL hb; clear hb hbox hg; have hnb42 := NB426_402.out; have hnc42 := NB402_426.out; have hcz46_0 : w41.cell? ⟨g426, 0, none⟩ = some (.int .i64 0) := (blk_cell BK426.out 0).trans rfl; have hcz46_1 : w41.cell? ⟨g426, 1, none⟩ = some (.int .i64 0) := (blk_cell BK426.out 1).trans rfl; have hfz46_0 := blk_frozen BK426.out 0; have hfz46_1 := blk_frozen BK426.out 1; have hcz47_0 : w41.cell? ⟨g402, 0, none⟩ = some (.int .i64 t399) := (blk_cell BK402.out 0).trans rfl; have hcz47_1 : w41.cell? ⟨g402, 1, none⟩ = some (.int .i64 t400) := (blk_cell BK402.out 1).trans rfl; have hfz47_0 := blk_frozen BK402.out 0; have hfz47_1 := blk_frozen BK402.out 1) | ((with_reducible refine gate_callee (f := 12) rfl ?_); refine goesL_ (some 113) rfl rfl Try.func12 Za146 rfl #[.int .i64 t397, .int .i64 t398, .agg #[.int .i64 t399, .int .i64 t400], .int .i64 t401] rfl Za141 ?_; (with_reducible refine (impl_StillPlaying.calls k t397 t398 t399 t400 t401 t427 t428 t429 _ A12.out).mono ?_); rintro e w48 ⟨rfl, hb⟩; refine ⟨_, rfl, ?_⟩; replace HO405 := Aa14q (Kd.R_below (by (with_reducible repeat (first | apply Kd.R_alloc | apply Kd.R_drewN | apply Kd.R_drew)); exact (Kd.R_mono (Kd.R_far (p := ⟨g426, 1, none⟩) (Kd.R_far (p := ⟨g426, 0, none⟩) (Kd.R_mono HO405.out (fun k_ hk => (⟨hk, hk.2⟩ : _ ∧ k_ ≠ g426))) (fun _ hk => hk.2) (.int .i64 t423)) (fun _ hk => hk.2) (.int .i64 t424)) (fun _ h_ => h_.1))) hb); replace HO409 := Aa14q (Kd.R_below (by (with_reducible repeat (first | apply Kd.R_alloc | apply Kd.R_drewN | apply Kd.R_drew)); exact (Kd.R_mono (Kd.R_far (p := ⟨g426, 1, none⟩) (Kd.R_far (p := ⟨g426, 0, none⟩) (Kd.R_mono HO409.out (fun k_ hk => (⟨hk, hk.2⟩ : _ ∧ k_ ≠ g426))) (fun _ hk => hk.2) (.int .i64 t423)) (fun _ hk => hk.2) (.int .i64 t424)) (fun _ h_ => h_.1))) hb); replace BK402 := bL BK402 UL402 hb; replace BK414 := bL BK414 UL414 hb; replace BK418 := bL BK418 UL418 hb; replace BK422 := bL BK422 UL422 hb; replace BK426 := Aa14q (blk_below (g := g426) (o := .cells #[.int .i64 t423, .int .i64 t424] 25 (0, 0)) (by (with_reducible repeat (first | refine blk_drewN ?_ _ | refine blk_drew ?_ | refine blk_alloc ?_ _)); refine blk_put (cs := #[.int .i64 t423, .int .i64 0]) ?_ 1 _ rfl; (with_reducible repeat (first | refine blk_drewN ?_ _ | refine blk_drew ?_ | refine blk_alloc ?_ _)); refine blk_put (cs := #[.int .i64 0, .int .i64 0]) ?_ 0 _ rfl; (with_reducible repeat (first | refine blk_drewN ?_ _ | refine blk_drew ?_ | refine blk_alloc ?_ _)); exact BK426.out) hb); replace HB := tL HL hb; (try clear hb); (try clear hb2); (try clear hk); (try clear hi)) | ((with_reducible refine gate_dst (N := 21) rfl ?_); refine box_event ?hg (N := 21) ?hd (cs := #[.int .i64 0, .int .i64 0]) (t := 25) ?hr ?_; (case hd => rfl); (case hg => rfl); (case hr => first | (go_simp; done) | (go_simp; rfl)); intro g430 hg w49 hbox hb; have BK430 := Aa14q (hbox); have GE430 := sL HL hg; have NB402_430 := nL BK402 UL402 hg; have NB430_402 := mL BK402 UL402 hg; have NB414_430 := nL BK414 UL414 hg; have NB430_414 := mL BK414 UL414 hg; have NB418_430 := nL BK418 UL418 hg; have NB430_418 := mL BK418 UL418 hg; have NB422_430 := nL BK422 UL422 hg; have NB430_422 := mL BK422 UL422 hg; have NB426_430 := nL BK426 UL426 hg; have NB430_426 := mL BK426 UL426 hg; replace HO405 := Aa14q (Kd.R_below (Kd.R_elderB Za142 g430 (Nat.le_of_eq hg.symm)) hb); replace HO409 := Aa14q (Kd.R_below (Kd.R_elderB Za143 g430 (Nat.le_of_eq hg.symm)) hb); replace BK402 := bL BK402 UL402 hb; replace BK414 := bL BK414 UL414 hb; replace BK418 := bL BK418 UL418 hb; replace BK422 := bL BK422 UL422 hb; replace BK426 := bL BK426 UL426 hb; replace HB := tL HL hb; clear hb hbox hg; have hnb50 := NB430_402.out; have hnc50 := NB402_430.out; have hcz55_0 : w49.cell? ⟨g430, 0, none⟩ = some (.int .i64 0) := (blk_cell BK430.out 0).trans rfl; have hcz55_1 : w49.cell? ⟨g430, 1, none⟩ = some (.int .i64 0) := (blk_cell BK430.out 1).trans rfl; have hfz55_0 := blk_frozen BK430.out 0; have hfz55_1 := blk_frozen BK430.out 1; have hcz56_0 : w49.cell? ⟨g402, 0, none⟩ = some (.int .i64 t399) := (blk_cell BK402.out 0).trans rfl; have hcz56_1 : w49.cell? ⟨g402, 1, none⟩ = some (.int .i64 t400) := (blk_cell BK402.out 1).trans rfl; have hfz56_0 := blk_frozen BK402.out 0; have hfz56_1 := blk_frozen BK402.out 1) | ((with_reducible refine gate_callee (f := 13) rfl ?_); refine goesL_ (some 121) rfl rfl Try.func13 Za146 rfl #[.int .i64 t397, .int .i64 t398, .agg #[.int .i64 t399, .int .i64 t400], .int .i64 t401] rfl Za141 ?_; (with_reducible refine (spec_StillPlaying.calls k t397 t398 t399 t400 t401 t431 t432 t433 _ A13.out).mono ?_); rintro e w57 ⟨rfl, hb⟩; refine ⟨_, rfl, ?_⟩; replace HO405 := Aa14q (Kd.R_below (by (with_reducible repeat (first | apply Kd.R_alloc | apply Kd.R_drewN | apply Kd.R_drew)); exact (Kd.R_mono (Kd.R_far (p := ⟨g430, 1, none⟩) (Kd.R_far (p := ⟨g430, 0, none⟩) (Kd.R_mono HO405.out (fun k_ hk => (⟨hk, hk.2⟩ : _ ∧ k_ ≠ g430))) (fun _ hk => hk.2) (.int .i64 t427)) (fun _ hk => hk.2) (.int .i64 t428)) (fun _ h_ => h_.1))) hb); replace HO409 := Aa14q (Kd.R_below (by (with_reducible repeat (first | apply Kd.R_alloc | apply Kd.R_drewN | apply Kd.R_drew)); exact (Kd.R_mono (Kd.R_far (p := ⟨g430, 1, none⟩) (Kd.R_far (p := ⟨g430, 0, none⟩) (Kd.R_mono HO409.out (fun k_ hk => (⟨hk, hk.2⟩ : _ ∧ k_ ≠ g430))) (fun _ hk => hk.2) (.int .i64 t427)) (fun _ hk => hk.2) (.int .i64 t428)) (fun _ h_ => h_.1))) hb); replace BK402 := bL BK402 UL402 hb; replace BK414 := bL BK414 UL414 hb; replace BK418 := bL BK418 UL418 hb; replace BK422 := bL BK422 UL422 hb; replace BK426 := bL BK426 UL426 hb; replace BK430 := Aa14q (blk_below (g := g430) (o := .cells #[.int .i64 t427, .int .i64 t428] 25 (0, 0)) (by (with_reducible repeat (first | refine blk_drewN ?_ _ | refine blk_drew ?_ | refine blk_alloc ?_ _)); refine blk_put (cs := #[.int .i64 t427, .int .i64 0]) ?_ 1 _ rfl; (with_reducible repeat (first | refine blk_drewN ?_ _ | refine blk_drew ?_ | refine blk_alloc ?_ _)); refine blk_put (cs := #[.int .i64 0, .int .i64 0]) ?_ 0 _ rfl; (with_reducible repeat (first | refine blk_drewN ?_ _ | refine blk_drew ?_ | refine blk_alloc ?_ _)); exact BK430.out) hb); replace HB := tL HL hb; (try clear hb); (try clear hb2); (try clear hk); (try clear hi)) | ((with_reducible refine gate_dst (N := 23) rfl ?_); refine box_event ?hg (N := 23) ?hd (cs := #[.int .i64 0, .int .i64 0]) (t := 25) ?hr ?_; (case hd => rfl); (case hg => rfl); (case hr => first | (go_simp; done) | (go_simp; rfl)); intro g434 hg w58 hbox hb; have BK434 := Aa14q (hbox); have GE434 := sL HL hg; have NB402_434 := nL BK402 UL402 hg; have NB434_402 := mL BK402 UL402 hg; have NB414_434 := nL BK414 UL414 hg; have NB434_414 := mL BK414 UL414 hg; have NB418_434 := nL BK418 UL418 hg; have NB434_418 := mL BK418 UL418 hg; have NB422_434 := nL BK422 UL422 hg; have NB434_422 := mL BK422 UL422 hg; have NB426_434 := nL BK426 UL426 hg; have NB434_426 := mL BK426 UL426 hg; have NB430_434 := nL BK430 UL430 hg; have NB434_430 := mL BK430 UL430 hg; replace HO405 := Aa14q (Kd.R_below (Kd.R_elderB Za142 g434 (Nat.le_of_eq hg.symm)) hb); replace HO409 := Aa14q (Kd.R_below (Kd.R_elderB Za143 g434 (Nat.le_of_eq hg.symm)) hb); replace BK402 := bL BK402 UL402 hb; replace BK414 := bL BK414 UL414 hb; replace BK418 := bL BK418 UL418 hb; replace BK422 := bL BK422 UL422 hb; replace BK426 := bL BK426 UL426 hb; replace BK430 := bL BK430 UL430 hb; replace HB := tL HL hb; clear hb hbox hg; have hcz65_0 : w58.cell? ⟨g434, 0, none⟩ = some (.int .i64 0) := (blk_cell BK434.out 0).trans rfl; have hcz65_1 : w58.cell? ⟨g434, 1, none⟩ = some (.int .i64 0) := (blk_cell BK434.out 1).trans rfl; have hfz65_0 := blk_frozen BK434.out 0; have hfz65_1 := blk_frozen BK434.out 1))
  (try simp only [Act.put, y1a14, y2a14, y3a14])
  go_cut [177] from 1 to 0 (fun v177 wc => ∃ (kq : Nat) (x177_13 : Bool), v177 = .bool x177_13 ∧ Aside0 (laws_FnRuinInTime.j0 kq l1 t397 t398 t401 t403 t406 x177_13 t399 t400 t411 t412 t419 t420 t427 t428 = some r) ∧ Aside0 (kq ≤ k) ∧ Aside0 (Kd.R k25 25 wc w.heap.size (fun k_ => k_ ≠ g402 ∧ k_ ≠ g414 ∧ k_ ≠ g418 ∧ k_ ≠ g422 ∧ k_ ≠ g426 ∧ k_ ≠ g430 ∧ k_ ≠ g434) v404 t403) ∧ Aside0 (wc.heap[g402]? = some (.cells #[.int .i64 t399, .int .i64 t400] 25 (0, 0))) ∧ Aside0 (wc.heap[g414]? = some (.cells #[.int .i64 t411, .int .i64 t412] 25 (0, 0))) ∧ Aside0 (wc.heap[g418]? = some (.cells #[.int .i64 t415, .int .i64 t416] 25 (0, 0))) ∧ Aside0 (wc.heap[g422]? = some (.cells #[.int .i64 t419, .int .i64 t420] 25 (0, 0))) ∧ Aside0 (wc.heap[g426]? = some (.cells #[.int .i64 t423, .int .i64 t424] 25 (0, 0))) ∧ Aside0 (wc.heap[g430]? = some (.cells #[.int .i64 t427, .int .i64 t428] 25 (0, 0))) ∧ Aside0 (wc.heap[g434]? = some (.cells #[.int .i64 t431, .int .i64 t432] 25 (0, 0))) ∧ Aside0 (Below w.heap.size w wc))
  case first => as_aux_lemma =>
   have H := HC14.out
   clear HC14
   by_cases c66 : (t406 != t410) = true
   ·
    rw [if_pos c66] at H
    have c66b0 : (t406 != t410) = true := c66
    (try (have c66b1 : decide (t406 = t410) = false := by simpa using c66))
    (try (have c66b2 : (t406 == t410) = false := by simpa using c66))
    (try (have c66b3 : ¬ (t406 = t410) := by simpa using c66))
    clear c66
    (first | rw [c66b0] | (simp only [i64_w, i32_w]; rw [c66b0]) | skip)
    exact absurd H (by rw [dead_j0]; simp)
   ·
    rw [if_neg c66] at H
    have c66b0 : (t406 != t410) = false := by simpa using c66
    (try (have c66b1 : decide (t406 = t410) = true := by simpa using c66))
    (try (have c66b2 : (t406 == t410) = true := by simpa using c66))
    clear c66
    (first | rw [c66b0] | (simp only [i64_w, i32_w]; rw [c66b0]) | skip)
    replace H := Option.bind_eq_some_iff.mp H
    obtain ⟨t435, A670, H⟩ := H
    try dsimp only at H
    have A67 := Aa14q A670
    clear A670
    by_cases c68 : t435 = true
    ·
     subst c68
     rw [if_pos rfl] at H
     by_cases c69 : (t413 != t417) = true
     ·
      rw [if_pos c69] at H
      have c69b0 : (t413 != t417) = true := c69
      (try (have c69b1 : decide (t413 = t417) = false := by simpa using c69))
      (try (have c69b2 : (t413 == t417) = false := by simpa using c69))
      (try (have c69b3 : ¬ (t413 = t417) := by simpa using c69))
      clear c69
      exact absurd H (by rw [dead_j0]; simp)
     ·
      rw [if_neg c69] at H
      have c69b0 : (t413 != t417) = false := by simpa using c69
      (try (have c69b1 : decide (t413 = t417) = true := by simpa using c69))
      (try (have c69b2 : (t413 == t417) = true := by simpa using c69))
      clear c69
      by_cases c72 : (!(t411 == t415) || (!(t412 == t416))) = true
      ·
       rw [if_pos c72] at H
       have c72b0 : (!(t411 == t415) || (!(t412 == t416))) = true := c72
       clear c72
       exact absurd H (by rw [dead_j0]; simp)
      ·
       rw [if_neg c72] at H
       have c72b0 : (!(t411 == t415) || (!(t412 == t416))) = false := by simpa using c72
       clear c72
       by_cases c88 : (t421 != t425) = true
       ·
        rw [if_pos c88] at H
        have c88b0 : (t421 != t425) = true := c88
        (try (have c88b1 : decide (t421 = t425) = false := by simpa using c88))
        (try (have c88b2 : (t421 == t425) = false := by simpa using c88))
        (try (have c88b3 : ¬ (t421 = t425) := by simpa using c88))
        clear c88
        exact absurd H (by rw [dead_j0]; simp)
       ·
        rw [if_neg c88] at H
        have c88b0 : (t421 != t425) = false := by simpa using c88
        (try (have c88b1 : decide (t421 = t425) = true := by simpa using c88))
        (try (have c88b2 : (t421 == t425) = true := by simpa using c88))
        clear c88
        by_cases c104 : (!(t419 == t423) || (!(t420 == t424))) = true
        ·
         rw [if_pos c104] at H
         have c104b0 : (!(t419 == t423) || (!(t420 == t424))) = true := c104
         clear c104
         exact absurd H (by rw [dead_j0]; simp)
        ·
         rw [if_neg c104] at H
         have c104b0 : (!(t419 == t423) || (!(t420 == t424))) = false := by simpa using c104
         clear c104
         by_cases c129 : (t429 != t433) = true
         ·
          rw [if_pos c129] at H
          have c129b0 : (t429 != t433) = true := c129
          (try (have c129b1 : decide (t429 = t433) = false := by simpa using c129))
          (try (have c129b2 : (t429 == t433) = false := by simpa using c129))
          (try (have c129b3 : ¬ (t429 = t433) := by simpa using c129))
          clear c129
          exact absurd H (by rw [dead_j0]; simp)
         ·
          rw [if_neg c129] at H
          have c129b0 : (t429 != t433) = false := by simpa using c129
          (try (have c129b1 : decide (t429 = t433) = true := by simpa using c129))
          (try (have c129b2 : (t429 == t433) = true := by simpa using c129))
          clear c129
          by_cases c154 : (!(t427 == t431) || (!(t428 == t432))) = true
          ·
           rw [if_pos c154] at H
           have c154b0 : (!(t427 == t431) || (!(t428 == t432))) = true := c154
           clear c154
           exact absurd H (by rw [dead_j0]; simp)
          ·
           rw [if_neg c154] at H
           have c154b0 : (!(t427 == t431) || (!(t428 == t432))) = false := by simpa using c154
           clear c154
           by_cases c184 : (t413 != t406) = true
           ·
            rw [if_pos c184] at H
            have c184b0 : (t413 != t406) = true := c184
            (try (have c184b1 : decide (t413 = t406) = false := by simpa using c184))
            (try (have c184b2 : (t413 == t406) = false := by simpa using c184))
            (try (have c184b3 : ¬ (t413 = t406) := by simpa using c184))
            clear c184
            exact absurd H (by rw [dead_j0]; simp)
           ·
            rw [if_neg c184] at H
            have c184b0 : (t413 != t406) = false := by simpa using c184
            (try (have c184b1 : decide (t413 = t406) = true := by simpa using c184))
            (try (have c184b2 : (t413 == t406) = true := by simpa using c184))
            clear c184
            by_cases c214 : (t421 != t406) = true
            ·
             rw [if_pos c214] at H
             have c214b0 : (t421 != t406) = true := c214
             (try (have c214b1 : decide (t421 = t406) = false := by simpa using c214))
             (try (have c214b2 : (t421 == t406) = false := by simpa using c214))
             (try (have c214b3 : ¬ (t421 = t406) := by simpa using c214))
             clear c214
             exact absurd H (by rw [dead_j0]; simp)
            ·
             rw [if_neg c214] at H
             have c214b0 : (t421 != t406) = false := by simpa using c214
             (try (have c214b1 : decide (t421 = t406) = true := by simpa using c214))
             (try (have c214b2 : (t421 == t406) = true := by simpa using c214))
             clear c214
             have H' := Aa14q H
             clear H
             obtain ⟨Ao244, co244, eo244⟩ := Kd.R_slice HO405.out
             subst eo244
             obtain ⟨Ao245, co245, eo245⟩ := Kd.R_slice HO409.out
             subst eo245
             as_aux_lemma =>
              go_wp2_with (first | (go_at_call 14; (with_reducible refine (laws_yRatios.calls k _ _ t403 _ _ t407 true _ ?side1 ?side2 ?side3 ?side4 A67.out).mono ?_); (case side1 => refine (Kd.R_reads' (e := 25) (base := w.heap.size) (ok := fun k_ => ((((((((True ∧ k_ ≠ g402) ∧ some k_ ≠ (.slice Ao245 t407.length co245 : Value).ownBlock) ∧ k_ ≠ g414) ∧ k_ ≠ g418) ∧ k_ ≠ g422) ∧ k_ ≠ g426) ∧ k_ ≠ g430) ∧ k_ ≠ g434)) (n := t403.length) (c := co244) ?_).2.2; exact (by (with_reducible repeat (first | apply Kd.R_alloc | apply Kd.R_drewN | apply Kd.R_drew)); exact (Kd.R_mono (Kd.R_far (p := ⟨g434, 1, none⟩) (Kd.R_far (p := ⟨g434, 0, none⟩) (Kd.R_mono HO405.out (fun k_ hk => (⟨hk, hk.2⟩ : _ ∧ k_ ≠ g434))) (fun _ hk => hk.2) (.int .i64 t431)) (fun _ hk => hk.2) (.int .i64 t432)) (fun _ h_ => h_.1)))); (case side2 => exact (Kd.R_reads' HO405.out).2.1); (case side3 => refine (Kd.R_reads' (e := 25) (base := w.heap.size) (ok := fun k_ => ((((((((True ∧ some k_ ≠ (.slice Ao244 t403.length co244 : Value).ownBlock) ∧ k_ ≠ g402) ∧ k_ ≠ g414) ∧ k_ ≠ g418) ∧ k_ ≠ g422) ∧ k_ ≠ g426) ∧ k_ ≠ g430) ∧ k_ ≠ g434)) (n := t407.length) (c := co245) ?_).2.2; exact (by (with_reducible repeat (first | apply Kd.R_alloc | apply Kd.R_drewN | apply Kd.R_drew)); exact (Kd.R_mono (Kd.R_far (p := ⟨g434, 1, none⟩) (Kd.R_far (p := ⟨g434, 0, none⟩) (Kd.R_mono HO409.out (fun k_ hk => (⟨hk, hk.2⟩ : _ ∧ k_ ≠ g434))) (fun _ hk => hk.2) (.int .i64 t431)) (fun _ hk => hk.2) (.int .i64 t432)) (fun _ h_ => h_.1)))); (case side4 => exact (Kd.R_reads' HO409.out).2.1); rintro e w' ⟨rfl, ⟨nd, rfl⟩⟩; have hnb247 := NB414_418.out; have hnc247 := NB418_414.out; have hnb248 := NB414_422.out; have hnc248 := NB422_414.out; have hnb249 := NB414_426.out; have hnc249 := NB426_414.out; have hnb250 := NB414_430.out; have hnc250 := NB430_414.out; have hnb251 := NB414_434.out; have hnc251 := NB434_414.out; have hcz252_0 : w58.cell? ⟨g414, 0, none⟩ = some (.int .i64 t411) := (blk_cell BK414.out 0).trans rfl; have hcz252_1 : w58.cell? ⟨g414, 1, none⟩ = some (.int .i64 t412) := (blk_cell BK414.out 1).trans rfl; have hfz252_0 := blk_frozen BK414.out 0; have hfz252_1 := blk_frozen BK414.out 1; have hnb254 := NB418_422.out; have hnc254 := NB422_418.out; have hnb255 := NB418_426.out; have hnc255 := NB426_418.out; have hnb256 := NB418_430.out; have hnc256 := NB430_418.out; have hnb257 := NB418_434.out; have hnc257 := NB434_418.out; have hcz258_0 : w58.cell? ⟨g418, 0, none⟩ = some (.int .i64 t415) := (blk_cell BK418.out 0).trans rfl; have hcz258_1 : w58.cell? ⟨g418, 1, none⟩ = some (.int .i64 t416) := (blk_cell BK418.out 1).trans rfl; have hfz258_0 := blk_frozen BK418.out 0; have hfz258_1 := blk_frozen BK418.out 1; have hnb260 := NB422_426.out; have hnc260 := NB426_422.out; have hnb261 := NB422_430.out; have hnc261 := NB430_422.out; have hnb262 := NB422_434.out; have hnc262 := NB434_422.out; have hcz263_0 : w58.cell? ⟨g422, 0, none⟩ = some (.int .i64 t419) := (blk_cell BK422.out 0).trans rfl; have hcz263_1 : w58.cell? ⟨g422, 1, none⟩ = some (.int .i64 t420) := (blk_cell BK422.out 1).trans rfl; have hfz263_0 := blk_frozen BK422.out 0; have hfz263_1 := blk_frozen BK422.out 1; have hnb265 := NB426_430.out; have hnc265 := NB430_426.out; have hnb266 := NB426_434.out; have hnc266 := NB434_426.out; have hcz267_0 : w58.cell? ⟨g426, 0, none⟩ = some (.int .i64 t423) := (blk_cell BK426.out 0).trans rfl; have hcz267_1 : w58.cell? ⟨g426, 1, none⟩ = some (.int .i64 t424) := (blk_cell BK426.out 1).trans rfl; have hfz267_0 := blk_frozen BK426.out 0; have hfz267_1 := blk_frozen BK426.out 1; have hnb269 := NB430_434.out; have hnc269 := NB434_430.out; have hcz270_0 : w58.cell? ⟨g430, 0, none⟩ = some (.int .i64 t427) := (blk_cell BK430.out 0).trans rfl; have hcz270_1 : w58.cell? ⟨g430, 1, none⟩ = some (.int .i64 t428) := (blk_cell BK430.out 1).trans rfl; have hfz270_0 := blk_frozen BK430.out 0; have hfz270_1 := blk_frozen BK430.out 1; have hcz272_0 : w58.cell? ⟨g434, 0, none⟩ = some (.int .i64 0) := (blk_cell BK434.out 0).trans rfl; have hcz272_1 : w58.cell? ⟨g434, 1, none⟩ = some (.int .i64 0) := (blk_cell BK434.out 1).trans rfl; have hfz272_0 := blk_frozen BK434.out 0; have hfz272_1 := blk_frozen BK434.out 1))
              go_meet
              case rel => exact ⟨_, ((t429 != t406)), Za145, H', ⟨by first | omega | exact Nat.le_refl _⟩, ⟨by (with_reducible repeat (first | apply Kd.R_alloc | apply Kd.R_drewN | apply Kd.R_drew)); exact Kd.R_mono (Kd.R_far (p := ⟨g434, 1, none⟩) (Kd.R_far (p := ⟨g434, 0, none⟩) (Kd.R_mono HO405.out (fun k_ hk => (⟨hk, hk.2⟩ : _ ∧ k_ ≠ g434))) (fun _ hk => hk.2) (.int .i64 t431)) (fun _ hk => hk.2) (.int .i64 t432)) (fun _ hk => ⟨hk.1.1.1.1.1.1.1.1.2, ⟨hk.1.1.1.1.1.1.2, ⟨hk.1.1.1.1.1.2, ⟨hk.1.1.1.1.2, ⟨hk.1.1.1.2, ⟨hk.1.1.2, hk.1.2⟩⟩⟩⟩⟩⟩)⟩, ⟨UL402⟩, ⟨UL414⟩, ⟨UL418⟩, ⟨UL422⟩, ⟨UL426⟩, ⟨UL430⟩, ⟨by (with_reducible repeat (first | refine blk_drewN ?_ _ | refine blk_drew ?_ | refine blk_alloc ?_ _)); refine blk_put (cs := #[.int .i64 t431, .int .i64 0]) ?_ 1 _ rfl; (with_reducible repeat (first | refine blk_drewN ?_ _ | refine blk_drew ?_ | refine blk_alloc ?_ _)); refine blk_put (cs := #[.int .i64 0, .int .i64 0]) ?_ 0 _ rfl; (with_reducible repeat (first | refine blk_drewN ?_ _ | refine blk_drew ?_ | refine blk_alloc ?_ _)); exact BK434.out⟩, ⟨HL⟩⟩
    ·
     replace c68 := Bool.eq_false_iff.mpr c68
     subst c68
     rw [if_neg Bool.false_ne_true] at H
     exact absurd H (by rw [dead_j0]; simp)
  case rest => as_aux_lemma =>
   clear HC14
   obtain ⟨kq, x177_13, rfl, HA, HJ13, HO_9, BK402, BK414, BK418, BK422, BK426, BK430, BK434, HB⟩ := hcut
   cases kq with
   | zero => exact absurd HA.out (by simp [laws_FnRuinInTime.j0])
   | succ kj13 =>
    have H := HA.out
    clear HA
    simp only [laws_FnRuinInTime.j0] at H
    by_cases c275 : x177_13 = true
    ·
     subst c275
     rw [if_pos rfl] at H
     exact absurd H (by simp)
    ·
     replace c275 := Bool.eq_false_iff.mpr c275
     subst c275
     rw [if_neg Bool.false_ne_true] at H
     have HC276 := Aa14q H
     clear H
     go_upto_if 178 with (fail)
     go_cut [] from 1 to 0 (fun wc => ∃ (kq : Nat), Aside0 (laws_FnRuinInTime.j8 kq l1 = some r) ∧ Aside0 (kq ≤ kj13) ∧ Aside0 (wc.heap[g402]? = some (.cells #[.int .i64 t399, .int .i64 t400] 25 (0, 0))) ∧ Aside0 (wc.heap[g414]? = some (.cells #[.int .i64 t411, .int .i64 t412] 25 (0, 0))) ∧ Aside0 (wc.heap[g418]? = some (.cells #[.int .i64 t415, .int .i64 t416] 25 (0, 0))) ∧ Aside0 (wc.heap[g422]? = some (.cells #[.int .i64 t419, .int .i64 t420] 25 (0, 0))) ∧ Aside0 (wc.heap[g426]? = some (.cells #[.int .i64 t423, .int .i64 t424] 25 (0, 0))) ∧ Aside0 (wc.heap[g430]? = some (.cells #[.int .i64 t427, .int .i64 t428] 25 (0, 0))) ∧ Aside0 (wc.heap[g434]? = some (.cells #[.int .i64 t431, .int .i64 t432] 25 (0, 0))) ∧ Aside0 (Below w.heap.size w wc))
     case first => as_aux_lemma =>
      have H := HC276.out
      clear HC276
      by_cases c277 : t406 = true
      ·
       subst c277
       rw [if_pos rfl] at H
       replace H := Option.bind_eq_some_iff.mp H
       obtain ⟨t436, A2780, H⟩ := H
       replace H : (laws_FnRuinInTime.l0 kj13 l1 t397 t398 t401 t403 t436 0 0 t403 (t403.length : Int) 0 t399 t400 t411 t412 t419 t420 t427 t428) = some r := H
       have A278 := Aa14q A2780
       clear A2780
       have H' := Aa14q H
       clear H
       have hcz285_0 : wc.cell? ⟨g402, 0, none⟩ = some (.int .i64 t399) := (blk_cell BK402.out 0).trans rfl
       have hcz285_1 : wc.cell? ⟨g402, 1, none⟩ = some (.int .i64 t400) := (blk_cell BK402.out 1).trans rfl
       have hfz285_0 := blk_frozen BK402.out 0
       have hfz285_1 := blk_frozen BK402.out 1
       go_wp2_with (first | ((with_reducible refine gate_callee (f := 15) rfl ?_); refine goesL_ (some 182) rfl rfl Try.func15 Za146 rfl #[.int .i64 t400, .int .i64 t401] rfl Za141 ?_; (with_reducible refine (laws_yPower.calls kj13 t400 t401 t436 _ A278.out).mono ?_); rintro e w' ⟨rfl, ⟨nd, rfl⟩⟩; refine ⟨_, rfl, ?_⟩; obtain ⟨Ao286, co286, eo286⟩ := Kd.R_slice HO_9.out; subst eo286))
       go_loopg [26, 27, 185] kj13 (fun kq v26 v27 v185 w' => ∃ (x26_2 : Int) (x27_2 : Int) (x185_2 : Int), v26 = .int .i64 x26_2 ∧ v27 = .int .i64 x27_2 ∧ v185 = .int .i64 x185_2 ∧ Aside0 (laws_FnRuinInTime.l0 kq l1 t397 t398 t401 t403 t436 x26_2 x27_2 t403 (t403.length : Int) x185_2 t399 t400 t411 t412 t419 t420 t427 t428 = some r) ∧ Aside0 (kq ≤ kj13) ∧ Aside0 (Kd.R k25 25 w' w.heap.size (fun k_ => k_ ≠ g402 ∧ k_ ≠ g414 ∧ k_ ≠ g418 ∧ k_ ≠ g422 ∧ k_ ≠ g426 ∧ k_ ≠ g430 ∧ k_ ≠ g434) (.slice Ao286 t403.length co286) t403) ∧ Aside0 (Kd.R k25 25 w' w.heap.size (fun k_ => k_ ≠ g402 ∧ k_ ≠ g414 ∧ k_ ≠ g418 ∧ k_ ≠ g422 ∧ k_ ≠ g426 ∧ k_ ≠ g430 ∧ k_ ≠ g434) (.slice Ao286 t403.length co286) t403) ∧ Aside0 (w'.heap[g402]? = some (.cells #[.int .i64 t399, .int .i64 t400] 25 (0, 0))) ∧ Aside0 (w'.heap[g414]? = some (.cells #[.int .i64 t411, .int .i64 t412] 25 (0, 0))) ∧ Aside0 (w'.heap[g418]? = some (.cells #[.int .i64 t415, .int .i64 t416] 25 (0, 0))) ∧ Aside0 (w'.heap[g422]? = some (.cells #[.int .i64 t419, .int .i64 t420] 25 (0, 0))) ∧ Aside0 (w'.heap[g426]? = some (.cells #[.int .i64 t423, .int .i64 t424] 25 (0, 0))) ∧ Aside0 (w'.heap[g430]? = some (.cells #[.int .i64 t427, .int .i64 t428] 25 (0, 0))) ∧ Aside0 (w'.heap[g434]? = some (.cells #[.int .i64 t431, .int .i64 t432] 25 (0, 0))) ∧ Aside0 (Below w.heap.size w w'))
       case atStart => exact ⟨(0), (0), (0), Za145, Za145, Za145, H', ⟨Nat.le_refl _⟩, ⟨by (with_reducible repeat (first | apply Kd.R_alloc | apply Kd.R_drewN | apply Kd.R_drew)); exact HO_9.out⟩, ⟨by (with_reducible repeat (first | apply Kd.R_alloc | apply Kd.R_drewN | apply Kd.R_drew)); exact HO_9.out⟩, ⟨UL402⟩, ⟨UL414⟩, ⟨UL418⟩, ⟨UL422⟩, ⟨UL426⟩, ⟨UL430⟩, ⟨UL434⟩, ⟨HL⟩⟩
       case round =>
        clear H'
        obtain ⟨x26_2, x27_2, x185_2, rfl, rfl, rfl, HA, HK2, HO_9, HO_183, BK402, BK414, BK418, BK422, BK426, BK430, BK434, HB⟩ := hrel
        cases gk with
        | zero => exact absurd HA.out (by simp [laws_FnRuinInTime.l0])
        | succ k2 =>
         have H := HA.out
         clear HA
         simp only [laws_FnRuinInTime.l0] at H
         by_cases c287 : x185_2 < (t403.length : Int)
         ·
          rw [if_pos c287] at H
          have c287b0 : decide (x185_2 < (t403.length : Int)) = true := decide_eq_true c287
          clear c287
          (first | rw [c287b0] | (simp only [i64_w, i32_w]; rw [c287b0]) | skip)
          by_cases c288 : 0 ≤ x185_2
          ·
           rw [if_pos c288] at H
           have c288b0 : decide (0 ≤ x185_2) = true := decide_eq_true c288
           clear c288
           by_cases c289 : x185_2 < (t403.length : Int)
           ·
            rw [if_pos c289] at H
            have c289b0 : decide (x185_2 < (t403.length : Int)) = true := decide_eq_true c289
            clear c289
            replace H := Option.bind_eq_some_iff.mp H
            obtain ⟨t439, A2900, H⟩ := H
            try dsimp only at H
            have A290 := Aa14q A2900
            clear A2900
            by_cases c291 : t439 < 0
            ·
             rw [if_pos c291] at H
             exact absurd H (by simp)
            ·
             rw [if_neg c291] at H
             have c291b0 : decide (t439 < 0) = false := decide_eq_false c291
             clear c291
             have HC292 := Aa14q H
             clear H
             have p437 : 0 ≤ (x185_2 : Int) := of_decide_eq_true (by first | (with_reducible assumption) | assumption)
             have q437 : x185_2 < (t403.length : Int) := of_decide_eq_true (by first | (with_reducible assumption) | assumption)
             obtain ⟨ad437, e437, hx437_0, hx437_1⟩ := at_T25 (Kd.R_reads' HO_183.out).2.2 x185_2 p437 q437
             cases e437
             replace p437 := eq_true p437
             replace q437 := eq_true q437
             go_upto_region 24 with (first | ((with_reducible refine gate_dst (N := 29) rfl ?_); refine box_event ?hg (N := 29) ?hd (cs := #[.int .i64 0, .int .i64 0]) (t := 25) ?hr ?_; (case hd => rfl); (case hg => rfl); (case hr => first | (go_simp; done) | (go_simp; rfl)); intro g438 hg w293 hbox hb; have BK438 := Aa14q (hbox); have GE438 := sL HL hg; have NB402_438 := nL BK402 UL402 hg; have NB438_402 := mL BK402 UL402 hg; have NB414_438 := nL BK414 UL414 hg; have NB438_414 := mL BK414 UL414 hg; have NB418_438 := nL BK418 UL418 hg; have NB438_418 := mL BK418 UL418 hg; have NB422_438 := nL BK422 UL422 hg; have NB438_422 := mL BK422 UL422 hg; have NB426_438 := nL BK426 UL426 hg; have NB438_426 := mL BK426 UL426 hg; have NB430_438 := nL BK430 UL430 hg; have NB438_430 := mL BK430 UL430 hg; have NB434_438 := nL BK434 UL434 hg; have NB438_434 := mL BK434 UL434 hg; replace HO_9 := Aa14q (Kd.R_below (Kd.R_elderB Za144 g438 (Nat.le_of_eq hg.symm)) hb); replace HO_183 := Aa14q (Kd.R_below (Kd.R_elderB (by (with_reducible repeat (first | apply Kd.R_alloc | apply Kd.R_drewN | apply Kd.R_drew)); exact HO_183.out) g438 (Nat.le_of_eq hg.symm)) hb); replace BK402 := bL BK402 UL402 hb; replace BK414 := bL BK414 UL414 hb; replace BK418 := bL BK418 UL418 hb; replace BK422 := bL BK422 UL422 hb; replace BK426 := bL BK426 UL426 hb; replace BK430 := bL BK430 UL430 hb; replace BK434 := bL BK434 UL434 hb; replace HB := tL HL hb; clear hb hbox hg; have hcz301_0 : w293.cell? ⟨g438, 0, none⟩ = some (.int .i64 0) := (blk_cell BK438.out 0).trans rfl; have hcz301_1 : w293.cell? ⟨g438, 1, none⟩ = some (.int .i64 0) := (blk_cell BK438.out 1).trans rfl; have hfz301_0 := blk_frozen BK438.out 0; have hfz301_1 := blk_frozen BK438.out 1) | ((with_reducible refine gate_callee (f := 16) rfl ?_); refine goesL_ (some 192) rfl rfl Try.func16 Za146 rfl #[.agg #[.int .i64 ((rd_T25 t403 x185_2).f0), .int .i64 ((rd_T25 t403 x185_2).f1)], .int .i64 t436] rfl Za141 ?_; (with_reducible refine (laws_yTimes.calls ((rd_T25 t403 x185_2).f0) ((rd_T25 t403 x185_2).f1) t436 t439 _ A290.out).mono ?_); rintro e w302 ⟨rfl, hb⟩; refine ⟨_, rfl, ?_⟩; replace HO_9 := Aa14q (Kd.R_below (by (with_reducible repeat (first | apply Kd.R_alloc | apply Kd.R_drewN | apply Kd.R_drew)); exact (Kd.R_mono (Kd.R_far (p := ⟨g438, 1, none⟩) (Kd.R_far (p := ⟨g438, 0, none⟩) (Kd.R_mono HO_9.out (fun k_ hk => (⟨hk, hk.2⟩ : _ ∧ k_ ≠ g438))) (fun _ hk => hk.2) (.int .i64 ((rd_T25 t403 x185_2).f0))) (fun _ hk => hk.2) (.int .i64 ((rd_T25 t403 x185_2).f1))) (fun _ h_ => h_.1))) hb); replace HO_183 := Aa14q (Kd.R_below (by (with_reducible repeat (first | apply Kd.R_alloc | apply Kd.R_drewN | apply Kd.R_drew)); exact (Kd.R_mono (Kd.R_far (p := ⟨g438, 1, none⟩) (Kd.R_far (p := ⟨g438, 0, none⟩) (Kd.R_mono HO_183.out (fun k_ hk => (⟨hk, hk.2⟩ : _ ∧ k_ ≠ g438))) (fun _ hk => hk.2) (.int .i64 ((rd_T25 t403 x185_2).f0))) (fun _ hk => hk.2) (.int .i64 ((rd_T25 t403 x185_2).f1))) (fun _ h_ => h_.1))) hb); replace BK402 := bL BK402 UL402 hb; replace BK414 := bL BK414 UL414 hb; replace BK418 := bL BK418 UL418 hb; replace BK422 := bL BK422 UL422 hb; replace BK426 := bL BK426 UL426 hb; replace BK430 := bL BK430 UL430 hb; replace BK434 := bL BK434 UL434 hb; replace BK438 := Aa14q (blk_below (g := g438) (o := .cells #[.int .i64 ((rd_T25 t403 x185_2).f0), .int .i64 ((rd_T25 t403 x185_2).f1)] 25 (0, 0)) (by (with_reducible repeat (first | refine blk_drewN ?_ _ | refine blk_drew ?_ | refine blk_alloc ?_ _)); refine blk_put (cs := #[.int .i64 ((rd_T25 t403 x185_2).f0), .int .i64 0]) ?_ 1 _ rfl; (with_reducible repeat (first | refine blk_drewN ?_ _ | refine blk_drew ?_ | refine blk_alloc ?_ _)); refine blk_put (cs := #[.int .i64 0, .int .i64 0]) ?_ 0 _ rfl; (with_reducible repeat (first | refine blk_drewN ?_ _ | refine blk_drew ?_ | refine blk_alloc ?_ _)); exact BK438.out) hb); replace HB := tL HL hb; (try clear hb); (try clear hb2); (try clear hk); (try clear hi)))
             (try simp only [Act.put, y1a14, y2a14, y3a14])
             go_cut [204] from 1 to 0 (fun v204 wc => ∃ (kq : Nat) (x204_291 : Bool), v204 = .bool x204_291 ∧ Aside0 (laws_FnRuinInTime.j2 kq l1 t397 t398 t401 t403 t436 (wrap64 (x26_2 + t439)) x27_2 x185_2 t439 t403 (t403.length : Int) x185_2 x204_291 t399 t400 t411 t412 t419 t420 t427 t428 = some r) ∧ Aside0 (kq ≤ k2) ∧ Aside0 (Kd.R k25 25 wc w.heap.size (fun k_ => k_ ≠ g402 ∧ k_ ≠ g414 ∧ k_ ≠ g418 ∧ k_ ≠ g422 ∧ k_ ≠ g426 ∧ k_ ≠ g430 ∧ k_ ≠ g434 ∧ k_ ≠ g438) (.slice (some ad437) t403.length co286) t403) ∧ Aside0 (Kd.R k25 25 wc w.heap.size (fun k_ => k_ ≠ g402 ∧ k_ ≠ g414 ∧ k_ ≠ g418 ∧ k_ ≠ g422 ∧ k_ ≠ g426 ∧ k_ ≠ g430 ∧ k_ ≠ g434 ∧ k_ ≠ g438) (.slice (some ad437) t403.length co286) t403) ∧ Aside0 (wc.heap[g402]? = some (.cells #[.int .i64 t399, .int .i64 t400] 25 (0, 0))) ∧ Aside0 (wc.heap[g414]? = some (.cells #[.int .i64 t411, .int .i64 t412] 25 (0, 0))) ∧ Aside0 (wc.heap[g418]? = some (.cells #[.int .i64 t415, .int .i64 t416] 25 (0, 0))) ∧ Aside0 (wc.heap[g422]? = some (.cells #[.int .i64 t419, .int .i64 t420] 25 (0, 0))) ∧ Aside0 (wc.heap[g426]? = some (.cells #[.int .i64 t423, .int .i64 t424] 25 (0, 0))) ∧ Aside0 (wc.heap[g430]? = some (.cells #[.int .i64 t427, .int .i64 t428] 25 (0, 0))) ∧ Aside0 (wc.heap[g434]? = some (.cells #[.int .i64 t431, .int .i64 t432] 25 (0, 0))) ∧ Aside0 (wc.heap[g438]? = some (.cells #[.int .i64 ((rd_T25 t403 x185_2).f0), .int .i64 ((rd_T25 t403 x185_2).f1)] 25 (0, 0))) ∧ Aside0 (Below w.heap.size w wc))
             case first => as_aux_lemma =>
              have H := HC292.out
              clear HC292
              by_cases c303 : x185_2 > 0
              ·
               rw [if_pos c303] at H
               have c303b0 : decide (0 < x185_2) = true := decide_eq_true c303
               clear c303
               (first | rw [c303b0] | (simp only [i64_w, i32_w]; rw [c303b0]) | skip)
               have H' := Aa14q H
               clear H
               as_aux_lemma =>
                go_wp2
                go_meet
                case rel => exact ⟨_, (decide (x185_2 < t398)), Za145, H', ⟨by have := HJ13.out; have := HK2.out; first | omega | exact Nat.le_refl _⟩, ⟨by (with_reducible repeat (first | apply Kd.R_alloc | apply Kd.R_drewN | apply Kd.R_drew)); exact Kd.R_mono HO_9.out (fun _ hk => ⟨hk.1.1, ⟨hk.1.2.1, ⟨hk.1.2.2.1, ⟨hk.1.2.2.2.1, ⟨hk.1.2.2.2.2.1, ⟨hk.1.2.2.2.2.2.1, ⟨hk.1.2.2.2.2.2.2, hk.2⟩⟩⟩⟩⟩⟩⟩)⟩, ⟨by (with_reducible repeat (first | apply Kd.R_alloc | apply Kd.R_drewN | apply Kd.R_drew)); exact Kd.R_mono HO_183.out (fun _ hk => ⟨hk.1.1, ⟨hk.1.2.1, ⟨hk.1.2.2.1, ⟨hk.1.2.2.2.1, ⟨hk.1.2.2.2.2.1, ⟨hk.1.2.2.2.2.2.1, ⟨hk.1.2.2.2.2.2.2, hk.2⟩⟩⟩⟩⟩⟩⟩)⟩, ⟨UL402⟩, ⟨UL414⟩, ⟨UL418⟩, ⟨UL422⟩, ⟨UL426⟩, ⟨UL430⟩, ⟨UL434⟩, ⟨UL438⟩, ⟨HL⟩⟩
              ·
               rw [if_neg c303] at H
               have c303b0 : decide (0 < x185_2) = false := decide_eq_false c303
               clear c303
               (first | rw [c303b0] | (simp only [i64_w, i32_w]; rw [c303b0]) | skip)
               have H' := Aa14q H
               clear H
               as_aux_lemma =>
                go_wp2
                go_meet
                case rel => exact ⟨_, (false), Za145, H', ⟨by have := HJ13.out; have := HK2.out; first | omega | exact Nat.le_refl _⟩, ⟨by (with_reducible repeat (first | apply Kd.R_alloc | apply Kd.R_drewN | apply Kd.R_drew)); exact Kd.R_mono HO_9.out (fun _ hk => ⟨hk.1.1, ⟨hk.1.2.1, ⟨hk.1.2.2.1, ⟨hk.1.2.2.2.1, ⟨hk.1.2.2.2.2.1, ⟨hk.1.2.2.2.2.2.1, ⟨hk.1.2.2.2.2.2.2, hk.2⟩⟩⟩⟩⟩⟩⟩)⟩, ⟨by (with_reducible repeat (first | apply Kd.R_alloc | apply Kd.R_drewN | apply Kd.R_drew)); exact Kd.R_mono HO_183.out (fun _ hk => ⟨hk.1.1, ⟨hk.1.2.1, ⟨hk.1.2.2.1, ⟨hk.1.2.2.2.1, ⟨hk.1.2.2.2.2.1, ⟨hk.1.2.2.2.2.2.1, ⟨hk.1.2.2.2.2.2.2, hk.2⟩⟩⟩⟩⟩⟩⟩)⟩, ⟨UL402⟩, ⟨UL414⟩, ⟨UL418⟩, ⟨UL422⟩, ⟨UL426⟩, ⟨UL430⟩, ⟨UL434⟩, ⟨UL438⟩, ⟨HL⟩⟩
             case rest => as_aux_lemma =>
              clear HC292
              obtain ⟨kq, x204_291, rfl, HA, HJ291, HO_9, HO_183, BK402, BK414, BK418, BK422, BK426, BK430, BK434, BK438, HB⟩ := hcut
              cases kq with
              | zero => exact absurd HA.out (by simp [laws_FnRuinInTime.j2])
              | succ kj291 =>
               have H := HA.out
               clear HA
               simp only [laws_FnRuinInTime.j2] at H
               by_cases c304 : x204_291 = true
               ·
                subst c304
                rw [if_pos rfl] at H
                by_cases c305 : t439 > 0
                ·
                 rw [if_pos c305] at H
                 have c305b0 : decide (0 < t439) = true := decide_eq_true c305
                 clear c305
                 by_cases c306 : (Int.tmod (wrap64 ((wrap64 (x185_2 - t397)) - t401)) 2) = 0
                 ·
                  rw [if_pos c306] at H
                  have c306b0 : ((Int.tmod (wrap64 ((wrap64 (x185_2 - t397)) - t401)) 2) == 0) = true := beq_iff_eq.mpr c306
                  have c306b1 : ((Int.tmod (wrap64 ((wrap64 (x185_2 - t397)) - t401)) 2) != 0) = false := bne_eq_false_iff_eq.mpr c306
                  clear c306
                  have H' := Aa14q H
                  clear H
                  go_wp2
                  go_roundg kj291
                  case measure => have := HJ13.out; have := HK2.out; have := HJ291.out; omega
                  case rel => exact ⟨((wrap64 (x26_2 + t439))), (wrap64 (x27_2 + t439)), (wrap64 (x185_2 + 1)), Za145, Za145, Za145, H', ⟨by have := HJ13.out; have := HK2.out; have := HJ291.out; omega⟩, ⟨by (with_reducible repeat (first | apply Kd.R_alloc | apply Kd.R_drewN | apply Kd.R_drew)); exact Kd.R_mono HO_9.out (fun _ hk => ⟨hk.1, ⟨hk.2.1, ⟨hk.2.2.1, ⟨hk.2.2.2.1, ⟨hk.2.2.2.2.1, ⟨hk.2.2.2.2.2.1, hk.2.2.2.2.2.2.1⟩⟩⟩⟩⟩⟩)⟩, ⟨by (with_reducible repeat (first | apply Kd.R_alloc | apply Kd.R_drewN | apply Kd.R_drew)); exact Kd.R_mono HO_183.out (fun _ hk => ⟨hk.1, ⟨hk.2.1, ⟨hk.2.2.1, ⟨hk.2.2.2.1, ⟨hk.2.2.2.2.1, ⟨hk.2.2.2.2.2.1, hk.2.2.2.2.2.2.1⟩⟩⟩⟩⟩⟩)⟩, ⟨UL402⟩, ⟨UL414⟩, ⟨UL418⟩, ⟨UL422⟩, ⟨UL426⟩, ⟨UL430⟩, ⟨UL434⟩, ⟨HL⟩⟩
                 ·
                  rw [if_neg c306] at H
                  exact absurd H (by simp)
                ·
                 rw [if_neg c305] at H
                 have c305b0 : decide (0 < t439) = false := decide_eq_false c305
                 clear c305
                 have H' := Aa14q H
                 clear H
                 go_wp2
                 go_roundg kj291
                 case measure => have := HJ13.out; have := HK2.out; have := HJ291.out; omega
                 case rel => exact ⟨((wrap64 (x26_2 + t439))), (wrap64 (x27_2 + t439)), (wrap64 (x185_2 + 1)), Za145, Za145, Za145, H', ⟨by have := HJ13.out; have := HK2.out; have := HJ291.out; omega⟩, ⟨by (with_reducible repeat (first | apply Kd.R_alloc | apply Kd.R_drewN | apply Kd.R_drew)); exact Kd.R_mono HO_9.out (fun _ hk => ⟨hk.1, ⟨hk.2.1, ⟨hk.2.2.1, ⟨hk.2.2.2.1, ⟨hk.2.2.2.2.1, ⟨hk.2.2.2.2.2.1, hk.2.2.2.2.2.2.1⟩⟩⟩⟩⟩⟩)⟩, ⟨by (with_reducible repeat (first | apply Kd.R_alloc | apply Kd.R_drewN | apply Kd.R_drew)); exact Kd.R_mono HO_183.out (fun _ hk => ⟨hk.1, ⟨hk.2.1, ⟨hk.2.2.1, ⟨hk.2.2.2.1, ⟨hk.2.2.2.2.1, ⟨hk.2.2.2.2.2.1, hk.2.2.2.2.2.2.1⟩⟩⟩⟩⟩⟩)⟩, ⟨UL402⟩, ⟨UL414⟩, ⟨UL418⟩, ⟨UL422⟩, ⟨UL426⟩, ⟨UL430⟩, ⟨UL434⟩, ⟨HL⟩⟩
               ·
                replace c304 := Bool.eq_false_iff.mpr c304
                subst c304
                rw [if_neg Bool.false_ne_true] at H
                have H' := Aa14q H
                clear H
                go_wp2
                go_roundg kj291
                case measure => have := HJ13.out; have := HK2.out; have := HJ291.out; omega
                case rel => exact ⟨((wrap64 (x26_2 + t439))), (x27_2), (wrap64 (x185_2 + 1)), Za145, Za145, Za145, H', ⟨by have := HJ13.out; have := HK2.out; have := HJ291.out; omega⟩, ⟨by (with_reducible repeat (first | apply Kd.R_alloc | apply Kd.R_drewN | apply Kd.R_drew)); exact Kd.R_mono HO_9.out (fun _ hk => ⟨hk.1, ⟨hk.2.1, ⟨hk.2.2.1, ⟨hk.2.2.2.1, ⟨hk.2.2.2.2.1, ⟨hk.2.2.2.2.2.1, hk.2.2.2.2.2.2.1⟩⟩⟩⟩⟩⟩)⟩, ⟨by (with_reducible repeat (first | apply Kd.R_alloc | apply Kd.R_drewN | apply Kd.R_drew)); exact Kd.R_mono HO_183.out (fun _ hk => ⟨hk.1, ⟨hk.2.1, ⟨hk.2.2.1, ⟨hk.2.2.2.1, ⟨hk.2.2.2.2.1, ⟨hk.2.2.2.2.2.1, hk.2.2.2.2.2.2.1⟩⟩⟩⟩⟩⟩)⟩, ⟨UL402⟩, ⟨UL414⟩, ⟨UL418⟩, ⟨UL422⟩, ⟨UL426⟩, ⟨UL430⟩, ⟨UL434⟩, ⟨HL⟩⟩
           ·
            rw [if_neg c289] at H
            exact absurd H (by simp)
          ·
           rw [if_neg c288] at H
           exact absurd H (by simp)
         ·
          rw [if_neg c287] at H
          have c287b0 : decide (x185_2 < (t403.length : Int)) = false := decide_eq_false c287
          clear c287
          (first | rw [c287b0] | (simp only [i64_w, i32_w]; rw [c287b0]) | skip)
          have HC307 := Aa14q H
          clear H
          go_upto_region 29 with (fail)
          go_cut [251] from 1 to 0 (fun v251 wc => ∃ (kq : Nat) (x251_306 : Bool), v251 = .bool x251_306 ∧ Aside0 (laws_FnRuinInTime.j3 kq l1 t397 t398 t401 t403 t436 x251_306 t399 t400 t411 t412 t419 t420 = some r) ∧ Aside0 (kq ≤ k2) ∧ Aside0 (Kd.R k25 25 wc w.heap.size (fun k_ => k_ ≠ g402 ∧ k_ ≠ g414 ∧ k_ ≠ g418 ∧ k_ ≠ g422 ∧ k_ ≠ g426 ∧ k_ ≠ g430 ∧ k_ ≠ g434) (.slice Ao286 t403.length co286) t403) ∧ Aside0 (wc.heap[g402]? = some (.cells #[.int .i64 t399, .int .i64 t400] 25 (0, 0))) ∧ Aside0 (wc.heap[g414]? = some (.cells #[.int .i64 t411, .int .i64 t412] 25 (0, 0))) ∧ Aside0 (wc.heap[g418]? = some (.cells #[.int .i64 t415, .int .i64 t416] 25 (0, 0))) ∧ Aside0 (wc.heap[g422]? = some (.cells #[.int .i64 t419, .int .i64 t420] 25 (0, 0))) ∧ Aside0 (wc.heap[g426]? = some (.cells #[.int .i64 t423, .int .i64 t424] 25 (0, 0))) ∧ Aside0 (wc.heap[g430]? = some (.cells #[.int .i64 t427, .int .i64 t428] 25 (0, 0))) ∧ Aside0 (wc.heap[g434]? = some (.cells #[.int .i64 t431, .int .i64 t432] 25 (0, 0))) ∧ Aside0 (Below w.heap.size w wc))
          case first => as_aux_lemma =>
           have H := HC307.out
           clear HC307
           by_cases c308 : (t403.length : Int) = (wrap64 (t398 + 1))
           ·
            rw [if_pos c308] at H
            have c308b0 : ((t403.length : Int) == (wrap64 (t398 + 1))) = true := beq_iff_eq.mpr c308
            have c308b1 : ((t403.length : Int) != (wrap64 (t398 + 1))) = false := bne_eq_false_iff_eq.mpr c308
            clear c308
            (first | rw [c308b0] | (simp only [i64_w, i32_w]; rw [c308b0]) | skip)
            by_cases c309 : x26_2 = t436
            ·
             rw [if_pos c309] at H
             have c309b0 : (x26_2 == t436) = true := beq_iff_eq.mpr c309
             have c309b1 : (x26_2 != t436) = false := bne_eq_false_iff_eq.mpr c309
             clear c309
             by_cases c310 : 0 < (t403.length : Int)
             ·
              rw [if_pos c310] at H
              have c310b0 : decide (0 < (t403.length : Int)) = true := decide_eq_true c310
              have c310b1 : decide (0 < t403.length) = true := decide_eq_true (by omega)
              clear c310
              by_cases c311 : (!(((rd_T25 t403 0).f0) == t419) || (!(((rd_T25 t403 0).f1) == t420))) = true
              ·
               rw [if_pos c311] at H
               have c311b0 : (!(((rd_T25 t403 0).f0) == t419) || (!(((rd_T25 t403 0).f1) == t420))) = true := c311
               clear c311
               exact absurd H (by rw [dead_j3]; simp)
              ·
               rw [if_neg c311] at H
               have c311b0 : (!(((rd_T25 t403 0).f0) == t419) || (!(((rd_T25 t403 0).f1) == t420))) = false := by simpa using c311
               clear c311
               by_cases c313 : 0 ≤ t398
               ·
                rw [if_pos c313] at H
                have c313b0 : decide (0 ≤ t398) = true := decide_eq_true c313
                clear c313
                by_cases c314 : t398 < (t403.length : Int)
                ·
                 rw [if_pos c314] at H
                 have c314b0 : decide (t398 < (t403.length : Int)) = true := decide_eq_true c314
                 clear c314
                 by_cases c315 : (!(((rd_T25 t403 t398).f0) == t411) || (!(((rd_T25 t403 t398).f1) == t412))) = true
                 ·
                  rw [if_pos c315] at H
                  have c315b0 : (!(((rd_T25 t403 t398).f0) == t411) || (!(((rd_T25 t403 t398).f1) == t412))) = true := c315
                  clear c315
                  exact absurd H (by rw [dead_j3]; simp)
                 ·
                  rw [if_neg c315] at H
                  have c315b0 : (!(((rd_T25 t403 t398).f0) == t411) || (!(((rd_T25 t403 t398).f1) == t412))) = false := by simpa using c315
                  clear c315
                  replace H := Option.bind_eq_some_iff.mp H
                  obtain ⟨t442, A3170, H⟩ := H
                  replace H : (laws_FnRuinInTime.j3 k2 l1 t397 t398 t401 t403 t436 (t442 != x27_2) t399 t400 t411 t412 t419 t420) = some r := H
                  have A317 := Aa14q A3170
                  clear A3170
                  have H' := Aa14q H
                  clear H
                  try go_wp2
                  replace HO_9 := Aa14q (Kd.R_drew HO_9.out)
                  replace HO_183 := Aa14q (Kd.R_drew HO_183.out)
                  replace BK402 := Aa14q (blk_drew BK402.out)
                  replace BK414 := Aa14q (blk_drew BK414.out)
                  replace BK418 := Aa14q (blk_drew BK418.out)
                  replace BK422 := Aa14q (blk_drew BK422.out)
                  replace BK426 := Aa14q (blk_drew BK426.out)
                  replace BK430 := Aa14q (blk_drew BK430.out)
                  replace BK434 := Aa14q (blk_drew BK434.out)
                  replace HB := Aa14q (below_drew1 HB.out)
                  have p440 : 0 ≤ (0 : Int) := (by omega)
                  have q440 : 0 < (t403.length : Int) := of_decide_eq_true (by first | (with_reducible assumption) | assumption)
                  obtain ⟨ad440, e440, hx440_0, hx440_1⟩ := at_T25 (Kd.R_reads' HO_9.out).2.2 0 p440 q440
                  cases e440
                  have qi440 : (0 < t403.length) = True := eq_true (by omega)
                  (try rw [show ((0 : Int)).toNat = 0 from rfl] at hx440_0)
                  (try rw [show 0 * 2 = 0 from rfl] at hx440_0)
                  (try rw [Addr.add_zero'] at hx440_0)
                  (try rw [show ((0 : Int)).toNat = 0 from rfl] at hx440_1)
                  (try rw [show 0 * 2 = 0 from rfl] at hx440_1)
                  (try rw [Addr.add_zero'] at hx440_1)
                  replace p440 := eq_true p440
                  replace q440 := eq_true q440
                  have p441 : 0 ≤ (t398 : Int) := of_decide_eq_true (by first | (with_reducible assumption) | assumption)
                  have q441 : t398 < (t403.length : Int) := of_decide_eq_true (by first | (with_reducible assumption) | assumption)
                  obtain ⟨ad441, e441, hx441_0, hx441_1⟩ := at_T25 (Kd.R_reads' HO_9.out).2.2 t398 p441 q441
                  obtain rfl : ad440 = ad441 := (by injection e441)
                  replace p441 := eq_true p441
                  replace q441 := eq_true q441
                  refine start_ (n := 32) (S := fun w' => w'.cell? ⟨g422, 0, none⟩ = some (.int .i64 t419) ∧ w'.cell? ⟨g422, 1, none⟩ = some (.int .i64 t420) ∧ w'.cell? ⟨g414, 0, none⟩ = some (.int .i64 t411) ∧ w'.cell? ⟨g414, 1, none⟩ = some (.int .i64 t412) ∧ w'.cell? ⟨g430, 0, none⟩ = some (.int .i64 t427) ∧ w'.cell? ⟨g430, 1, none⟩ = some (.int .i64 t428) ∧ w'.cell? ad440 = some (.int .i64 ((rd_T25 t403 0).f0)) ∧ w'.cell? ⟨ad440.block, ad440.off + 1, none⟩ = some (.int .i64 ((rd_T25 t403 0).f1)) ∧ w'.cell? (ad440.add ((t398).toNat * 2)) = some (.int .i64 ((rd_T25 t403 t398).f0)) ∧ w'.cell? ⟨(ad440.add ((t398).toNat * 2)).block, (ad440.add ((t398).toNat * 2)).off + 1, none⟩ = some (.int .i64 ((rd_T25 t403 t398).f1))) (ds := []) #[false, false, false, false, false, false, false, false, false, false, false, false, false, false, false, false, false, false, false, false, false, false, false, false, false, false, false, false, false, false, false, false] Za146 rfl rfl ⟨(blk_cell BK422.out 0).trans rfl, (blk_cell BK422.out 1).trans rfl, (blk_cell BK414.out 0).trans rfl, (blk_cell BK414.out 1).trans rfl, (blk_cell BK430.out 0).trans rfl, (blk_cell BK430.out 1).trans rfl, hx440_0, hx440_1, hx441_0, hx441_1⟩ (fun hHeld => ?_); refine with_tabW laws_FnRuinInTime.tab29 laws_FnRuinInTime.bits29 (fun HT_ HW_ => ?_)
                  generalize wr.drew = w318 at HO_9 HO_183 BK402 BK414 BK418 BK422 BK426 BK430 BK434 HB hx440_0 hx440_1 hx441_0 hx441_1 hHeld ⊢
                  refine pure_ (i := 0) (N := some 220) (v := ?_) (a' := ?_) #[true, false, false, false, false, false, false, false, false, false, false, false, false, false, false, false, false, false, false, false, false, false, false, false, false, false, false, false, false, false, false, false] rfl rfl (any_of HT_.out Za146) (fun _ _ _ h => h) (Or.inl ⟨by rfl, ?_⟩) ?_ ?_
                  rotate_left
                  ·
                   intro w'
                   go_simp
                   with_reducible rfl
                  rotate_left
                  ·
                   simp only [Act.put, y1a14, y2a14, y3a14, i64_w, i32_w]
                   rfl
                  refine pure_ (i := 1) (N := some 221) (v := ?_) (a' := ?_) #[true, true, false, false, false, false, false, false, false, false, false, false, false, false, false, false, false, false, false, false, false, false, false, false, false, false, false, false, false, false, false, false] rfl rfl (any_of HT_.out Za146) (fun _ _ _ h => h) (Or.inl ⟨by rfl, ?_⟩) ?_ ?_
                  rotate_left
                  ·
                   intro w'
                   go_simp
                   with_reducible rfl
                  rotate_left
                  ·
                   simp only [Act.put, y1a14, y2a14, y3a14, i64_w, i32_w]
                   rfl
                  refine pure_ (i := 2) (N := some 222) (v := ?_) (a' := ?_) #[true, true, true, false, false, false, false, false, false, false, false, false, false, false, false, false, false, false, false, false, false, false, false, false, false, false, false, false, false, false, false, false] rfl rfl (any_of HT_.out Za146) (fun _ _ _ h => h) (Or.inl ⟨by rfl, ?_⟩) ?_ ?_
                  rotate_left
                  ·
                   intro w'
                   go_simp
                   with_reducible rfl
                  rotate_left
                  ·
                   simp only [Act.put, y1a14, y2a14, y3a14, i64_w, i32_w]
                   rfl
                  refine pure_ (i := 3) (N := some 223) (v := ?_) (a' := ?_) #[true, true, true, true, false, false, false, false, false, false, false, false, false, false, false, false, false, false, false, false, false, false, false, false, false, false, false, false, false, false, false, false] rfl rfl (any_of HT_.out Za146) (fun _ _ _ h => h) (Or.inl ⟨by rfl, ?_⟩) ?_ ?_
                  rotate_left
                  ·
                   intro w'
                   go_simp
                   with_reducible rfl
                  rotate_left
                  ·
                   simp only [Act.put, y1a14, y2a14, y3a14, i64_w, i32_w]
                   rfl
                  refine pure_ (i := 4) (N := some 224) (v := ?_) (a' := ?_) #[true, true, true, true, true, false, false, false, false, false, false, false, false, false, false, false, false, false, false, false, false, false, false, false, false, false, false, false, false, false, false, false] rfl rfl (any_of HT_.out Za146) (fun _ _ _ h => h) (Or.inl ⟨by rfl, ?_⟩) ?_ ?_
                  rotate_left
                  ·
                   intro w'
                   go_simp
                   with_reducible rfl
                  rotate_left
                  ·
                   simp only [Act.put, y1a14, y2a14, y3a14, i64_w, i32_w]
                   rfl
                  refine pure_ (i := 5) (N := some 225) (v := ?_) (a' := ?_) #[true, true, true, true, true, true, false, false, false, false, false, false, false, false, false, false, false, false, false, false, false, false, false, false, false, false, false, false, false, false, false, false] rfl rfl (any_of HT_.out Za146) (fun _ _ _ h => h) (Or.inl ⟨by rfl, ?_⟩) ?_ ?_
                  rotate_left
                  ·
                   intro w'
                   go_simp
                   with_reducible rfl
                  rotate_left
                  ·
                   simp only [Act.put, y1a14, y2a14, y3a14, i64_w, i32_w]
                   rfl
                  refine pure_ (i := 6) (N := some 226) (v := ?_) (a' := ?_) #[true, true, true, true, true, true, true, false, false, false, false, false, false, false, false, false, false, false, false, false, false, false, false, false, false, false, false, false, false, false, false, false] rfl rfl (any_of HT_.out Za146) (fun _ _ _ h => h) (Or.inl ⟨by rfl, ?_⟩) ?_ ?_
                  rotate_left
                  ·
                   intro w'
                   go_simp
                   with_reducible rfl
                  rotate_left
                  ·
                   simp only [Act.put, y1a14, y2a14, y3a14, i64_w, i32_w]
                   rfl
                  refine pure_ (i := 7) (N := some 227) (v := ?_) (a' := ?_) #[true, true, true, true, true, true, true, true, false, false, false, false, false, false, false, false, false, false, false, false, false, false, false, false, false, false, false, false, false, false, false, false] rfl rfl (any_of HT_.out Za146) (fun _ _ _ h => h) (Or.inl ⟨by rfl, ?_⟩) ?_ ?_
                  rotate_left
                  ·
                   intro w'
                   go_simp
                   with_reducible rfl
                  rotate_left
                  ·
                   simp only [Act.put, y1a14, y2a14, y3a14, i64_w, i32_w]
                   rfl
                  refine pure_ (i := 8) (N := some 228) (v := ?_) (a' := ?_) #[true, true, true, true, true, true, true, true, true, false, false, false, false, false, false, false, false, false, false, false, false, false, false, false, false, false, false, false, false, false, false, false] rfl rfl (any_of HT_.out Za146) (fun _ _ _ h => h) (Or.inl ⟨by rfl, ?_⟩) ?_ ?_
                  rotate_left
                  ·
                   intro w'
                   go_simp
                   with_reducible rfl
                  rotate_left
                  ·
                   simp only [Act.put, y1a14, y2a14, y3a14, i64_w, i32_w]
                   rfl
                  refine pure_ (i := 9) (N := some 229) (v := ?_) (a' := ?_) #[true, true, true, true, true, true, true, true, true, true, false, false, false, false, false, false, false, false, false, false, false, false, false, false, false, false, false, false, false, false, false, false] rfl rfl (any_of HT_.out Za146) (fun _ _ _ h => h) (Or.inl ⟨by rfl, ?_⟩) ?_ ?_
                  rotate_left
                  ·
                   intro w'
                   go_simp
                   with_reducible rfl
                  rotate_left
                  ·
                   simp only [Act.put, y1a14, y2a14, y3a14, i64_w, i32_w]
                   rfl
                  refine pure_ (i := 10) (N := some 230) (v := ?_) (a' := ?_) #[true, true, true, true, true, true, true, true, true, true, true, false, false, false, false, false, false, false, false, false, false, false, false, false, false, false, false, false, false, false, false, false] rfl rfl (any_of HT_.out Za146) (fun _ _ _ h => h) (Or.inl ⟨by rfl, ?_⟩) ?_ ?_
                  rotate_left
                  ·
                   intro w'
                   go_simp
                   with_reducible rfl
                  rotate_left
                  ·
                   simp only [Act.put, y1a14, y2a14, y3a14, i64_w, i32_w]
                   rfl
                  refine pure_ (i := 11) (N := some 231) (v := ?_) (a' := ?_) #[true, true, true, true, true, true, true, true, true, true, true, true, false, false, false, false, false, false, false, false, false, false, false, false, false, false, false, false, false, false, false, false] rfl rfl (any_of HT_.out Za146) (fun _ _ _ h => h) (Or.inl ⟨by rfl, ?_⟩) ?_ ?_
                  rotate_left
                  ·
                   intro w'
                   go_simp
                   with_reducible rfl
                  rotate_left
                  ·
                   simp only [Act.put, y1a14, y2a14, y3a14, i64_w, i32_w]
                   rfl
                  refine pure_ (i := 12) (N := some 232) (v := ?_) (a' := ?_) #[true, true, true, true, true, true, true, true, true, true, true, true, true, false, false, false, false, false, false, false, false, false, false, false, false, false, false, false, false, false, false, false] rfl rfl (any_of HT_.out Za146) (fun _ _ _ h => h) (Or.inl ⟨by rfl, ?_⟩) ?_ ?_
                  rotate_left
                  ·
                   intro w'
                   go_simp
                   with_reducible rfl
                  rotate_left
                  ·
                   simp only [Act.put, y1a14, y2a14, y3a14, i64_w, i32_w]
                   rfl
                  refine take_ (i := 13) (N := some 233) (v := ?_) (a' := ?_) #[true, true, true, true, true, true, true, true, true, true, true, true, true, true, false, false, false, false, false, false, false, false, false, false, false, false, false, false, false, false, false, false] rfl rfl (take_ofW HT_.out HW_.out Za146) (fun _ _ _ h => h) (Or.inl ⟨by rfl, ?_⟩) hHeld ?_ ?_
                  rotate_left
                  ·
                   rintro w' ⟨s0, s1, s2, s3, s4, s5, s6, s7, s8, s9⟩
                   go_simp
                   with_reducible rfl
                  rotate_left
                  ·
                   simp only [Act.put, y1a14, y2a14, y3a14, i64_w, i32_w]
                   rfl
                  refine take_ (i := 14) (N := some 234) (v := ?_) (a' := ?_) #[true, true, true, true, true, true, true, true, true, true, true, true, true, true, true, false, false, false, false, false, false, false, false, false, false, false, false, false, false, false, false, false] rfl rfl (take_ofW HT_.out HW_.out Za146) (fun _ _ _ h => h) (Or.inl ⟨by rfl, ?_⟩) hHeld ?_ ?_
                  rotate_left
                  ·
                   rintro w' ⟨s0, s1, s2, s3, s4, s5, s6, s7, s8, s9⟩
                   go_simp
                   with_reducible rfl
                  rotate_left
                  ·
                   simp only [Act.put, y1a14, y2a14, y3a14, i64_w, i32_w]
                   rfl
                  refine pure_ (i := 15) (N := some 235) (v := ?_) (a' := ?_) #[true, true, true, true, true, true, true, true, true, true, true, true, true, true, true, true, false, false, false, false, false, false, false, false, false, false, false, false, false, false, false, false] rfl rfl (any_of HT_.out Za146) (fun _ _ _ h => h) (Or.inl ⟨by rfl, ?_⟩) ?_ ?_
                  rotate_left
                  ·
                   intro w'
                   go_simp
                   with_reducible rfl
                  rotate_left
                  ·
                   simp only [Act.put, y1a14, y2a14, y3a14, i64_w, i32_w]
                   rfl
                  refine pure_ (i := 16) (N := some 236) (v := ?_) (a' := ?_) #[true, true, true, true, true, true, true, true, true, true, true, true, true, true, true, true, true, false, false, false, false, false, false, false, false, false, false, false, false, false, false, false] rfl rfl (any_of HT_.out Za146) (fun _ _ _ h => h) (Or.inl ⟨by rfl, ?_⟩) ?_ ?_
                  rotate_left
                  ·
                   intro w'
                   go_simp
                   with_reducible rfl
                  rotate_left
                  ·
                   simp only [Act.put, y1a14, y2a14, y3a14, i64_w, i32_w]
                   rfl
                  refine pure_ (i := 17) (N := some 237) (v := ?_) (a' := ?_) #[true, true, true, true, true, true, true, true, true, true, true, true, true, true, true, true, true, true, false, false, false, false, false, false, false, false, false, false, false, false, false, false] rfl rfl (any_of HT_.out Za146) (fun _ _ _ h => h) (Or.inl ⟨by rfl, ?_⟩) ?_ ?_
                  rotate_left
                  ·
                   intro w'
                   go_simp
                   with_reducible rfl
                  rotate_left
                  ·
                   simp only [Act.put, y1a14, y2a14, y3a14, i64_w, i32_w]
                   rfl
                  refine pure_ (i := 18) (N := some 238) (v := ?_) (a' := ?_) #[true, true, true, true, true, true, true, true, true, true, true, true, true, true, true, true, true, true, true, false, false, false, false, false, false, false, false, false, false, false, false, false] rfl rfl (any_of HT_.out Za146) (fun _ _ _ h => h) (Or.inl ⟨by rfl, ?_⟩) ?_ ?_
                  rotate_left
                  ·
                   intro w'
                   go_simp
                   with_reducible rfl
                  rotate_left
                  ·
                   simp only [Act.put, y1a14, y2a14, y3a14, i64_w, i32_w]
                   rfl
                  refine pure_ (i := 19) (N := some 239) (v := ?_) (a' := ?_) #[true, true, true, true, true, true, true, true, true, true, true, true, true, true, true, true, true, true, true, true, false, false, false, false, false, false, false, false, false, false, false, false] rfl rfl (any_of HT_.out Za146) (fun _ _ _ h => h) (Or.inl ⟨by rfl, ?_⟩) ?_ ?_
                  rotate_left
                  ·
                   intro w'
                   go_simp
                   with_reducible rfl
                  rotate_left
                  ·
                   simp only [Act.put, y1a14, y2a14, y3a14, i64_w, i32_w]
                   rfl
                  refine pure_ (i := 20) (N := some 240) (v := ?_) (a' := ?_) #[true, true, true, true, true, true, true, true, true, true, true, true, true, true, true, true, true, true, true, true, true, false, false, false, false, false, false, false, false, false, false, false] rfl rfl (any_of HT_.out Za146) (fun _ _ _ h => h) (Or.inl ⟨by rfl, ?_⟩) ?_ ?_
                  rotate_left
                  ·
                   intro w'
                   go_simp
                   with_reducible rfl
                  rotate_left
                  ·
                   simp only [Act.put, y1a14, y2a14, y3a14, i64_w, i32_w]
                   rfl
                  refine take_ (i := 21) (N := some 241) (v := ?_) (a' := ?_) #[true, true, true, true, true, true, true, true, true, true, true, true, true, true, true, true, true, true, true, true, true, true, false, false, false, false, false, false, false, false, false, false] rfl rfl (take_ofW HT_.out HW_.out Za146) (fun _ _ _ h => h) (Or.inl ⟨by rfl, ?_⟩) hHeld ?_ ?_
                  rotate_left
                  ·
                   rintro w' ⟨s0, s1, s2, s3, s4, s5, s6, s7, s8, s9⟩
                   go_simp
                   with_reducible rfl
                  rotate_left
                  ·
                   simp only [Act.put, y1a14, y2a14, y3a14, i64_w, i32_w]
                   rfl
                  refine take_ (i := 22) (N := some 242) (v := ?_) (a' := ?_) #[true, true, true, true, true, true, true, true, true, true, true, true, true, true, true, true, true, true, true, true, true, true, true, false, false, false, false, false, false, false, false, false] rfl rfl (take_ofW HT_.out HW_.out Za146) (fun _ _ _ h => h) (Or.inl ⟨by rfl, ?_⟩) hHeld ?_ ?_
                  rotate_left
                  ·
                   rintro w' ⟨s0, s1, s2, s3, s4, s5, s6, s7, s8, s9⟩
                   go_simp
                   with_reducible rfl
                  rotate_left
                  ·
                   simp only [Act.put, y1a14, y2a14, y3a14, i64_w, i32_w]
                   rfl
                  refine pure_ (i := 23) (N := some 243) (v := ?_) (a' := ?_) #[true, true, true, true, true, true, true, true, true, true, true, true, true, true, true, true, true, true, true, true, true, true, true, true, false, false, false, false, false, false, false, false] rfl rfl (any_of HT_.out Za146) (fun _ _ _ h => h) (Or.inl ⟨by rfl, ?_⟩) ?_ ?_
                  rotate_left
                  ·
                   intro w'
                   go_simp
                   with_reducible rfl
                  rotate_left
                  ·
                   simp only [Act.put, y1a14, y2a14, y3a14, i64_w, i32_w]
                   rfl
                  refine pure_ (i := 24) (N := some 244) (v := ?_) (a' := ?_) #[true, true, true, true, true, true, true, true, true, true, true, true, true, true, true, true, true, true, true, true, true, true, true, true, true, false, false, false, false, false, false, false] rfl rfl (any_of HT_.out Za146) (fun _ _ _ h => h) (Or.inl ⟨by rfl, ?_⟩) ?_ ?_
                  rotate_left
                  ·
                   intro w'
                   go_simp
                   with_reducible rfl
                  rotate_left
                  ·
                   simp only [Act.put, y1a14, y2a14, y3a14, i64_w, i32_w]
                   rfl
                  refine pure_ (i := 25) (N := some 245) (v := ?_) (a' := ?_) #[true, true, true, true, true, true, true, true, true, true, true, true, true, true, true, true, true, true, true, true, true, true, true, true, true, true, false, false, false, false, false, false] rfl rfl (any_of HT_.out Za146) (fun _ _ _ h => h) (Or.inl ⟨by rfl, ?_⟩) ?_ ?_
                  rotate_left
                  ·
                   intro w'
                   go_simp
                   with_reducible rfl
                  rotate_left
                  ·
                   simp only [Act.put, y1a14, y2a14, y3a14, i64_w, i32_w]
                   rfl
                  refine pure_ (i := 27) (N := some 247) (v := ?_) (a' := ?_) #[true, true, true, true, true, true, true, true, true, true, true, true, true, true, true, true, true, true, true, true, true, true, true, true, true, true, false, true, false, false, false, false] rfl rfl (any_of HT_.out Za146) (fun _ _ _ h => h) (Or.inl ⟨by rfl, ?_⟩) ?_ ?_
                  rotate_left
                  ·
                   intro w'
                   go_simp
                   with_reducible rfl
                  rotate_left
                  ·
                   simp only [Act.put, y1a14, y2a14, y3a14, i64_w, i32_w]
                   rfl
                  refine pure_ (i := 29) (N := some 249) (v := ?_) (a' := ?_) #[true, true, true, true, true, true, true, true, true, true, true, true, true, true, true, true, true, true, true, true, true, true, true, true, true, true, false, true, false, true, false, false] rfl rfl (any_of HT_.out Za146) (fun _ _ _ h => h) (Or.inl ⟨by rfl, ?_⟩) ?_ ?_
                  rotate_left
                  ·
                   intro w'
                   go_simp
                   with_reducible rfl
                  rotate_left
                  ·
                   simp only [Act.put, y1a14, y2a14, y3a14, i64_w, i32_w]
                   rfl
                  refine take_ (i := 26) (N := some 246) (v := ?_) (a' := ?_) #[true, true, true, true, true, true, true, true, true, true, true, true, true, true, true, true, true, true, true, true, true, true, true, true, true, true, true, true, false, true, false, false] rfl rfl (take_ofW HT_.out HW_.out Za146) (fun _ _ _ h => h) (Or.inl ⟨by rfl, ?_⟩) hHeld ?_ ?_
                  rotate_left
                  ·
                   rintro w' ⟨s0, s1, s2, s3, s4, s5, s6, s7, s8, s9⟩
                   go_simp
                   with_reducible rfl
                  rotate_left
                  ·
                   simp only [Act.put, y1a14, y2a14, y3a14, i64_w, i32_w]
                   rfl
                  refine one_ (i := 28) (N := some 248) #[true, true, true, true, true, true, true, true, true, true, true, true, true, true, true, true, true, true, true, true, true, true, true, true, true, true, true, true, true, true, false, false] rfl rfl (one_of HT_.out Za146) (by decide) (fun K hK => ?_)
                  refine goes_ Try.func16 Za146 rfl #[.agg #[.int .i64 t427, .int .i64 t428], .int .i64 t436] (by rfl) rfl rfl Za141 ?_
                  with_reducible refine (laws_yTimes.calls t427 t428 t436 t442 _ A317.out).mono ?_
                  rintro e w319 ⟨rfl, hb⟩
                  have HS6_ := (hb.cell (World.block_lt_of_cell? _ _ (hHeld.2.2.2.2.2.2.1))).trans (hHeld.2.2.2.2.2.2.1)
                  have HS7_ := (hb.cell (World.block_lt_of_cell? _ _ (hHeld.2.2.2.2.2.2.2.1))).trans (hHeld.2.2.2.2.2.2.2.1)
                  have HS8_ := (hb.cell (World.block_lt_of_cell? _ _ (hHeld.2.2.2.2.2.2.2.2.1))).trans (hHeld.2.2.2.2.2.2.2.2.1)
                  have HS9_ := (hb.cell (World.block_lt_of_cell? _ _ (hHeld.2.2.2.2.2.2.2.2.2))).trans (hHeld.2.2.2.2.2.2.2.2.2)
                  refine ⟨_, rfl, ?_⟩
                  replace HO_9 := Aa14q (Kd.R_below Za144 hb)
                  replace HO_183 := Aa14q (Kd.R_below (by (with_reducible repeat (first | apply Kd.R_alloc | apply Kd.R_drewN | apply Kd.R_drew)); exact HO_183.out) hb)
                  replace BK402 := bL BK402 UL402 hb
                  replace BK414 := bL BK414 UL414 hb
                  replace BK418 := bL BK418 UL418 hb
                  replace BK422 := bL BK422 UL422 hb
                  replace BK426 := bL BK426 UL426 hb
                  replace BK430 := bL BK430 UL430 hb
                  replace BK434 := bL BK434 UL434 hb
                  replace HB := tL HL hb
                  (try clear hb)
                  (try clear hb2)
                  (try clear hk)
                  (try clear hi)
                  refine hK.out _ _ ⟨(blk_cell BK422.out 0).trans rfl, (blk_cell BK422.out 1).trans rfl, (blk_cell BK414.out 0).trans rfl, (blk_cell BK414.out 1).trans rfl, (blk_cell BK430.out 0).trans rfl, (blk_cell BK430.out 1).trans rfl, HS6_, HS7_, HS8_, HS9_⟩ (fun hHeld => ?_)
                  clear hK K
                  refine norm_ (a' := ?_) ?_ ?_
                  rotate_left
                  ·
                   show Act.put _ (some 248) _ = _
                   simp only [Act.put, y1a14, y2a14, y3a14, i64_w, i32_w]
                   rfl
                  refine pure_ (i := 30) (N := some 250) (v := ?_) (a' := ?_) #[true, true, true, true, true, true, true, true, true, true, true, true, true, true, true, true, true, true, true, true, true, true, true, true, true, true, true, true, true, true, true, false] rfl rfl (any_of HT_.out Za146) (fun _ _ _ h => h) (Or.inl ⟨by rfl, ?_⟩) ?_ ?_
                  rotate_left
                  ·
                   intro w'
                   go_simp
                   with_reducible rfl
                  rotate_left
                  ·
                   simp only [Act.put, y1a14, y2a14, y3a14, i64_w, i32_w]
                   rfl
                  refine pure_ (i := 31) (N := some 251) (v := ?_) (a' := ?_) #[true, true, true, true, true, true, true, true, true, true, true, true, true, true, true, true, true, true, true, true, true, true, true, true, true, true, true, true, true, true, true, true] rfl rfl (any_of HT_.out Za146) (fun _ _ _ h => h) (Or.inl ⟨by rfl, ?_⟩) ?_ ?_
                  rotate_left
                  ·
                   intro w'
                   go_simp
                   with_reducible rfl
                  rotate_left
                  ·
                   simp only [Act.put, y1a14, y2a14, y3a14, i64_w, i32_w]
                   rfl
                  refine done_ (done_of HT_.out Za146) ?_
                  try go_wp2
                  go_meet
                  case rel => exact ⟨_, ((t442 != x27_2)), Za145, H', ⟨by have := HJ13.out; have := HK2.out; first | omega | exact Nat.le_refl _⟩, ⟨by (with_reducible repeat (first | apply Kd.R_alloc | apply Kd.R_drewN | apply Kd.R_drew)); exact HO_9.out⟩, ⟨UL402⟩, ⟨UL414⟩, ⟨UL418⟩, ⟨UL422⟩, ⟨UL426⟩, ⟨UL430⟩, ⟨UL434⟩, ⟨HL⟩⟩
                ·
                 rw [if_neg c314] at H
                 exact absurd H (by simp)
               ·
                rw [if_neg c313] at H
                exact absurd H (by simp)
             ·
              rw [if_neg c310] at H
              exact absurd H (by simp)
            ·
             rw [if_neg c309] at H
             have c309b0 : (x26_2 == t436) = false := beq_eq_false_iff_ne.mpr c309
             have c309b1 : (x26_2 != t436) = true := bne_iff_ne.mpr c309
             exact absurd H (by rw [dead_j3]; simp)
           ·
            rw [if_neg c308] at H
            have c308b0 : ((t403.length : Int) == (wrap64 (t398 + 1))) = false := beq_eq_false_iff_ne.mpr c308
            have c308b1 : ((t403.length : Int) != (wrap64 (t398 + 1))) = true := bne_iff_ne.mpr c308
            (first | rw [c308b0] | (simp only [i64_w, i32_w]; rw [c308b0]) | skip)
            exact absurd H (by rw [dead_j3]; simp)
          case rest => as_aux_lemma =>
           clear HC307
           obtain ⟨kq, x251_306, rfl, HA, HJ306, HO_9, BK402, BK414, BK418, BK422, BK426, BK430, BK434, HB⟩ := hcut
           cases kq with
           | zero => exact absurd HA.out (by simp [laws_FnRuinInTime.j3])
           | succ kj306 =>
            have H := HA.out
            clear HA
            simp only [laws_FnRuinInTime.j3] at H
            by_cases c322 : x251_306 = true
            ·
             subst c322
             rw [if_pos rfl] at H
             exact absurd H (by simp)
            ·
             replace c322 := Bool.eq_false_iff.mpr c322
             subst c322
             rw [if_neg Bool.false_ne_true] at H
             have HC323 := Aa14q H
             clear H
             go_upto_if 253 with (fail)
             go_cut [253] from 1 to 0 (fun v253 wc => ∃ (kq : Nat), Aside0 (laws_FnRuinInTime.j6 kq l1 t397 t403 t436 t399 t400 = some r) ∧ Aside0 (kq ≤ kj306) ∧ Aside0 (Kd.R k25 25 wc w.heap.size (fun k_ => k_ ≠ g402 ∧ k_ ≠ g414 ∧ k_ ≠ g418 ∧ k_ ≠ g422 ∧ k_ ≠ g426 ∧ k_ ≠ g430 ∧ k_ ≠ g434) (.slice Ao286 t403.length co286) t403) ∧ Aside0 (wc.heap[g402]? = some (.cells #[.int .i64 t399, .int .i64 t400] 25 (0, 0))) ∧ Aside0 (wc.heap[g414]? = some (.cells #[.int .i64 t411, .int .i64 t412] 25 (0, 0))) ∧ Aside0 (wc.heap[g418]? = some (.cells #[.int .i64 t415, .int .i64 t416] 25 (0, 0))) ∧ Aside0 (wc.heap[g422]? = some (.cells #[.int .i64 t419, .int .i64 t420] 25 (0, 0))) ∧ Aside0 (wc.heap[g426]? = some (.cells #[.int .i64 t423, .int .i64 t424] 25 (0, 0))) ∧ Aside0 (wc.heap[g430]? = some (.cells #[.int .i64 t427, .int .i64 t428] 25 (0, 0))) ∧ Aside0 (wc.heap[g434]? = some (.cells #[.int .i64 t431, .int .i64 t432] 25 (0, 0))) ∧ Aside0 (Below w.heap.size w wc))
             case first => as_aux_lemma =>
              have H := HC323.out
              clear HC323
              by_cases c324 : t401 > 0
              ·
               rw [if_pos c324] at H
               have c324b0 : decide (0 < t401) = true := decide_eq_true c324
               clear c324
               (first | rw [c324b0] | (simp only [i64_w, i32_w]; rw [c324b0]) | skip)
               replace H := Option.bind_eq_some_iff.mp H
               obtain ⟨⟨t443, t444, t445⟩, A3250, H⟩ := H
               try dsimp only at H
               have A325 := Aa14q A3250
               clear A3250
               replace H := Option.bind_eq_some_iff.mp H
               obtain ⟨⟨t447, t448, t449⟩, A3260, H⟩ := H
               try dsimp only at H
               have A326 := Aa14q A3260
               clear A3260
               have HC327 := Aa14q H
               clear H
               have hcz334_0 : wc.cell? ⟨g402, 0, none⟩ = some (.int .i64 t399) := (blk_cell BK402.out 0).trans rfl
               have hcz334_1 : wc.cell? ⟨g402, 1, none⟩ = some (.int .i64 t400) := (blk_cell BK402.out 1).trans rfl
               have hfz334_0 := blk_frozen BK402.out 0
               have hfz334_1 := blk_frozen BK402.out 1
               go_upto_region 34 with (first | ((with_reducible refine gate_callee (f := 8) rfl ?_); refine goesL_ (some 260) rfl rfl Try.func8 Za146 rfl #[.int .i64 t397, .int .i64 t398, .agg #[.int .i64 t399, .int .i64 t400], .int .i64 (wrap64 (t401 - 1))] rfl Za141 ?_; (with_reducible refine (impl_WinWithin.calls kj306 t397 t398 t399 t400 (wrap64 (t401 - 1)) t443 t444 t445 _ A325.out).mono ?_); rintro e w335 ⟨rfl, hb⟩; refine ⟨_, rfl, ?_⟩; replace HO_9 := Aa14q (Kd.R_below Za144 hb); replace BK402 := bL BK402 UL402 hb; replace BK414 := bL BK414 UL414 hb; replace BK418 := bL BK418 UL418 hb; replace BK422 := bL BK422 UL422 hb; replace BK426 := bL BK426 UL426 hb; replace BK430 := bL BK430 UL430 hb; replace BK434 := bL BK434 UL434 hb; replace HB := tL HL hb; (try clear hb); (try clear hb2); (try clear hk); (try clear hi)) | ((with_reducible refine gate_dst (N := 31) rfl ?_); refine box_event ?hg (N := 31) ?hd (cs := #[.int .i64 0, .int .i64 0]) (t := 25) ?hr ?_; (case hd => rfl); (case hg => rfl); (case hr => first | (go_simp; done) | (go_simp; rfl)); intro g446 hg w336 hbox hb; have BK446 := Aa14q (hbox); have GE446 := sL HL hg; have NB402_446 := nL BK402 UL402 hg; have NB446_402 := mL BK402 UL402 hg; have NB414_446 := nL BK414 UL414 hg; have NB446_414 := mL BK414 UL414 hg; have NB418_446 := nL BK418 UL418 hg; have NB446_418 := mL BK418 UL418 hg; have NB422_446 := nL BK422 UL422 hg; have NB446_422 := mL BK422 UL422 hg; have NB426_446 := nL BK426 UL426 hg; have NB446_426 := mL BK426 UL426 hg; have NB430_446 := nL BK430 UL430 hg; have NB446_430 := mL BK430 UL430 hg; have NB434_446 := nL BK434 UL434 hg; have NB446_434 := mL BK434 UL434 hg; replace HO_9 := Aa14q (Kd.R_below (Kd.R_elderB Za144 g446 (Nat.le_of_eq hg.symm)) hb); replace BK402 := bL BK402 UL402 hb; replace BK414 := bL BK414 UL414 hb; replace BK418 := bL BK418 UL418 hb; replace BK422 := bL BK422 UL422 hb; replace BK426 := bL BK426 UL426 hb; replace BK430 := bL BK430 UL430 hb; replace BK434 := bL BK434 UL434 hb; replace HB := tL HL hb; clear hb hbox hg; have hnb337 := NB446_402.out; have hnc337 := NB402_446.out; have hcz344_0 : w336.cell? ⟨g446, 0, none⟩ = some (.int .i64 0) := (blk_cell BK446.out 0).trans rfl; have hcz344_1 : w336.cell? ⟨g446, 1, none⟩ = some (.int .i64 0) := (blk_cell BK446.out 1).trans rfl; have hfz344_0 := blk_frozen BK446.out 0; have hfz344_1 := blk_frozen BK446.out 1; have hcz345_0 : w336.cell? ⟨g402, 0, none⟩ = some (.int .i64 t399) := (blk_cell BK402.out 0).trans rfl; have hcz345_1 : w336.cell? ⟨g402, 1, none⟩ = some (.int .i64 t400) := (blk_cell BK402.out 1).trans rfl; have hfz345_0 := blk_frozen BK402.out 0; have hfz345_1 := blk_frozen BK402.out 1) | ((with_reducible refine gate_callee (f := 10) rfl ?_); refine goesL_ (some 269) rfl rfl Try.func10 Za146 rfl #[.int .i64 t397, .int .i64 t398, .agg #[.int .i64 t399, .int .i64 t400], .int .i64 (wrap64 (t401 - 1))] rfl Za141 ?_; (with_reducible refine (impl_RuinWithin.calls kj306 t397 t398 t399 t400 (wrap64 (t401 - 1)) t447 t448 t449 _ A326.out).mono ?_); rintro e w346 ⟨rfl, hb⟩; refine ⟨_, rfl, ?_⟩; replace HO_9 := Aa14q (Kd.R_below (by (with_reducible repeat (first | apply Kd.R_alloc | apply Kd.R_drewN | apply Kd.R_drew)); exact (Kd.R_mono (Kd.R_far (p := ⟨g446, 1, none⟩) (Kd.R_far (p := ⟨g446, 0, none⟩) (Kd.R_mono HO_9.out (fun k_ hk => (⟨hk, hk.2⟩ : _ ∧ k_ ≠ g446))) (fun _ hk => hk.2) (.int .i64 t443)) (fun _ hk => hk.2) (.int .i64 t444)) (fun _ h_ => h_.1))) hb); replace BK402 := bL BK402 UL402 hb; replace BK414 := bL BK414 UL414 hb; replace BK418 := bL BK418 UL418 hb; replace BK422 := bL BK422 UL422 hb; replace BK426 := bL BK426 UL426 hb; replace BK430 := bL BK430 UL430 hb; replace BK434 := bL BK434 UL434 hb; replace BK446 := Aa14q (blk_below (g := g446) (o := .cells #[.int .i64 t443, .int .i64 t444] 25 (0, 0)) (by (with_reducible repeat (first | refine blk_drewN ?_ _ | refine blk_drew ?_ | refine blk_alloc ?_ _)); refine blk_put (cs := #[.int .i64 t443, .int .i64 0]) ?_ 1 _ rfl; (with_reducible repeat (first | refine blk_drewN ?_ _ | refine blk_drew ?_ | refine blk_alloc ?_ _)); refine blk_put (cs := #[.int .i64 0, .int .i64 0]) ?_ 0 _ rfl; (with_reducible repeat (first | refine blk_drewN ?_ _ | refine blk_drew ?_ | refine blk_alloc ?_ _)); exact BK446.out) hb); replace HB := tL HL hb; (try clear hb); (try clear hb2); (try clear hk); (try clear hi)) | ((with_reducible refine gate_dst (N := 33) rfl ?_); refine box_event ?hg (N := 33) ?hd (cs := #[.int .i64 0, .int .i64 0]) (t := 25) ?hr ?_; (case hd => rfl); (case hg => rfl); (case hr => first | (go_simp; done) | (go_simp; rfl)); intro g450 hg w347 hbox hb; have BK450 := Aa14q (hbox); have GE450 := sL HL hg; have NB402_450 := nL BK402 UL402 hg; have NB450_402 := mL BK402 UL402 hg; have NB414_450 := nL BK414 UL414 hg; have NB450_414 := mL BK414 UL414 hg; have NB418_450 := nL BK418 UL418 hg; have NB450_418 := mL BK418 UL418 hg; have NB422_450 := nL BK422 UL422 hg; have NB450_422 := mL BK422 UL422 hg; have NB426_450 := nL BK426 UL426 hg; have NB450_426 := mL BK426 UL426 hg; have NB430_450 := nL BK430 UL430 hg; have NB450_430 := mL BK430 UL430 hg; have NB434_450 := nL BK434 UL434 hg; have NB450_434 := mL BK434 UL434 hg; have NB446_450 := nL BK446 UL446 hg; have NB450_446 := mL BK446 UL446 hg; replace HO_9 := Aa14q (Kd.R_below (Kd.R_elderB Za144 g450 (Nat.le_of_eq hg.symm)) hb); replace BK402 := bL BK402 UL402 hb; replace BK414 := bL BK414 UL414 hb; replace BK418 := bL BK418 UL418 hb; replace BK422 := bL BK422 UL422 hb; replace BK426 := bL BK426 UL426 hb; replace BK430 := bL BK430 UL430 hb; replace BK434 := bL BK434 UL434 hb; replace BK446 := bL BK446 UL446 hb; replace HB := tL HL hb; clear hb hbox hg; have hcz356_0 : w347.cell? ⟨g450, 0, none⟩ = some (.int .i64 0) := (blk_cell BK450.out 0).trans rfl; have hcz356_1 : w347.cell? ⟨g450, 1, none⟩ = some (.int .i64 0) := (blk_cell BK450.out 1).trans rfl; have hfz356_0 := blk_frozen BK450.out 0; have hfz356_1 := blk_frozen BK450.out 1))
               (try simp only [Act.put, y1a14, y2a14, y3a14])
               go_cut [295] from 1 to 0 (fun v295 wc => ∃ (kq : Nat) (x295_326 : Bool), v295 = .bool x295_326 ∧ Aside0 (laws_FnRuinInTime.j4 kq l1 t397 t398 t401 t403 t436 x295_326 t399 t400 t411 t412 t443 t444 = some r) ∧ Aside0 (kq ≤ kj306) ∧ Aside0 (Kd.R k25 25 wc w.heap.size (fun k_ => k_ ≠ g402 ∧ k_ ≠ g414 ∧ k_ ≠ g418 ∧ k_ ≠ g422 ∧ k_ ≠ g426 ∧ k_ ≠ g430 ∧ k_ ≠ g434 ∧ k_ ≠ g446 ∧ k_ ≠ g450) (.slice Ao286 t403.length co286) t403) ∧ Aside0 (wc.heap[g402]? = some (.cells #[.int .i64 t399, .int .i64 t400] 25 (0, 0))) ∧ Aside0 (wc.heap[g414]? = some (.cells #[.int .i64 t411, .int .i64 t412] 25 (0, 0))) ∧ Aside0 (wc.heap[g418]? = some (.cells #[.int .i64 t415, .int .i64 t416] 25 (0, 0))) ∧ Aside0 (wc.heap[g422]? = some (.cells #[.int .i64 t419, .int .i64 t420] 25 (0, 0))) ∧ Aside0 (wc.heap[g426]? = some (.cells #[.int .i64 t423, .int .i64 t424] 25 (0, 0))) ∧ Aside0 (wc.heap[g430]? = some (.cells #[.int .i64 t427, .int .i64 t428] 25 (0, 0))) ∧ Aside0 (wc.heap[g434]? = some (.cells #[.int .i64 t431, .int .i64 t432] 25 (0, 0))) ∧ Aside0 (wc.heap[g446]? = some (.cells #[.int .i64 t443, .int .i64 t444] 25 (0, 0))) ∧ Aside0 (wc.heap[g450]? = some (.cells #[.int .i64 t447, .int .i64 t448] 25 (0, 0))) ∧ Aside0 (Below w.heap.size w wc))
               case first => as_aux_lemma =>
                have H := HC327.out
                clear HC327
                by_cases c357 : t445 = true
                ·
                 subst c357
                 rw [if_pos rfl] at H
                 replace H := Option.bind_eq_some_iff.mp H
                 obtain ⟨t451, A3580, H⟩ := H
                 try dsimp only at H
                 have A358 := Aa14q A3580
                 clear A3580
                 replace H := Option.bind_eq_some_iff.mp H
                 obtain ⟨t452, A3590, H⟩ := H
                 try dsimp only at H
                 have A359 := Aa14q A3590
                 clear A3590
                 by_cases c360 : t451 > t452
                 ·
                  rw [if_pos c360] at H
                  have c360b0 : decide (t452 < t451) = true := decide_eq_true c360
                  clear c360
                  (first | rw [c360b0] | (simp only [i64_w, i32_w]; rw [c360b0]) | skip)
                  exact absurd H (by rw [dead_j4]; simp)
                 ·
                  rw [if_neg c360] at H
                  have c360b0 : decide (t452 < t451) = false := decide_eq_false c360
                  clear c360
                  (first | rw [c360b0] | (simp only [i64_w, i32_w]; rw [c360b0]) | skip)
                  by_cases c365 : t449 = true
                  ·
                   subst c365
                   rw [if_pos rfl] at H
                   replace H := Option.bind_eq_some_iff.mp H
                   obtain ⟨t453, A3660, H⟩ := H
                   replace H : ((laws_yTimes.f t419 t420 t436).bind fun t454 => (laws_FnRuinInTime.j4 kj306 l1 t397 t398 t401 t403 t436 (decide (t453 > t454)) t399 t400 t411 t412 t443 t444)) = some r := H
                   have A366 := Aa14q A3660
                   clear A3660
                   replace H := Option.bind_eq_some_iff.mp H
                   obtain ⟨t454, A3670, H⟩ := H
                   replace H : (laws_FnRuinInTime.j4 kj306 l1 t397 t398 t401 t403 t436 (decide (t453 > t454)) t399 t400 t411 t412 t443 t444) = some r := H
                   have A367 := Aa14q A3670
                   clear A3670
                   have H' := Aa14q H
                   clear H
                   try go_wp2
                   have n0_ : Aside0 (Kd.R k25 25 ((w347.setCell ⟨g450, 0, none⟩ (.int .i64 t447)).setCell ⟨g450, 1, none⟩ (.int .i64 t448)) w.heap.size (fun k_ => k_ ≠ g402 ∧ k_ ≠ g414 ∧ k_ ≠ g418 ∧ k_ ≠ g422 ∧ k_ ≠ g426 ∧ k_ ≠ g430 ∧ k_ ≠ g434 ∧ k_ ≠ g446 ∧ k_ ≠ g450) (.slice Ao286 t403.length co286) t403) := ⟨by (with_reducible repeat (first | apply Kd.R_alloc | apply Kd.R_drewN | apply Kd.R_drew)); exact Kd.R_mono (Kd.R_far (p := ⟨g450, 1, none⟩) (Kd.R_far (p := ⟨g450, 0, none⟩) (Kd.R_mono HO_9.out (fun k_ hk => (⟨hk, hk.2⟩ : _ ∧ k_ ≠ g450))) (fun _ hk => hk.2) (.int .i64 t447)) (fun _ hk => hk.2) (.int .i64 t448)) (fun _ hk => ⟨hk.1.1.1.1, ⟨hk.1.1.1.2.1, ⟨hk.1.1.1.2.2.1, ⟨hk.1.1.1.2.2.2.1, ⟨hk.1.1.1.2.2.2.2.1, ⟨hk.1.1.1.2.2.2.2.2.1, ⟨hk.1.1.1.2.2.2.2.2.2, ⟨hk.1.1.2, hk.1.2⟩⟩⟩⟩⟩⟩⟩⟩)⟩
                   have n1_ : Aside0 (((w347.setCell ⟨g450, 0, none⟩ (.int .i64 t447)).setCell ⟨g450, 1, none⟩ (.int .i64 t448)).heap[g402]? = some (.cells #[.int .i64 t399, .int .i64 t400] 25 (0, 0))) := ⟨UL402⟩
                   have n2_ : Aside0 (((w347.setCell ⟨g450, 0, none⟩ (.int .i64 t447)).setCell ⟨g450, 1, none⟩ (.int .i64 t448)).heap[g414]? = some (.cells #[.int .i64 t411, .int .i64 t412] 25 (0, 0))) := ⟨UL414⟩
                   have n3_ : Aside0 (((w347.setCell ⟨g450, 0, none⟩ (.int .i64 t447)).setCell ⟨g450, 1, none⟩ (.int .i64 t448)).heap[g418]? = some (.cells #[.int .i64 t415, .int .i64 t416] 25 (0, 0))) := ⟨UL418⟩
                   have n4_ : Aside0 (((w347.setCell ⟨g450, 0, none⟩ (.int .i64 t447)).setCell ⟨g450, 1, none⟩ (.int .i64 t448)).heap[g422]? = some (.cells #[.int .i64 t419, .int .i64 t420] 25 (0, 0))) := ⟨UL422⟩
                   have n5_ : Aside0 (((w347.setCell ⟨g450, 0, none⟩ (.int .i64 t447)).setCell ⟨g450, 1, none⟩ (.int .i64 t448)).heap[g426]? = some (.cells #[.int .i64 t423, .int .i64 t424] 25 (0, 0))) := ⟨UL426⟩
                   have n6_ : Aside0 (((w347.setCell ⟨g450, 0, none⟩ (.int .i64 t447)).setCell ⟨g450, 1, none⟩ (.int .i64 t448)).heap[g430]? = some (.cells #[.int .i64 t427, .int .i64 t428] 25 (0, 0))) := ⟨UL430⟩
                   have n7_ : Aside0 (((w347.setCell ⟨g450, 0, none⟩ (.int .i64 t447)).setCell ⟨g450, 1, none⟩ (.int .i64 t448)).heap[g434]? = some (.cells #[.int .i64 t431, .int .i64 t432] 25 (0, 0))) := ⟨UL434⟩
                   have n8_ : Aside0 (((w347.setCell ⟨g450, 0, none⟩ (.int .i64 t447)).setCell ⟨g450, 1, none⟩ (.int .i64 t448)).heap[g446]? = some (.cells #[.int .i64 t443, .int .i64 t444] 25 (0, 0))) := ⟨UL446⟩
                   have n9_ : Aside0 (((w347.setCell ⟨g450, 0, none⟩ (.int .i64 t447)).setCell ⟨g450, 1, none⟩ (.int .i64 t448)).heap[g450]? = some (.cells #[.int .i64 t447, .int .i64 t448] 25 (0, 0))) := ⟨by (with_reducible repeat (first | refine blk_drewN ?_ _ | refine blk_drew ?_ | refine blk_alloc ?_ _)); refine blk_put (cs := #[.int .i64 t447, .int .i64 0]) ?_ 1 _ rfl; (with_reducible repeat (first | refine blk_drewN ?_ _ | refine blk_drew ?_ | refine blk_alloc ?_ _)); refine blk_put (cs := #[.int .i64 0, .int .i64 0]) ?_ 0 _ rfl; (with_reducible repeat (first | refine blk_drewN ?_ _ | refine blk_drew ?_ | refine blk_alloc ?_ _)); exact BK450.out⟩
                   have n10_ : Aside0 (Below w.heap.size w ((w347.setCell ⟨g450, 0, none⟩ (.int .i64 t447)).setCell ⟨g450, 1, none⟩ (.int .i64 t448))) := ⟨HL⟩
                   (try clear HO_9)
                   (try clear BK402)
                   (try clear BK414)
                   (try clear BK418)
                   (try clear BK422)
                   (try clear BK426)
                   (try clear BK430)
                   (try clear BK434)
                   (try clear BK446)
                   (try clear BK450)
                   (try clear HB)
                   generalize ((w347.setCell ⟨g450, 0, none⟩ (.int .i64 t447)).setCell ⟨g450, 1, none⟩ (.int .i64 t448)) = w368 at n0_ n1_ n2_ n3_ n4_ n5_ n6_ n7_ n8_ n9_ n10_ ⊢
                   have HO_9 := n0_
                   have BK402 := n1_
                   have BK414 := n2_
                   have BK418 := n3_
                   have BK422 := n4_
                   have BK426 := n5_
                   have BK430 := n6_
                   have BK434 := n7_
                   have BK446 := n8_
                   have BK450 := n9_
                   have HB := n10_
                   clear n0_ n1_ n2_ n3_ n4_ n5_ n6_ n7_ n8_ n9_ n10_
                   replace HO_9 := Aa14q (Kd.R_drew HO_9.out)
                   replace BK402 := Aa14q (blk_drew BK402.out)
                   replace BK414 := Aa14q (blk_drew BK414.out)
                   replace BK418 := Aa14q (blk_drew BK418.out)
                   replace BK422 := Aa14q (blk_drew BK422.out)
                   replace BK426 := Aa14q (blk_drew BK426.out)
                   replace BK430 := Aa14q (blk_drew BK430.out)
                   replace BK434 := Aa14q (blk_drew BK434.out)
                   replace BK446 := Aa14q (blk_drew BK446.out)
                   replace BK450 := Aa14q (blk_drew BK450.out)
                   replace HB := Aa14q (below_drew1 HB.out)
                   refine start_ (n := 24) (S := fun w' => w'.cell? ⟨g446, 0, none⟩ = some (.int .i64 t443) ∧ w'.cell? ⟨g446, 1, none⟩ = some (.int .i64 t444) ∧ w'.cell? ⟨g414, 0, none⟩ = some (.int .i64 t411) ∧ w'.cell? ⟨g414, 1, none⟩ = some (.int .i64 t412) ∧ w'.cell? ⟨g450, 0, none⟩ = some (.int .i64 t447) ∧ w'.cell? ⟨g450, 1, none⟩ = some (.int .i64 t448) ∧ w'.cell? ⟨g422, 0, none⟩ = some (.int .i64 t419) ∧ w'.cell? ⟨g422, 1, none⟩ = some (.int .i64 t420)) (ds := []) #[false, false, false, false, false, false, false, false, false, false, false, false, false, false, false, false, false, false, false, false, false, false, false, false] Za146 rfl rfl ⟨(blk_cell BK446.out 0).trans rfl, (blk_cell BK446.out 1).trans rfl, (blk_cell BK414.out 0).trans rfl, (blk_cell BK414.out 1).trans rfl, (blk_cell BK450.out 0).trans rfl, (blk_cell BK450.out 1).trans rfl, (blk_cell BK422.out 0).trans rfl, (blk_cell BK422.out 1).trans rfl⟩ (fun hHeld => ?_); refine with_tabW laws_FnRuinInTime.tab34 laws_FnRuinInTime.bits34 (fun HT_ HW_ => ?_)
                   generalize w368.drew = w369 at HO_9 BK402 BK414 BK418 BK422 BK426 BK430 BK434 BK446 BK450 HB hHeld ⊢
                   refine pure_ (i := 0) (N := some 272) (v := ?_) (a' := ?_) #[true, false, false, false, false, false, false, false, false, false, false, false, false, false, false, false, false, false, false, false, false, false, false, false] rfl rfl (any_of HT_.out Za146) (fun _ _ _ h => h) (Or.inl ⟨by rfl, ?_⟩) ?_ ?_
                   rotate_left
                   ·
                    intro w'
                    go_simp
                    with_reducible rfl
                   rotate_left
                   ·
                    simp only [Act.put, y1a14, y2a14, y3a14, i64_w, i32_w]
                    rfl
                   refine pure_ (i := 1) (N := some 273) (v := ?_) (a' := ?_) #[true, true, false, false, false, false, false, false, false, false, false, false, false, false, false, false, false, false, false, false, false, false, false, false] rfl rfl (any_of HT_.out Za146) (fun _ _ _ h => h) (Or.inl ⟨by rfl, ?_⟩) ?_ ?_
                   rotate_left
                   ·
                    intro w'
                    go_simp
                    with_reducible rfl
                   rotate_left
                   ·
                    simp only [Act.put, y1a14, y2a14, y3a14, i64_w, i32_w]
                    rfl
                   refine pure_ (i := 2) (N := some 274) (v := ?_) (a' := ?_) #[true, true, true, false, false, false, false, false, false, false, false, false, false, false, false, false, false, false, false, false, false, false, false, false] rfl rfl (any_of HT_.out Za146) (fun _ _ _ h => h) (Or.inl ⟨by rfl, ?_⟩) ?_ ?_
                   rotate_left
                   ·
                    intro w'
                    go_simp
                    with_reducible rfl
                   rotate_left
                   ·
                    simp only [Act.put, y1a14, y2a14, y3a14, i64_w, i32_w]
                    rfl
                   refine pure_ (i := 4) (N := some 276) (v := ?_) (a' := ?_) #[true, true, true, false, true, false, false, false, false, false, false, false, false, false, false, false, false, false, false, false, false, false, false, false] rfl rfl (any_of HT_.out Za146) (fun _ _ _ h => h) (Or.inl ⟨by rfl, ?_⟩) ?_ ?_
                   rotate_left
                   ·
                    intro w'
                    go_simp
                    with_reducible rfl
                   rotate_left
                   ·
                    simp only [Act.put, y1a14, y2a14, y3a14, i64_w, i32_w]
                    rfl
                   refine pure_ (i := 7) (N := some 279) (v := ?_) (a' := ?_) #[true, true, true, false, true, false, false, true, false, false, false, false, false, false, false, false, false, false, false, false, false, false, false, false] rfl rfl (any_of HT_.out Za146) (fun _ _ _ h => h) (Or.inl ⟨by rfl, ?_⟩) ?_ ?_
                   rotate_left
                   ·
                    intro w'
                    go_simp
                    with_reducible rfl
                   rotate_left
                   ·
                    simp only [Act.put, y1a14, y2a14, y3a14, i64_w, i32_w]
                    rfl
                   refine take_ (i := 3) (N := some 275) (v := ?_) (a' := ?_) #[true, true, true, true, true, false, false, true, false, false, false, false, false, false, false, false, false, false, false, false, false, false, false, false] rfl rfl (take_ofW HT_.out HW_.out Za146) (fun _ _ _ h => h) (Or.inl ⟨by rfl, ?_⟩) hHeld ?_ ?_
                   rotate_left
                   ·
                    rintro w' ⟨s0, s1, s2, s3, s4, s5, s6, s7⟩
                    go_simp
                    with_reducible rfl
                   rotate_left
                   ·
                    simp only [Act.put, y1a14, y2a14, y3a14, i64_w, i32_w]
                    rfl
                   refine take_ (i := 6) (N := some 278) (v := ?_) (a' := ?_) #[true, true, true, true, true, false, true, true, false, false, false, false, false, false, false, false, false, false, false, false, false, false, false, false] rfl rfl (take_ofW HT_.out HW_.out Za146) (fun _ _ _ h => h) (Or.inl ⟨by rfl, ?_⟩) hHeld ?_ ?_
                   rotate_left
                   ·
                    rintro w' ⟨s0, s1, s2, s3, s4, s5, s6, s7⟩
                    go_simp
                    with_reducible rfl
                   rotate_left
                   ·
                    simp only [Act.put, y1a14, y2a14, y3a14, i64_w, i32_w]
                    rfl
                   refine one_ (i := 5) (N := some 277) #[true, true, true, true, true, true, true, true, false, false, false, false, false, false, false, false, false, false, false, false, false, false, false, false] rfl rfl (one_of HT_.out Za146) (by decide) (fun K hK => ?_)
                   refine goes_ Try.func16 Za146 rfl #[.agg #[.int .i64 t443, .int .i64 t444], .int .i64 t436] (by rfl) rfl rfl Za141 ?_
                   with_reducible refine (laws_yTimes.calls t443 t444 t436 t451 _ A358.out).mono ?_
                   rintro e w370 ⟨rfl, hb⟩
                   refine ⟨_, rfl, ?_⟩
                   replace HO_9 := Aa14q (Kd.R_below Za144 hb)
                   replace BK402 := bL BK402 UL402 hb
                   replace BK414 := bL BK414 UL414 hb
                   replace BK418 := bL BK418 UL418 hb
                   replace BK422 := bL BK422 UL422 hb
                   replace BK426 := bL BK426 UL426 hb
                   replace BK430 := bL BK430 UL430 hb
                   replace BK434 := bL BK434 UL434 hb
                   replace BK446 := bL BK446 UL446 hb
                   replace BK450 := bL BK450 UL450 hb
                   replace HB := tL HL hb
                   (try clear hb)
                   (try clear hb2)
                   (try clear hk)
                   (try clear hi)
                   refine hK.out _ _ ⟨(blk_cell BK446.out 0).trans rfl, (blk_cell BK446.out 1).trans rfl, (blk_cell BK414.out 0).trans rfl, (blk_cell BK414.out 1).trans rfl, (blk_cell BK450.out 0).trans rfl, (blk_cell BK450.out 1).trans rfl, (blk_cell BK422.out 0).trans rfl, (blk_cell BK422.out 1).trans rfl⟩ (fun hHeld => ?_)
                   clear hK K
                   refine norm_ (a' := ?_) ?_ ?_
                   rotate_left
                   ·
                    show Act.put _ (some 277) _ = _
                    simp only [Act.put, y1a14, y2a14, y3a14, i64_w, i32_w]
                    rfl
                   refine one_ (i := 8) (N := some 280) #[true, true, true, true, true, true, true, true, true, false, false, false, false, false, false, false, false, false, false, false, false, false, false, false] rfl rfl (one_of HT_.out Za146) (by decide) (fun K hK => ?_)
                   refine goes_ Try.func16 Za146 rfl #[.agg #[.int .i64 t411, .int .i64 t412], .int .i64 t436] (by rfl) rfl rfl Za141 ?_
                   with_reducible refine (laws_yTimes.calls t411 t412 t436 t452 _ A359.out).mono ?_
                   rintro e w371 ⟨rfl, hb⟩
                   refine ⟨_, rfl, ?_⟩
                   replace HO_9 := Aa14q (Kd.R_below Za144 hb)
                   replace BK402 := bL BK402 UL402 hb
                   replace BK414 := bL BK414 UL414 hb
                   replace BK418 := bL BK418 UL418 hb
                   replace BK422 := bL BK422 UL422 hb
                   replace BK426 := bL BK426 UL426 hb
                   replace BK430 := bL BK430 UL430 hb
                   replace BK434 := bL BK434 UL434 hb
                   replace BK446 := bL BK446 UL446 hb
                   replace BK450 := bL BK450 UL450 hb
                   replace HB := tL HL hb
                   (try clear hb)
                   (try clear hb2)
                   (try clear hk)
                   (try clear hi)
                   refine hK.out _ _ ⟨(blk_cell BK446.out 0).trans rfl, (blk_cell BK446.out 1).trans rfl, (blk_cell BK414.out 0).trans rfl, (blk_cell BK414.out 1).trans rfl, (blk_cell BK450.out 0).trans rfl, (blk_cell BK450.out 1).trans rfl, (blk_cell BK422.out 0).trans rfl, (blk_cell BK422.out 1).trans rfl⟩ (fun hHeld => ?_)
                   clear hK K
                   refine norm_ (a' := ?_) ?_ ?_
                   rotate_left
                   ·
                    show Act.put _ (some 280) _ = _
                    simp only [Act.put, y1a14, y2a14, y3a14, i64_w, i32_w]
                    rfl
                   refine pure_ (i := 9) (N := some 281) (v := ?_) (a' := ?_) #[true, true, true, true, true, true, true, true, true, true, false, false, false, false, false, false, false, false, false, false, false, false, false, false] rfl rfl (any_of HT_.out Za146) (fun _ _ _ h => h) (Or.inl ⟨by rfl, ?_⟩) ?_ ?_
                   rotate_left
                   ·
                    intro w'
                    go_simp
                    with_reducible rfl
                   rotate_left
                   ·
                    simp only [Act.put, y1a14, y2a14, y3a14, i64_w, i32_w]
                    rfl
                   refine pure_ (i := 10) (N := some 282) (v := ?_) (a' := ?_) #[true, true, true, true, true, true, true, true, true, true, true, false, false, false, false, false, false, false, false, false, false, false, false, false] rfl rfl (any_of HT_.out Za146) (fun _ _ _ h => h) (Or.inl ⟨by rfl, ?_⟩) ?_ ?_
                   rotate_left
                   ·
                    intro w'
                    go_simp
                    with_reducible rfl
                   rotate_left
                   ·
                    simp only [Act.put, y1a14, y2a14, y3a14, i64_w, i32_w]
                    rfl
                   refine pure_ (i := 11) (N := some 283) (v := ?_) (a' := ?_) #[true, true, true, true, true, true, true, true, true, true, true, true, false, false, false, false, false, false, false, false, false, false, false, false] rfl rfl (any_of HT_.out Za146) (fun _ _ _ h => h) (Or.inl ⟨by rfl, ?_⟩) ?_ ?_
                   rotate_left
                   ·
                    intro w'
                    go_simp
                    with_reducible rfl
                   rotate_left
                   ·
                    simp only [Act.put, y1a14, y2a14, y3a14, i64_w, i32_w]
                    rfl
                   refine pure_ (i := 12) (N := some 284) (v := ?_) (a' := ?_) #[true, true, true, true, true, true, true, true, true, true, true, true, true, false, false, false, false, false, false, false, false, false, false, false] rfl rfl (any_of HT_.out Za146) (fun _ _ _ h => h) (Or.inl ⟨by rfl, ?_⟩) ?_ ?_
                   rotate_left
                   ·
                    intro w'
                    go_simp
                    with_reducible rfl
                   rotate_left
                   ·
                    simp only [Act.put, y1a14, y2a14, y3a14, i64_w, i32_w]
                    rfl
                   refine pure_ (i := 13) (N := some 285) (v := ?_) (a' := ?_) #[true, true, true, true, true, true, true, true, true, true, true, true, true, true, false, false, false, false, false, false, false, false, false, false] rfl rfl (any_of HT_.out Za146) (fun _ _ _ h => h) (Or.inl ⟨by rfl, ?_⟩) ?_ ?_
                   rotate_left
                   ·
                    intro w'
                    go_simp
                    with_reducible rfl
                   rotate_left
                   ·
                    simp only [Act.put, y1a14, y2a14, y3a14, i64_w, i32_w]
                    rfl
                   refine pure_ (i := 14) (N := some 286) (v := ?_) (a' := ?_) #[true, true, true, true, true, true, true, true, true, true, true, true, true, true, true, false, false, false, false, false, false, false, false, false] rfl rfl (any_of HT_.out Za146) (fun _ _ _ h => h) (Or.inl ⟨by rfl, ?_⟩) ?_ ?_
                   rotate_left
                   ·
                    intro w'
                    go_simp
                    with_reducible rfl
                   rotate_left
                   ·
                    simp only [Act.put, y1a14, y2a14, y3a14, i64_w, i32_w]
                    rfl
                   refine pure_ (i := 15) (N := some 287) (v := ?_) (a' := ?_) #[true, true, true, true, true, true, true, true, true, true, true, true, true, true, true, true, false, false, false, false, false, false, false, false] rfl rfl (any_of HT_.out Za146) (fun _ _ _ h => h) (Or.inl ⟨by rfl, ?_⟩) ?_ ?_
                   rotate_left
                   ·
                    intro w'
                    go_simp
                    with_reducible rfl
                   rotate_left
                   ·
                    simp only [Act.put, y1a14, y2a14, y3a14, i64_w, i32_w]
                    rfl
                   refine pure_ (i := 17) (N := some 289) (v := ?_) (a' := ?_) #[true, true, true, true, true, true, true, true, true, true, true, true, true, true, true, true, false, true, false, false, false, false, false, false] rfl rfl (any_of HT_.out Za146) (fun _ _ _ h => h) (Or.inl ⟨by rfl, ?_⟩) ?_ ?_
                   rotate_left
                   ·
                    intro w'
                    go_simp
                    with_reducible rfl
                   rotate_left
                   ·
                    simp only [Act.put, y1a14, y2a14, y3a14, i64_w, i32_w]
                    rfl
                   refine pure_ (i := 20) (N := some 292) (v := ?_) (a' := ?_) #[true, true, true, true, true, true, true, true, true, true, true, true, true, true, true, true, false, true, false, false, true, false, false, false] rfl rfl (any_of HT_.out Za146) (fun _ _ _ h => h) (Or.inl ⟨by rfl, ?_⟩) ?_ ?_
                   rotate_left
                   ·
                    intro w'
                    go_simp
                    with_reducible rfl
                   rotate_left
                   ·
                    simp only [Act.put, y1a14, y2a14, y3a14, i64_w, i32_w]
                    rfl
                   refine take_ (i := 16) (N := some 288) (v := ?_) (a' := ?_) #[true, true, true, true, true, true, true, true, true, true, true, true, true, true, true, true, true, true, false, false, true, false, false, false] rfl rfl (take_ofW HT_.out HW_.out Za146) (fun _ _ _ h => h) (Or.inl ⟨by rfl, ?_⟩) hHeld ?_ ?_
                   rotate_left
                   ·
                    rintro w' ⟨s0, s1, s2, s3, s4, s5, s6, s7⟩
                    go_simp
                    with_reducible rfl
                   rotate_left
                   ·
                    simp only [Act.put, y1a14, y2a14, y3a14, i64_w, i32_w]
                    rfl
                   refine take_ (i := 19) (N := some 291) (v := ?_) (a' := ?_) #[true, true, true, true, true, true, true, true, true, true, true, true, true, true, true, true, true, true, false, true, true, false, false, false] rfl rfl (take_ofW HT_.out HW_.out Za146) (fun _ _ _ h => h) (Or.inl ⟨by rfl, ?_⟩) hHeld ?_ ?_
                   rotate_left
                   ·
                    rintro w' ⟨s0, s1, s2, s3, s4, s5, s6, s7⟩
                    go_simp
                    with_reducible rfl
                   rotate_left
                   ·
                    simp only [Act.put, y1a14, y2a14, y3a14, i64_w, i32_w]
                    rfl
                   refine one_ (i := 18) (N := some 290) #[true, true, true, true, true, true, true, true, true, true, true, true, true, true, true, true, true, true, true, true, true, false, false, false] rfl rfl (one_of HT_.out Za146) (by decide) (fun K hK => ?_)
                   refine goes_ Try.func16 Za146 rfl #[.agg #[.int .i64 t447, .int .i64 t448], .int .i64 t436] (by rfl) rfl rfl Za141 ?_
                   with_reducible refine (laws_yTimes.calls t447 t448 t436 t453 _ A366.out).mono ?_
                   rintro e w372 ⟨rfl, hb⟩
                   refine ⟨_, rfl, ?_⟩
                   replace HO_9 := Aa14q (Kd.R_below Za144 hb)
                   replace BK402 := bL BK402 UL402 hb
                   replace BK414 := bL BK414 UL414 hb
                   replace BK418 := bL BK418 UL418 hb
                   replace BK422 := bL BK422 UL422 hb
                   replace BK426 := bL BK426 UL426 hb
                   replace BK430 := bL BK430 UL430 hb
                   replace BK434 := bL BK434 UL434 hb
                   replace BK446 := bL BK446 UL446 hb
                   replace BK450 := bL BK450 UL450 hb
                   replace HB := tL HL hb
                   (try clear hb)
                   (try clear hb2)
                   (try clear hk)
                   (try clear hi)
                   refine hK.out _ _ ⟨(blk_cell BK446.out 0).trans rfl, (blk_cell BK446.out 1).trans rfl, (blk_cell BK414.out 0).trans rfl, (blk_cell BK414.out 1).trans rfl, (blk_cell BK450.out 0).trans rfl, (blk_cell BK450.out 1).trans rfl, (blk_cell BK422.out 0).trans rfl, (blk_cell BK422.out 1).trans rfl⟩ (fun hHeld => ?_)
                   clear hK K
                   refine norm_ (a' := ?_) ?_ ?_
                   rotate_left
                   ·
                    show Act.put _ (some 290) _ = _
                    simp only [Act.put, y1a14, y2a14, y3a14, i64_w, i32_w]
                    rfl
                   refine one_ (i := 21) (N := some 293) #[true, true, true, true, true, true, true, true, true, true, true, true, true, true, true, true, true, true, true, true, true, true, false, false] rfl rfl (one_of HT_.out Za146) (by decide) (fun K hK => ?_)
                   refine goes_ Try.func16 Za146 rfl #[.agg #[.int .i64 t419, .int .i64 t420], .int .i64 t436] (by rfl) rfl rfl Za141 ?_
                   with_reducible refine (laws_yTimes.calls t419 t420 t436 t454 _ A367.out).mono ?_
                   rintro e w373 ⟨rfl, hb⟩
                   refine ⟨_, rfl, ?_⟩
                   replace HO_9 := Aa14q (Kd.R_below Za144 hb)
                   replace BK402 := bL BK402 UL402 hb
                   replace BK414 := bL BK414 UL414 hb
                   replace BK418 := bL BK418 UL418 hb
                   replace BK422 := bL BK422 UL422 hb
                   replace BK426 := bL BK426 UL426 hb
                   replace BK430 := bL BK430 UL430 hb
                   replace BK434 := bL BK434 UL434 hb
                   replace BK446 := bL BK446 UL446 hb
                   replace BK450 := bL BK450 UL450 hb
                   replace HB := tL HL hb
                   (try clear hb)
                   (try clear hb2)
                   (try clear hk)
                   (try clear hi)
                   refine hK.out _ _ ⟨(blk_cell BK446.out 0).trans rfl, (blk_cell BK446.out 1).trans rfl, (blk_cell BK414.out 0).trans rfl, (blk_cell BK414.out 1).trans rfl, (blk_cell BK450.out 0).trans rfl, (blk_cell BK450.out 1).trans rfl, (blk_cell BK422.out 0).trans rfl, (blk_cell BK422.out 1).trans rfl⟩ (fun hHeld => ?_)
                   clear hK K
                   refine norm_ (a' := ?_) ?_ ?_
                   rotate_left
                   ·
                    show Act.put _ (some 293) _ = _
                    simp only [Act.put, y1a14, y2a14, y3a14, i64_w, i32_w]
                    rfl
                   refine pure_ (i := 22) (N := some 294) (v := ?_) (a' := ?_) #[true, true, true, true, true, true, true, true, true, true, true, true, true, true, true, true, true, true, true, true, true, true, true, false] rfl rfl (any_of HT_.out Za146) (fun _ _ _ h => h) (Or.inl ⟨by rfl, ?_⟩) ?_ ?_
                   rotate_left
                   ·
                    intro w'
                    go_simp
                    with_reducible rfl
                   rotate_left
                   ·
                    simp only [Act.put, y1a14, y2a14, y3a14, i64_w, i32_w]
                    rfl
                   refine pure_ (i := 23) (N := some 295) (v := ?_) (a' := ?_) #[true, true, true, true, true, true, true, true, true, true, true, true, true, true, true, true, true, true, true, true, true, true, true, true] rfl rfl (any_of HT_.out Za146) (fun _ _ _ h => h) (Or.inl ⟨by rfl, ?_⟩) ?_ ?_
                   rotate_left
                   ·
                    intro w'
                    go_simp
                    with_reducible rfl
                   rotate_left
                   ·
                    simp only [Act.put, y1a14, y2a14, y3a14, i64_w, i32_w]
                    rfl
                   refine done_ (done_of HT_.out Za146) ?_
                   try go_wp2
                   go_meet
                   case rel => exact ⟨_, (decide (t453 > t454)), Za145, H', ⟨by have := HJ13.out; have := HK2.out; have := HJ306.out; first | omega | exact Nat.le_refl _⟩, ⟨by (with_reducible repeat (first | apply Kd.R_alloc | apply Kd.R_drewN | apply Kd.R_drew)); exact HO_9.out⟩, ⟨UL402⟩, ⟨UL414⟩, ⟨UL418⟩, ⟨UL422⟩, ⟨UL426⟩, ⟨UL430⟩, ⟨UL434⟩, ⟨UL446⟩, ⟨UL450⟩, ⟨HL⟩⟩
                  ·
                   replace c365 := Bool.eq_false_iff.mpr c365
                   subst c365
                   rw [if_neg Bool.false_ne_true] at H
                   exact absurd H (by rw [dead_j4]; simp)
                ·
                 replace c357 := Bool.eq_false_iff.mpr c357
                 subst c357
                 rw [if_neg Bool.false_ne_true] at H
                 exact absurd H (by rw [dead_j4]; simp)
               case rest => as_aux_lemma =>
                clear HC327
                obtain ⟨kq, x295_326, rfl, HA, HJ326, HO_9, BK402, BK414, BK418, BK422, BK426, BK430, BK434, BK446, BK450, HB⟩ := hcut
                cases kq with
                | zero => exact absurd HA.out (by simp [laws_FnRuinInTime.j4])
                | succ kj326 =>
                 have H := HA.out
                 clear HA
                 simp only [laws_FnRuinInTime.j4] at H
                 by_cases c380 : x295_326 = true
                 ·
                  subst c380
                  rw [if_pos rfl] at H
                  exact absurd H (by simp)
                 ·
                  replace c380 := Bool.eq_false_iff.mpr c380
                  subst c380
                  rw [if_neg Bool.false_ne_true] at H
                  have HC381 := Aa14q H
                  clear H
                  go_upto_region 36 with (fail)
                  go_cut [310] from 1 to 0 (fun v310 wc => ∃ (kq : Nat) (x310_380 : Bool), v310 = .bool x310_380 ∧ Aside0 (laws_FnRuinInTime.j5 kq l1 t397 t398 t401 t403 t436 x310_380 t399 t400 t411 t412 t443 t444 = some r) ∧ Aside0 (kq ≤ kj326) ∧ Aside0 (Kd.R k25 25 wc w.heap.size (fun k_ => k_ ≠ g402 ∧ k_ ≠ g414 ∧ k_ ≠ g418 ∧ k_ ≠ g422 ∧ k_ ≠ g426 ∧ k_ ≠ g430 ∧ k_ ≠ g434 ∧ k_ ≠ g446 ∧ k_ ≠ g450) (.slice Ao286 t403.length co286) t403) ∧ Aside0 (wc.heap[g402]? = some (.cells #[.int .i64 t399, .int .i64 t400] 25 (0, 0))) ∧ Aside0 (wc.heap[g414]? = some (.cells #[.int .i64 t411, .int .i64 t412] 25 (0, 0))) ∧ Aside0 (wc.heap[g418]? = some (.cells #[.int .i64 t415, .int .i64 t416] 25 (0, 0))) ∧ Aside0 (wc.heap[g422]? = some (.cells #[.int .i64 t419, .int .i64 t420] 25 (0, 0))) ∧ Aside0 (wc.heap[g426]? = some (.cells #[.int .i64 t423, .int .i64 t424] 25 (0, 0))) ∧ Aside0 (wc.heap[g430]? = some (.cells #[.int .i64 t427, .int .i64 t428] 25 (0, 0))) ∧ Aside0 (wc.heap[g434]? = some (.cells #[.int .i64 t431, .int .i64 t432] 25 (0, 0))) ∧ Aside0 (wc.heap[g446]? = some (.cells #[.int .i64 t443, .int .i64 t444] 25 (0, 0))) ∧ Aside0 (wc.heap[g450]? = some (.cells #[.int .i64 t447, .int .i64 t448] 25 (0, 0))) ∧ Aside0 (Below w.heap.size w wc))
                  case first => as_aux_lemma =>
                   have H := HC381.out
                   clear HC381
                   by_cases c382 : (wrap64 (2 * t399)) = t400
                   ·
                    rw [if_pos c382] at H
                    have c382b0 : ((wrap64 (2 * t399)) == t400) = true := beq_iff_eq.mpr c382
                    have c382b1 : ((wrap64 (2 * t399)) != t400) = false := bne_eq_false_iff_eq.mpr c382
                    clear c382
                    (first | rw [c382b0] | (simp only [i64_w, i32_w]; rw [c382b0]) | skip)
                    by_cases c383 : t397 > 0
                    ·
                     rw [if_pos c383] at H
                     have c383b0 : decide (0 < t397) = true := decide_eq_true c383
                     clear c383
                     have H' := Aa14q H
                     clear H
                     have hcz392_0 : wc.cell? ⟨g402, 0, none⟩ = some (.int .i64 t399) := (blk_cell BK402.out 0).trans rfl
                     have hcz392_1 : wc.cell? ⟨g402, 1, none⟩ = some (.int .i64 t400) := (blk_cell BK402.out 1).trans rfl
                     have hfz392_0 := blk_frozen BK402.out 0
                     have hfz392_1 := blk_frozen BK402.out 1
                     as_aux_lemma =>
                      go_wp2
                      go_meet
                      case rel => exact ⟨_, (decide (t397 < t398)), Za145, H', ⟨by have := HJ13.out; have := HK2.out; have := HJ306.out; have := HJ326.out; first | omega | exact Nat.le_refl _⟩, ⟨by (with_reducible repeat (first | apply Kd.R_alloc | apply Kd.R_drewN | apply Kd.R_drew)); exact HO_9.out⟩, ⟨UL402⟩, ⟨UL414⟩, ⟨UL418⟩, ⟨UL422⟩, ⟨UL426⟩, ⟨UL430⟩, ⟨UL434⟩, ⟨UL446⟩, ⟨UL450⟩, ⟨HL⟩⟩
                    ·
                     rw [if_neg c383] at H
                     have c383b0 : decide (0 < t397) = false := decide_eq_false c383
                     clear c383
                     have H' := Aa14q H
                     clear H
                     have hcz401_0 : wc.cell? ⟨g402, 0, none⟩ = some (.int .i64 t399) := (blk_cell BK402.out 0).trans rfl
                     have hcz401_1 : wc.cell? ⟨g402, 1, none⟩ = some (.int .i64 t400) := (blk_cell BK402.out 1).trans rfl
                     have hfz401_0 := blk_frozen BK402.out 0
                     have hfz401_1 := blk_frozen BK402.out 1
                     as_aux_lemma =>
                      go_wp2
                      go_meet
                      case rel => exact ⟨_, (false), Za145, H', ⟨by have := HJ13.out; have := HK2.out; have := HJ306.out; have := HJ326.out; first | omega | exact Nat.le_refl _⟩, ⟨by (with_reducible repeat (first | apply Kd.R_alloc | apply Kd.R_drewN | apply Kd.R_drew)); exact HO_9.out⟩, ⟨UL402⟩, ⟨UL414⟩, ⟨UL418⟩, ⟨UL422⟩, ⟨UL426⟩, ⟨UL430⟩, ⟨UL434⟩, ⟨UL446⟩, ⟨UL450⟩, ⟨HL⟩⟩
                   ·
                    rw [if_neg c382] at H
                    have c382b0 : ((wrap64 (2 * t399)) == t400) = false := beq_eq_false_iff_ne.mpr c382
                    have c382b1 : ((wrap64 (2 * t399)) != t400) = true := bne_iff_ne.mpr c382
                    (first | rw [c382b0] | (simp only [i64_w, i32_w]; rw [c382b0]) | skip)
                    have H' := Aa14q H
                    clear H
                    have hcz410_0 : wc.cell? ⟨g402, 0, none⟩ = some (.int .i64 t399) := (blk_cell BK402.out 0).trans rfl
                    have hcz410_1 : wc.cell? ⟨g402, 1, none⟩ = some (.int .i64 t400) := (blk_cell BK402.out 1).trans rfl
                    have hfz410_0 := blk_frozen BK402.out 0
                    have hfz410_1 := blk_frozen BK402.out 1
                    as_aux_lemma =>
                     go_wp2
                     go_meet
                     case rel => exact ⟨_, (false), Za145, H', ⟨by have := HJ13.out; have := HK2.out; have := HJ306.out; have := HJ326.out; first | omega | exact Nat.le_refl _⟩, ⟨by (with_reducible repeat (first | apply Kd.R_alloc | apply Kd.R_drewN | apply Kd.R_drew)); exact HO_9.out⟩, ⟨UL402⟩, ⟨UL414⟩, ⟨UL418⟩, ⟨UL422⟩, ⟨UL426⟩, ⟨UL430⟩, ⟨UL434⟩, ⟨UL446⟩, ⟨UL450⟩, ⟨HL⟩⟩
                  case rest => as_aux_lemma =>
                   clear HC381
                   obtain ⟨kq, x310_380, rfl, HA, HJ380, HO_9, BK402, BK414, BK418, BK422, BK426, BK430, BK434, BK446, BK450, HB⟩ := hcut
                   cases kq with
                   | zero => exact absurd HA.out (by simp [laws_FnRuinInTime.j5])
                   | succ kj380 =>
                    have H := HA.out
                    clear HA
                    simp only [laws_FnRuinInTime.j5] at H
                    by_cases c411 : x310_380 = true
                    ·
                     subst c411
                     rw [if_pos rfl] at H
                     replace H := Option.bind_eq_some_iff.mp H
                     obtain ⟨⟨t455, t456⟩, A4120, H⟩ := H
                     try dsimp only at H
                     have A412 := Aa14q A4120
                     clear A4120
                     by_cases c413 : t456 = true
                     ·
                      subst c413
                      rw [if_pos rfl] at H
                      replace H := Option.bind_eq_some_iff.mp H
                      obtain ⟨t457, A4140, H⟩ := H
                      replace H : ((laws_yTimes.f t443 t444 t436).bind fun t458 => (if (wrap64 (t457 - t458)) = t455 then (laws_FnRuinInTime.j6 kj380 l1 t397 t403 t436 t399 t400) else (none))) = some r := H
                      have A414 := Aa14q A4140
                      clear A4140
                      replace H := Option.bind_eq_some_iff.mp H
                      obtain ⟨t458, A4150, H⟩ := H
                      replace H : (if (wrap64 (t457 - t458)) = t455 then (laws_FnRuinInTime.j6 kj380 l1 t397 t403 t436 t399 t400) else (none)) = some r := H
                      have A415 := Aa14q A4150
                      clear A4150
                      by_cases c416 : (wrap64 (t457 - t458)) = t455
                      ·
                       rw [if_pos c416] at H
                       have c416b0 : ((wrap64 (t457 - t458)) == t455) = true := beq_iff_eq.mpr c416
                       have c416b1 : ((wrap64 (t457 - t458)) != t455) = false := bne_eq_false_iff_eq.mpr c416
                       clear c416
                       have H' := Aa14q H
                       clear H
                       try go_wp2_with (first | ((with_reducible refine gate_callee (f := 17) rfl ?_); refine goesL_ (some 315) rfl rfl Try.func17 Za146 rfl #[.int .i64 t397, .int .i64 t398, .int .i64 t401] rfl Za141 ?_; (with_reducible refine (impl_CountWins.calls kj380 t397 t398 t401 t455 true _ A412.out).mono ?_); rintro e w417 ⟨rfl, hb⟩; refine ⟨_, rfl, ?_⟩; replace HO_9 := Aa14q (Kd.R_below Za144 hb); replace BK402 := bL BK402 UL402 hb; replace BK414 := bL BK414 UL414 hb; replace BK418 := bL BK418 UL418 hb; replace BK422 := bL BK422 UL422 hb; replace BK426 := bL BK426 UL426 hb; replace BK430 := bL BK430 UL430 hb; replace BK434 := bL BK434 UL434 hb; replace BK446 := bL BK446 UL446 hb; replace BK450 := bL BK450 UL450 hb; replace HB := tL HL hb; (try clear hb); (try clear hb2); (try clear hk); (try clear hi)))
                       replace HO_9 := Aa14q (Kd.R_drew HO_9.out)
                       replace BK402 := Aa14q (blk_drew BK402.out)
                       replace BK414 := Aa14q (blk_drew BK414.out)
                       replace BK418 := Aa14q (blk_drew BK418.out)
                       replace BK422 := Aa14q (blk_drew BK422.out)
                       replace BK426 := Aa14q (blk_drew BK426.out)
                       replace BK430 := Aa14q (blk_drew BK430.out)
                       replace BK434 := Aa14q (blk_drew BK434.out)
                       replace BK446 := Aa14q (blk_drew BK446.out)
                       replace BK450 := Aa14q (blk_drew BK450.out)
                       replace HB := Aa14q (below_drew1 HB.out)
                       refine start_ (n := 13) (S := fun w' => w'.cell? ⟨g414, 0, none⟩ = some (.int .i64 t411) ∧ w'.cell? ⟨g414, 1, none⟩ = some (.int .i64 t412) ∧ w'.cell? ⟨g446, 0, none⟩ = some (.int .i64 t443) ∧ w'.cell? ⟨g446, 1, none⟩ = some (.int .i64 t444)) (ds := []) #[false, false, false, false, false, false, false, false, false, false, false, false, false] Za146 rfl rfl ⟨(blk_cell BK414.out 0).trans rfl, (blk_cell BK414.out 1).trans rfl, (blk_cell BK446.out 0).trans rfl, (blk_cell BK446.out 1).trans rfl⟩ (fun hHeld => ?_); refine with_tabW laws_FnRuinInTime.tab38 laws_FnRuinInTime.bits38 (fun HT_ HW_ => ?_)
                       generalize w417.drew = w418 at HO_9 BK402 BK414 BK418 BK422 BK426 BK430 BK434 BK446 BK450 HB hHeld ⊢
                       refine pure_ (i := 0) (N := some 318) (v := ?_) (a' := ?_) #[true, false, false, false, false, false, false, false, false, false, false, false, false] rfl rfl (any_of HT_.out Za146) (fun _ _ _ h => h) (Or.inl ⟨by rfl, ?_⟩) ?_ ?_
                       rotate_left
                       ·
                        intro w'
                        go_simp
                        with_reducible rfl
                       rotate_left
                       ·
                        simp only [Act.put, y1a14, y2a14, y3a14, i64_w, i32_w]
                        rfl
                       refine pure_ (i := 1) (N := some 319) (v := ?_) (a' := ?_) #[true, true, false, false, false, false, false, false, false, false, false, false, false] rfl rfl (any_of HT_.out Za146) (fun _ _ _ h => h) (Or.inl ⟨by rfl, ?_⟩) ?_ ?_
                       rotate_left
                       ·
                        intro w'
                        go_simp
                        with_reducible rfl
                       rotate_left
                       ·
                        simp only [Act.put, y1a14, y2a14, y3a14, i64_w, i32_w]
                        rfl
                       refine pure_ (i := 2) (N := some 320) (v := ?_) (a' := ?_) #[true, true, true, false, false, false, false, false, false, false, false, false, false] rfl rfl (any_of HT_.out Za146) (fun _ _ _ h => h) (Or.inl ⟨by rfl, ?_⟩) ?_ ?_
                       rotate_left
                       ·
                        intro w'
                        go_simp
                        with_reducible rfl
                       rotate_left
                       ·
                        simp only [Act.put, y1a14, y2a14, y3a14, i64_w, i32_w]
                        rfl
                       refine pure_ (i := 4) (N := some 322) (v := ?_) (a' := ?_) #[true, true, true, false, true, false, false, false, false, false, false, false, false] rfl rfl (any_of HT_.out Za146) (fun _ _ _ h => h) (Or.inl ⟨by rfl, ?_⟩) ?_ ?_
                       rotate_left
                       ·
                        intro w'
                        go_simp
                        with_reducible rfl
                       rotate_left
                       ·
                        simp only [Act.put, y1a14, y2a14, y3a14, i64_w, i32_w]
                        rfl
                       refine pure_ (i := 7) (N := some 325) (v := ?_) (a' := ?_) #[true, true, true, false, true, false, false, true, false, false, false, false, false] rfl rfl (any_of HT_.out Za146) (fun _ _ _ h => h) (Or.inl ⟨by rfl, ?_⟩) ?_ ?_
                       rotate_left
                       ·
                        intro w'
                        go_simp
                        with_reducible rfl
                       rotate_left
                       ·
                        simp only [Act.put, y1a14, y2a14, y3a14, i64_w, i32_w]
                        rfl
                       refine pure_ (i := 10) (N := some 328) (v := ?_) (a' := ?_) #[true, true, true, false, true, false, false, true, false, false, true, false, false] rfl rfl (any_of HT_.out Za146) (fun _ _ _ h => h) (Or.inl ⟨by rfl, ?_⟩) ?_ ?_
                       rotate_left
                       ·
                        intro w'
                        go_simp
                        with_reducible rfl
                       rotate_left
                       ·
                        simp only [Act.put, y1a14, y2a14, y3a14, i64_w, i32_w]
                        rfl
                       refine take_ (i := 3) (N := some 321) (v := ?_) (a' := ?_) #[true, true, true, true, true, false, false, true, false, false, true, false, false] rfl rfl (take_ofW HT_.out HW_.out Za146) (fun _ _ _ h => h) (Or.inl ⟨by rfl, ?_⟩) hHeld ?_ ?_
                       rotate_left
                       ·
                        rintro w' ⟨s0, s1, s2, s3⟩
                        go_simp
                        with_reducible rfl
                       rotate_left
                       ·
                        simp only [Act.put, y1a14, y2a14, y3a14, i64_w, i32_w]
                        rfl
                       refine take_ (i := 6) (N := some 324) (v := ?_) (a' := ?_) #[true, true, true, true, true, false, true, true, false, false, true, false, false] rfl rfl (take_ofW HT_.out HW_.out Za146) (fun _ _ _ h => h) (Or.inl ⟨by rfl, ?_⟩) hHeld ?_ ?_
                       rotate_left
                       ·
                        rintro w' ⟨s0, s1, s2, s3⟩
                        go_simp
                        with_reducible rfl
                       rotate_left
                       ·
                        simp only [Act.put, y1a14, y2a14, y3a14, i64_w, i32_w]
                        rfl
                       refine one_ (i := 5) (N := some 323) #[true, true, true, true, true, true, true, true, false, false, true, false, false] rfl rfl (one_of HT_.out Za146) (by decide) (fun K hK => ?_)
                       refine goes_ Try.func16 Za146 rfl #[.agg #[.int .i64 t411, .int .i64 t412], .int .i64 t436] (by rfl) rfl rfl Za141 ?_
                       with_reducible refine (laws_yTimes.calls t411 t412 t436 t457 _ A414.out).mono ?_
                       rintro e w419 ⟨rfl, hb⟩
                       refine ⟨_, rfl, ?_⟩
                       replace HO_9 := Aa14q (Kd.R_below Za144 hb)
                       replace BK402 := bL BK402 UL402 hb
                       replace BK414 := bL BK414 UL414 hb
                       replace BK418 := bL BK418 UL418 hb
                       replace BK422 := bL BK422 UL422 hb
                       replace BK426 := bL BK426 UL426 hb
                       replace BK430 := bL BK430 UL430 hb
                       replace BK434 := bL BK434 UL434 hb
                       replace BK446 := bL BK446 UL446 hb
                       replace BK450 := bL BK450 UL450 hb
                       replace HB := tL HL hb
                       (try clear hb)
                       (try clear hb2)
                       (try clear hk)
                       (try clear hi)
                       refine hK.out _ _ ⟨(blk_cell BK414.out 0).trans rfl, (blk_cell BK414.out 1).trans rfl, (blk_cell BK446.out 0).trans rfl, (blk_cell BK446.out 1).trans rfl⟩ (fun hHeld => ?_)
                       clear hK K
                       refine norm_ (a' := ?_) ?_ ?_
                       rotate_left
                       ·
                        show Act.put _ (some 323) _ = _
                        simp only [Act.put, y1a14, y2a14, y3a14, i64_w, i32_w]
                        rfl
                       refine one_ (i := 8) (N := some 326) #[true, true, true, true, true, true, true, true, true, false, true, false, false] rfl rfl (one_of HT_.out Za146) (by decide) (fun K hK => ?_)
                       refine goes_ Try.func16 Za146 rfl #[.agg #[.int .i64 t443, .int .i64 t444], .int .i64 t436] (by rfl) rfl rfl Za141 ?_
                       with_reducible refine (laws_yTimes.calls t443 t444 t436 t458 _ A415.out).mono ?_
                       rintro e w420 ⟨rfl, hb⟩
                       refine ⟨_, rfl, ?_⟩
                       replace HO_9 := Aa14q (Kd.R_below Za144 hb)
                       replace BK402 := bL BK402 UL402 hb
                       replace BK414 := bL BK414 UL414 hb
                       replace BK418 := bL BK418 UL418 hb
                       replace BK422 := bL BK422 UL422 hb
                       replace BK426 := bL BK426 UL426 hb
                       replace BK430 := bL BK430 UL430 hb
                       replace BK434 := bL BK434 UL434 hb
                       replace BK446 := bL BK446 UL446 hb
                       replace BK450 := bL BK450 UL450 hb
                       replace HB := tL HL hb
                       (try clear hb)
                       (try clear hb2)
                       (try clear hk)
                       (try clear hi)
                       refine hK.out _ _ ⟨(blk_cell BK414.out 0).trans rfl, (blk_cell BK414.out 1).trans rfl, (blk_cell BK446.out 0).trans rfl, (blk_cell BK446.out 1).trans rfl⟩ (fun hHeld => ?_)
                       clear hK K
                       refine norm_ (a' := ?_) ?_ ?_
                       rotate_left
                       ·
                        show Act.put _ (some 326) _ = _
                        simp only [Act.put, y1a14, y2a14, y3a14, i64_w, i32_w]
                        rfl
                       refine pure_ (i := 9) (N := some 327) (v := ?_) (a' := ?_) #[true, true, true, true, true, true, true, true, true, true, true, false, false] rfl rfl (any_of HT_.out Za146) (fun _ _ _ h => h) (Or.inl ⟨by rfl, ?_⟩) ?_ ?_
                       rotate_left
                       ·
                        intro w'
                        go_simp
                        with_reducible rfl
                       rotate_left
                       ·
                        simp only [Act.put, y1a14, y2a14, y3a14, i64_w, i32_w]
                        rfl
                       refine pure_ (i := 11) (N := some 329) (v := ?_) (a' := ?_) #[true, true, true, true, true, true, true, true, true, true, true, true, false] rfl rfl (any_of HT_.out Za146) (fun _ _ _ h => h) (Or.inl ⟨by rfl, ?_⟩) ?_ ?_
                       rotate_left
                       ·
                        intro w'
                        go_simp
                        with_reducible rfl
                       rotate_left
                       ·
                        simp only [Act.put, y1a14, y2a14, y3a14, i64_w, i32_w]
                        rfl
                       refine pure_ (i := 12) (N := some 330) (v := ?_) (a' := ?_) #[true, true, true, true, true, true, true, true, true, true, true, true, true] rfl rfl (any_of HT_.out Za146) (fun _ _ _ h => h) (Or.inl ⟨by rfl, ?_⟩) ?_ ?_
                       rotate_left
                       ·
                        intro w'
                        go_simp
                        with_reducible rfl
                       rotate_left
                       ·
                        simp only [Act.put, y1a14, y2a14, y3a14, i64_w, i32_w]
                        rfl
                       refine done_ (done_of HT_.out Za146) ?_
                       try go_wp2
                       go_meet
                       case rel => exact ⟨_, H', ⟨by have := HJ13.out; have := HK2.out; have := HJ306.out; have := HJ326.out; have := HJ380.out; first | omega | exact Nat.le_refl _⟩, ⟨by (with_reducible repeat (first | apply Kd.R_alloc | apply Kd.R_drewN | apply Kd.R_drew)); exact Kd.R_mono HO_9.out (fun _ hk => ⟨hk.1, ⟨hk.2.1, ⟨hk.2.2.1, ⟨hk.2.2.2.1, ⟨hk.2.2.2.2.1, ⟨hk.2.2.2.2.2.1, hk.2.2.2.2.2.2.1⟩⟩⟩⟩⟩⟩)⟩, ⟨UL402⟩, ⟨UL414⟩, ⟨UL418⟩, ⟨UL422⟩, ⟨UL426⟩, ⟨UL430⟩, ⟨UL434⟩, ⟨HL⟩⟩
                      ·
                       rw [if_neg c416] at H
                       exact absurd H (by simp)
                     ·
                      replace c413 := Bool.eq_false_iff.mpr c413
                      subst c413
                      rw [if_neg Bool.false_ne_true] at H
                      exact absurd H (by simp)
                    ·
                     replace c411 := Bool.eq_false_iff.mpr c411
                     subst c411
                     rw [if_neg Bool.false_ne_true] at H
                     have H' := Aa14q H
                     clear H
                     as_aux_lemma =>
                      go_wp2
                      go_meet
                      case rel => exact ⟨_, H', ⟨by have := HJ13.out; have := HK2.out; have := HJ306.out; have := HJ326.out; have := HJ380.out; first | omega | exact Nat.le_refl _⟩, ⟨by (with_reducible repeat (first | apply Kd.R_alloc | apply Kd.R_drewN | apply Kd.R_drew)); exact Kd.R_mono HO_9.out (fun _ hk => ⟨hk.1, ⟨hk.2.1, ⟨hk.2.2.1, ⟨hk.2.2.2.1, ⟨hk.2.2.2.2.1, ⟨hk.2.2.2.2.2.1, hk.2.2.2.2.2.2.1⟩⟩⟩⟩⟩⟩)⟩, ⟨UL402⟩, ⟨UL414⟩, ⟨UL418⟩, ⟨UL422⟩, ⟨UL426⟩, ⟨UL430⟩, ⟨UL434⟩, ⟨HL⟩⟩
              ·
               rw [if_neg c324] at H
               have c324b0 : decide (0 < t401) = false := decide_eq_false c324
               clear c324
               (first | rw [c324b0] | (simp only [i64_w, i32_w]; rw [c324b0]) | skip)
               have H' := Aa14q H
               clear H
               as_aux_lemma =>
                go_wp2
                go_meet
                case rel => exact ⟨_, H', ⟨by have := HJ13.out; have := HK2.out; have := HJ306.out; first | omega | exact Nat.le_refl _⟩, ⟨by (with_reducible repeat (first | apply Kd.R_alloc | apply Kd.R_drewN | apply Kd.R_drew)); exact HO_9.out⟩, ⟨UL402⟩, ⟨UL414⟩, ⟨UL418⟩, ⟨UL422⟩, ⟨UL426⟩, ⟨UL430⟩, ⟨UL434⟩, ⟨HL⟩⟩
             case rest => as_aux_lemma =>
              clear HC323
              obtain ⟨kq, HA, HJ322, HO_9, BK402, BK414, BK418, BK422, BK426, BK430, BK434, HB⟩ := hcut
              cases kq with
              | zero => exact absurd HA.out (by simp [laws_FnRuinInTime.j6])
              | succ kj322 =>
               have H := HA.out
               clear HA
               simp only [laws_FnRuinInTime.j6] at H
               by_cases c421 : (wrap64 (2 * t399)) = t400
               ·
                rw [if_pos c421] at H
                have c421b0 : ((wrap64 (2 * t399)) == t400) = true := beq_iff_eq.mpr c421
                have c421b1 : ((wrap64 (2 * t399)) != t400) = false := bne_eq_false_iff_eq.mpr c421
                clear c421
                have H' := Aa14q H
                clear H
                have hcz428_0 : wc.cell? ⟨g402, 0, none⟩ = some (.int .i64 t399) := (blk_cell BK402.out 0).trans rfl
                have hcz428_1 : wc.cell? ⟨g402, 1, none⟩ = some (.int .i64 t400) := (blk_cell BK402.out 1).trans rfl
                have hfz428_0 := blk_frozen BK402.out 0
                have hfz428_1 := blk_frozen BK402.out 1
                go_wp2
                go_loopg [37, 339] kj322 (fun kq v37 v339 w' => ∃ (x37_5 : Int) (x339_5 : Int), v37 = .int .i64 x37_5 ∧ v339 = .int .i64 x339_5 ∧ Aside0 (laws_FnRuinInTime.l1 kq l1 t397 t436 x37_5 t403 (t403.length : Int) x339_5 = some r) ∧ Aside0 (kq ≤ kj322) ∧ Aside0 (Kd.R k25 25 w' w.heap.size (fun k_ => k_ ≠ g402 ∧ k_ ≠ g414 ∧ k_ ≠ g418 ∧ k_ ≠ g422 ∧ k_ ≠ g426 ∧ k_ ≠ g430 ∧ k_ ≠ g434) (.slice Ao286 t403.length co286) t403) ∧ Aside0 (w'.heap[g402]? = some (.cells #[.int .i64 t399, .int .i64 t400] 25 (0, 0))) ∧ Aside0 (w'.heap[g414]? = some (.cells #[.int .i64 t411, .int .i64 t412] 25 (0, 0))) ∧ Aside0 (w'.heap[g418]? = some (.cells #[.int .i64 t415, .int .i64 t416] 25 (0, 0))) ∧ Aside0 (w'.heap[g422]? = some (.cells #[.int .i64 t419, .int .i64 t420] 25 (0, 0))) ∧ Aside0 (w'.heap[g426]? = some (.cells #[.int .i64 t423, .int .i64 t424] 25 (0, 0))) ∧ Aside0 (w'.heap[g430]? = some (.cells #[.int .i64 t427, .int .i64 t428] 25 (0, 0))) ∧ Aside0 (w'.heap[g434]? = some (.cells #[.int .i64 t431, .int .i64 t432] 25 (0, 0))) ∧ Aside0 (Below w.heap.size w w'))
                case atStart => exact ⟨(0), (0), Za145, Za145, H', ⟨Nat.le_refl _⟩, ⟨by (with_reducible repeat (first | apply Kd.R_alloc | apply Kd.R_drewN | apply Kd.R_drew)); exact HO_9.out⟩, ⟨UL402⟩, ⟨UL414⟩, ⟨UL418⟩, ⟨UL422⟩, ⟨UL426⟩, ⟨UL430⟩, ⟨UL434⟩, ⟨HL⟩⟩
                case round =>
                 clear H'
                 obtain ⟨x37_5, x339_5, rfl, rfl, HA, HK5, HO_337, BK402, BK414, BK418, BK422, BK426, BK430, BK434, HB⟩ := hrel
                 cases gk with
                 | zero => exact absurd HA.out (by simp [laws_FnRuinInTime.l1])
                 | succ k5 =>
                  have H := HA.out
                  clear HA
                  simp only [laws_FnRuinInTime.l1] at H
                  by_cases c429 : x339_5 < (t403.length : Int)
                  ·
                   rw [if_pos c429] at H
                   have c429b0 : decide (x339_5 < (t403.length : Int)) = true := decide_eq_true c429
                   clear c429
                   by_cases c430 : 0 ≤ x339_5
                   ·
                    rw [if_pos c430] at H
                    have c430b0 : decide (0 ≤ x339_5) = true := decide_eq_true c430
                    clear c430
                    by_cases c431 : x339_5 < (t403.length : Int)
                    ·
                     rw [if_pos c431] at H
                     have c431b0 : decide (x339_5 < (t403.length : Int)) = true := decide_eq_true c431
                     clear c431
                     replace H := Option.bind_eq_some_iff.mp H
                     obtain ⟨t461, A4320, H⟩ := H
                     replace H : (laws_FnRuinInTime.l1 k5 l1 t397 t436 (wrap64 (x37_5 + (wrap64 (x339_5 * t461)))) t403 (t403.length : Int) (wrap64 (x339_5 + 1))) = some r := H
                     have A432 := Aa14q A4320
                     clear A4320
                     have H' := Aa14q H
                     clear H
                     have p459 : 0 ≤ (x339_5 : Int) := of_decide_eq_true (by first | (with_reducible assumption) | assumption)
                     have q459 : x339_5 < (t403.length : Int) := of_decide_eq_true (by first | (with_reducible assumption) | assumption)
                     obtain ⟨ad459, e459, hx459_0, hx459_1⟩ := at_T25 (Kd.R_reads' HO_337.out).2.2 x339_5 p459 q459
                     cases e459
                     replace p459 := eq_true p459
                     replace q459 := eq_true q459
                     go_wp2_with (first | ((with_reducible refine gate_dst (N := 39) rfl ?_); refine box_event ?hg (N := 39) ?hd (cs := #[.int .i64 0, .int .i64 0]) (t := 25) ?hr ?_; (case hd => rfl); (case hg => rfl); (case hr => first | (go_simp; done) | (go_simp; rfl)); intro g460 hg w433 hbox hb; have BK460 := Aa14q (hbox); have GE460 := sL HL hg; have NB402_460 := nL BK402 UL402 hg; have NB460_402 := mL BK402 UL402 hg; have NB414_460 := nL BK414 UL414 hg; have NB460_414 := mL BK414 UL414 hg; have NB418_460 := nL BK418 UL418 hg; have NB460_418 := mL BK418 UL418 hg; have NB422_460 := nL BK422 UL422 hg; have NB460_422 := mL BK422 UL422 hg; have NB426_460 := nL BK426 UL426 hg; have NB460_426 := mL BK426 UL426 hg; have NB430_460 := nL BK430 UL430 hg; have NB460_430 := mL BK430 UL430 hg; have NB434_460 := nL BK434 UL434 hg; have NB460_434 := mL BK434 UL434 hg; replace HO_337 := Aa14q (Kd.R_below (Kd.R_elderB (by (with_reducible repeat (first | apply Kd.R_alloc | apply Kd.R_drewN | apply Kd.R_drew)); exact HO_337.out) g460 (Nat.le_of_eq hg.symm)) hb); replace BK402 := bL BK402 UL402 hb; replace BK414 := bL BK414 UL414 hb; replace BK418 := bL BK418 UL418 hb; replace BK422 := bL BK422 UL422 hb; replace BK426 := bL BK426 UL426 hb; replace BK430 := bL BK430 UL430 hb; replace BK434 := bL BK434 UL434 hb; replace HB := tL HL hb; clear hb hbox hg; have hcz441_0 : w433.cell? ⟨g460, 0, none⟩ = some (.int .i64 0) := (blk_cell BK460.out 0).trans rfl; have hcz441_1 : w433.cell? ⟨g460, 1, none⟩ = some (.int .i64 0) := (blk_cell BK460.out 1).trans rfl; have hfz441_0 := blk_frozen BK460.out 0; have hfz441_1 := blk_frozen BK460.out 1) | ((with_reducible refine gate_callee (f := 16) rfl ?_); refine goesL_ (some 348) rfl rfl Try.func16 Za146 rfl #[.agg #[.int .i64 ((rd_T25 t403 x339_5).f0), .int .i64 ((rd_T25 t403 x339_5).f1)], .int .i64 t436] rfl Za141 ?_; (with_reducible refine (laws_yTimes.calls ((rd_T25 t403 x339_5).f0) ((rd_T25 t403 x339_5).f1) t436 t461 _ A432.out).mono ?_); rintro e w442 ⟨rfl, hb⟩; refine ⟨_, rfl, ?_⟩; replace HO_337 := Aa14q (Kd.R_below (by (with_reducible repeat (first | apply Kd.R_alloc | apply Kd.R_drewN | apply Kd.R_drew)); exact (Kd.R_mono (Kd.R_far (p := ⟨g460, 1, none⟩) (Kd.R_far (p := ⟨g460, 0, none⟩) (Kd.R_mono HO_337.out (fun k_ hk => (⟨hk, hk.2⟩ : _ ∧ k_ ≠ g460))) (fun _ hk => hk.2) (.int .i64 ((rd_T25 t403 x339_5).f0))) (fun _ hk => hk.2) (.int .i64 ((rd_T25 t403 x339_5).f1))) (fun _ h_ => h_.1))) hb); replace BK402 := bL BK402 UL402 hb; replace BK414 := bL BK414 UL414 hb; replace BK418 := bL BK418 UL418 hb; replace BK422 := bL BK422 UL422 hb; replace BK426 := bL BK426 UL426 hb; replace BK430 := bL BK430 UL430 hb; replace BK434 := bL BK434 UL434 hb; replace BK460 := Aa14q (blk_below (g := g460) (o := .cells #[.int .i64 ((rd_T25 t403 x339_5).f0), .int .i64 ((rd_T25 t403 x339_5).f1)] 25 (0, 0)) (by (with_reducible repeat (first | refine blk_drewN ?_ _ | refine blk_drew ?_ | refine blk_alloc ?_ _)); refine blk_put (cs := #[.int .i64 ((rd_T25 t403 x339_5).f0), .int .i64 0]) ?_ 1 _ rfl; (with_reducible repeat (first | refine blk_drewN ?_ _ | refine blk_drew ?_ | refine blk_alloc ?_ _)); refine blk_put (cs := #[.int .i64 0, .int .i64 0]) ?_ 0 _ rfl; (with_reducible repeat (first | refine blk_drewN ?_ _ | refine blk_drew ?_ | refine blk_alloc ?_ _)); exact BK460.out) hb); replace HB := tL HL hb; (try clear hb); (try clear hb2); (try clear hk); (try clear hi)))
                     go_roundg k5
                     case measure => have := HJ13.out; have := HK2.out; have := HJ306.out; have := HJ322.out; have := HK5.out; omega
                     case rel => exact ⟨(wrap64 (x37_5 + (wrap64 (x339_5 * t461)))), (wrap64 (x339_5 + 1)), Za145, Za145, H', ⟨by have := HJ13.out; have := HK2.out; have := HJ306.out; have := HJ322.out; have := HK5.out; omega⟩, ⟨by (with_reducible repeat (first | apply Kd.R_alloc | apply Kd.R_drewN | apply Kd.R_drew)); exact Kd.R_mono HO_337.out (fun _ hk => ⟨hk.1.1, ⟨hk.1.2.1, ⟨hk.1.2.2.1, ⟨hk.1.2.2.2.1, ⟨hk.1.2.2.2.2.1, ⟨hk.1.2.2.2.2.2.1, hk.1.2.2.2.2.2.2⟩⟩⟩⟩⟩⟩)⟩, ⟨UL402⟩, ⟨UL414⟩, ⟨UL418⟩, ⟨UL422⟩, ⟨UL426⟩, ⟨UL430⟩, ⟨UL434⟩, ⟨HL⟩⟩
                    ·
                     rw [if_neg c431] at H
                     exact absurd H (by simp)
                   ·
                    rw [if_neg c430] at H
                    exact absurd H (by simp)
                  ·
                   rw [if_neg c429] at H
                   have c429b0 : decide (x339_5 < (t403.length : Int)) = false := decide_eq_false c429
                   clear c429
                   by_cases c443 : x37_5 = (wrap64 (t397 * t436))
                   ·
                    rw [if_pos c443] at H
                    have c443b0 : (x37_5 == (wrap64 (t397 * t436))) = true := beq_iff_eq.mpr c443
                    have c443b1 : (x37_5 != (wrap64 (t397 * t436))) = false := bne_eq_false_iff_eq.mpr c443
                    clear c443
                    have H' := Aa14q H
                    clear H
                    as_aux_lemma =>
                     go_wp2
                     go_meet
                     case rel => exact ⟨_, H', ⟨by have := HJ13.out; have := HK2.out; have := HJ306.out; have := HJ322.out; have := HK5.out; first | omega | exact Nat.le_refl _⟩, ⟨UL402⟩, ⟨UL414⟩, ⟨UL418⟩, ⟨UL422⟩, ⟨UL426⟩, ⟨UL430⟩, ⟨UL434⟩, ⟨HL⟩⟩
                   ·
                    rw [if_neg c443] at H
                    exact absurd H (by simp)
               ·
                rw [if_neg c421] at H
                have c421b0 : ((wrap64 (2 * t399)) == t400) = false := beq_eq_false_iff_ne.mpr c421
                have c421b1 : ((wrap64 (2 * t399)) != t400) = true := bne_iff_ne.mpr c421
                have H' := Aa14q H
                clear H
                have hcz450_0 : wc.cell? ⟨g402, 0, none⟩ = some (.int .i64 t399) := (blk_cell BK402.out 0).trans rfl
                have hcz450_1 : wc.cell? ⟨g402, 1, none⟩ = some (.int .i64 t400) := (blk_cell BK402.out 1).trans rfl
                have hfz450_0 := blk_frozen BK402.out 0
                have hfz450_1 := blk_frozen BK402.out 1
                as_aux_lemma =>
                 go_wp2
                 go_meet
                 case rel => exact ⟨_, H', ⟨by have := HJ13.out; have := HK2.out; have := HJ306.out; have := HJ322.out; first | omega | exact Nat.le_refl _⟩, ⟨UL402⟩, ⟨UL414⟩, ⟨UL418⟩, ⟨UL422⟩, ⟨UL426⟩, ⟨UL430⟩, ⟨UL434⟩, ⟨HL⟩⟩
      ·
       replace c277 := Bool.eq_false_iff.mpr c277
       subst c277
       rw [if_neg Bool.false_ne_true] at H
       have H' := Aa14q H
       clear H
       as_aux_lemma =>
        go_wp2
        go_meet
        case rel => exact ⟨_, H', ⟨by have := HJ13.out; first | omega | exact Nat.le_refl _⟩, ⟨UL402⟩, ⟨UL414⟩, ⟨UL418⟩, ⟨UL422⟩, ⟨UL426⟩, ⟨UL430⟩, ⟨UL434⟩, ⟨HL⟩⟩
     case rest => as_aux_lemma =>
      clear HC276
      obtain ⟨kq, HA, HJ275, BK402, BK414, BK418, BK422, BK426, BK430, BK434, HB⟩ := hcut
      cases kq with
      | zero => exact absurd HA.out (by simp [laws_FnRuinInTime.j8])
      | succ kj275 =>
       have H := HA.out
       clear HA
       simp only [laws_FnRuinInTime.j8] at H
       replace H := Option.bind_eq_some_iff.mp H
       obtain ⟨⟨t462, t463, t464⟩, A4510, H⟩ := H
       try dsimp only at H
       have A451 := Aa14q A4510
       clear A4510
       replace H := Option.bind_eq_some_iff.mp H
       obtain ⟨⟨t465, t466⟩, A4520, H⟩ := H
       replace H : ((spec_CountWins.f kj275 t462 t463 t464).bind fun bt467 => (if (t466 != bt467.2) = true then (laws_FnRuinInTime.j9 kj275 t462 t463 t464 t465 t466 true) else (laws_FnRuinInTime.j9 kj275 t462 t463 t464 t465 t466 (t465 != bt467.1)))) = some r := H
       have A452 := Aa14q A4520
       clear A4520
       replace H := Option.bind_eq_some_iff.mp H
       obtain ⟨⟨t467, t468⟩, A4530, H⟩ := H
       replace H : (if (t466 != t468) = true then (laws_FnRuinInTime.j9 kj275 t462 t463 t464 t465 t466 true) else (laws_FnRuinInTime.j9 kj275 t462 t463 t464 t465 t466 (t465 != t467))) = some r := H
       have A453 := Aa14q A4530
       clear A4530
       have HC454 := Aa14q H
       clear H
       go_upto_region 52 with (first | ((with_reducible refine gate_callee (f := 18) rfl ?_); refine goesL_ (some 359) rfl rfl Try.func18 Za146 rfl #[.slice A1 l1.length c1] rfl Za141 ?_; (with_reducible refine (spec_DrawCountWins.calls _ _ l1 t462 t463 t464 _ ?side1 ?side2 A451.out).mono ?_); (case side1 => repeat (first | exact (Kd.C_below HR1.out HB.out) | (with_reducible refine Kd.C_alloc ?_ _) | (with_reducible refine Kd.C_drewN ?_ _) | (with_reducible refine Kd.C_drew ?_))); (case side2 => exact HC1.out); rintro e w455 ⟨rfl, hb⟩; refine ⟨_, rfl, ?_⟩; replace BK402 := bL BK402 UL402 hb; replace BK414 := bL BK414 UL414 hb; replace BK418 := bL BK418 UL418 hb; replace BK422 := bL BK422 UL422 hb; replace BK426 := bL BK426 UL426 hb; replace BK430 := bL BK430 UL430 hb; replace BK434 := bL BK434 UL434 hb; replace HB := tL HL hb; (try clear hb); (try clear hb2); (try clear hk); (try clear hi)) | ((with_reducible refine gate_callee (f := 17) rfl ?_); refine goesL_ (some 367) rfl rfl Try.func17 Za146 rfl #[.int .i64 t462, .int .i64 t463, .int .i64 t464] rfl Za141 ?_; (with_reducible refine (impl_CountWins.calls kj275 t462 t463 t464 t465 t466 _ A452.out).mono ?_); rintro e w456 ⟨rfl, hb⟩; refine ⟨_, rfl, ?_⟩; replace BK402 := bL BK402 UL402 hb; replace BK414 := bL BK414 UL414 hb; replace BK418 := bL BK418 UL418 hb; replace BK422 := bL BK422 UL422 hb; replace BK426 := bL BK426 UL426 hb; replace BK430 := bL BK430 UL430 hb; replace BK434 := bL BK434 UL434 hb; replace HB := tL HL hb; (try clear hb); (try clear hb2); (try clear hk); (try clear hi)) | ((with_reducible refine gate_callee (f := 19) rfl ?_); refine goesL_ (some 374) rfl rfl Try.func19 Za146 rfl #[.int .i64 t462, .int .i64 t463, .int .i64 t464] rfl Za141 ?_; (with_reducible refine (spec_CountWins.calls kj275 t462 t463 t464 t467 t468 _ A453.out).mono ?_); rintro e w457 ⟨rfl, hb⟩; refine ⟨_, rfl, ?_⟩; replace BK402 := bL BK402 UL402 hb; replace BK414 := bL BK414 UL414 hb; replace BK418 := bL BK418 UL418 hb; replace BK422 := bL BK422 UL422 hb; replace BK426 := bL BK426 UL426 hb; replace BK430 := bL BK430 UL430 hb; replace BK434 := bL BK434 UL434 hb; replace HB := tL HL hb; (try clear hb); (try clear hb2); (try clear hk); (try clear hi)))
       (try simp only [Act.put, y1a14, y2a14, y3a14])
       go_cut [384] from 1 to 0 (fun v384 wc => ∃ (kq : Nat) (x384_453 : Bool), v384 = .bool x384_453 ∧ Aside0 (laws_FnRuinInTime.j9 kq t462 t463 t464 t465 t466 x384_453 = some r) ∧ Aside0 (kq ≤ kj275) ∧ Aside0 (wc.heap[g402]? = some (.cells #[.int .i64 t399, .int .i64 t400] 25 (0, 0))) ∧ Aside0 (wc.heap[g414]? = some (.cells #[.int .i64 t411, .int .i64 t412] 25 (0, 0))) ∧ Aside0 (wc.heap[g418]? = some (.cells #[.int .i64 t415, .int .i64 t416] 25 (0, 0))) ∧ Aside0 (wc.heap[g422]? = some (.cells #[.int .i64 t419, .int .i64 t420] 25 (0, 0))) ∧ Aside0 (wc.heap[g426]? = some (.cells #[.int .i64 t423, .int .i64 t424] 25 (0, 0))) ∧ Aside0 (wc.heap[g430]? = some (.cells #[.int .i64 t427, .int .i64 t428] 25 (0, 0))) ∧ Aside0 (wc.heap[g434]? = some (.cells #[.int .i64 t431, .int .i64 t432] 25 (0, 0))) ∧ Aside0 (Below w.heap.size w wc))
       case first => as_aux_lemma =>
        have H := HC454.out
        clear HC454
        by_cases c458 : (t466 != t468) = true
        ·
         rw [if_pos c458] at H
         have c458b0 : (t466 != t468) = true := c458
         (try (have c458b1 : decide (t466 = t468) = false := by simpa using c458))
         (try (have c458b2 : (t466 == t468) = false := by simpa using c458))
         (try (have c458b3 : ¬ (t466 = t468) := by simpa using c458))
         clear c458
         (first | rw [c458b0] | (simp only [i64_w, i32_w]; rw [c458b0]) | skip)
         exact absurd H (by rw [dead_j9]; simp)
        ·
         rw [if_neg c458] at H
         have c458b0 : (t466 != t468) = false := by simpa using c458
         (try (have c458b1 : decide (t466 = t468) = true := by simpa using c458))
         (try (have c458b2 : (t466 == t468) = true := by simpa using c458))
         clear c458
         (first | rw [c458b0] | (simp only [i64_w, i32_w]; rw [c458b0]) | skip)
         have H' := Aa14q H
         clear H
         as_aux_lemma =>
          go_wp2
          go_meet
          case rel => exact ⟨_, ((t465 != t467)), Za145, H', ⟨by have := HJ13.out; have := HJ275.out; first | omega | exact Nat.le_refl _⟩, ⟨UL402⟩, ⟨UL414⟩, ⟨UL418⟩, ⟨UL422⟩, ⟨UL426⟩, ⟨UL430⟩, ⟨UL434⟩, ⟨HL⟩⟩
       case rest => as_aux_lemma =>
        clear HC454
        obtain ⟨kq, x384_453, rfl, HA, HJ453, BK402, BK414, BK418, BK422, BK426, BK430, BK434, HB⟩ := hcut
        cases kq with
        | zero => exact absurd HA.out (by simp [laws_FnRuinInTime.j9])
        | succ kj453 =>
         have H := HA.out
         clear HA
         simp only [laws_FnRuinInTime.j9] at H
         by_cases c459 : x384_453 = true
         ·
          subst c459
          rw [if_pos rfl] at H
          exact absurd H (by simp)
         ·
          replace c459 := Bool.eq_false_iff.mpr c459
          subst c459
          rw [if_neg Bool.false_ne_true] at H
          have HC460 := Aa14q H
          clear H
          go_upto_region 54 with (fail)
          go_cut [394] from 1 to 0 (fun v394 wc => ∃ (kq : Nat) (x394_459 : Bool), v394 = .bool x394_459 ∧ Aside0 (laws_FnRuinInTime.j10 kq t462 t463 t464 t465 x394_459 = some r) ∧ Aside0 (kq ≤ kj453) ∧ Aside0 (wc.heap[g402]? = some (.cells #[.int .i64 t399, .int .i64 t400] 25 (0, 0))) ∧ Aside0 (wc.heap[g414]? = some (.cells #[.int .i64 t411, .int .i64 t412] 25 (0, 0))) ∧ Aside0 (wc.heap[g418]? = some (.cells #[.int .i64 t415, .int .i64 t416] 25 (0, 0))) ∧ Aside0 (wc.heap[g422]? = some (.cells #[.int .i64 t419, .int .i64 t420] 25 (0, 0))) ∧ Aside0 (wc.heap[g426]? = some (.cells #[.int .i64 t423, .int .i64 t424] 25 (0, 0))) ∧ Aside0 (wc.heap[g430]? = some (.cells #[.int .i64 t427, .int .i64 t428] 25 (0, 0))) ∧ Aside0 (wc.heap[g434]? = some (.cells #[.int .i64 t431, .int .i64 t432] 25 (0, 0))) ∧ Aside0 (Below w.heap.size w wc))
          case first => as_aux_lemma =>
           have H := HC460.out
           clear HC460
           by_cases c461 : t466 = true
           ·
            subst c461
            rw [if_pos rfl] at H
            by_cases c462 : t464 > 0
            ·
             rw [if_pos c462] at H
             have c462b0 : decide (0 < t464) = true := decide_eq_true c462
             clear c462
             (first | rw [c462b0] | (simp only [i64_w, i32_w]; rw [c462b0]) | skip)
             have H' := Aa14q H
             clear H
             as_aux_lemma =>
              go_wp2
              go_meet
              case rel => exact ⟨_, (decide ((wrap64 (t463 - 1)) ≤ 40)), Za145, H', ⟨by have := HJ13.out; have := HJ275.out; have := HJ453.out; first | omega | exact Nat.le_refl _⟩, ⟨UL402⟩, ⟨UL414⟩, ⟨UL418⟩, ⟨UL422⟩, ⟨UL426⟩, ⟨UL430⟩, ⟨UL434⟩, ⟨HL⟩⟩
            ·
             rw [if_neg c462] at H
             have c462b0 : decide (0 < t464) = false := decide_eq_false c462
             clear c462
             (first | rw [c462b0] | (simp only [i64_w, i32_w]; rw [c462b0]) | skip)
             have H' := Aa14q H
             clear H
             as_aux_lemma =>
              go_wp2
              go_meet
              case rel => exact ⟨_, (false), Za145, H', ⟨by have := HJ13.out; have := HJ275.out; have := HJ453.out; first | omega | exact Nat.le_refl _⟩, ⟨UL402⟩, ⟨UL414⟩, ⟨UL418⟩, ⟨UL422⟩, ⟨UL426⟩, ⟨UL430⟩, ⟨UL434⟩, ⟨HL⟩⟩
           ·
            replace c461 := Bool.eq_false_iff.mpr c461
            subst c461
            rw [if_neg Bool.false_ne_true] at H
            have H' := Aa14q H
            clear H
            as_aux_lemma =>
             go_wp2
             go_meet
             case rel => exact ⟨_, (false), Za145, H', ⟨by have := HJ13.out; have := HJ275.out; have := HJ453.out; first | omega | exact Nat.le_refl _⟩, ⟨UL402⟩, ⟨UL414⟩, ⟨UL418⟩, ⟨UL422⟩, ⟨UL426⟩, ⟨UL430⟩, ⟨UL434⟩, ⟨HL⟩⟩
          case rest => as_aux_lemma =>
           clear HC460
           obtain ⟨kq, x394_459, rfl, HA, HJ459, BK402, BK414, BK418, BK422, BK426, BK430, BK434, HB⟩ := hcut
           cases kq with
           | zero => exact absurd HA.out (by simp [laws_FnRuinInTime.j10])
           | succ kj459 =>
            have H := HA.out
            clear HA
            simp only [laws_FnRuinInTime.j10] at H
            by_cases c463 : x394_459 = true
            ·
             subst c463
             rw [if_pos rfl] at H
             have HC464 := Aa14q H
             clear H
             go_upto_region 55 with (fail)
             go_cut [408] from 1 to 0 (fun v408 wc => ∃ (kq : Nat) (x408_463 : Bool), v408 = .bool x408_463 ∧ Aside0 (laws_FnRuinInTime.j11 kq t462 t463 t464 t465 x408_463 = some r) ∧ Aside0 (kq ≤ kj459) ∧ Aside0 (wc.heap[g402]? = some (.cells #[.int .i64 t399, .int .i64 t400] 25 (0, 0))) ∧ Aside0 (wc.heap[g414]? = some (.cells #[.int .i64 t411, .int .i64 t412] 25 (0, 0))) ∧ Aside0 (wc.heap[g418]? = some (.cells #[.int .i64 t415, .int .i64 t416] 25 (0, 0))) ∧ Aside0 (wc.heap[g422]? = some (.cells #[.int .i64 t419, .int .i64 t420] 25 (0, 0))) ∧ Aside0 (wc.heap[g426]? = some (.cells #[.int .i64 t423, .int .i64 t424] 25 (0, 0))) ∧ Aside0 (wc.heap[g430]? = some (.cells #[.int .i64 t427, .int .i64 t428] 25 (0, 0))) ∧ Aside0 (wc.heap[g434]? = some (.cells #[.int .i64 t431, .int .i64 t432] 25 (0, 0))) ∧ Aside0 (Below w.heap.size w wc))
             case first => as_aux_lemma =>
              have H := HC464.out
              clear HC464
              by_cases c465 : (Int.tmod (wrap64 ((wrap64 (t464 + t463)) - t462)) 2) = 0
              ·
               rw [if_pos c465] at H
               have c465b0 : ((Int.tmod (wrap64 ((wrap64 (t464 + t463)) - t462)) 2) == 0) = true := beq_iff_eq.mpr c465
               have c465b1 : ((Int.tmod (wrap64 ((wrap64 (t464 + t463)) - t462)) 2) != 0) = false := bne_eq_false_iff_eq.mpr c465
               clear c465
               (first | rw [c465b0] | (simp only [i64_w, i32_w]; rw [c465b0]) | skip)
               have H' := Aa14q H
               clear H
               as_aux_lemma =>
                go_wp2
                go_meet
                case rel => exact ⟨_, (decide (t464 ≥ (wrap64 (t463 - t462)))), Za145, H', ⟨by have := HJ13.out; have := HJ275.out; have := HJ453.out; have := HJ459.out; first | omega | exact Nat.le_refl _⟩, ⟨UL402⟩, ⟨UL414⟩, ⟨UL418⟩, ⟨UL422⟩, ⟨UL426⟩, ⟨UL430⟩, ⟨UL434⟩, ⟨HL⟩⟩
              ·
               rw [if_neg c465] at H
               have c465b0 : ((Int.tmod (wrap64 ((wrap64 (t464 + t463)) - t462)) 2) == 0) = false := beq_eq_false_iff_ne.mpr c465
               have c465b1 : ((Int.tmod (wrap64 ((wrap64 (t464 + t463)) - t462)) 2) != 0) = true := bne_iff_ne.mpr c465
               (first | rw [c465b0] | (simp only [i64_w, i32_w]; rw [c465b0]) | skip)
               have H' := Aa14q H
               clear H
               as_aux_lemma =>
                go_wp2
                go_meet
                case rel => exact ⟨_, (false), Za145, H', ⟨by have := HJ13.out; have := HJ275.out; have := HJ453.out; have := HJ459.out; first | omega | exact Nat.le_refl _⟩, ⟨UL402⟩, ⟨UL414⟩, ⟨UL418⟩, ⟨UL422⟩, ⟨UL426⟩, ⟨UL430⟩, ⟨UL434⟩, ⟨HL⟩⟩
             case rest => as_aux_lemma =>
              clear HC464
              obtain ⟨kq, x408_463, rfl, HA, HJ463, BK402, BK414, BK418, BK422, BK426, BK430, BK434, HB⟩ := hcut
              cases kq with
              | zero => exact absurd HA.out (by simp [laws_FnRuinInTime.j11])
              | succ kj463 =>
               have H := HA.out
               clear HA
               simp only [laws_FnRuinInTime.j11] at H
               by_cases c466 : x408_463 = true
               ·
                subst c466
                rw [if_pos rfl] at H
                replace H := Option.bind_eq_some_iff.mp H
                obtain ⟨⟨t469, t470⟩, A4670, H⟩ := H
                replace H : (if t470 = true then (if t469 = t465 then (some true) else (none)) else (none)) = some r := H
                have A467 := Aa14q A4670
                clear A4670
                by_cases c468 : t470 = true
                ·
                 subst c468
                 rw [if_pos rfl] at H
                 by_cases c469 : t469 = t465
                 ·
                  rw [if_pos c469] at H
                  have c469b0 : (t469 == t465) = true := beq_iff_eq.mpr c469
                  have c469b1 : (t469 != t465) = false := bne_eq_false_iff_eq.mpr c469
                  clear c469
                  obtain rfl := Option.some.inj H
                  go_wp2_with (first | ((with_reducible refine gate_callee (f := 20) rfl ?_); refine goesL_ (some 427) rfl rfl Try.func20 Za146 rfl #[.int .i64 (wrap64 ((wrap64 (t464 - (wrap64 (Int.tdiv (wrap64 (t464 - (wrap64 (t463 - t462)))) 2)))) - 1)), .int .i64 (wrap64 (Int.tdiv (wrap64 (t464 - (wrap64 (t463 - t462)))) 2)), .int .i64 (wrap64 (1 - t462)), .int .i64 (wrap64 ((wrap64 (t463 - t462)) - 1))] rfl Za141 ?_; (with_reducible refine (impl_CountBetween.calls kj463 (wrap64 ((wrap64 (t464 - (wrap64 (Int.tdiv (wrap64 (t464 - (wrap64 (t463 - t462)))) 2)))) - 1)) (wrap64 (Int.tdiv (wrap64 (t464 - (wrap64 (t463 - t462)))) 2)) (wrap64 (1 - t462)) (wrap64 ((wrap64 (t463 - t462)) - 1)) t469 true _ A467.out).mono ?_); rintro e w470 ⟨rfl, hb⟩; refine ⟨_, rfl, ?_⟩; replace BK402 := bL BK402 UL402 hb; replace BK414 := bL BK414 UL414 hb; replace BK418 := bL BK418 UL418 hb; replace BK422 := bL BK422 UL422 hb; replace BK426 := bL BK426 UL426 hb; replace BK430 := bL BK430 UL430 hb; replace BK434 := bL BK434 UL434 hb; replace HB := tL HL hb; (try clear hb); (try clear hb2); (try clear hk); (try clear hi)))
                  go_ret
                  exact ⟨by first | rfl | (simp [errW_none, errW_some] <;> rfl) | (simp [*, errW_none, errW_some] <;> rfl), HL⟩
                 ·
                  rw [if_neg c469] at H
                  exact absurd H (by simp)
                ·
                 replace c468 := Bool.eq_false_iff.mpr c468
                 subst c468
                 rw [if_neg Bool.false_ne_true] at H
                 exact absurd H (by simp)
               ·
                replace c466 := Bool.eq_false_iff.mpr c466
                subst c466
                rw [if_neg Bool.false_ne_true] at H
                by_cases c471 : t465 = 0
                ·
                 rw [if_pos c471] at H
                 have c471b0 : (t465 == 0) = true := beq_iff_eq.mpr c471
                 have c471b1 : (t465 != 0) = false := bne_eq_false_iff_eq.mpr c471
                 clear c471
                 obtain rfl := Option.some.inj H
                 go_wp2
                 go_ret
                 exact ⟨by first | rfl | (simp [errW_none, errW_some] <;> rfl) | (simp [*, errW_none, errW_some] <;> rfl), HL⟩
                ·
                 rw [if_neg c471] at H
                 exact absurd H (by simp)
            ·
             replace c463 := Bool.eq_false_iff.mpr c463
             subst c463
             rw [if_neg Bool.false_ne_true] at H
             obtain rfl := Option.some.inj H
             go_wp2
             go_ret
             exact ⟨by first | rfl | (simp [errW_none, errW_some] <;> rfl) | (simp [*, errW_none, errW_some] <;> rfl), HL⟩
/-- THE ONE PURE STATEMENT of laws_FnRuinInTime: yours. -/
def laws_FnRuinInTime.Pure : Prop := ∀ (l0 : List Int) (l1 : List Int), l0.length ≤ maxLen → l0.length * 1 ≤ 140737488351232 → (∀ x ∈ l0, (Lit.int .u8 x).wf = true) → l1.length ≤ maxLen → l1.length * 1 ≤ 140737488351232 → (∀ x ∈ l1, (Lit.int .u8 x).wf = true) → ∃ k, laws_FnRuinInTime.f k l0 l1 = some true
theorem laws_FnRuinInTime.walk (P : laws_FnRuinInTime.Pure) (a0 : Option Addr) (len0 cap0 : Nat) (z0 : List Int) (a1 : Option Addr) (len1 cap1 : Nat) (z1 : List Int) (w : World) (w0 : (a0 = none ∧ len0 = 0 ∧ cap0 = 0 ∧ z0 = []) ∨ ∃ x, a0 = some x ∧ len0 ≤ cap0 ∧ cap0 ≤ maxLen ∧ z0.length = cap0 ∧ (∀ i, i < z0.length → w.cell? (x.add i) = some (.int .u8 (z0.getD i 0))) ∧ ∀ n ∈ z0, (Lit.int .u8 n).wf = true) (y0 : len0 * 1 ≤ 140737488351232) (w1 : (a1 = none ∧ len1 = 0 ∧ cap1 = 0 ∧ z1 = []) ∨ ∃ x, a1 = some x ∧ len1 ≤ cap1 ∧ cap1 ≤ maxLen ∧ z1.length = cap1 ∧ (∀ i, i < z1.length → w.cell? (x.add i) = some (.int .u8 (z1.getD i 0))) ∧ ∀ n ∈ z1, (Lit.int .u8 n).wf = true) (y1 : len1 * 1 ≤ 140737488351232) :
    Calls Try.prog 3 #[.slice a0 len0 cap0, .slice a1 len1 cap1] w fun e w' => e = .returned (.bool true) ∧ Below w.heap.size w w' := by
  obtain ⟨l0, rfl, hr0, hm0, hw0, hc0⟩ := ReadsInt.ofRowC w0
  obtain ⟨l1, rfl, hr1, hm1, hw1, hc1⟩ := ReadsInt.ofRowC w1
  obtain ⟨k, h⟩ := P l0 l1 hm0 y0 hw0 hm1 y1 hw1
  refine (laws_FnRuinInTime.calls k _ _ l0 _ _ l1 true w (Kd.C_of_reads (d := (0 : Int)) (h1 := fun _ => rfl) hr0) hc0 (Kd.C_of_reads (d := (0 : Int)) (h1 := fun _ => rfl) hr1) hc1 h).mono ?_
  rintro e w' ⟨rfl, hd⟩
  exact ⟨rfl, hd⟩
end Go.Proofs.Ytoglhflnfkmkcaa.OFnRuinInTime
