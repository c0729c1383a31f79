import Derived.Test.YtfembmnagkdnhaaOFnRuinAddsUpx11
namespace Go.Proofs.Ytfembmnagkdnhaa.OFnRuinAddsUp
open Go.RowKit Go.Proofs.YtfembmnagkdnhaaW.PrintWords Go.Proofs.YtfembmnagkdnhaaW.PrintLast Go.Proofs.YtfembmnagkdnhaaW.PrintMore
attribute [local go_sem] max2_int min2_int max_two min_two max_three min_three max_four min_four   -- for this text's walks alone
set_option linter.unusedVariables false
set_option linter.unusedSimpArgs false

attribute [local go_sem high] eqA25
theorem dead0 : ∀ k x1 x5 x6 x9 y0 y1 y2 y3 y4 y5 y6 y7 y8 y9 y10 y11, laws_FnRuinAddsUp.j0 k x1 x5 x6 x9 true y0 y1 y2 y3 y4 y5 y6 y7 y8 y9 y10 y11 = none := by
  intro k; intros; cases k <;> simp [laws_FnRuinAddsUp.j0]
theorem alive {b : Prop} [Decidable b] {x y : Option Bool} {r : Bool} (h : (if b then x else y) = some r) (hx : x = none) : ¬ b ∧ y = some r := by
  by_cases c : b
  · rw [if_pos c, hx] at h; cases h
  · rw [if_neg c] at h; exact ⟨c, h⟩
theorem bneq {a b : Bool} (h : ¬ (a != b) = true) : a = b := by simpa using h
theorem bneq' {a b : Bool} (h : ¬ (a != b) = true) : b = a := (bneq h).symm
theorem rneq {a b c d : Int} (h : ¬ (!(a == b) || (!(c == d))) = true) : a = b ∧ c = d := by simpa using h
theorem hideW {P : Program} {c : Code} {Q : Exit → Act → World → Prop} {a : Act} {w : World} (S : World → Prop) (hS : S w) (h : ∀ w', S w' → c.wp P Q a w') : c.wp P Q a w := h w hS
theorem set8_ (x0 x1 x2 x3 x4 x5 x6 x7 : Value) (l : List Value) (n : Nat) (v : Value) : List.set (x0 :: x1 :: x2 :: x3 :: x4 :: x5 :: x6 :: x7 :: l) (n + 8) v = x0 :: x1 :: x2 :: x3 :: x4 :: x5 :: x6 :: x7 :: List.set l n v := rfl
theorem set64_ (x0 x1 x2 x3 x4 x5 x6 x7 x8 x9 x10 x11 x12 x13 x14 x15 x16 x17 x18 x19 x20 x21 x22 x23 x24 x25 x26 x27 x28 x29 x30 x31 x32 x33 x34 x35 x36 x37 x38 x39 x40 x41 x42 x43 x44 x45 x46 x47 x48 x49 x50 x51 x52 x53 x54 x55 x56 x57 x58 x59 x60 x61 x62 x63 : Value) (l : List Value) (n : Nat) (v : Value) : List.set (x0 :: x1 :: x2 :: x3 :: x4 :: x5 :: x6 :: x7 :: x8 :: x9 :: x10 :: x11 :: x12 :: x13 :: x14 :: x15 :: x16 :: x17 :: x18 :: x19 :: x20 :: x21 :: x22 :: x23 :: x24 :: x25 :: x26 :: x27 :: x28 :: x29 :: x30 :: x31 :: x32 :: x33 :: x34 :: x35 :: x36 :: x37 :: x38 :: x39 :: x40 :: x41 :: x42 :: x43 :: x44 :: x45 :: x46 :: x47 :: x48 :: x49 :: x50 :: x51 :: x52 :: x53 :: x54 :: x55 :: x56 :: x57 :: x58 :: x59 :: x60 :: x61 :: x62 :: x63 :: l) (n + 64) v = x0 :: x1 :: x2 :: x3 :: x4 :: x5 :: x6 :: x7 :: x8 :: x9 :: x10 :: x11 :: x12 :: x13 :: x14 :: x15 :: x16 :: x17 :: x18 :: x19 :: x20 :: x21 :: x22 :: x23 :: x24 :: x25 :: x26 :: x27 :: x28 :: x29 :: x30 :: x31 :: x32 :: x33 :: x34 :: x35 :: x36 :: x37 :: x38 :: x39 :: x40 :: x41 :: x42 :: x43 :: x44 :: x45 :: x46 :: x47 :: x48 :: x49 :: x50 :: x51 :: x52 :: x53 :: x54 :: x55 :: x56 :: x57 :: x58 :: x59 :: x60 :: x61 :: x62 :: x63 :: List.set l n v := rfl
theorem get8_ (x0 x1 x2 x3 x4 x5 x6 x7 : Value) (l : List Value) (n : Nat) (v : Value) : Array.getD (List.toArray (x0 :: x1 :: x2 :: x3 :: x4 :: x5 :: x6 :: x7 :: l)) (n + 8) v = Array.getD (List.toArray l) n v := by simp [Array.getD_eq_getD_getElem?]
theorem get64_ (x0 x1 x2 x3 x4 x5 x6 x7 x8 x9 x10 x11 x12 x13 x14 x15 x16 x17 x18 x19 x20 x21 x22 x23 x24 x25 x26 x27 x28 x29 x30 x31 x32 x33 x34 x35 x36 x37 x38 x39 x40 x41 x42 x43 x44 x45 x46 x47 x48 x49 x50 x51 x52 x53 x54 x55 x56 x57 x58 x59 x60 x61 x62 x63 : Value) (l : List Value) (n : Nat) (v : Value) : Array.getD (List.toArray (x0 :: x1 :: x2 :: x3 :: x4 :: x5 :: x6 :: x7 :: x8 :: x9 :: x10 :: x11 :: x12 :: x13 :: x14 :: x15 :: x16 :: x17 :: x18 :: x19 :: x20 :: x21 :: x22 :: x23 :: x24 :: x25 :: x26 :: x27 :: x28 :: x29 :: x30 :: x31 :: x32 :: x33 :: x34 :: x35 :: x36 :: x37 :: x38 :: x39 :: x40 :: x41 :: x42 :: x43 :: x44 :: x45 :: x46 :: x47 :: x48 :: x49 :: x50 :: x51 :: x52 :: x53 :: x54 :: x55 :: x56 :: x57 :: x58 :: x59 :: x60 :: x61 :: x62 :: x63 :: l)) (n + 64) v = Array.getD (List.toArray l) n v := by simp [Array.getD_eq_getD_getElem?]
theorem get1_ (x0 : Value) (l : List Value) (n : Nat) (v : Value) : Array.getD (List.toArray (x0 :: l)) (n + 1) v = Array.getD (List.toArray l) n v := by simp [Array.getD_eq_getD_getElem?]
theorem get0_ (x : Value) (l : List Value) (v : Value) : Array.getD (List.toArray (x :: l)) 0 v = x := rfl
attribute [local go_sem ↓ high] get64_ set64_
attribute [local go_sem ↓] get8_ set8_ get0_
attribute [local go_sem ↓ low] get1_
set_option maxHeartbeats 8000000 in
set_option maxRecDepth 100000 in
theorem laws_FnRuinAddsUp.calls (k : Nat) (A0 : Option Addr) (c0 : Nat) (l0 : List Int) (A1 : Option Addr) (c1 : Nat) (l1 : List Int) (r : Bool) (w : World) (hr0 : Kd.C (Kd.int .u8) w A0 l0.length l0) (hc0 : l0.length ≤ c0) (hr1 : Kd.C (Kd.int .u8) w A1 l1.length l1) (hc1 : l1.length ≤ c1) (h : laws_FnRuinAddsUp.f k l0 l1 = some r) :
    Calls Try.prog 4 #[.slice A0 l0.length c0, .slice A1 l1.length c1] w fun e w' => e = .returned (.bool r) ∧ Below w.heap.size w w' := by
  have hu25 := Try.underlying25
  have HR0 := Aside0.mk hr0
  have HC0 := Aside0.mk hc0
  clear hr0 hc0
  have HR1 := Aside0.mk hr1
  have HC1 := Aside0.mk hc1
  clear hr1 hc1
  have HB := Aside0.mk (Below.refl w.heap.size w)
  have H := h
  unfold laws_FnRuinAddsUp.f at H
  clear h
  replace H := Option.bind_eq_some_iff.mp H
  obtain ⟨t399, A30, H⟩ := H
  try dsimp only at H
  have A3 := Aside0.mk A30
  clear A30
  by_cases c4 : t399 = true
  · subst c4
    rw [if_pos rfl] at H
    obtain rfl := Option.some.inj H
    go_enter Try.func4, Try.ntmps4
    go_wp2_with (first | ((with_reducible refine gate_callee (f := 5) rfl ?_); refine goesL_ (some 57) rfl rfl Try.func5 (by kernel_rfl) rfl #[.slice A0 l0.length c0, .slice A1 l1.length c1] rfl (by (try simp only [List.map_toArray, List.map_cons, List.map_nil]); first | done | rfl | (simp only [List.length_drop, List.length_take]; rfl)) ?_; (with_reducible refine (laws_big.calls _ _ l0 _ _ l1 true _ ?side1 ?side2 ?side3 ?side4 A3.out).mono ?_); (case side1 => repeat (first | exact HR0.out | (with_reducible refine Kd.C_alloc ?_ _) | (with_reducible refine Kd.C_drewN ?_ _) | (with_reducible refine Kd.C_drew ?_))); (case side2 => exact HC0.out); (case side3 => repeat (first | exact HR1.out | (with_reducible refine Kd.C_alloc ?_ _) | (with_reducible refine Kd.C_drewN ?_ _) | (with_reducible refine Kd.C_drew ?_))); (case side4 => exact HC1.out); rintro e w' ⟨rfl, ⟨nd, rfl⟩⟩; refine ⟨_, rfl, ?_⟩))
    go_ret
    exact ⟨by first | rfl | (simp [errW_none, errW_some] <;> rfl) | (simp [*, errW_none, errW_some] <;> rfl), HL⟩
  · replace c4 := Bool.eq_false_iff.mpr c4
    subst c4
    rw [if_neg Bool.false_ne_true] at H
    replace H := Option.bind_eq_some_iff.mp H
    obtain ⟨⟨t400, t401, t402, t403⟩, A50, H⟩ := H
    try dsimp only at H
    have A5 := Aside0.mk A50
    clear A50
    replace H := Option.bind_eq_some_iff.mp H
    obtain ⟨⟨t405, t406, t407⟩, A60, H⟩ := H
    try dsimp only at H
    have A6 := Aside0.mk A60
    clear A60
    replace H := Option.bind_eq_some_iff.mp H
    obtain ⟨⟨t409, t410, t411⟩, A70, H⟩ := H
    try dsimp only at H
    have A7 := Aside0.mk A70
    clear A70
    replace H := Option.bind_eq_some_iff.mp H
    obtain ⟨⟨t413, t414, t415⟩, A80, H⟩ := H
    try dsimp only at H
    have A8 := Aside0.mk A80
    clear A80
    replace H := Option.bind_eq_some_iff.mp H
    obtain ⟨⟨t417, t418, t419⟩, A90, H⟩ := H
    try dsimp only at H
    have A9 := Aside0.mk A90
    clear A90
    replace H := Option.bind_eq_some_iff.mp H
    obtain ⟨⟨t421, t422, t423⟩, A100, H⟩ := H
    try dsimp only at H
    have A10 := Aside0.mk A100
    clear A100
    replace H := Option.bind_eq_some_iff.mp H
    obtain ⟨⟨t425, t426, t427⟩, A110, H⟩ := H
    try dsimp only at H
    have A11 := Aside0.mk A110
    clear A110
    replace H := Option.bind_eq_some_iff.mp H
    obtain ⟨⟨t429, t430, t431⟩, A120, H⟩ := H
    try dsimp only at H
    have A12 := Aside0.mk A120
    clear A120
    replace H := Option.bind_eq_some_iff.mp H
    obtain ⟨⟨t433, t434, t435⟩, A130, H⟩ := H
    try dsimp only at H
    have A13 := Aside0.mk A130
    clear A130
    replace H := Option.bind_eq_some_iff.mp H
    obtain ⟨⟨t437, t438, t439⟩, A140, H⟩ := H
    try dsimp only at H
    have A14 := Aside0.mk A140
    clear A140
    replace H := Option.bind_eq_some_iff.mp H
    obtain ⟨⟨t441, t442, t443⟩, A150, H⟩ := H
    try dsimp only at H
    have A15 := Aside0.mk A150
    clear A150
    have HC16 := Aside0.mk H
    clear H
    go_enter Try.func4, Try.ntmps4
    go_upto_region 14 with (first | ((with_reducible refine gate_callee (f := 5) rfl ?_); refine goesL_ (some 57) rfl rfl Try.func5 (by kernel_rfl) rfl #[.slice A0 l0.length c0, .slice A1 l1.length c1] rfl (by (try simp only [List.map_toArray, List.map_cons, List.map_nil]); first | done | rfl | (simp only [List.length_drop, List.length_take]; rfl)) ?_; (with_reducible refine (laws_big.calls _ _ l0 _ _ l1 false _ ?side1 ?side2 ?side3 ?side4 A3.out).mono ?_); (case side1 => repeat (first | exact HR0.out | (with_reducible refine Kd.C_alloc ?_ _) | (with_reducible refine Kd.C_drewN ?_ _) | (with_reducible refine Kd.C_drew ?_))); (case side2 => exact HC0.out); (case side3 => repeat (first | exact HR1.out | (with_reducible refine Kd.C_alloc ?_ _) | (with_reducible refine Kd.C_drewN ?_ _) | (with_reducible refine Kd.C_drew ?_))); (case side4 => exact HC1.out); rintro e w' ⟨rfl, ⟨nd, rfl⟩⟩; refine ⟨_, rfl, ?_⟩) | ((with_reducible refine gate_callee (f := 15) rfl ?_); refine goesL_ (some 60) rfl rfl Try.func15 (by kernel_rfl) rfl #[.slice A0 l0.length c0] rfl (by (try simp only [List.map_toArray, List.map_cons, List.map_nil]); first | done | rfl | (simp only [List.length_drop, List.length_take]; rfl)) ?_; (with_reducible refine (spec_DrawMeanGames.calls k _ _ l0 t400 t401 t402 t403 _ ?side1 ?side2 A5.out).mono ?_); (case side1 => repeat (first | exact HR0.out | (with_reducible refine Kd.C_alloc ?_ _) | (with_reducible refine Kd.C_drewN ?_ _) | (with_reducible refine Kd.C_drew ?_))); (case side2 => exact HC0.out); rintro e w17 ⟨rfl, hb⟩; refine ⟨_, rfl, ?_⟩; replace HB := tL HL hb; (try clear hb); (try clear hb2); (try clear hk); (try clear hi)) | ((with_reducible refine gate_dst (N := 7) rfl ?_); refine box_event ?hg (N := 7) ?hd (cs := #[.int .i64 0, .int .i64 0]) (t := 25) ?hr ?_; (case hd => rfl); (case hg => rfl); (case hr => first | (go_simp; done) | (go_simp; rfl)); intro gb404 hg w18 hbox hb; have GE404 := sL HL hg; replace HB := tL HL hb; have BK404 := Aside0.mk (hbox); clear hb hbox hg; have hcz19_0 : w18.cell? ⟨gb404, 0, none⟩ = some (.int .i64 0) := (blk_cell BK404.out 0).trans rfl; have hcz19_1 : w18.cell? ⟨gb404, 1, none⟩ = some (.int .i64 0) := (blk_cell BK404.out 1).trans rfl; have hfz19_0 := blk_frozen BK404.out 0; have hfz19_1 := blk_frozen BK404.out 1) | ((with_reducible refine gate_callee (f := 9) rfl ?_); refine goesL_ (some 68) rfl rfl Try.func9 (by kernel_rfl) rfl #[.int .i64 t400, .int .i64 t401, .agg #[.int .i64 t402, .int .i64 t403]] rfl (by (try simp only [List.map_toArray, List.map_cons, List.map_nil]); first | done | rfl | (simp only [List.length_drop, List.length_take]; rfl)) ?_; (with_reducible refine (impl_WinChance.calls k t400 t401 t402 t403 t405 t406 t407 _ A6.out).mono ?_); rintro e w20 ⟨rfl, hb⟩; refine ⟨_, rfl, ?_⟩; replace BK404 := Aside0.mk (blk_below (g := gb404) (o := .cells #[.int .i64 t402, .int .i64 t403] 25 (0, 0)) (by (with_reducible repeat (first | refine blk_drewN ?_ _ | refine blk_drew ?_ | refine blk_alloc ?_ _)); refine blk_put (cs := #[.int .i64 t402, .int .i64 0]) ?_ 1 _ rfl; (with_reducible repeat (first | refine blk_drewN ?_ _ | refine blk_drew ?_ | refine blk_alloc ?_ _)); refine blk_put (cs := #[.int .i64 0, .int .i64 0]) ?_ 0 _ rfl; (with_reducible repeat (first | refine blk_drewN ?_ _ | refine blk_drew ?_ | refine blk_alloc ?_ _)); exact BK404.out) hb); replace HB := tL HL hb; (try clear hb); (try clear hb2); (try clear hk); (try clear hi)) | ((with_reducible refine gate_dst (N := 8) rfl ?_); refine box_event ?hg (N := 8) ?hd (cs := #[.int .i64 0, .int .i64 0]) (t := 25) ?hr ?_; (case hd => rfl); (case hg => rfl); (case hr => first | (go_simp; done) | (go_simp; rfl)); intro gb408 hg w21 hbox hb; have GE408 := sL HL hg; have NB404_408 := nL BK404 UL404 hg; have NB408_404 := mL BK404 UL404 hg; replace BK404 := bL BK404 UL404 hb; replace HB := tL HL hb; have BK408 := Aside0.mk (hbox); clear hb hbox hg; have hnb22 := NB408_404.out; have hnc22 := NB404_408.out; have hcz23_0 : w21.cell? ⟨gb408, 0, none⟩ = some (.int .i64 0) := (blk_cell BK408.out 0).trans rfl; have hcz23_1 : w21.cell? ⟨gb408, 1, none⟩ = some (.int .i64 0) := (blk_cell BK408.out 1).trans rfl; have hfz23_0 := blk_frozen BK408.out 0; have hfz23_1 := blk_frozen BK408.out 1; have hcz24_0 : w21.cell? ⟨gb404, 0, none⟩ = some (.int .i64 t402) := (blk_cell BK404.out 0).trans rfl; have hcz24_1 : w21.cell? ⟨gb404, 1, none⟩ = some (.int .i64 t403) := (blk_cell BK404.out 1).trans rfl; have hfz24_0 := blk_frozen BK404.out 0; have hfz24_1 := blk_frozen BK404.out 1) | ((with_reducible refine gate_callee (f := 16) rfl ?_); refine goesL_ (some 75) rfl rfl Try.func16 (by kernel_rfl) rfl #[.int .i64 t400, .int .i64 t401, .agg #[.int .i64 t402, .int .i64 t403]] rfl (by (try simp only [List.map_toArray, List.map_cons, List.map_nil]); first | done | rfl | (simp only [List.length_drop, List.length_take]; rfl)) ?_; (with_reducible refine (spec_WinChance.calls k t400 t401 t402 t403 t409 t410 t411 _ A7.out).mono ?_); rintro e w25 ⟨rfl, hb⟩; refine ⟨_, rfl, ?_⟩; replace BK404 := bL BK404 UL404 hb; replace BK408 := Aside0.mk (blk_below (g := gb408) (o := .cells #[.int .i64 t405, .int .i64 t406] 25 (0, 0)) (by (with_reducible repeat (first | refine blk_drewN ?_ _ | refine blk_drew ?_ | refine blk_alloc ?_ _)); refine blk_put (cs := #[.int .i64 t405, .int .i64 0]) ?_ 1 _ rfl; (with_reducible repeat (first | refine blk_drewN ?_ _ | refine blk_drew ?_ | refine blk_alloc ?_ _)); refine blk_put (cs := #[.int .i64 0, .int .i64 0]) ?_ 0 _ rfl; (with_reducible repeat (first | refine blk_drewN ?_ _ | refine blk_drew ?_ | refine blk_alloc ?_ _)); exact BK408.out) hb); replace HB := tL HL hb; (try clear hb); (try clear hb2); (try clear hk); (try clear hi)) | ((with_reducible refine gate_dst (N := 10) rfl ?_); refine box_event ?hg (N := 10) ?hd (cs := #[.int .i64 0, .int .i64 0]) (t := 25) ?hr ?_; (case hd => rfl); (case hg => rfl); (case hr => first | (go_simp; done) | (go_simp; rfl)); intro gb412 hg w26 hbox hb; have GE412 := sL HL hg; have NB404_412 := nL BK404 UL404 hg; have NB412_404 := mL BK404 UL404 hg; have NB408_412 := nL BK408 UL408 hg; have NB412_408 := mL BK408 UL408 hg; replace BK404 := bL BK404 UL404 hb; replace BK408 := bL BK408 UL408 hb; replace HB := tL HL hb; have BK412 := Aside0.mk (hbox); clear hb hbox hg; have hnb27 := NB412_404.out; have hnc27 := NB404_412.out; have hcz29_0 : w26.cell? ⟨gb412, 0, none⟩ = some (.int .i64 0) := (blk_cell BK412.out 0).trans rfl; have hcz29_1 : w26.cell? ⟨gb412, 1, none⟩ = some (.int .i64 0) := (blk_cell BK412.out 1).trans rfl; have hfz29_0 := blk_frozen BK412.out 0; have hfz29_1 := blk_frozen BK412.out 1; have hcz30_0 : w26.cell? ⟨gb404, 0, none⟩ = some (.int .i64 t402) := (blk_cell BK404.out 0).trans rfl; have hcz30_1 : w26.cell? ⟨gb404, 1, none⟩ = some (.int .i64 t403) := (blk_cell BK404.out 1).trans rfl; have hfz30_0 := blk_frozen BK404.out 0; have hfz30_1 := blk_frozen BK404.out 1) | ((with_reducible refine gate_callee (f := 17) rfl ?_); refine goesL_ (some 82) rfl rfl Try.func17 (by kernel_rfl) rfl #[.int .i64 t400, .int .i64 t401, .agg #[.int .i64 t402, .int .i64 t403]] rfl (by (try simp only [List.map_toArray, List.map_cons, List.map_nil]); first | done | rfl | (simp only [List.length_drop, List.length_take]; rfl)) ?_; (with_reducible refine (impl_RuinChance.calls k t400 t401 t402 t403 t413 t414 t415 _ A8.out).mono ?_); rintro e w31 ⟨rfl, hb⟩; refine ⟨_, rfl, ?_⟩; replace BK404 := bL BK404 UL404 hb; replace BK408 := bL BK408 UL408 hb; replace BK412 := Aside0.mk (blk_below (g := gb412) (o := .cells #[.int .i64 t409, .int .i64 t410] 25 (0, 0)) (by (with_reducible repeat (first | refine blk_drewN ?_ _ | refine blk_drew ?_ | refine blk_alloc ?_ _)); refine blk_put (cs := #[.int .i64 t409, .int .i64 0]) ?_ 1 _ rfl; (with_reducible repeat (first | refine blk_drewN ?_ _ | refine blk_drew ?_ | refine blk_alloc ?_ _)); refine blk_put (cs := #[.int .i64 0, .int .i64 0]) ?_ 0 _ rfl; (with_reducible repeat (first | refine blk_drewN ?_ _ | refine blk_drew ?_ | refine blk_alloc ?_ _)); exact BK412.out) hb); replace HB := tL HL hb; (try clear hb); (try clear hb2); (try clear hk); (try clear hi)) | ((with_reducible refine gate_dst (N := 12) rfl ?_); refine box_event ?hg (N := 12) ?hd (cs := #[.int .i64 0, .int .i64 0]) (t := 25) ?hr ?_; (case hd => rfl); (case hg => rfl); (case hr => first | (go_simp; done) | (go_simp; rfl)); intro gb416 hg w32 hbox hb; have GE416 := sL HL hg; have NB404_416 := nL BK404 UL404 hg; have NB416_404 := mL BK404 UL404 hg; have NB408_416 := nL BK408 UL408 hg; have NB416_408 := mL BK408 UL408 hg; have NB412_416 := nL BK412 UL412 hg; have NB416_412 := mL BK412 UL412 hg; replace BK404 := bL BK404 UL404 hb; replace BK408 := bL BK408 UL408 hb; replace BK412 := bL BK412 UL412 hb; replace HB := tL HL hb; have BK416 := Aside0.mk (hbox); clear hb hbox hg; have hnb33 := NB416_404.out; have hnc33 := NB404_416.out; have hcz36_0 : w32.cell? ⟨gb416, 0, none⟩ = some (.int .i64 0) := (blk_cell BK416.out 0).trans rfl; have hcz36_1 : w32.cell? ⟨gb416, 1, none⟩ = some (.int .i64 0) := (blk_cell BK416.out 1).trans rfl; have hfz36_0 := blk_frozen BK416.out 0; have hfz36_1 := blk_frozen BK416.out 1; have hcz37_0 : w32.cell? ⟨gb404, 0, none⟩ = some (.int .i64 t402) := (blk_cell BK404.out 0).trans rfl; have hcz37_1 : w32.cell? ⟨gb404, 1, none⟩ = some (.int .i64 t403) := (blk_cell BK404.out 1).trans rfl; have hfz37_0 := blk_frozen BK404.out 0; have hfz37_1 := blk_frozen BK404.out 1) | ((with_reducible refine gate_callee (f := 18) rfl ?_); refine goesL_ (some 89) rfl rfl Try.func18 (by kernel_rfl) rfl #[.int .i64 t400, .int .i64 t401, .agg #[.int .i64 t402, .int .i64 t403]] rfl (by (try simp only [List.map_toArray, List.map_cons, List.map_nil]); first | done | rfl | (simp only [List.length_drop, List.length_take]; rfl)) ?_; (with_reducible refine (spec_RuinChance.calls k t400 t401 t402 t403 t417 t418 t419 _ A9.out).mono ?_); rintro e w38 ⟨rfl, hb⟩; refine ⟨_, rfl, ?_⟩; replace BK404 := bL BK404 UL404 hb; replace BK408 := bL BK408 UL408 hb; replace BK412 := bL BK412 UL412 hb; replace BK416 := Aside0.mk (blk_below (g := gb416) (o := .cells #[.int .i64 t413, .int .i64 t414] 25 (0, 0)) (by (with_reducible repeat (first | refine blk_drewN ?_ _ | refine blk_drew ?_ | refine blk_alloc ?_ _)); refine blk_put (cs := #[.int .i64 t413, .int .i64 0]) ?_ 1 _ rfl; (with_reducible repeat (first | refine blk_drewN ?_ _ | refine blk_drew ?_ | refine blk_alloc ?_ _)); refine blk_put (cs := #[.int .i64 0, .int .i64 0]) ?_ 0 _ rfl; (with_reducible repeat (first | refine blk_drewN ?_ _ | refine blk_drew ?_ | refine blk_alloc ?_ _)); exact BK416.out) hb); replace HB := tL HL hb; (try clear hb); (try clear hb2); (try clear hk); (try clear hi)) | ((with_reducible refine gate_dst (N := 14) rfl ?_); refine box_event ?hg (N := 14) ?hd (cs := #[.int .i64 0, .int .i64 0]) (t := 25) ?hr ?_; (case hd => rfl); (case hg => rfl); (case hr => first | (go_simp; done) | (go_simp; rfl)); intro gb420 hg w39 hbox hb; have GE420 := sL HL hg; have NB404_420 := nL BK404 UL404 hg; have NB420_404 := mL BK404 UL404 hg; have NB408_420 := nL BK408 UL408 hg; have NB420_408 := mL BK408 UL408 hg; have NB412_420 := nL BK412 UL412 hg; have NB420_412 := mL BK412 UL412 hg; have NB416_420 := nL BK416 UL416 hg; have NB420_416 := mL BK416 UL416 hg; replace BK404 := bL BK404 UL404 hb; replace BK408 := bL BK408 UL408 hb; replace BK412 := bL BK412 UL412 hb; replace BK416 := bL BK416 UL416 hb; replace HB := tL HL hb; have BK420 := Aside0.mk (hbox); clear hb hbox hg; have hnb40 := NB420_404.out; have hnc40 := NB404_420.out; have hcz44_0 : w39.cell? ⟨gb420, 0, none⟩ = some (.int .i64 0) := (blk_cell BK420.out 0).trans rfl; have hcz44_1 : w39.cell? ⟨gb420, 1, none⟩ = some (.int .i64 0) := (blk_cell BK420.out 1).trans rfl; have hfz44_0 := blk_frozen BK420.out 0; have hfz44_1 := blk_frozen BK420.out 1; have hcz45_0 : w39.cell? ⟨gb404, 0, none⟩ = some (.int .i64 t402) := (blk_cell BK404.out 0).trans rfl; have hcz45_1 : w39.cell? ⟨gb404, 1, none⟩ = some (.int .i64 t403) := (blk_cell BK404.out 1).trans rfl; have hfz45_0 := blk_frozen BK404.out 0; have hfz45_1 := blk_frozen BK404.out 1) | ((with_reducible refine gate_callee (f := 14) rfl ?_); refine goesL_ (some 96) rfl rfl Try.func14 (by kernel_rfl) rfl #[.int .i64 t400, .int .i64 t401, .agg #[.int .i64 t402, .int .i64 t403]] rfl (by (try simp only [List.map_toArray, List.map_cons, List.map_nil]); first | done | rfl | (simp only [List.length_drop, List.length_take]; rfl)) ?_; (with_reducible refine (impl_MeanGames.calls k t400 t401 t402 t403 t421 t422 t423 _ A10.out).mono ?_); rintro e w46 ⟨rfl, hb⟩; refine ⟨_, rfl, ?_⟩; replace BK404 := bL BK404 UL404 hb; replace BK408 := bL BK408 UL408 hb; replace BK412 := bL BK412 UL412 hb; replace BK416 := bL BK416 UL416 hb; replace BK420 := Aside0.mk (blk_below (g := gb420) (o := .cells #[.int .i64 t417, .int .i64 t418] 25 (0, 0)) (by (with_reducible repeat (first | refine blk_drewN ?_ _ | refine blk_drew ?_ | refine blk_alloc ?_ _)); refine blk_put (cs := #[.int .i64 t417, .int .i64 0]) ?_ 1 _ rfl; (with_reducible repeat (first | refine blk_drewN ?_ _ | refine blk_drew ?_ | refine blk_alloc ?_ _)); refine blk_put (cs := #[.int .i64 0, .int .i64 0]) ?_ 0 _ rfl; (with_reducible repeat (first | refine blk_drewN ?_ _ | refine blk_drew ?_ | refine blk_alloc ?_ _)); exact BK420.out) hb); replace HB := tL HL hb; (try clear hb); (try clear hb2); (try clear hk); (try clear hi)) | ((with_reducible refine gate_dst (N := 16) rfl ?_); refine box_event ?hg (N := 16) ?hd (cs := #[.int .i64 0, .int .i64 0]) (t := 25) ?hr ?_; (case hd => rfl); (case hg => rfl); (case hr => first | (go_simp; done) | (go_simp; rfl)); intro gb424 hg w47 hbox hb; have GE424 := sL HL hg; have NB404_424 := nL BK404 UL404 hg; have NB424_404 := mL BK404 UL404 hg; have NB408_424 := nL BK408 UL408 hg; have NB424_408 := mL BK408 UL408 hg; have NB412_424 := nL BK412 UL412 hg; have NB424_412 := mL BK412 UL412 hg; have NB416_424 := nL BK416 UL416 hg; have NB424_416 := mL BK416 UL416 hg; have NB420_424 := nL BK420 UL420 hg; have NB424_420 := mL BK420 UL420 hg; replace BK404 := bL BK404 UL404 hb; replace BK408 := bL BK408 UL408 hb; replace BK412 := bL BK412 UL412 hb; replace BK416 := bL BK416 UL416 hb; replace BK420 := bL BK420 UL420 hb; replace HB := tL HL hb; have BK424 := Aside0.mk (hbox); clear hb hbox hg; have hnb48 := NB424_404.out; have hnc48 := NB404_424.out; have hcz53_0 : w47.cell? ⟨gb424, 0, none⟩ = some (.int .i64 0) := (blk_cell BK424.out 0).trans rfl; have hcz53_1 : w47.cell? ⟨gb424, 1, none⟩ = some (.int .i64 0) := (blk_cell BK424.out 1).trans rfl; have hfz53_0 := blk_frozen BK424.out 0; have hfz53_1 := blk_frozen BK424.out 1; have hcz54_0 : w47.cell? ⟨gb404, 0, none⟩ = some (.int .i64 t402) := (blk_cell BK404.out 0).trans rfl; have hcz54_1 : w47.cell? ⟨gb404, 1, none⟩ = some (.int .i64 t403) := (blk_cell BK404.out 1).trans rfl; have hfz54_0 := blk_frozen BK404.out 0; have hfz54_1 := blk_frozen BK404.out 1) | ((with_reducible refine gate_callee (f := 19) rfl ?_); refine goesL_ (some 103) rfl rfl Try.func19 (by kernel_rfl) rfl #[.int .i64 t400, .int .i64 t401, .agg #[.int .i64 t402, .int .i64 t403]] rfl (by (try simp only [List.map_toArray, List.map_cons, List.map_nil]); first | done | rfl | (simp only [List.length_drop, List.length_take]; rfl)) ?_; (with_reducible refine (spec_MeanGames.calls k t400 t401 t402 t403 t425 t426 t427 _ A11.out).mono ?_); rintro e w55 ⟨rfl, hb⟩; refine ⟨_, rfl, ?_⟩; replace BK404 := bL BK404 UL404 hb; replace BK408 := bL BK408 UL408 hb; replace BK412 := bL BK412 UL412 hb; replace BK416 := bL BK416 UL416 hb; replace BK420 := bL BK420 UL420 hb; replace BK424 := Aside0.mk (blk_below (g := gb424) (o := .cells #[.int .i64 t421, .int .i64 t422] 25 (0, 0)) (by (with_reducible repeat (first | refine blk_drewN ?_ _ | refine blk_drew ?_ | refine blk_alloc ?_ _)); refine blk_put (cs := #[.int .i64 t421, .int .i64 0]) ?_ 1 _ rfl; (with_reducible repeat (first | refine blk_drewN ?_ _ | refine blk_drew ?_ | refine blk_alloc ?_ _)); refine blk_put (cs := #[.int .i64 0, .int .i64 0]) ?_ 0 _ rfl; (with_reducible repeat (first | refine blk_drewN ?_ _ | refine blk_drew ?_ | refine blk_alloc ?_ _)); exact BK424.out) hb); replace HB := tL HL hb; (try clear hb); (try clear hb2); (try clear hk); (try clear hi)) | ((with_reducible refine gate_dst (N := 18) rfl ?_); refine box_event ?hg (N := 18) ?hd (cs := #[.int .i64 0, .int .i64 0]) (t := 25) ?hr ?_; (case hd => rfl); (case hg => rfl); (case hr => first | (go_simp; done) | (go_simp; rfl)); intro gb428 hg w56 hbox hb; have GE428 := sL HL hg; have NB404_428 := nL BK404 UL404 hg; have NB428_404 := mL BK404 UL404 hg; have NB408_428 := nL BK408 UL408 hg; have NB428_408 := mL BK408 UL408 hg; have NB412_428 := nL BK412 UL412 hg; have NB428_412 := mL BK412 UL412 hg; have NB416_428 := nL BK416 UL416 hg; have NB428_416 := mL BK416 UL416 hg; have NB420_428 := nL BK420 UL420 hg; have NB428_420 := mL BK420 UL420 hg; have NB424_428 := nL BK424 UL424 hg; have NB428_424 := mL BK424 UL424 hg; replace BK404 := bL BK404 UL404 hb; replace BK408 := bL BK408 UL408 hb; replace BK412 := bL BK412 UL412 hb; replace BK416 := bL BK416 UL416 hb; replace BK420 := bL BK420 UL420 hb; replace BK424 := bL BK424 UL424 hb; replace HB := tL HL hb; have BK428 := Aside0.mk (hbox); clear hb hbox hg; have hnb57 := NB428_404.out; have hnc57 := NB404_428.out; have hcz63_0 : w56.cell? ⟨gb428, 0, none⟩ = some (.int .i64 0) := (blk_cell BK428.out 0).trans rfl; have hcz63_1 : w56.cell? ⟨gb428, 1, none⟩ = some (.int .i64 0) := (blk_cell BK428.out 1).trans rfl; have hfz63_0 := blk_frozen BK428.out 0; have hfz63_1 := blk_frozen BK428.out 1; have hcz64_0 : w56.cell? ⟨gb404, 0, none⟩ = some (.int .i64 t402) := (blk_cell BK404.out 0).trans rfl; have hcz64_1 : w56.cell? ⟨gb404, 1, none⟩ = some (.int .i64 t403) := (blk_cell BK404.out 1).trans rfl; have hfz64_0 := blk_frozen BK404.out 0; have hfz64_1 := blk_frozen BK404.out 1) | ((with_reducible refine gate_callee (f := 20) rfl ?_); refine goesL_ (some 110) rfl rfl Try.func20 (by kernel_rfl) rfl #[.int .i64 t400, .int .i64 t401, .agg #[.int .i64 t402, .int .i64 t403]] rfl (by (try simp only [List.map_toArray, List.map_cons, List.map_nil]); first | done | rfl | (simp only [List.length_drop, List.length_take]; rfl)) ?_; (with_reducible refine (impl_MeanHeld.calls k t400 t401 t402 t403 t429 t430 t431 _ A12.out).mono ?_); rintro e w65 ⟨rfl, hb⟩; refine ⟨_, rfl, ?_⟩; replace BK404 := bL BK404 UL404 hb; replace BK408 := bL BK408 UL408 hb; replace BK412 := bL BK412 UL412 hb; replace BK416 := bL BK416 UL416 hb; replace BK420 := bL BK420 UL420 hb; replace BK424 := bL BK424 UL424 hb; replace BK428 := Aside0.mk (blk_below (g := gb428) (o := .cells #[.int .i64 t425, .int .i64 t426] 25 (0, 0)) (by (with_reducible repeat (first | refine blk_drewN ?_ _ | refine blk_drew ?_ | refine blk_alloc ?_ _)); refine blk_put (cs := #[.int .i64 t425, .int .i64 0]) ?_ 1 _ rfl; (with_reducible repeat (first | refine blk_drewN ?_ _ | refine blk_drew ?_ | refine blk_alloc ?_ _)); refine blk_put (cs := #[.int .i64 0, .int .i64 0]) ?_ 0 _ rfl; (with_reducible repeat (first | refine blk_drewN ?_ _ | refine blk_drew ?_ | refine blk_alloc ?_ _)); exact BK428.out) hb); replace HB := tL HL hb; (try clear hb); (try clear hb2); (try clear hk); (try clear hi)) | ((with_reducible refine gate_dst (N := 20) rfl ?_); refine box_event ?hg (N := 20) ?hd (cs := #[.int .i64 0, .int .i64 0]) (t := 25) ?hr ?_; (case hd => rfl); (case hg => rfl); (case hr => first | (go_simp; done) | (go_simp; rfl)); intro gb432 hg w66 hbox hb; have GE432 := sL HL hg; have NB404_432 := nL BK404 UL404 hg; have NB432_404 := mL BK404 UL404 hg; have NB408_432 := nL BK408 UL408 hg; have NB432_408 := mL BK408 UL408 hg; have NB412_432 := nL BK412 UL412 hg; have NB432_412 := mL BK412 UL412 hg; have NB416_432 := nL BK416 UL416 hg; have NB432_416 := mL BK416 UL416 hg; have NB420_432 := nL BK420 UL420 hg; have NB432_420 := mL BK420 UL420 hg; have NB424_432 := nL BK424 UL424 hg; have NB432_424 := mL BK424 UL424 hg; have NB428_432 := nL BK428 UL428 hg; have NB432_428 := mL BK428 UL428 hg; replace BK404 := bL BK404 UL404 hb; replace BK408 := bL BK408 UL408 hb; replace BK412 := bL BK412 UL412 hb; replace BK416 := bL BK416 UL416 hb; replace BK420 := bL BK420 UL420 hb; replace BK424 := bL BK424 UL424 hb; replace BK428 := bL BK428 UL428 hb; replace HB := tL HL hb; have BK432 := Aside0.mk (hbox); clear hb hbox hg; have hnb67 := NB432_404.out; have hnc67 := NB404_432.out; have hcz74_0 : w66.cell? ⟨gb432, 0, none⟩ = some (.int .i64 0) := (blk_cell BK432.out 0).trans rfl; have hcz74_1 : w66.cell? ⟨gb432, 1, none⟩ = some (.int .i64 0) := (blk_cell BK432.out 1).trans rfl; have hfz74_0 := blk_frozen BK432.out 0; have hfz74_1 := blk_frozen BK432.out 1; have hcz75_0 : w66.cell? ⟨gb404, 0, none⟩ = some (.int .i64 t402) := (blk_cell BK404.out 0).trans rfl; have hcz75_1 : w66.cell? ⟨gb404, 1, none⟩ = some (.int .i64 t403) := (blk_cell BK404.out 1).trans rfl; have hfz75_0 := blk_frozen BK404.out 0; have hfz75_1 := blk_frozen BK404.out 1) | ((with_reducible refine gate_callee (f := 21) rfl ?_); refine goesL_ (some 117) rfl rfl Try.func21 (by kernel_rfl) rfl #[.int .i64 t400, .int .i64 t401, .agg #[.int .i64 t402, .int .i64 t403]] rfl (by (try simp only [List.map_toArray, List.map_cons, List.map_nil]); first | done | rfl | (simp only [List.length_drop, List.length_take]; rfl)) ?_; (with_reducible refine (spec_MeanHeld.calls k t400 t401 t402 t403 t433 t434 t435 _ A13.out).mono ?_); rintro e w76 ⟨rfl, hb⟩; refine ⟨_, rfl, ?_⟩; replace BK404 := bL BK404 UL404 hb; replace BK408 := bL BK408 UL408 hb; replace BK412 := bL BK412 UL412 hb; replace BK416 := bL BK416 UL416 hb; replace BK420 := bL BK420 UL420 hb; replace BK424 := bL BK424 UL424 hb; replace BK428 := bL BK428 UL428 hb; replace BK432 := Aside0.mk (blk_below (g := gb432) (o := .cells #[.int .i64 t429, .int .i64 t430] 25 (0, 0)) (by (with_reducible repeat (first | refine blk_drewN ?_ _ | refine blk_drew ?_ | refine blk_alloc ?_ _)); refine blk_put (cs := #[.int .i64 t429, .int .i64 0]) ?_ 1 _ rfl; (with_reducible repeat (first | refine blk_drewN ?_ _ | refine blk_drew ?_ | refine blk_alloc ?_ _)); refine blk_put (cs := #[.int .i64 0, .int .i64 0]) ?_ 0 _ rfl; (with_reducible repeat (first | refine blk_drewN ?_ _ | refine blk_drew ?_ | refine blk_alloc ?_ _)); exact BK432.out) hb); replace HB := tL HL hb; (try clear hb); (try clear hb2); (try clear hk); (try clear hi)) | ((with_reducible refine gate_dst (N := 22) rfl ?_); refine box_event ?hg (N := 22) ?hd (cs := #[.int .i64 0, .int .i64 0]) (t := 25) ?hr ?_; (case hd => rfl); (case hg => rfl); (case hr => first | (go_simp; done) | (go_simp; rfl)); intro gb436 hg w77 hbox hb; have GE436 := sL HL hg; have NB404_436 := nL BK404 UL404 hg; have NB436_404 := mL BK404 UL404 hg; have NB408_436 := nL BK408 UL408 hg; have NB436_408 := mL BK408 UL408 hg; have NB412_436 := nL BK412 UL412 hg; have NB436_412 := mL BK412 UL412 hg; have NB416_436 := nL BK416 UL416 hg; have NB436_416 := mL BK416 UL416 hg; have NB420_436 := nL BK420 UL420 hg; have NB436_420 := mL BK420 UL420 hg; have NB424_436 := nL BK424 UL424 hg; have NB436_424 := mL BK424 UL424 hg; have NB428_436 := nL BK428 UL428 hg; have NB436_428 := mL BK428 UL428 hg; have NB432_436 := nL BK432 UL432 hg; have NB436_432 := mL BK432 UL432 hg; replace BK404 := bL BK404 UL404 hb; replace BK408 := bL BK408 UL408 hb; replace BK412 := bL BK412 UL412 hb; replace BK416 := bL BK416 UL416 hb; replace BK420 := bL BK420 UL420 hb; replace BK424 := bL BK424 UL424 hb; replace BK428 := bL BK428 UL428 hb; replace BK432 := bL BK432 UL432 hb; replace HB := tL HL hb; have BK436 := Aside0.mk (hbox); clear hb hbox hg; have hnb78 := NB436_404.out; have hnc78 := NB404_436.out; have hcz86_0 : w77.cell? ⟨gb436, 0, none⟩ = some (.int .i64 0) := (blk_cell BK436.out 0).trans rfl; have hcz86_1 : w77.cell? ⟨gb436, 1, none⟩ = some (.int .i64 0) := (blk_cell BK436.out 1).trans rfl; have hfz86_0 := blk_frozen BK436.out 0; have hfz86_1 := blk_frozen BK436.out 1; have hcz87_0 : w77.cell? ⟨gb404, 0, none⟩ = some (.int .i64 t402) := (blk_cell BK404.out 0).trans rfl; have hcz87_1 : w77.cell? ⟨gb404, 1, none⟩ = some (.int .i64 t403) := (blk_cell BK404.out 1).trans rfl; have hfz87_0 := blk_frozen BK404.out 0; have hfz87_1 := blk_frozen BK404.out 1) | ((with_reducible refine gate_callee (f := 22) rfl ?_); refine goesL_ (some 124) rfl rfl Try.func22 (by kernel_rfl) rfl #[.int .i64 t400, .int .i64 t401, .agg #[.int .i64 t402, .int .i64 t403]] rfl (by (try simp only [List.map_toArray, List.map_cons, List.map_nil]); first | done | rfl | (simp only [List.length_drop, List.length_take]; rfl)) ?_; (with_reducible refine (impl_FirstWonOfWinners.calls k t400 t401 t402 t403 t437 t438 t439 _ A14.out).mono ?_); rintro e w88 ⟨rfl, hb⟩; refine ⟨_, rfl, ?_⟩; replace BK404 := bL BK404 UL404 hb; replace BK408 := bL BK408 UL408 hb; replace BK412 := bL BK412 UL412 hb; replace BK416 := bL BK416 UL416 hb; replace BK420 := bL BK420 UL420 hb; replace BK424 := bL BK424 UL424 hb; replace BK428 := bL BK428 UL428 hb; replace BK432 := bL BK432 UL432 hb; replace BK436 := Aside0.mk (blk_below (g := gb436) (o := .cells #[.int .i64 t433, .int .i64 t434] 25 (0, 0)) (by (with_reducible repeat (first | refine blk_drewN ?_ _ | refine blk_drew ?_ | refine blk_alloc ?_ _)); refine blk_put (cs := #[.int .i64 t433, .int .i64 0]) ?_ 1 _ rfl; (with_reducible repeat (first | refine blk_drewN ?_ _ | refine blk_drew ?_ | refine blk_alloc ?_ _)); refine blk_put (cs := #[.int .i64 0, .int .i64 0]) ?_ 0 _ rfl; (with_reducible repeat (first | refine blk_drewN ?_ _ | refine blk_drew ?_ | refine blk_alloc ?_ _)); exact BK436.out) hb); replace HB := tL HL hb; (try clear hb); (try clear hb2); (try clear hk); (try clear hi)) | ((with_reducible refine gate_dst (N := 24) rfl ?_); refine box_event ?hg (N := 24) ?hd (cs := #[.int .i64 0, .int .i64 0]) (t := 25) ?hr ?_; (case hd => rfl); (case hg => rfl); (case hr => first | (go_simp; done) | (go_simp; rfl)); intro gb440 hg w89 hbox hb; have GE440 := sL HL hg; have NB404_440 := nL BK404 UL404 hg; have NB440_404 := mL BK404 UL404 hg; have NB408_440 := nL BK408 UL408 hg; have NB440_408 := mL BK408 UL408 hg; have NB412_440 := nL BK412 UL412 hg; have NB440_412 := mL BK412 UL412 hg; have NB416_440 := nL BK416 UL416 hg; have NB440_416 := mL BK416 UL416 hg; have NB420_440 := nL BK420 UL420 hg; have NB440_420 := mL BK420 UL420 hg; have NB424_440 := nL BK424 UL424 hg; have NB440_424 := mL BK424 UL424 hg; have NB428_440 := nL BK428 UL428 hg; have NB440_428 := mL BK428 UL428 hg; have NB432_440 := nL BK432 UL432 hg; have NB440_432 := mL BK432 UL432 hg; have NB436_440 := nL BK436 UL436 hg; have NB440_436 := mL BK436 UL436 hg; replace BK404 := bL BK404 UL404 hb; replace BK408 := bL BK408 UL408 hb; replace BK412 := bL BK412 UL412 hb; replace BK416 := bL BK416 UL416 hb; replace BK420 := bL BK420 UL420 hb; replace BK424 := bL BK424 UL424 hb; replace BK428 := bL BK428 UL428 hb; replace BK432 := bL BK432 UL432 hb; replace BK436 := bL BK436 UL436 hb; replace HB := tL HL hb; have BK440 := Aside0.mk (hbox); clear hb hbox hg; have hnb90 := NB440_404.out; have hnc90 := NB404_440.out; have hcz99_0 : w89.cell? ⟨gb440, 0, none⟩ = some (.int .i64 0) := (blk_cell BK440.out 0).trans rfl; have hcz99_1 : w89.cell? ⟨gb440, 1, none⟩ = some (.int .i64 0) := (blk_cell BK440.out 1).trans rfl; have hfz99_0 := blk_frozen BK440.out 0; have hfz99_1 := blk_frozen BK440.out 1; have hcz100_0 : w89.cell? ⟨gb404, 0, none⟩ = some (.int .i64 t402) := (blk_cell BK404.out 0).trans rfl; have hcz100_1 : w89.cell? ⟨gb404, 1, none⟩ = some (.int .i64 t403) := (blk_cell BK404.out 1).trans rfl; have hfz100_0 := blk_frozen BK404.out 0; have hfz100_1 := blk_frozen BK404.out 1) | ((with_reducible refine gate_callee (f := 23) rfl ?_); refine goesL_ (some 131) rfl rfl Try.func23 (by kernel_rfl) rfl #[.int .i64 t400, .int .i64 t401, .agg #[.int .i64 t402, .int .i64 t403]] rfl (by (try simp only [List.map_toArray, List.map_cons, List.map_nil]); first | done | rfl | (simp only [List.length_drop, List.length_take]; rfl)) ?_; (with_reducible refine (spec_FirstWonOfWinners.calls k t400 t401 t402 t403 t441 t442 t443 _ A15.out).mono ?_); rintro e w101 ⟨rfl, hb⟩; refine ⟨_, rfl, ?_⟩; replace BK404 := bL BK404 UL404 hb; replace BK408 := bL BK408 UL408 hb; replace BK412 := bL BK412 UL412 hb; replace BK416 := bL BK416 UL416 hb; replace BK420 := bL BK420 UL420 hb; replace BK424 := bL BK424 UL424 hb; replace BK428 := bL BK428 UL428 hb; replace BK432 := bL BK432 UL432 hb; replace BK436 := bL BK436 UL436 hb; replace BK440 := Aside0.mk (blk_below (g := gb440) (o := .cells #[.int .i64 t437, .int .i64 t438] 25 (0, 0)) (by (with_reducible repeat (first | refine blk_drewN ?_ _ | refine blk_drew ?_ | refine blk_alloc ?_ _)); refine blk_put (cs := #[.int .i64 t437, .int .i64 0]) ?_ 1 _ rfl; (with_reducible repeat (first | refine blk_drewN ?_ _ | refine blk_drew ?_ | refine blk_alloc ?_ _)); refine blk_put (cs := #[.int .i64 0, .int .i64 0]) ?_ 0 _ rfl; (with_reducible repeat (first | refine blk_drewN ?_ _ | refine blk_drew ?_ | refine blk_alloc ?_ _)); exact BK440.out) hb); replace HB := tL HL hb; (try clear hb); (try clear hb2); (try clear hk); (try clear hi)) | ((with_reducible refine gate_dst (N := 26) rfl ?_); refine box_event ?hg (N := 26) ?hd (cs := #[.int .i64 0, .int .i64 0]) (t := 25) ?hr ?_; (case hd => rfl); (case hg => rfl); (case hr => first | (go_simp; done) | (go_simp; rfl)); intro gb444 hg w102 hbox hb; have GE444 := sL HL hg; have NB404_444 := nL BK404 UL404 hg; have NB444_404 := mL BK404 UL404 hg; have NB408_444 := nL BK408 UL408 hg; have NB444_408 := mL BK408 UL408 hg; have NB412_444 := nL BK412 UL412 hg; have NB444_412 := mL BK412 UL412 hg; have NB416_444 := nL BK416 UL416 hg; have NB444_416 := mL BK416 UL416 hg; have NB420_444 := nL BK420 UL420 hg; have NB444_420 := mL BK420 UL420 hg; have NB424_444 := nL BK424 UL424 hg; have NB444_424 := mL BK424 UL424 hg; have NB428_444 := nL BK428 UL428 hg; have NB444_428 := mL BK428 UL428 hg; have NB432_444 := nL BK432 UL432 hg; have NB444_432 := mL BK432 UL432 hg; have NB436_444 := nL BK436 UL436 hg; have NB444_436 := mL BK436 UL436 hg; have NB440_444 := nL BK440 UL440 hg; have NB444_440 := mL BK440 UL440 hg; replace BK404 := bL BK404 UL404 hb; replace BK408 := bL BK408 UL408 hb; replace BK412 := bL BK412 UL412 hb; replace BK416 := bL BK416 UL416 hb; replace BK420 := bL BK420 UL420 hb; replace BK424 := bL BK424 UL424 hb; replace BK428 := bL BK428 UL428 hb; replace BK432 := bL BK432 UL432 hb; replace BK436 := bL BK436 UL436 hb; replace BK440 := bL BK440 UL440 hb; replace HB := tL HL hb; have BK444 := Aside0.mk (hbox); clear hb hbox hg; have hcz113_0 : w102.cell? ⟨gb444, 0, none⟩ = some (.int .i64 0) := (blk_cell BK444.out 0).trans rfl; have hcz113_1 : w102.cell? ⟨gb444, 1, none⟩ = some (.int .i64 0) := (blk_cell BK444.out 1).trans rfl; have hfz113_0 := blk_frozen BK444.out 0; have hfz113_1 := blk_frozen BK444.out 1))
    (try simp only [Act.put, List.setIfInBounds_toArray, List.set_cons_zero, List.set_cons_succ])
    refine hideW (fun wx => Aside0 (wx.heap[gb404]? = some (.cells #[.int .i64 t402, .int .i64 t403] 25 (0, 0))) ∧ Aside0 (wx.heap[gb408]? = some (.cells #[.int .i64 t405, .int .i64 t406] 25 (0, 0))) ∧ Aside0 (wx.heap[gb412]? = some (.cells #[.int .i64 t409, .int .i64 t410] 25 (0, 0))) ∧ Aside0 (wx.heap[gb416]? = some (.cells #[.int .i64 t413, .int .i64 t414] 25 (0, 0))) ∧ Aside0 (wx.heap[gb420]? = some (.cells #[.int .i64 t417, .int .i64 t418] 25 (0, 0))) ∧ Aside0 (wx.heap[gb424]? = some (.cells #[.int .i64 t421, .int .i64 t422] 25 (0, 0))) ∧ Aside0 (wx.heap[gb428]? = some (.cells #[.int .i64 t425, .int .i64 t426] 25 (0, 0))) ∧ Aside0 (wx.heap[gb432]? = some (.cells #[.int .i64 t429, .int .i64 t430] 25 (0, 0))) ∧ Aside0 (wx.heap[gb436]? = some (.cells #[.int .i64 t433, .int .i64 t434] 25 (0, 0))) ∧ Aside0 (wx.heap[gb440]? = some (.cells #[.int .i64 t437, .int .i64 t438] 25 (0, 0))) ∧ Aside0 (wx.heap[gb444]? = some (.cells #[.int .i64 t441, .int .i64 t442] 25 (0, 0))) ∧ Aside0 (Below w.heap.size w wx)) ⟨⟨UL404⟩, ⟨UL408⟩, ⟨UL412⟩, ⟨UL416⟩, ⟨UL420⟩, ⟨UL424⟩, ⟨UL428⟩, ⟨UL432⟩, ⟨UL436⟩, ⟨UL440⟩, ⟨by (with_reducible repeat (first | refine blk_drewN ?_ _ | refine blk_drew ?_ | refine blk_alloc ?_ _)); refine blk_put (cs := #[.int .i64 t441, .int .i64 0]) ?_ 1 _ rfl; (with_reducible repeat (first | refine blk_drewN ?_ _ | refine blk_drew ?_ | refine blk_alloc ?_ _)); refine blk_put (cs := #[.int .i64 0, .int .i64 0]) ?_ 0 _ rfl; (with_reducible repeat (first | refine blk_drewN ?_ _ | refine blk_drew ?_ | refine blk_alloc ?_ _)); exact BK444.out⟩, ⟨HL⟩⟩ ?_
    clear GE404 hcz19_0 hcz19_1 hfz19_0 hfz19_1 GE408 NB404_408 NB408_404 hnb22 hnc22 hcz23_0 hcz23_1 hfz23_0 hfz23_1 hcz24_0 hcz24_1 hfz24_0 hfz24_1 GE412 NB404_412 NB412_404 NB408_412 NB412_408 hnb27 hnc27 hcz29_0 hcz29_1 hfz29_0 hfz29_1 hcz30_0 hcz30_1 hfz30_0 hfz30_1 GE416 NB404_416 NB416_404 NB408_416 NB416_408 NB412_416 NB416_412 hnb33 hnc33 hcz36_0 hcz36_1 hfz36_0 hfz36_1 hcz37_0 hcz37_1 hfz37_0 hfz37_1 GE420 NB404_420 NB420_404 NB408_420 NB420_408 NB412_420 NB420_412 NB416_420 NB420_416 hnb40 hnc40 hcz44_0 hcz44_1 hfz44_0 hfz44_1 hcz45_0 hcz45_1 hfz45_0 hfz45_1 GE424 NB404_424 NB424_404 NB408_424 NB424_408 NB412_424 NB424_412 NB416_424 NB424_416 NB420_424 NB424_420 hnb48 hnc48 hcz53_0 hcz53_1 hfz53_0 hfz53_1 hcz54_0 hcz54_1 hfz54_0 hfz54_1 GE428 NB404_428 NB428_404 NB408_428 NB428_408 NB412_428 NB428_412 NB416_428 NB428_416 NB420_428 NB428_420 NB424_428 NB428_424 hnb57 hnc57 hcz63_0 hcz63_1 hfz63_0 hfz63_1 hcz64_0 hcz64_1 hfz64_0 hfz64_1 GE432 NB404_432 NB432_404 NB408_432 NB432_408 NB412_432 NB432_412 NB416_432 NB432_416 NB420_432 NB432_420 NB424_432 NB432_424 NB428_432 NB432_428 hnb67 hnc67 hcz74_0 hcz74_1 hfz74_0 hfz74_1 hcz75_0 hcz75_1 hfz75_0 hfz75_1 GE436 NB404_436 NB436_404 NB408_436 NB436_408 NB412_436 NB436_412 NB416_436 NB436_416 NB420_436 NB436_420 NB424_436 NB436_424 NB428_436 NB436_428 NB432_436 NB436_432 hnb78 hnc78 hcz86_0 hcz86_1 hfz86_0 hfz86_1 hcz87_0 hcz87_1 hfz87_0 hfz87_1 GE440 NB404_440 NB440_404 NB408_440 NB440_408 NB412_440 NB440_412 NB416_440 NB440_416 NB420_440 NB440_420 NB424_440 NB440_424 NB428_440 NB440_428 NB432_440 NB440_432 NB436_440 NB440_436 hnb90 hnc90 hcz99_0 hcz99_1 hfz99_0 hfz99_1 hcz100_0 hcz100_1 hfz100_0 hfz100_1 GE444 NB404_444 NB444_404 NB408_444 NB444_408 NB412_444 NB444_412 NB416_444 NB444_416 NB420_444 NB444_420 NB424_444 NB444_424 NB428_444 NB444_428 NB432_444 NB444_432 NB436_444 NB444_436 NB440_444 NB444_440 hcz113_0 hcz113_1 hfz113_0 hfz113_1 BK404 BK408 BK412 BK416 BK420 BK424 BK428 BK432 BK436 BK440 BK444 HB
    rintro wx ⟨BK404, BK408, BK412, BK416, BK420, BK424, BK428, BK432, BK436, BK440, BK444, HB⟩
    go_cut [218] from 1 to 0 (fun v218 wc => ∃ (kq : Nat) (x218_15 : Bool), v218 = .bool x218_15 ∧ Aside0 (laws_FnRuinAddsUp.j0 kq l1 t400 t401 t407 x218_15 t402 t403 t405 t406 t413 t414 t421 t422 t429 t430 t437 t438 = some r) ∧ Aside0 (kq ≤ k) ∧ Aside0 (wc.heap[gb404]? = some (.cells #[.int .i64 t402, .int .i64 t403] 25 (0, 0))) ∧ Aside0 (wc.heap[gb408]? = some (.cells #[.int .i64 t405, .int .i64 t406] 25 (0, 0))) ∧ Aside0 (wc.heap[gb416]? = some (.cells #[.int .i64 t413, .int .i64 t414] 25 (0, 0))) ∧ Aside0 (wc.heap[gb424]? = some (.cells #[.int .i64 t421, .int .i64 t422] 25 (0, 0))) ∧ Aside0 (wc.heap[gb432]? = some (.cells #[.int .i64 t429, .int .i64 t430] 25 (0, 0))) ∧ Aside0 (wc.heap[gb440]? = some (.cells #[.int .i64 t437, .int .i64 t438] 25 (0, 0))) ∧ Aside0 (Below w.heap.size w wc))
    case first => as_aux_lemma =>
      have H := HC16.out
      clear HC16
      replace H := alive H (dead0 ..); obtain ⟨c, H⟩ := H; obtain rfl := bneq c; clear c
      replace H := alive H (dead0 ..); obtain ⟨c, H⟩ := H; obtain ⟨rfl, rfl⟩ := rneq c; clear c
      replace H := alive H (dead0 ..); obtain ⟨c, H⟩ := H; obtain rfl := bneq c; clear c
      replace H := alive H (dead0 ..); obtain ⟨c, H⟩ := H; obtain ⟨rfl, rfl⟩ := rneq c; clear c
      replace H := alive H (dead0 ..); obtain ⟨c, H⟩ := H; obtain rfl := bneq c; clear c
      replace H := alive H (dead0 ..); obtain ⟨c, H⟩ := H; obtain ⟨rfl, rfl⟩ := rneq c; clear c
      replace H := alive H (dead0 ..); obtain ⟨c, H⟩ := H; obtain rfl := bneq c; clear c
      replace H := alive H (dead0 ..); obtain ⟨c, H⟩ := H; obtain ⟨rfl, rfl⟩ := rneq c; clear c
      replace H := alive H (dead0 ..); obtain ⟨c, H⟩ := H; obtain rfl := bneq c; clear c
      replace H := alive H (dead0 ..); obtain ⟨c, H⟩ := H; obtain ⟨rfl, rfl⟩ := rneq c; clear c
      replace H := alive H (dead0 ..); obtain ⟨c, H⟩ := H; obtain rfl := bneq' c; clear c
      replace H := alive H (dead0 ..); obtain ⟨c, H⟩ := H; obtain rfl := bneq' c; clear c
      replace H := alive H (dead0 ..); obtain ⟨c, H⟩ := H; obtain rfl := bneq' c; clear c
      simp only [List.append_eq, List.cons_append, List.nil_append]
      have hcz404_0 : wx.cell? ⟨gb404, 0, none⟩ = some (.int .i64 t402) := (blk_cell BK404.out 0).trans rfl
      have hcz404_1 : wx.cell? ⟨gb404, 1, none⟩ = some (.int .i64 t403) := (blk_cell BK404.out 1).trans rfl
      have hcz408_0 : wx.cell? ⟨gb408, 0, none⟩ = some (.int .i64 t405) := (blk_cell BK408.out 0).trans rfl
      have hcz408_1 : wx.cell? ⟨gb408, 1, none⟩ = some (.int .i64 t406) := (blk_cell BK408.out 1).trans rfl
      have hcz412_0 : wx.cell? ⟨gb412, 0, none⟩ = some (.int .i64 t405) := (blk_cell BK412.out 0).trans rfl
      have hcz412_1 : wx.cell? ⟨gb412, 1, none⟩ = some (.int .i64 t406) := (blk_cell BK412.out 1).trans rfl
      have hcz416_0 : wx.cell? ⟨gb416, 0, none⟩ = some (.int .i64 t413) := (blk_cell BK416.out 0).trans rfl
      have hcz416_1 : wx.cell? ⟨gb416, 1, none⟩ = some (.int .i64 t414) := (blk_cell BK416.out 1).trans rfl
      have hcz420_0 : wx.cell? ⟨gb420, 0, none⟩ = some (.int .i64 t413) := (blk_cell BK420.out 0).trans rfl
      have hcz420_1 : wx.cell? ⟨gb420, 1, none⟩ = some (.int .i64 t414) := (blk_cell BK420.out 1).trans rfl
      have hcz424_0 : wx.cell? ⟨gb424, 0, none⟩ = some (.int .i64 t421) := (blk_cell BK424.out 0).trans rfl
      have hcz424_1 : wx.cell? ⟨gb424, 1, none⟩ = some (.int .i64 t422) := (blk_cell BK424.out 1).trans rfl
      have hcz428_0 : wx.cell? ⟨gb428, 0, none⟩ = some (.int .i64 t421) := (blk_cell BK428.out 0).trans rfl
      have hcz428_1 : wx.cell? ⟨gb428, 1, none⟩ = some (.int .i64 t422) := (blk_cell BK428.out 1).trans rfl
      have hcz432_0 : wx.cell? ⟨gb432, 0, none⟩ = some (.int .i64 t429) := (blk_cell BK432.out 0).trans rfl
      have hcz432_1 : wx.cell? ⟨gb432, 1, none⟩ = some (.int .i64 t430) := (blk_cell BK432.out 1).trans rfl
      have hcz436_0 : wx.cell? ⟨gb436, 0, none⟩ = some (.int .i64 t429) := (blk_cell BK436.out 0).trans rfl
      have hcz436_1 : wx.cell? ⟨gb436, 1, none⟩ = some (.int .i64 t430) := (blk_cell BK436.out 1).trans rfl
      have hcz440_0 : wx.cell? ⟨gb440, 0, none⟩ = some (.int .i64 t437) := (blk_cell BK440.out 0).trans rfl
      have hcz440_1 : wx.cell? ⟨gb440, 1, none⟩ = some (.int .i64 t438) := (blk_cell BK440.out 1).trans rfl
      have hcz444_0 : wx.cell? ⟨gb444, 0, none⟩ = some (.int .i64 t437) := (blk_cell BK444.out 0).trans rfl
      have hcz444_1 : wx.cell? ⟨gb444, 1, none⟩ = some (.int .i64 t438) := (blk_cell BK444.out 1).trans rfl
      by_cases c727 : t407 = true
      · subst c727
        rw [if_pos rfl] at H
        by_cases c728 : t400 > 0
        · rw [if_pos c728] at H
          have c728b0 : decide (0 < t400) = true := decide_eq_true c728
          clear c728
          replace H := alive H (dead0 ..); obtain ⟨c, H⟩ := H; obtain rfl := bneq' c; clear c
          replace H := Option.bind_eq_some_iff.mp H
          obtain ⟨t445, A90, H⟩ := H
          have H' := Aside0.mk H
          have A9 := Aside0.mk A90
          clear H A90
          as_aux_lemma =>
            go_wp2_with (first | (go_at_call 24; (with_reducible refine (impl_IsChance.calls k t402 t403 t445 _ A9.out).mono ?_); rintro e w9 ⟨rfl, hb⟩; have n0_ := bL BK404 BK404.out hb; have n1_ := bL BK408 BK408.out hb; have n2_ := bL BK416 BK416.out hb; have n3_ := bL BK424 BK424.out hb; have n4_ := bL BK432 BK432.out hb; have n5_ := bL BK440 BK440.out hb; have nB_ := tL HB.out hb; clear BK404 BK408 BK412 BK416 BK420 BK424 BK428 BK432 BK436 BK440 BK444 HB hb; have BK404 := n0_; have BK408 := n1_; have BK416 := n2_; have BK424 := n3_; have BK432 := n4_; have BK440 := n5_; have HB := nB_; clear nB_ n0_ n1_ n2_ n3_ n4_ n5_))
            go_meet
            case rel => exact ⟨_, (!t445), (by first | rfl | (simp; done) | (simp [*]; done)), H', ⟨Nat.le_refl _⟩, BK404, BK408, BK416, BK424, BK432, BK440, HB⟩
        · rw [if_neg c728] at H
          have c728b0 : decide (0 < t400) = false := decide_eq_false c728
          clear c728
          replace H := alive H (dead0 ..); obtain ⟨c, H⟩ := H; obtain rfl := bneq' c; clear c
          replace H := Option.bind_eq_some_iff.mp H
          obtain ⟨t445, A90, H⟩ := H
          have H' := Aside0.mk H
          have A9 := Aside0.mk A90
          clear H A90
          as_aux_lemma =>
            go_wp2_with (first | (go_at_call 24; (with_reducible refine (impl_IsChance.calls k t402 t403 t445 _ A9.out).mono ?_); rintro e w9 ⟨rfl, hb⟩; have n0_ := bL BK404 BK404.out hb; have n1_ := bL BK408 BK408.out hb; have n2_ := bL BK416 BK416.out hb; have n3_ := bL BK424 BK424.out hb; have n4_ := bL BK432 BK432.out hb; have n5_ := bL BK440 BK440.out hb; have nB_ := tL HB.out hb; clear BK404 BK408 BK412 BK416 BK420 BK424 BK428 BK432 BK436 BK440 BK444 HB hb; have BK404 := n0_; have BK408 := n1_; have BK416 := n2_; have BK424 := n3_; have BK432 := n4_; have BK440 := n5_; have HB := nB_; clear nB_ n0_ n1_ n2_ n3_ n4_ n5_))
            go_meet
            case rel => exact ⟨_, (!t445), (by first | rfl | (simp; done) | (simp [*]; done)), H', ⟨Nat.le_refl _⟩, BK404, BK408, BK416, BK424, BK432, BK440, HB⟩
      · replace c727 := Bool.eq_false_iff.mpr c727
        subst c727
        rw [if_neg Bool.false_ne_true] at H
        replace H := alive H (dead0 ..); obtain ⟨c, H⟩ := H; obtain rfl := bneq' c; clear c
        have H' := Aside0.mk H
        clear H
        as_aux_lemma =>
          go_wp2
          go_meet
          case rel => exact ⟨_, (false), (by first | rfl | (simp; done) | (simp [*]; done)), H', ⟨Nat.le_refl _⟩, BK404, BK408, BK416, BK424, BK432, BK440, HB⟩
    case rest => as_aux_lemma =>
      clear HC16
      obtain ⟨kq, x218_15, rfl, HA, HJ15, BK404, BK408, BK416, BK424, BK432, BK440, HB⟩ := hcut
      cases kq with
      | zero => exact absurd HA.out (by simp [laws_FnRuinAddsUp.j0])
      | succ kj15 =>
        have H := HA.out
        clear HA
        simp only [laws_FnRuinAddsUp.j0] at H
        by_cases c1128 : x218_15 = true
        · subst c1128
          rw [if_pos rfl] at H
          exact absurd H (by simp)
        · replace c1128 := Bool.eq_false_iff.mpr c1128
          subst c1128
          rw [if_neg Bool.false_ne_true] at H
          have HC1129 := Aside0.mk H
          clear H
          go_upto_if 219 with (fail)
          go_cut [] from 1 to 0 (fun wc => ∃ (kq : Nat), Aside0 (laws_FnRuinAddsUp.j7 kq l1 = some r) ∧ Aside0 (kq ≤ kj15) ∧ Aside0 (Below w.heap.size w wc))
          case first => as_aux_lemma =>
            have H := HC1129.out
            clear HC1129
            by_cases c1130 : t407 = true
            · subst c1130
              rw [if_pos rfl] at H
              have HC1131 := Aside0.mk H
              clear H
              go_upto_region 17 with (fail)
              go_cut [277] from 1 to 0 (fun v277 wc => ∃ (kq : Nat) (x277_1130 : Bool), v277 = .bool x277_1130 ∧ Aside0 (laws_FnRuinAddsUp.j1 kq l1 t400 t401 x277_1130 t402 t403 t405 t406 t413 t414 t421 t422 t437 t438 = some r) ∧ Aside0 (kq ≤ kj15) ∧ Aside0 (wc.heap[gb404]? = some (.cells #[.int .i64 t402, .int .i64 t403] 25 (0, 0))) ∧ Aside0 (wc.heap[gb408]? = some (.cells #[.int .i64 t405, .int .i64 t406] 25 (0, 0))) ∧ Aside0 (wc.heap[gb416]? = some (.cells #[.int .i64 t413, .int .i64 t414] 25 (0, 0))) ∧ Aside0 (wc.heap[gb424]? = some (.cells #[.int .i64 t421, .int .i64 t422] 25 (0, 0))) ∧ Aside0 (wc.heap[gb432]? = some (.cells #[.int .i64 t429, .int .i64 t430] 25 (0, 0))) ∧ Aside0 (wc.heap[gb440]? = some (.cells #[.int .i64 t437, .int .i64 t438] 25 (0, 0))) ∧ Aside0 (Below w.heap.size w wc))
              case first => as_aux_lemma =>
                have H := HC1131.out
                clear HC1131
                by_cases c1132 : t406 = t414
                · rw [if_pos c1132] at H
                  have c1132b0 : (t406 == t414) = true := beq_iff_eq.mpr c1132
                  have c1132b1 : (t406 != t414) = false := bne_eq_false_iff_eq.mpr c1132
                  clear c1132
                  (first | rw [c1132b0] | (simp only [i64_w, i32_w]; rw [c1132b0]) | skip)
                  by_cases c1133 : (wrap64 (t405 + t413)) = t406
                  · rw [if_pos c1133] at H
                    have c1133b0 : ((wrap64 (t405 + t413)) == t406) = true := beq_iff_eq.mpr c1133
                    have c1133b1 : ((wrap64 (t405 + t413)) != t406) = false := bne_eq_false_iff_eq.mpr c1133
                    clear c1133
                    by_cases c1134 : t405 < 0
                    · rw [if_pos c1134] at H
                      have c1134b0 : decide (t405 < 0) = true := decide_eq_true c1134
                      clear c1134
                      exact absurd H (by generalize kj15 = q_; cases q_ <;> simp [laws_FnRuinAddsUp.j1])
                    · rw [if_neg c1134] at H
                      have c1134b0 : decide (t405 < 0) = false := decide_eq_false c1134
                      clear c1134
                      by_cases c1156 : t413 < 0
                      · rw [if_pos c1156] at H
                        have c1156b0 : decide (t413 < 0) = true := decide_eq_true c1156
                        clear c1156
                        exact absurd H (by generalize kj15 = q_; cases q_ <;> simp [laws_FnRuinAddsUp.j1])
                      · rw [if_neg c1156] at H
                        have c1156b0 : decide (t413 < 0) = false := decide_eq_false c1156
                        clear c1156
                        by_cases c1178 : (wrap64 (t429 * t406)) = (wrap64 ((wrap64 (t401 * t405)) * t430))
                        · rw [if_pos c1178] at H
                          have c1178b0 : ((wrap64 (t429 * t406)) == (wrap64 ((wrap64 (t401 * t405)) * t430))) = true := beq_iff_eq.mpr c1178
                          have c1178b1 : ((wrap64 (t429 * t406)) != (wrap64 ((wrap64 (t401 * t405)) * t430))) = false := bne_eq_false_iff_eq.mpr c1178
                          clear c1178
                          by_cases c1179 : t421 < 0
                          · rw [if_pos c1179] at H
                            have c1179b0 : decide (t421 < 0) = true := decide_eq_true c1179
                            clear c1179
                            exact absurd H (by generalize kj15 = q_; cases q_ <;> simp [laws_FnRuinAddsUp.j1])
                          · rw [if_neg c1179] at H
                            have c1179b0 : decide (t421 < 0) = false := decide_eq_false c1179
                            clear c1179
                            by_cases c1218 : t400 = 0
                            · rw [if_pos c1218] at H
                              have c1218b0 : (t400 == 0) = true := beq_iff_eq.mpr c1218
                              have c1218b1 : (t400 != 0) = false := bne_eq_false_iff_eq.mpr c1218
                              clear c1218
                              have H' := Aside0.mk H
                              clear H
                              have hcz1229_0 : wc.cell? ⟨gb408, 0, none⟩ = some (.int .i64 t405) := (blk_cell BK408.out 0).trans rfl
                              have hcz1229_1 : wc.cell? ⟨gb408, 1, none⟩ = some (.int .i64 t406) := (blk_cell BK408.out 1).trans rfl
                              have hfz1229_0 := blk_frozen BK408.out 0
                              have hfz1229_1 := blk_frozen BK408.out 1
                              have hcz1239_0 : wc.cell? ⟨gb416, 0, none⟩ = some (.int .i64 t413) := (blk_cell BK416.out 0).trans rfl
                              have hcz1239_1 : wc.cell? ⟨gb416, 1, none⟩ = some (.int .i64 t414) := (blk_cell BK416.out 1).trans rfl
                              have hfz1239_0 := blk_frozen BK416.out 0
                              have hfz1239_1 := blk_frozen BK416.out 1
                              have hcz1248_0 : wc.cell? ⟨gb432, 0, none⟩ = some (.int .i64 t429) := (blk_cell BK432.out 0).trans rfl
                              have hcz1248_1 : wc.cell? ⟨gb432, 1, none⟩ = some (.int .i64 t430) := (blk_cell BK432.out 1).trans rfl
                              have hfz1248_0 := blk_frozen BK432.out 0
                              have hfz1248_1 := blk_frozen BK432.out 1
                              have hcz1256_0 : wc.cell? ⟨gb424, 0, none⟩ = some (.int .i64 t421) := (blk_cell BK424.out 0).trans rfl
                              have hcz1256_1 : wc.cell? ⟨gb424, 1, none⟩ = some (.int .i64 t422) := (blk_cell BK424.out 1).trans rfl
                              have hfz1256_0 := blk_frozen BK424.out 0
                              have hfz1256_1 := blk_frozen BK424.out 1
                              as_aux_lemma =>
                                go_wp2
                                go_meet
                                case rel => exact ⟨_, (((t421 == 0) != true)), (by first | rfl | (simp; done) | (simp [*]; done)), H', ⟨by have := HJ15.out; first | omega | exact Nat.le_refl _⟩, ⟨UL404⟩, ⟨UL408⟩, ⟨UL416⟩, ⟨UL424⟩, ⟨UL432⟩, ⟨UL440⟩, ⟨HL⟩⟩
                            · rw [if_neg c1218] at H
                              have c1218b0 : (t400 == 0) = false := beq_eq_false_iff_ne.mpr c1218
                              have c1218b1 : (t400 != 0) = true := bne_iff_ne.mpr c1218
                              have H' := Aside0.mk H
                              clear H
                              have hcz1267_0 : wc.cell? ⟨gb408, 0, none⟩ = some (.int .i64 t405) := (blk_cell BK408.out 0).trans rfl
                              have hcz1267_1 : wc.cell? ⟨gb408, 1, none⟩ = some (.int .i64 t406) := (blk_cell BK408.out 1).trans rfl
                              have hfz1267_0 := blk_frozen BK408.out 0
                              have hfz1267_1 := blk_frozen BK408.out 1
                              have hcz1277_0 : wc.cell? ⟨gb416, 0, none⟩ = some (.int .i64 t413) := (blk_cell BK416.out 0).trans rfl
                              have hcz1277_1 : wc.cell? ⟨gb416, 1, none⟩ = some (.int .i64 t414) := (blk_cell BK416.out 1).trans rfl
                              have hfz1277_0 := blk_frozen BK416.out 0
                              have hfz1277_1 := blk_frozen BK416.out 1
                              have hcz1286_0 : wc.cell? ⟨gb432, 0, none⟩ = some (.int .i64 t429) := (blk_cell BK432.out 0).trans rfl
                              have hcz1286_1 : wc.cell? ⟨gb432, 1, none⟩ = some (.int .i64 t430) := (blk_cell BK432.out 1).trans rfl
                              have hfz1286_0 := blk_frozen BK432.out 0
                              have hfz1286_1 := blk_frozen BK432.out 1
                              have hcz1294_0 : wc.cell? ⟨gb424, 0, none⟩ = some (.int .i64 t421) := (blk_cell BK424.out 0).trans rfl
                              have hcz1294_1 : wc.cell? ⟨gb424, 1, none⟩ = some (.int .i64 t422) := (blk_cell BK424.out 1).trans rfl
                              have hfz1294_0 := blk_frozen BK424.out 0
                              have hfz1294_1 := blk_frozen BK424.out 1
                              as_aux_lemma =>
                                go_wp2
                                go_meet
                                case rel => exact ⟨_, (((t421 == 0) != (t400 == t401))), (by first | rfl | (simp; done) | (simp [*]; done)), H', ⟨by have := HJ15.out; first | omega | exact Nat.le_refl _⟩, ⟨UL404⟩, ⟨UL408⟩, ⟨UL416⟩, ⟨UL424⟩, ⟨UL432⟩, ⟨UL440⟩, ⟨HL⟩⟩
                        · rw [if_neg c1178] at H
                          have c1178b0 : ((wrap64 (t429 * t406)) == (wrap64 ((wrap64 (t401 * t405)) * t430))) = false := beq_eq_false_iff_ne.mpr c1178
                          have c1178b1 : ((wrap64 (t429 * t406)) != (wrap64 ((wrap64 (t401 * t405)) * t430))) = true := bne_iff_ne.mpr c1178
                          exact absurd H (by generalize kj15 = q_; cases q_ <;> simp [laws_FnRuinAddsUp.j1])
                  · rw [if_neg c1133] at H
                    have c1133b0 : ((wrap64 (t405 + t413)) == t406) = false := beq_eq_false_iff_ne.mpr c1133
                    have c1133b1 : ((wrap64 (t405 + t413)) != t406) = true := bne_iff_ne.mpr c1133
                    exact absurd H (by generalize kj15 = q_; cases q_ <;> simp [laws_FnRuinAddsUp.j1])
                · rw [if_neg c1132] at H
                  have c1132b0 : (t406 == t414) = false := beq_eq_false_iff_ne.mpr c1132
                  have c1132b1 : (t406 != t414) = true := bne_iff_ne.mpr c1132
                  (first | rw [c1132b0] | (simp only [i64_w, i32_w]; rw [c1132b0]) | skip)
                  exact absurd H (by generalize kj15 = q_; cases q_ <;> simp [laws_FnRuinAddsUp.j1])
              case rest => as_aux_lemma =>
                clear HC1131
                obtain ⟨kq, x277_1130, rfl, HA, HJ1130, BK404, BK408, BK416, BK424, BK432, BK440, HB⟩ := hcut
                cases kq with
                | zero => exact absurd HA.out (by simp [laws_FnRuinAddsUp.j1])
                | succ kj1130 =>
                  have H := HA.out
                  clear HA
                  simp only [laws_FnRuinAddsUp.j1] at H
                  by_cases c1367 : x277_1130 = true
                  · subst c1367
                    rw [if_pos rfl] at H
                    exact absurd H (by simp)
                  · replace c1367 := Bool.eq_false_iff.mpr c1367
                    subst c1367
                    rw [if_neg Bool.false_ne_true] at H
                    have HC1368 := Aside0.mk H
                    clear H
                    go_upto_region 19 with (fail)
                    go_cut [284] from 1 to 0 (fun v284 wc => ∃ (kq : Nat) (x284_1367 : Bool), v284 = .bool x284_1367 ∧ Aside0 (laws_FnRuinAddsUp.j2 kq l1 t400 t401 x284_1367 t402 t403 t405 t406 t413 t414 t421 t422 t437 t438 = some r) ∧ Aside0 (kq ≤ kj1130) ∧ Aside0 (wc.heap[gb404]? = some (.cells #[.int .i64 t402, .int .i64 t403] 25 (0, 0))) ∧ Aside0 (wc.heap[gb408]? = some (.cells #[.int .i64 t405, .int .i64 t406] 25 (0, 0))) ∧ Aside0 (wc.heap[gb416]? = some (.cells #[.int .i64 t413, .int .i64 t414] 25 (0, 0))) ∧ Aside0 (wc.heap[gb424]? = some (.cells #[.int .i64 t421, .int .i64 t422] 25 (0, 0))) ∧ Aside0 (wc.heap[gb432]? = some (.cells #[.int .i64 t429, .int .i64 t430] 25 (0, 0))) ∧ Aside0 (wc.heap[gb440]? = some (.cells #[.int .i64 t437, .int .i64 t438] 25 (0, 0))) ∧ Aside0 (Below w.heap.size w wc))
                    case first => as_aux_lemma =>
                      have H := HC1368.out
                      clear HC1368
                      by_cases c1369 : t400 > 0
                      · rw [if_pos c1369] at H
                        have c1369b0 : decide (0 < t400) = true := decide_eq_true c1369
                        clear c1369
                        (first | rw [c1369b0] | (simp only [i64_w, i32_w]; rw [c1369b0]) | skip)
                        have H' := Aside0.mk H
                        clear H
                        as_aux_lemma =>
                          go_wp2
                          go_meet
                          case rel => exact ⟨_, (decide (t400 < t401)), (by first | rfl | (simp; done) | (simp [*]; done)), H', ⟨by have := HJ15.out; have := HJ1130.out; first | omega | exact Nat.le_refl _⟩, ⟨UL404⟩, ⟨UL408⟩, ⟨UL416⟩, ⟨UL424⟩, ⟨UL432⟩, ⟨UL440⟩, ⟨HL⟩⟩
                      · rw [if_neg c1369] at H
                        have c1369b0 : decide (0 < t400) = false := decide_eq_false c1369
                        clear c1369
                        (first | rw [c1369b0] | (simp only [i64_w, i32_w]; rw [c1369b0]) | skip)
                        have H' := Aside0.mk H
                        clear H
                        as_aux_lemma =>
                          go_wp2
                          go_meet
                          case rel => exact ⟨_, (false), (by first | rfl | (simp; done) | (simp [*]; done)), H', ⟨by have := HJ15.out; have := HJ1130.out; first | omega | exact Nat.le_refl _⟩, ⟨UL404⟩, ⟨UL408⟩, ⟨UL416⟩, ⟨UL424⟩, ⟨UL432⟩, ⟨UL440⟩, ⟨HL⟩⟩
                    case rest => as_aux_lemma =>
                      clear HC1368
                      obtain ⟨kq, x284_1367, rfl, HA, HJ1367, BK404, BK408, BK416, BK424, BK432, BK440, HB⟩ := hcut
                      cases kq with
                      | zero => exact absurd HA.out (by simp [laws_FnRuinAddsUp.j2])
                      | succ kj1367 =>
                        have H := HA.out
                        clear HA
                        simp only [laws_FnRuinAddsUp.j2] at H
                        by_cases c1370 : x284_1367 = true
                        · subst c1370
                          rw [if_pos rfl] at H
                          replace H := Option.bind_eq_some_iff.mp H
                          obtain ⟨⟨t447, t448, t449⟩, A13710, H⟩ := H
                          try dsimp only at H
                          have A1371 := Aside0.mk A13710
                          clear A13710
                          replace H := Option.bind_eq_some_iff.mp H
                          obtain ⟨⟨t451, t452, t453⟩, A13720, H⟩ := H
                          try dsimp only at H
                          have A1372 := Aside0.mk A13720
                          clear A13720
                          replace H := Option.bind_eq_some_iff.mp H
                          obtain ⟨⟨t455, t456, t457⟩, A13730, H⟩ := H
                          try dsimp only at H
                          have A1373 := Aside0.mk A13730
                          clear A13730
                          have HC1374 := Aside0.mk H
                          clear H
                          have hcz1385_0 : wc.cell? ⟨gb404, 0, none⟩ = some (.int .i64 t402) := (blk_cell BK404.out 0).trans rfl
                          have hcz1385_1 : wc.cell? ⟨gb404, 1, none⟩ = some (.int .i64 t403) := (blk_cell BK404.out 1).trans rfl
                          have hfz1385_0 := blk_frozen BK404.out 0
                          have hfz1385_1 := blk_frozen BK404.out 1
                          go_upto_region 23 with (first | ((with_reducible refine gate_callee (f := 9) rfl ?_); refine goesL_ (some 290) rfl rfl Try.func9 (by kernel_rfl) rfl #[.int .i64 (wrap64 (t400 + 1)), .int .i64 t401, .agg #[.int .i64 t402, .int .i64 t403]] rfl (by (try simp only [List.map_toArray, List.map_cons, List.map_nil]); first | done | rfl | (simp only [List.length_drop, List.length_take]; rfl)) ?_; (with_reducible refine (impl_WinChance.calls kj1367 (wrap64 (t400 + 1)) t401 t402 t403 t447 t448 t449 _ A1371.out).mono ?_); rintro e w1386 ⟨rfl, hb⟩; refine ⟨_, rfl, ?_⟩; replace BK404 := bL BK404 UL404 hb; replace BK408 := bL BK408 UL408 hb; replace BK416 := bL BK416 UL416 hb; replace BK424 := bL BK424 UL424 hb; replace BK432 := bL BK432 UL432 hb; replace BK440 := bL BK440 UL440 hb; replace HB := tL HL hb; (try clear hb); (try clear hb2); (try clear hk); (try clear hi)) | ((with_reducible refine gate_dst (N := 28) rfl ?_); refine box_event ?hg (N := 28) ?hd (cs := #[.int .i64 0, .int .i64 0]) (t := 25) ?hr ?_; (case hd => rfl); (case hg => rfl); (case hr => first | (go_simp; done) | (go_simp; rfl)); intro gb450 hg w1387 hbox hb; have GE450 := sL HL hg; have NB404_450 := nL BK404 UL404 hg; have NB450_404 := mL BK404 UL404 hg; have NB408_450 := nL BK408 UL408 hg; have NB450_408 := mL BK408 UL408 hg; have NB416_450 := nL BK416 UL416 hg; have NB450_416 := mL BK416 UL416 hg; have NB424_450 := nL BK424 UL424 hg; have NB450_424 := mL BK424 UL424 hg; have NB432_450 := nL BK432 UL432 hg; have NB450_432 := mL BK432 UL432 hg; have NB440_450 := nL BK440 UL440 hg; have NB450_440 := mL BK440 UL440 hg; replace BK404 := bL BK404 UL404 hb; replace BK408 := bL BK408 UL408 hb; replace BK416 := bL BK416 UL416 hb; replace BK424 := bL BK424 UL424 hb; replace BK432 := bL BK432 UL432 hb; replace BK440 := bL BK440 UL440 hb; replace HB := tL HL hb; have BK450 := Aside0.mk (hbox); clear hb hbox hg; have hnb1388 := NB450_404.out; have hnc1388 := NB404_450.out; have hcz1399_0 : w1387.cell? ⟨gb450, 0, none⟩ = some (.int .i64 0) := (blk_cell BK450.out 0).trans rfl; have hcz1399_1 : w1387.cell? ⟨gb450, 1, none⟩ = some (.int .i64 0) := (blk_cell BK450.out 1).trans rfl; have hfz1399_0 := blk_frozen BK450.out 0; have hfz1399_1 := blk_frozen BK450.out 1; have hcz1400_0 : w1387.cell? ⟨gb404, 0, none⟩ = some (.int .i64 t402) := (blk_cell BK404.out 0).trans rfl; have hcz1400_1 : w1387.cell? ⟨gb404, 1, none⟩ = some (.int .i64 t403) := (blk_cell BK404.out 1).trans rfl; have hfz1400_0 := blk_frozen BK404.out 0; have hfz1400_1 := blk_frozen BK404.out 1) | ((with_reducible refine gate_callee (f := 9) rfl ?_); refine goesL_ (some 298) rfl rfl Try.func9 (by kernel_rfl) rfl #[.int .i64 (wrap64 (t400 - 1)), .int .i64 t401, .agg #[.int .i64 t402, .int .i64 t403]] rfl (by (try simp only [List.map_toArray, List.map_cons, List.map_nil]); first | done | rfl | (simp only [List.length_drop, List.length_take]; rfl)) ?_; (with_reducible refine (impl_WinChance.calls kj1367 (wrap64 (t400 - 1)) t401 t402 t403 t451 t452 t453 _ A1372.out).mono ?_); rintro e w1401 ⟨rfl, hb⟩; refine ⟨_, rfl, ?_⟩; replace BK404 := bL BK404 UL404 hb; replace BK408 := bL BK408 UL408 hb; replace BK416 := bL BK416 UL416 hb; replace BK424 := bL BK424 UL424 hb; replace BK432 := bL BK432 UL432 hb; replace BK440 := bL BK440 UL440 hb; replace BK450 := Aside0.mk (blk_below (g := gb450) (o := .cells #[.int .i64 t447, .int .i64 t448] 25 (0, 0)) (by (with_reducible repeat (first | refine blk_drewN ?_ _ | refine blk_drew ?_ | refine blk_alloc ?_ _)); refine blk_put (cs := #[.int .i64 t447, .int .i64 0]) ?_ 1 _ rfl; (with_reducible repeat (first | refine blk_drewN ?_ _ | refine blk_drew ?_ | refine blk_alloc ?_ _)); refine blk_put (cs := #[.int .i64 0, .int .i64 0]) ?_ 0 _ rfl; (with_reducible repeat (first | refine blk_drewN ?_ _ | refine blk_drew ?_ | refine blk_alloc ?_ _)); exact BK450.out) hb); replace HB := tL HL hb; (try clear hb); (try clear hb2); (try clear hk); (try clear hi)) | ((with_reducible refine gate_dst (N := 30) rfl ?_); refine box_event ?hg (N := 30) ?hd (cs := #[.int .i64 0, .int .i64 0]) (t := 25) ?hr ?_; (case hd => rfl); (case hg => rfl); (case hr => first | (go_simp; done) | (go_simp; rfl)); intro gb454 hg w1402 hbox hb; have GE454 := sL HL hg; have NB404_454 := nL BK404 UL404 hg; have NB454_404 := mL BK404 UL404 hg; have NB408_454 := nL BK408 UL408 hg; have NB454_408 := mL BK408 UL408 hg; have NB416_454 := nL BK416 UL416 hg; have NB454_416 := mL BK416 UL416 hg; have NB424_454 := nL BK424 UL424 hg; have NB454_424 := mL BK424 UL424 hg; have NB432_454 := nL BK432 UL432 hg; have NB454_432 := mL BK432 UL432 hg; have NB440_454 := nL BK440 UL440 hg; have NB454_440 := mL BK440 UL440 hg; have NB450_454 := nL BK450 UL450 hg; have NB454_450 := mL BK450 UL450 hg; replace BK404 := bL BK404 UL404 hb; replace BK408 := bL BK408 UL408 hb; replace BK416 := bL BK416 UL416 hb; replace BK424 := bL BK424 UL424 hb; replace BK432 := bL BK432 UL432 hb; replace BK440 := bL BK440 UL440 hb; replace BK450 := bL BK450 UL450 hb; replace HB := tL HL hb; have BK454 := Aside0.mk (hbox); clear hb hbox hg; have hnb1403 := NB454_404.out; have hnc1403 := NB404_454.out; have hcz1415_0 : w1402.cell? ⟨gb454, 0, none⟩ = some (.int .i64 0) := (blk_cell BK454.out 0).trans rfl; have hcz1415_1 : w1402.cell? ⟨gb454, 1, none⟩ = some (.int .i64 0) := (blk_cell BK454.out 1).trans rfl; have hfz1415_0 := blk_frozen BK454.out 0; have hfz1415_1 := blk_frozen BK454.out 1; have hcz1416_0 : w1402.cell? ⟨gb404, 0, none⟩ = some (.int .i64 t402) := (blk_cell BK404.out 0).trans rfl; have hcz1416_1 : w1402.cell? ⟨gb404, 1, none⟩ = some (.int .i64 t403) := (blk_cell BK404.out 1).trans rfl; have hfz1416_0 := blk_frozen BK404.out 0; have hfz1416_1 := blk_frozen BK404.out 1) | ((with_reducible refine gate_callee (f := 9) rfl ?_); refine goesL_ (some 304) rfl rfl Try.func9 (by kernel_rfl) rfl #[.int .i64 1, .int .i64 t401, .agg #[.int .i64 t402, .int .i64 t403]] rfl (by (try simp only [List.map_toArray, List.map_cons, List.map_nil]); first | done | rfl | (simp only [List.length_drop, List.length_take]; rfl)) ?_; (with_reducible refine (impl_WinChance.calls kj1367 1 t401 t402 t403 t455 t456 t457 _ A1373.out).mono ?_); rintro e w1417 ⟨rfl, hb⟩; refine ⟨_, rfl, ?_⟩; replace BK404 := bL BK404 UL404 hb; replace BK408 := bL BK408 UL408 hb; replace BK416 := bL BK416 UL416 hb; replace BK424 := bL BK424 UL424 hb; replace BK432 := bL BK432 UL432 hb; replace BK440 := bL BK440 UL440 hb; replace BK450 := bL BK450 UL450 hb; replace BK454 := Aside0.mk (blk_below (g := gb454) (o := .cells #[.int .i64 t451, .int .i64 t452] 25 (0, 0)) (by (with_reducible repeat (first | refine blk_drewN ?_ _ | refine blk_drew ?_ | refine blk_alloc ?_ _)); refine blk_put (cs := #[.int .i64 t451, .int .i64 0]) ?_ 1 _ rfl; (with_reducible repeat (first | refine blk_drewN ?_ _ | refine blk_drew ?_ | refine blk_alloc ?_ _)); refine blk_put (cs := #[.int .i64 0, .int .i64 0]) ?_ 0 _ rfl; (with_reducible repeat (first | refine blk_drewN ?_ _ | refine blk_drew ?_ | refine blk_alloc ?_ _)); exact BK454.out) hb); replace HB := tL HL hb; (try clear hb); (try clear hb2); (try clear hk); (try clear hi)) | ((with_reducible refine gate_dst (N := 32) rfl ?_); refine box_event ?hg (N := 32) ?hd (cs := #[.int .i64 0, .int .i64 0]) (t := 25) ?hr ?_; (case hd => rfl); (case hg => rfl); (case hr => first | (go_simp; done) | (go_simp; rfl)); intro gb458 hg w1418 hbox hb; have GE458 := sL HL hg; have NB404_458 := nL BK404 UL404 hg; have NB458_404 := mL BK404 UL404 hg; have NB408_458 := nL BK408 UL408 hg; have NB458_408 := mL BK408 UL408 hg; have NB416_458 := nL BK416 UL416 hg; have NB458_416 := mL BK416 UL416 hg; have NB424_458 := nL BK424 UL424 hg; have NB458_424 := mL BK424 UL424 hg; have NB432_458 := nL BK432 UL432 hg; have NB458_432 := mL BK432 UL432 hg; have NB440_458 := nL BK440 UL440 hg; have NB458_440 := mL BK440 UL440 hg; have NB450_458 := nL BK450 UL450 hg; have NB458_450 := mL BK450 UL450 hg; have NB454_458 := nL BK454 UL454 hg; have NB458_454 := mL BK454 UL454 hg; replace BK404 := bL BK404 UL404 hb; replace BK408 := bL BK408 UL408 hb; replace BK416 := bL BK416 UL416 hb; replace BK424 := bL BK424 UL424 hb; replace BK432 := bL BK432 UL432 hb; replace BK440 := bL BK440 UL440 hb; replace BK450 := bL BK450 UL450 hb; replace BK454 := bL BK454 UL454 hb; replace HB := tL HL hb; have BK458 := Aside0.mk (hbox); clear hb hbox hg; have hcz1432_0 : w1418.cell? ⟨gb458, 0, none⟩ = some (.int .i64 0) := (blk_cell BK458.out 0).trans rfl; have hcz1432_1 : w1418.cell? ⟨gb458, 1, none⟩ = some (.int .i64 0) := (blk_cell BK458.out 1).trans rfl; have hfz1432_0 := blk_frozen BK458.out 0; have hfz1432_1 := blk_frozen BK458.out 1))
                          (try simp only [Act.put, List.setIfInBounds_toArray, ↓set64_, ↓set8_, List.set_cons_zero, List.set_cons_succ])
                          go_cut [347] from 1 to 0 (fun v347 wc => ∃ (kq : Nat) (x347_1373 : Bool), v347 = .bool x347_1373 ∧ Aside0 (laws_FnRuinAddsUp.j3 kq l1 t400 t401 x347_1373 t402 t403 t405 t406 t413 t414 t421 t422 t437 t438 t447 t448 t451 t452 = some r) ∧ Aside0 (kq ≤ kj1367) ∧ Aside0 (wc.heap[gb404]? = some (.cells #[.int .i64 t402, .int .i64 t403] 25 (0, 0))) ∧ Aside0 (wc.heap[gb408]? = some (.cells #[.int .i64 t405, .int .i64 t406] 25 (0, 0))) ∧ Aside0 (wc.heap[gb416]? = some (.cells #[.int .i64 t413, .int .i64 t414] 25 (0, 0))) ∧ Aside0 (wc.heap[gb424]? = some (.cells #[.int .i64 t421, .int .i64 t422] 25 (0, 0))) ∧ Aside0 (wc.heap[gb432]? = some (.cells #[.int .i64 t429, .int .i64 t430] 25 (0, 0))) ∧ Aside0 (wc.heap[gb440]? = some (.cells #[.int .i64 t437, .int .i64 t438] 25 (0, 0))) ∧ Aside0 (wc.heap[gb450]? = some (.cells #[.int .i64 t447, .int .i64 t448] 25 (0, 0))) ∧ Aside0 (wc.heap[gb454]? = some (.cells #[.int .i64 t451, .int .i64 t452] 25 (0, 0))) ∧ Aside0 (wc.heap[gb458]? = some (.cells #[.int .i64 t455, .int .i64 t456] 25 (0, 0))) ∧ Aside0 (Below w.heap.size w wc))
                          case first => as_aux_lemma =>
                            have H := HC1374.out
                            clear HC1374
                            by_cases c1433 : t449 = true
                            · subst c1433
                              rw [if_pos rfl] at H
                              by_cases c1434 : t453 = true
                              · subst c1434
                                rw [if_pos rfl] at H
                                by_cases c1435 : t457 = true
                                · subst c1435
                                  rw [if_pos rfl] at H
                                  by_cases c1436 : t455 < 1
                                  · rw [if_pos c1436] at H
                                    have c1436b0 : decide (t455 < 1) = true := decide_eq_true c1436
                                    clear c1436
                                    (first | rw [c1436b0] | (simp only [i64_w, i32_w]; rw [c1436b0]) | skip)
                                    exact absurd H (by generalize kj1367 = q_; cases q_ <;> simp [laws_FnRuinAddsUp.j3])
                                  · rw [if_neg c1436] at H
                                    have c1436b0 : decide (t455 < 1) = false := decide_eq_false c1436
                                    clear c1436
                                    (first | rw [c1436b0] | (simp only [i64_w, i32_w]; rw [c1436b0]) | skip)
                                    by_cases c1451 : (wrap64 (t447 * t406)) ≤ (wrap64 (t405 * t448))
                                    · rw [if_pos c1451] at H
                                      have c1451b0 : decide ((wrap64 (t447 * t406)) ≤ (wrap64 (t405 * t448))) = true := decide_eq_true c1451
                                      clear c1451
                                      exact absurd H (by generalize kj1367 = q_; cases q_ <;> simp [laws_FnRuinAddsUp.j3])
                                    · rw [if_neg c1451] at H
                                      have c1451b0 : decide ((wrap64 (t447 * t406)) ≤ (wrap64 (t405 * t448))) = false := decide_eq_false c1451
                                      clear c1451
                                      have H' := Aside0.mk H
                                      clear H
                                      have hnb1492 := NB458_408.out
                                      have hnc1492 := NB408_458.out
                                      have hnb1502 := NB458_450.out
                                      have hnc1502 := NB450_458.out
                                      have hnb1503 := NB458_454.out
                                      have hnc1503 := NB454_458.out
                                      have hcz1504_0 : w1418.cell? ⟨gb458, 0, none⟩ = some (.int .i64 0) := (blk_cell BK458.out 0).trans rfl
                                      have hcz1504_1 : w1418.cell? ⟨gb458, 1, none⟩ = some (.int .i64 0) := (blk_cell BK458.out 1).trans rfl
                                      have hfz1504_0 := blk_frozen BK458.out 0
                                      have hfz1504_1 := blk_frozen BK458.out 1
                                      have hnb1506 := NB450_408.out
                                      have hnc1506 := NB408_450.out
                                      have hnb1516 := NB450_454.out
                                      have hnc1516 := NB454_450.out
                                      have hcz1517_0 : w1418.cell? ⟨gb450, 0, none⟩ = some (.int .i64 t447) := (blk_cell BK450.out 0).trans rfl
                                      have hcz1517_1 : w1418.cell? ⟨gb450, 1, none⟩ = some (.int .i64 t448) := (blk_cell BK450.out 1).trans rfl
                                      have hfz1517_0 := blk_frozen BK450.out 0
                                      have hfz1517_1 := blk_frozen BK450.out 1
                                      have hnb1528 := NB408_454.out
                                      have hnc1528 := NB454_408.out
                                      have hcz1529_0 : w1418.cell? ⟨gb408, 0, none⟩ = some (.int .i64 t405) := (blk_cell BK408.out 0).trans rfl
                                      have hcz1529_1 : w1418.cell? ⟨gb408, 1, none⟩ = some (.int .i64 t406) := (blk_cell BK408.out 1).trans rfl
                                      have hfz1529_0 := blk_frozen BK408.out 0
                                      have hfz1529_1 := blk_frozen BK408.out 1
                                      have hcz1540_0 : w1418.cell? ⟨gb454, 0, none⟩ = some (.int .i64 t451) := (blk_cell BK454.out 0).trans rfl
                                      have hcz1540_1 : w1418.cell? ⟨gb454, 1, none⟩ = some (.int .i64 t452) := (blk_cell BK454.out 1).trans rfl
                                      have hfz1540_0 := blk_frozen BK454.out 0
                                      have hfz1540_1 := blk_frozen BK454.out 1
                                      as_aux_lemma =>
                                        go_wp2
                                        go_meet
                                        case rel => exact ⟨_, (decide ((wrap64 (t405 * t452)) ≤ (wrap64 (t451 * t406)))), (by first | rfl | (simp; done) | (simp [*]; done)), H', ⟨by have := HJ15.out; have := HJ1130.out; have := HJ1367.out; first | omega | exact Nat.le_refl _⟩, ⟨UL404⟩, ⟨UL408⟩, ⟨UL416⟩, ⟨UL424⟩, ⟨UL432⟩, ⟨UL440⟩, ⟨UL450⟩, ⟨UL454⟩, ⟨by (with_reducible repeat (first | refine blk_drewN ?_ _ | refine blk_drew ?_ | refine blk_alloc ?_ _)); refine blk_put (cs := #[.int .i64 t455, .int .i64 0]) ?_ 1 _ rfl; (with_reducible repeat (first | refine blk_drewN ?_ _ | refine blk_drew ?_ | refine blk_alloc ?_ _)); refine blk_put (cs := #[.int .i64 0, .int .i64 0]) ?_ 0 _ rfl; (with_reducible repeat (first | refine blk_drewN ?_ _ | refine blk_drew ?_ | refine blk_alloc ?_ _)); exact BK458.out⟩, ⟨HL⟩⟩
                                · replace c1435 := Bool.eq_false_iff.mpr c1435
                                  subst c1435
                                  rw [if_neg Bool.false_ne_true] at H
                                  exact absurd H (by generalize kj1367 = q_; cases q_ <;> simp [laws_FnRuinAddsUp.j3])
                              · replace c1434 := Bool.eq_false_iff.mpr c1434
                                subst c1434
                                rw [if_neg Bool.false_ne_true] at H
                                exact absurd H (by generalize kj1367 = q_; cases q_ <;> simp [laws_FnRuinAddsUp.j3])
                            · replace c1433 := Bool.eq_false_iff.mpr c1433
                              subst c1433
                              rw [if_neg Bool.false_ne_true] at H
                              exact absurd H (by generalize kj1367 = q_; cases q_ <;> simp [laws_FnRuinAddsUp.j3])
                          case rest => as_aux_lemma =>
                            clear HC1374
                            obtain ⟨kq, x347_1373, rfl, HA, HJ1373, BK404, BK408, BK416, BK424, BK432, BK440, BK450, BK454, BK458, HB⟩ := hcut
                            cases kq with
                            | zero => exact absurd HA.out (by simp [laws_FnRuinAddsUp.j3])
                            | succ kj1373 =>
                              have H := HA.out
                              clear HA
                              simp only [laws_FnRuinAddsUp.j3] at H
                              by_cases c1541 : x347_1373 = true
                              · subst c1541
                                rw [if_pos rfl] at H
                                exact absurd H (by simp)
                              · replace c1541 := Bool.eq_false_iff.mpr c1541
                                subst c1541
                                rw [if_neg Bool.false_ne_true] at H
                                have HC1542 := Aside0.mk H
                                clear H
                                go_upto_region 25 with (fail)
                                go_cut [389] from 1 to 0 (fun v389 wc => ∃ (kq : Nat) (x389_1541 : Bool), v389 = .bool x389_1541 ∧ Aside0 (laws_FnRuinAddsUp.j4 kq l1 t400 t401 x389_1541 t402 t403 t405 t406 t413 t414 t421 t422 t437 t438 = some r) ∧ Aside0 (kq ≤ kj1373) ∧ Aside0 (wc.heap[gb404]? = some (.cells #[.int .i64 t402, .int .i64 t403] 25 (0, 0))) ∧ Aside0 (wc.heap[gb408]? = some (.cells #[.int .i64 t405, .int .i64 t406] 25 (0, 0))) ∧ Aside0 (wc.heap[gb416]? = some (.cells #[.int .i64 t413, .int .i64 t414] 25 (0, 0))) ∧ Aside0 (wc.heap[gb424]? = some (.cells #[.int .i64 t421, .int .i64 t422] 25 (0, 0))) ∧ Aside0 (wc.heap[gb432]? = some (.cells #[.int .i64 t429, .int .i64 t430] 25 (0, 0))) ∧ Aside0 (wc.heap[gb440]? = some (.cells #[.int .i64 t437, .int .i64 t438] 25 (0, 0))) ∧ Aside0 (wc.heap[gb450]? = some (.cells #[.int .i64 t447, .int .i64 t448] 25 (0, 0))) ∧ Aside0 (wc.heap[gb454]? = some (.cells #[.int .i64 t451, .int .i64 t452] 25 (0, 0))) ∧ Aside0 (wc.heap[gb458]? = some (.cells #[.int .i64 t455, .int .i64 t456] 25 (0, 0))) ∧ Aside0 (Below w.heap.size w wc))
                                case first => as_aux_lemma =>
                                  have H := HC1542.out
                                  clear HC1542
                                  by_cases c1543 : t401 ≤ 6
                                  · rw [if_pos c1543] at H
                                    have c1543b0 : decide (t401 ≤ 6) = true := decide_eq_true c1543
                                    clear c1543
                                    (first | rw [c1543b0] | (simp only [i64_w, i32_w]; rw [c1543b0]) | skip)
                                    have H' := Aside0.mk H
                                    clear H
                                    have hnb1554 := NB404_450.out
                                    have hnc1554 := NB450_404.out
                                    have hnb1555 := NB404_454.out
                                    have hnc1555 := NB454_404.out
                                    have hcz1557_0 : wc.cell? ⟨gb404, 0, none⟩ = some (.int .i64 t402) := (blk_cell BK404.out 0).trans rfl
                                    have hcz1557_1 : wc.cell? ⟨gb404, 1, none⟩ = some (.int .i64 t403) := (blk_cell BK404.out 1).trans rfl
                                    have hfz1557_0 := blk_frozen BK404.out 0
                                    have hfz1557_1 := blk_frozen BK404.out 1
                                    have hnb1567 := NB408_450.out
                                    have hnc1567 := NB450_408.out
                                    have hnb1568 := NB408_454.out
                                    have hnc1568 := NB454_408.out
                                    have hcz1570_0 : wc.cell? ⟨gb408, 0, none⟩ = some (.int .i64 t405) := (blk_cell BK408.out 0).trans rfl
                                    have hcz1570_1 : wc.cell? ⟨gb408, 1, none⟩ = some (.int .i64 t406) := (blk_cell BK408.out 1).trans rfl
                                    have hfz1570_0 := blk_frozen BK408.out 0
                                    have hfz1570_1 := blk_frozen BK408.out 1
                                    have hnb1580 := NB450_454.out
                                    have hnc1580 := NB454_450.out
                                    have hcz1582_0 : wc.cell? ⟨gb450, 0, none⟩ = some (.int .i64 t447) := (blk_cell BK450.out 0).trans rfl
                                    have hcz1582_1 : wc.cell? ⟨gb450, 1, none⟩ = some (.int .i64 t448) := (blk_cell BK450.out 1).trans rfl
                                    have hfz1582_0 := blk_frozen BK450.out 0
                                    have hfz1582_1 := blk_frozen BK450.out 1
                                    have hcz1593_0 : wc.cell? ⟨gb454, 0, none⟩ = some (.int .i64 t451) := (blk_cell BK454.out 0).trans rfl
                                    have hcz1593_1 : wc.cell? ⟨gb454, 1, none⟩ = some (.int .i64 t452) := (blk_cell BK454.out 1).trans rfl
                                    have hfz1593_0 := blk_frozen BK454.out 0
                                    have hfz1593_1 := blk_frozen BK454.out 1
                                    as_aux_lemma =>
                                      go_wp2
                                      go_meet
                                      case rel => exact ⟨_, (((wrap64 ((wrap64 ((wrap64 (t403 * t405)) * t448)) * t452)) != (wrap64 ((wrap64 ((wrap64 ((wrap64 (t402 * t447)) * t406)) * t452)) + (wrap64 ((wrap64 ((wrap64 ((wrap64 (t403 - t402)) * t451)) * t406)) * t448)))))), (by first | rfl | (simp; done) | (simp [*]; done)), H', ⟨by have := HJ15.out; have := HJ1130.out; have := HJ1367.out; have := HJ1373.out; first | omega | exact Nat.le_refl _⟩, ⟨UL404⟩, ⟨UL408⟩, ⟨UL416⟩, ⟨UL424⟩, ⟨UL432⟩, ⟨UL440⟩, ⟨UL450⟩, ⟨UL454⟩, ⟨UL458⟩, ⟨HL⟩⟩
                                  · rw [if_neg c1543] at H
                                    have c1543b0 : decide (t401 ≤ 6) = false := decide_eq_false c1543
                                    clear c1543
                                    (first | rw [c1543b0] | (simp only [i64_w, i32_w]; rw [c1543b0]) | skip)
                                    have H' := Aside0.mk H
                                    clear H
                                    as_aux_lemma =>
                                      go_wp2
                                      go_meet
                                      case rel => exact ⟨_, (false), (by first | rfl | (simp; done) | (simp [*]; done)), H', ⟨by have := HJ15.out; have := HJ1130.out; have := HJ1367.out; have := HJ1373.out; first | omega | exact Nat.le_refl _⟩, ⟨UL404⟩, ⟨UL408⟩, ⟨UL416⟩, ⟨UL424⟩, ⟨UL432⟩, ⟨UL440⟩, ⟨UL450⟩, ⟨UL454⟩, ⟨UL458⟩, ⟨HL⟩⟩
                                case rest => as_aux_lemma =>
                                  clear HC1542
                                  obtain ⟨kq, x389_1541, rfl, HA, HJ1541, BK404, BK408, BK416, BK424, BK432, BK440, BK450, BK454, BK458, HB⟩ := hcut
                                  cases kq with
                                  | zero => exact absurd HA.out (by simp [laws_FnRuinAddsUp.j4])
                                  | succ kj1541 =>
                                    have H := HA.out
                                    clear HA
                                    simp only [laws_FnRuinAddsUp.j4] at H
                                    by_cases c1594 : x389_1541 = true
                                    · subst c1594
                                      rw [if_pos rfl] at H
                                      exact absurd H (by simp)
                                    · replace c1594 := Bool.eq_false_iff.mpr c1594
                                      subst c1594
                                      rw [if_neg Bool.false_ne_true] at H
                                      have HC1595 := Aside0.mk H
                                      clear H
                                      go_upto_region 27 with (fail)
                                      go_cut [424] from 1 to 0 (fun v424 wc => ∃ (kq : Nat) (x424_1594 : Bool), v424 = .bool x424_1594 ∧ Aside0 (laws_FnRuinAddsUp.j5 kq l1 t400 t401 x424_1594 t402 t403 t405 t406 t413 t414 t421 t422 = some r) ∧ Aside0 (kq ≤ kj1541) ∧ Aside0 (wc.heap[gb404]? = some (.cells #[.int .i64 t402, .int .i64 t403] 25 (0, 0))) ∧ Aside0 (wc.heap[gb408]? = some (.cells #[.int .i64 t405, .int .i64 t406] 25 (0, 0))) ∧ Aside0 (wc.heap[gb416]? = some (.cells #[.int .i64 t413, .int .i64 t414] 25 (0, 0))) ∧ Aside0 (wc.heap[gb424]? = some (.cells #[.int .i64 t421, .int .i64 t422] 25 (0, 0))) ∧ Aside0 (wc.heap[gb432]? = some (.cells #[.int .i64 t429, .int .i64 t430] 25 (0, 0))) ∧ Aside0 (wc.heap[gb440]? = some (.cells #[.int .i64 t437, .int .i64 t438] 25 (0, 0))) ∧ Aside0 (wc.heap[gb450]? = some (.cells #[.int .i64 t447, .int .i64 t448] 25 (0, 0))) ∧ Aside0 (wc.heap[gb454]? = some (.cells #[.int .i64 t451, .int .i64 t452] 25 (0, 0))) ∧ Aside0 (wc.heap[gb458]? = some (.cells #[.int .i64 t455, .int .i64 t456] 25 (0, 0))) ∧ Aside0 (Below w.heap.size w wc))
                                      case first => as_aux_lemma =>
                                        have H := HC1595.out
                                        clear HC1595
                                        by_cases c1596 : t437 < 1
                                        · rw [if_pos c1596] at H
                                          have c1596b0 : decide (t437 < 1) = true := decide_eq_true c1596
                                          clear c1596
                                          (first | rw [c1596b0] | (simp only [i64_w, i32_w]; rw [c1596b0]) | skip)
                                          exact absurd H (by generalize kj1541 = q_; cases q_ <;> simp [laws_FnRuinAddsUp.j5])
                                        · rw [if_neg c1596] at H
                                          have c1596b0 : decide (t437 < 1) = false := decide_eq_false c1596
                                          clear c1596
                                          (first | rw [c1596b0] | (simp only [i64_w, i32_w]; rw [c1596b0]) | skip)
                                          by_cases c1611 : t437 > t438
                                          · rw [if_pos c1611] at H
                                            have c1611b0 : decide (t438 < t437) = true := decide_eq_true c1611
                                            clear c1611
                                            exact absurd H (by generalize kj1541 = q_; cases q_ <;> simp [laws_FnRuinAddsUp.j5])
                                          · rw [if_neg c1611] at H
                                            have c1611b0 : decide (t438 < t437) = false := decide_eq_false c1611
                                            clear c1611
                                            by_cases c1626 : (wrap64 (t400 + 1)) = t401
                                            · rw [if_pos c1626] at H
                                              have c1626b0 : ((wrap64 (t400 + 1)) == t401) = true := beq_iff_eq.mpr c1626
                                              have c1626b1 : ((wrap64 (t400 + 1)) != t401) = false := bne_eq_false_iff_eq.mpr c1626
                                              clear c1626
                                              have H' := Aside0.mk H
                                              clear H
                                              have hcz1640_0 : wc.cell? ⟨gb440, 0, none⟩ = some (.int .i64 t437) := (blk_cell BK440.out 0).trans rfl
                                              have hcz1640_1 : wc.cell? ⟨gb440, 1, none⟩ = some (.int .i64 t438) := (blk_cell BK440.out 1).trans rfl
                                              have hfz1640_0 := blk_frozen BK440.out 0
                                              have hfz1640_1 := blk_frozen BK440.out 1
                                              have hcz1653_0 : wc.cell? ⟨gb408, 0, none⟩ = some (.int .i64 t405) := (blk_cell BK408.out 0).trans rfl
                                              have hcz1653_1 : wc.cell? ⟨gb408, 1, none⟩ = some (.int .i64 t406) := (blk_cell BK408.out 1).trans rfl
                                              have hfz1653_0 := blk_frozen BK408.out 0
                                              have hfz1653_1 := blk_frozen BK408.out 1
                                              have hcz1665_0 : wc.cell? ⟨gb404, 0, none⟩ = some (.int .i64 t402) := (blk_cell BK404.out 0).trans rfl
                                              have hcz1665_1 : wc.cell? ⟨gb404, 1, none⟩ = some (.int .i64 t403) := (blk_cell BK404.out 1).trans rfl
                                              have hfz1665_0 := blk_frozen BK404.out 0
                                              have hfz1665_1 := blk_frozen BK404.out 1
                                              as_aux_lemma =>
                                                go_wp2
                                                go_meet
                                                case rel => exact ⟨_, (((wrap64 ((wrap64 (t437 * t405)) * t403)) != (wrap64 ((wrap64 (t438 * t402)) * t406)))), (by first | rfl | (simp; done) | (simp [*]; done)), H', ⟨by have := HJ15.out; have := HJ1130.out; have := HJ1367.out; have := HJ1373.out; have := HJ1541.out; first | omega | exact Nat.le_refl _⟩, ⟨UL404⟩, ⟨UL408⟩, ⟨UL416⟩, ⟨UL424⟩, ⟨UL432⟩, ⟨UL440⟩, ⟨UL450⟩, ⟨UL454⟩, ⟨UL458⟩, ⟨HL⟩⟩
                                            · rw [if_neg c1626] at H
                                              have c1626b0 : ((wrap64 (t400 + 1)) == t401) = false := beq_eq_false_iff_ne.mpr c1626
                                              have c1626b1 : ((wrap64 (t400 + 1)) != t401) = true := bne_iff_ne.mpr c1626
                                              have H' := Aside0.mk H
                                              clear H
                                              have hcz1679_0 : wc.cell? ⟨gb440, 0, none⟩ = some (.int .i64 t437) := (blk_cell BK440.out 0).trans rfl
                                              have hcz1679_1 : wc.cell? ⟨gb440, 1, none⟩ = some (.int .i64 t438) := (blk_cell BK440.out 1).trans rfl
                                              have hfz1679_0 := blk_frozen BK440.out 0
                                              have hfz1679_1 := blk_frozen BK440.out 1
                                              as_aux_lemma =>
                                                go_wp2
                                                go_meet
                                                case rel => exact ⟨_, (false), (by first | rfl | (simp; done) | (simp [*]; done)), H', ⟨by have := HJ15.out; have := HJ1130.out; have := HJ1367.out; have := HJ1373.out; have := HJ1541.out; first | omega | exact Nat.le_refl _⟩, ⟨UL404⟩, ⟨UL408⟩, ⟨UL416⟩, ⟨UL424⟩, ⟨UL432⟩, ⟨UL440⟩, ⟨UL450⟩, ⟨UL454⟩, ⟨UL458⟩, ⟨HL⟩⟩
                                      case rest => as_aux_lemma =>
                                        clear HC1595
                                        obtain ⟨kq, x424_1594, rfl, HA, HJ1594, BK404, BK408, BK416, BK424, BK432, BK440, BK450, BK454, BK458, HB⟩ := hcut
                                        cases kq with
                                        | zero => exact absurd HA.out (by simp [laws_FnRuinAddsUp.j5])
                                        | succ kj1594 =>
                                          have H := HA.out
                                          clear HA
                                          simp only [laws_FnRuinAddsUp.j5] at H
                                          by_cases c1680 : x424_1594 = true
                                          · subst c1680
                                            rw [if_pos rfl] at H
                                            exact absurd H (by simp)
                                          · replace c1680 := Bool.eq_false_iff.mpr c1680
                                            subst c1680
                                            rw [if_neg Bool.false_ne_true] at H
                                            have HC1681 := Aside0.mk H
                                            clear H
                                            go_upto_region 29 with (fail)
                                            go_cut [451] from 1 to 0 (fun v451 wc => ∃ (kq : Nat) (x451_1680 : Bool), v451 = .bool x451_1680 ∧ Aside0 (laws_FnRuinAddsUp.j6 kq l1 t400 t401 x451_1680 t402 t403 t413 t414 = some r) ∧ Aside0 (kq ≤ kj1594) ∧ Aside0 (wc.heap[gb404]? = some (.cells #[.int .i64 t402, .int .i64 t403] 25 (0, 0))) ∧ Aside0 (wc.heap[gb408]? = some (.cells #[.int .i64 t405, .int .i64 t406] 25 (0, 0))) ∧ Aside0 (wc.heap[gb416]? = some (.cells #[.int .i64 t413, .int .i64 t414] 25 (0, 0))) ∧ Aside0 (wc.heap[gb424]? = some (.cells #[.int .i64 t421, .int .i64 t422] 25 (0, 0))) ∧ Aside0 (wc.heap[gb432]? = some (.cells #[.int .i64 t429, .int .i64 t430] 25 (0, 0))) ∧ Aside0 (wc.heap[gb440]? = some (.cells #[.int .i64 t437, .int .i64 t438] 25 (0, 0))) ∧ Aside0 (wc.heap[gb450]? = some (.cells #[.int .i64 t447, .int .i64 t448] 25 (0, 0))) ∧ Aside0 (wc.heap[gb454]? = some (.cells #[.int .i64 t451, .int .i64 t452] 25 (0, 0))) ∧ Aside0 (wc.heap[gb458]? = some (.cells #[.int .i64 t455, .int .i64 t456] 25 (0, 0))) ∧ Aside0 (Below w.heap.size w wc))
                                            case first => as_aux_lemma =>
                                              have H := HC1681.out
                                              clear HC1681
                                              by_cases c1682 : (wrap64 (2 * t402)) = t403
                                              · rw [if_pos c1682] at H
                                                have c1682b0 : ((wrap64 (2 * t402)) == t403) = true := beq_iff_eq.mpr c1682
                                                have c1682b1 : ((wrap64 (2 * t402)) != t403) = false := bne_eq_false_iff_eq.mpr c1682
                                                clear c1682
                                                (first | rw [c1682b0] | (simp only [i64_w, i32_w]; rw [c1682b0]) | skip)
                                                by_cases c1683 : (wrap64 (t405 * t401)) = (wrap64 (t400 * t406))
                                                · rw [if_pos c1683] at H
                                                  have c1683b0 : ((wrap64 (t405 * t401)) == (wrap64 (t400 * t406))) = true := beq_iff_eq.mpr c1683
                                                  have c1683b1 : ((wrap64 (t405 * t401)) != (wrap64 (t400 * t406))) = false := bne_eq_false_iff_eq.mpr c1683
                                                  clear c1683
                                                  have H' := Aside0.mk H
                                                  clear H
                                                  have hcz1697_0 : wc.cell? ⟨gb404, 0, none⟩ = some (.int .i64 t402) := (blk_cell BK404.out 0).trans rfl
                                                  have hcz1697_1 : wc.cell? ⟨gb404, 1, none⟩ = some (.int .i64 t403) := (blk_cell BK404.out 1).trans rfl
                                                  have hfz1697_0 := blk_frozen BK404.out 0
                                                  have hfz1697_1 := blk_frozen BK404.out 1
                                                  have hcz1710_0 : wc.cell? ⟨gb408, 0, none⟩ = some (.int .i64 t405) := (blk_cell BK408.out 0).trans rfl
                                                  have hcz1710_1 : wc.cell? ⟨gb408, 1, none⟩ = some (.int .i64 t406) := (blk_cell BK408.out 1).trans rfl
                                                  have hfz1710_0 := blk_frozen BK408.out 0
                                                  have hfz1710_1 := blk_frozen BK408.out 1
                                                  have hcz1722_0 : wc.cell? ⟨gb424, 0, none⟩ = some (.int .i64 t421) := (blk_cell BK424.out 0).trans rfl
                                                  have hcz1722_1 : wc.cell? ⟨gb424, 1, none⟩ = some (.int .i64 t422) := (blk_cell BK424.out 1).trans rfl
                                                  have hfz1722_0 := blk_frozen BK424.out 0
                                                  have hfz1722_1 := blk_frozen BK424.out 1
                                                  as_aux_lemma =>
                                                    go_wp2
                                                    go_meet
                                                    case rel => exact ⟨_, ((!(t421 == (wrap64 (t400 * (wrap64 (t401 - t400))))) || (!(t422 == 1)))), (by first | rfl | (simp; done) | (simp [*]; done)), H', ⟨by have := HJ15.out; have := HJ1130.out; have := HJ1367.out; have := HJ1373.out; have := HJ1541.out; have := HJ1594.out; first | omega | exact Nat.le_refl _⟩, ⟨UL404⟩, ⟨UL408⟩, ⟨UL416⟩, ⟨UL424⟩, ⟨UL432⟩, ⟨UL440⟩, ⟨UL450⟩, ⟨UL454⟩, ⟨UL458⟩, ⟨HL⟩⟩
                                                · rw [if_neg c1683] at H
                                                  have c1683b0 : ((wrap64 (t405 * t401)) == (wrap64 (t400 * t406))) = false := beq_eq_false_iff_ne.mpr c1683
                                                  have c1683b1 : ((wrap64 (t405 * t401)) != (wrap64 (t400 * t406))) = true := bne_iff_ne.mpr c1683
                                                  exact absurd H (by generalize kj1594 = q_; cases q_ <;> simp [laws_FnRuinAddsUp.j6])
                                              · rw [if_neg c1682] at H
                                                have c1682b0 : ((wrap64 (2 * t402)) == t403) = false := beq_eq_false_iff_ne.mpr c1682
                                                have c1682b1 : ((wrap64 (2 * t402)) != t403) = true := bne_iff_ne.mpr c1682
                                                (first | rw [c1682b0] | (simp only [i64_w, i32_w]; rw [c1682b0]) | skip)
                                                have H' := Aside0.mk H
                                                clear H
                                                have hcz1763_0 : wc.cell? ⟨gb404, 0, none⟩ = some (.int .i64 t402) := (blk_cell BK404.out 0).trans rfl
                                                have hcz1763_1 : wc.cell? ⟨gb404, 1, none⟩ = some (.int .i64 t403) := (blk_cell BK404.out 1).trans rfl
                                                have hfz1763_0 := blk_frozen BK404.out 0
                                                have hfz1763_1 := blk_frozen BK404.out 1
                                                as_aux_lemma =>
                                                  go_wp2
                                                  go_meet
                                                  case rel => exact ⟨_, (false), (by first | rfl | (simp; done) | (simp [*]; done)), H', ⟨by have := HJ15.out; have := HJ1130.out; have := HJ1367.out; have := HJ1373.out; have := HJ1541.out; have := HJ1594.out; first | omega | exact Nat.le_refl _⟩, ⟨UL404⟩, ⟨UL408⟩, ⟨UL416⟩, ⟨UL424⟩, ⟨UL432⟩, ⟨UL440⟩, ⟨UL450⟩, ⟨UL454⟩, ⟨UL458⟩, ⟨HL⟩⟩
                                            case rest => as_aux_lemma =>
                                              clear HC1681
                                              obtain ⟨kq, x451_1680, rfl, HA, HJ1680, BK404, BK408, BK416, BK424, BK432, BK440, BK450, BK454, BK458, HB⟩ := hcut
                                              cases kq with
                                              | zero => exact absurd HA.out (by simp [laws_FnRuinAddsUp.j6])
                                              | succ kj1680 =>
                                                have H := HA.out
                                                clear HA
                                                simp only [laws_FnRuinAddsUp.j6] at H
                                                by_cases c1764 : x451_1680 = true
                                                · subst c1764
                                                  rw [if_pos rfl] at H
                                                  exact absurd H (by simp)
                                                · replace c1764 := Bool.eq_false_iff.mpr c1764
                                                  subst c1764
                                                  rw [if_neg Bool.false_ne_true] at H
                                                  replace H := Option.bind_eq_some_iff.mp H
                                                  obtain ⟨⟨t459, t460, t461⟩, A17650, H⟩ := H
                                                  replace H : (if t461 = true then (if (!(t459 == t413) || (!(t460 == t414))) = true then (none) else (laws_FnRuinAddsUp.j7 kj1680 l1)) else (none)) = some r := H
                                                  have A1765 := Aside0.mk A17650
                                                  clear A17650
                                                  by_cases c1766 : t461 = true
                                                  · subst c1766
                                                    rw [if_pos rfl] at H
                                                    by_cases c1767 : (!(t459 == t413) || (!(t460 == t414))) = true
                                                    · rw [if_pos c1767] at H
                                                      exact absurd H (by simp)
                                                    · rw [if_neg c1767] at H
                                                      have c1767b0 : (!(t459 == t413) || (!(t460 == t414))) = false := by simpa using c1767
                                                      clear c1767
                                                      have H' := Aside0.mk H
                                                      clear H
                                                      have hcz1781_0 : wc.cell? ⟨gb404, 0, none⟩ = some (.int .i64 t402) := (blk_cell BK404.out 0).trans rfl
                                                      have hcz1781_1 : wc.cell? ⟨gb404, 1, none⟩ = some (.int .i64 t403) := (blk_cell BK404.out 1).trans rfl
                                                      have hfz1781_0 := blk_frozen BK404.out 0
                                                      have hfz1781_1 := blk_frozen BK404.out 1
                                                      as_aux_lemma =>
                                                        go_wp2_with (first | ((with_reducible refine gate_callee (f := 9) rfl ?_); refine goesL_ (some 465) rfl rfl Try.func9 (by kernel_rfl) rfl #[.int .i64 (wrap64 (t401 - t400)), .int .i64 t401, .agg #[.int .i64 (wrap64 (t403 - t402)), .int .i64 t403]] rfl (by (try simp only [List.map_toArray, List.map_cons, List.map_nil]); first | done | rfl | (simp only [List.length_drop, List.length_take]; rfl)) ?_; (with_reducible refine (impl_WinChance.calls kj1680 (wrap64 (t401 - t400)) t401 (wrap64 (t403 - t402)) t403 t459 t460 true _ A1765.out).mono ?_); rintro e w1782 ⟨rfl, hb⟩; refine ⟨_, rfl, ?_⟩; replace BK404 := bL BK404 UL404 hb; replace BK408 := bL BK408 UL408 hb; replace BK416 := bL BK416 UL416 hb; replace BK424 := bL BK424 UL424 hb; replace BK432 := bL BK432 UL432 hb; replace BK440 := bL BK440 UL440 hb; replace BK450 := bL BK450 UL450 hb; replace BK454 := bL BK454 UL454 hb; replace BK458 := bL BK458 UL458 hb; replace HB := tL HL hb; (try clear hb); (try clear hb2); (try clear hk); (try clear hi)) | ((with_reducible refine gate_dst (N := 34) rfl ?_); refine box_event ?hg (N := 34) ?hd (cs := #[.int .i64 0, .int .i64 0]) (t := 25) ?hr ?_; (case hd => rfl); (case hg => rfl); (case hr => first | (go_simp; done) | (go_simp; rfl)); intro gb462 hg w1783 hbox hb; have GE462 := sL HL hg; have NB404_462 := nL BK404 UL404 hg; have NB462_404 := mL BK404 UL404 hg; have NB408_462 := nL BK408 UL408 hg; have NB462_408 := mL BK408 UL408 hg; have NB416_462 := nL BK416 UL416 hg; have NB462_416 := mL BK416 UL416 hg; have NB424_462 := nL BK424 UL424 hg; have NB462_424 := mL BK424 UL424 hg; have NB432_462 := nL BK432 UL432 hg; have NB462_432 := mL BK432 UL432 hg; have NB440_462 := nL BK440 UL440 hg; have NB462_440 := mL BK440 UL440 hg; have NB450_462 := nL BK450 UL450 hg; have NB462_450 := mL BK450 UL450 hg; have NB454_462 := nL BK454 UL454 hg; have NB462_454 := mL BK454 UL454 hg; have NB458_462 := nL BK458 UL458 hg; have NB462_458 := mL BK458 UL458 hg; replace BK404 := bL BK404 UL404 hb; replace BK408 := bL BK408 UL408 hb; replace BK416 := bL BK416 UL416 hb; replace BK424 := bL BK424 UL424 hb; replace BK432 := bL BK432 UL432 hb; replace BK440 := bL BK440 UL440 hb; replace BK450 := bL BK450 UL450 hb; replace BK454 := bL BK454 UL454 hb; replace BK458 := bL BK458 UL458 hb; replace HB := tL HL hb; have BK462 := Aside0.mk (hbox); clear hb hbox hg; have hnb1787 := NB462_416.out; have hnc1787 := NB416_462.out; have hcz1798_0 : w1783.cell? ⟨gb462, 0, none⟩ = some (.int .i64 0) := (blk_cell BK462.out 0).trans rfl; have hcz1798_1 : w1783.cell? ⟨gb462, 1, none⟩ = some (.int .i64 0) := (blk_cell BK462.out 1).trans rfl; have hfz1798_0 := blk_frozen BK462.out 0; have hfz1798_1 := blk_frozen BK462.out 1; have hcz1811_0 : w1783.cell? ⟨gb416, 0, none⟩ = some (.int .i64 t413) := (blk_cell BK416.out 0).trans rfl; have hcz1811_1 : w1783.cell? ⟨gb416, 1, none⟩ = some (.int .i64 t414) := (blk_cell BK416.out 1).trans rfl; have hfz1811_0 := blk_frozen BK416.out 0; have hfz1811_1 := blk_frozen BK416.out 1))
                                                        go_meet
                                                        case rel => exact ⟨_, H', ⟨by have := HJ15.out; have := HJ1130.out; have := HJ1367.out; have := HJ1373.out; have := HJ1541.out; have := HJ1594.out; have := HJ1680.out; first | omega | exact Nat.le_refl _⟩, ⟨HL⟩⟩
                                                  · replace c1766 := Bool.eq_false_iff.mpr c1766
                                                    subst c1766
                                                    rw [if_neg Bool.false_ne_true] at H
                                                    exact absurd H (by simp)
                        · replace c1370 := Bool.eq_false_iff.mpr c1370
                          subst c1370
                          rw [if_neg Bool.false_ne_true] at H
                          replace H := Option.bind_eq_some_iff.mp H
                          obtain ⟨⟨t463, t464, t465⟩, A18120, H⟩ := H
                          replace H : (if t465 = true then (if (!(t463 == t413) || (!(t464 == t414))) = true then (none) else (laws_FnRuinAddsUp.j7 kj1367 l1)) else (none)) = some r := H
                          have A1812 := Aside0.mk A18120
                          clear A18120
                          by_cases c1813 : t465 = true
                          · subst c1813
                            rw [if_pos rfl] at H
                            by_cases c1814 : (!(t463 == t413) || (!(t464 == t414))) = true
                            · rw [if_pos c1814] at H
                              exact absurd H (by simp)
                            · rw [if_neg c1814] at H
                              have c1814b0 : (!(t463 == t413) || (!(t464 == t414))) = false := by simpa using c1814
                              clear c1814
                              have H' := Aside0.mk H
                              clear H
                              have hcz1825_0 : wc.cell? ⟨gb404, 0, none⟩ = some (.int .i64 t402) := (blk_cell BK404.out 0).trans rfl
                              have hcz1825_1 : wc.cell? ⟨gb404, 1, none⟩ = some (.int .i64 t403) := (blk_cell BK404.out 1).trans rfl
                              have hfz1825_0 := blk_frozen BK404.out 0
                              have hfz1825_1 := blk_frozen BK404.out 1
                              as_aux_lemma =>
                                go_wp2_with (first | ((with_reducible refine gate_callee (f := 9) rfl ?_); refine goesL_ (some 465) rfl rfl Try.func9 (by kernel_rfl) rfl #[.int .i64 (wrap64 (t401 - t400)), .int .i64 t401, .agg #[.int .i64 (wrap64 (t403 - t402)), .int .i64 t403]] rfl (by (try simp only [List.map_toArray, List.map_cons, List.map_nil]); first | done | rfl | (simp only [List.length_drop, List.length_take]; rfl)) ?_; (with_reducible refine (impl_WinChance.calls kj1367 (wrap64 (t401 - t400)) t401 (wrap64 (t403 - t402)) t403 t463 t464 true _ A1812.out).mono ?_); rintro e w1826 ⟨rfl, hb⟩; refine ⟨_, rfl, ?_⟩; replace BK404 := bL BK404 UL404 hb; replace BK408 := bL BK408 UL408 hb; replace BK416 := bL BK416 UL416 hb; replace BK424 := bL BK424 UL424 hb; replace BK432 := bL BK432 UL432 hb; replace BK440 := bL BK440 UL440 hb; replace HB := tL HL hb; (try clear hb); (try clear hb2); (try clear hk); (try clear hi)) | ((with_reducible refine gate_dst (N := 34) rfl ?_); refine box_event ?hg (N := 34) ?hd (cs := #[.int .i64 0, .int .i64 0]) (t := 25) ?hr ?_; (case hd => rfl); (case hg => rfl); (case hr => first | (go_simp; done) | (go_simp; rfl)); intro gb466 hg w1827 hbox hb; have GE466 := sL HL hg; have NB404_466 := nL BK404 UL404 hg; have NB466_404 := mL BK404 UL404 hg; have NB408_466 := nL BK408 UL408 hg; have NB466_408 := mL BK408 UL408 hg; have NB416_466 := nL BK416 UL416 hg; have NB466_416 := mL BK416 UL416 hg; have NB424_466 := nL BK424 UL424 hg; have NB466_424 := mL BK424 UL424 hg; have NB432_466 := nL BK432 UL432 hg; have NB466_432 := mL BK432 UL432 hg; have NB440_466 := nL BK440 UL440 hg; have NB466_440 := mL BK440 UL440 hg; replace BK404 := bL BK404 UL404 hb; replace BK408 := bL BK408 UL408 hb; replace BK416 := bL BK416 UL416 hb; replace BK424 := bL BK424 UL424 hb; replace BK432 := bL BK432 UL432 hb; replace BK440 := bL BK440 UL440 hb; replace HB := tL HL hb; have BK466 := Aside0.mk (hbox); clear hb hbox hg; have hnb1831 := NB466_416.out; have hnc1831 := NB416_466.out; have hcz1839_0 : w1827.cell? ⟨gb466, 0, none⟩ = some (.int .i64 0) := (blk_cell BK466.out 0).trans rfl; have hcz1839_1 : w1827.cell? ⟨gb466, 1, none⟩ = some (.int .i64 0) := (blk_cell BK466.out 1).trans rfl; have hfz1839_0 := blk_frozen BK466.out 0; have hfz1839_1 := blk_frozen BK466.out 1; have hcz1849_0 : w1827.cell? ⟨gb416, 0, none⟩ = some (.int .i64 t413) := (blk_cell BK416.out 0).trans rfl; have hcz1849_1 : w1827.cell? ⟨gb416, 1, none⟩ = some (.int .i64 t414) := (blk_cell BK416.out 1).trans rfl; have hfz1849_0 := blk_frozen BK416.out 0; have hfz1849_1 := blk_frozen BK416.out 1))
                                go_meet
                                case rel => exact ⟨_, H', ⟨by have := HJ15.out; have := HJ1130.out; have := HJ1367.out; first | omega | exact Nat.le_refl _⟩, ⟨HL⟩⟩
                          · replace c1813 := Bool.eq_false_iff.mpr c1813
                            subst c1813
                            rw [if_neg Bool.false_ne_true] at H
                            exact absurd H (by simp)
            · replace c1130 := Bool.eq_false_iff.mpr c1130
              subst c1130
              rw [if_neg Bool.false_ne_true] at H
              have H' := Aside0.mk H
              clear H
              as_aux_lemma =>
                go_wp2
                go_meet
                case rel => exact ⟨_, H', ⟨by have := HJ15.out; first | omega | exact Nat.le_refl _⟩, ⟨HL⟩⟩
          case rest => as_aux_lemma =>
            clear HC1129
            obtain ⟨kq, HA, HJ1128, HB⟩ := hcut
            cases kq with
            | zero => exact absurd HA.out (by simp [laws_FnRuinAddsUp.j7])
            | succ kj1128 =>
              have H := HA.out
              clear HA
              simp only [laws_FnRuinAddsUp.j7] at H
              replace H := Option.bind_eq_some_iff.mp H
              obtain ⟨⟨t467, t468, t469⟩, A18500, H⟩ := H
              try dsimp only at H
              have A1850 := Aside0.mk A18500
              clear A18500
              replace H := Option.bind_eq_some_iff.mp H
              obtain ⟨⟨t471, t472, t473⟩, A18510, H⟩ := H
              try dsimp only at H
              have A1851 := Aside0.mk A18510
              clear A18510
              replace H := Option.bind_eq_some_iff.mp H
              obtain ⟨⟨t475, t476, t477⟩, A18520, H⟩ := H
              replace H : (if (t473 != t477) = true then (laws_FnRuinAddsUp.j8 kj1128 l1 t467 t473 true t468 t469 t471 t472) else (laws_FnRuinAddsUp.j8 kj1128 l1 t467 t473 (!(t471 == t475) || (!(t472 == t476))) t468 t469 t471 t472)) = some r := H
              have A1852 := Aside0.mk A18520
              clear A18520
              have HC1853 := Aside0.mk H
              clear H
              go_upto_region 37 with (first | ((with_reducible refine gate_callee (f := 25) rfl ?_); refine goesL_ (some 477) rfl rfl Try.func25 (by kernel_rfl) rfl #[.slice A1 l1.length c1] rfl (by (try simp only [List.map_toArray, List.map_cons, List.map_nil]); first | done | rfl | (simp only [List.length_drop, List.length_take]; rfl)) ?_; (with_reducible refine (spec_DrawEverRuined.calls kj1128 _ _ l1 t467 t468 t469 _ ?side1 ?side2 A1850.out).mono ?_); (case side1 => repeat (first | exact (Kd.C_below HR1.out HB.out) | (with_reducible refine Kd.C_alloc ?_ _) | (with_reducible refine Kd.C_drewN ?_ _) | (with_reducible refine Kd.C_drew ?_))); (case side2 => exact HC1.out); rintro e w1854 ⟨rfl, hb⟩; refine ⟨_, rfl, ?_⟩; replace HB := tL HL hb; (try clear hb); (try clear hb2); (try clear hk); (try clear hi)) | ((with_reducible refine gate_dst (N := 37) rfl ?_); refine box_event ?hg (N := 37) ?hd (cs := #[.int .i64 0, .int .i64 0]) (t := 25) ?hr ?_; (case hd => rfl); (case hg => rfl); (case hr => first | (go_simp; done) | (go_simp; rfl)); intro gb470 hg w1855 hbox hb; have GE470 := sL HL hg; replace HB := tL HL hb; have BK470 := Aside0.mk (hbox); clear hb hbox hg; have hcz1867_0 : w1855.cell? ⟨gb470, 0, none⟩ = some (.int .i64 0) := (blk_cell BK470.out 0).trans rfl; have hcz1867_1 : w1855.cell? ⟨gb470, 1, none⟩ = some (.int .i64 0) := (blk_cell BK470.out 1).trans rfl; have hfz1867_0 := blk_frozen BK470.out 0; have hfz1867_1 := blk_frozen BK470.out 1) | ((with_reducible refine gate_callee (f := 26) rfl ?_); refine goesL_ (some 483) rfl rfl Try.func26 (by kernel_rfl) rfl #[.int .i64 t467, .agg #[.int .i64 t468, .int .i64 t469]] rfl (by (try simp only [List.map_toArray, List.map_cons, List.map_nil]); first | done | rfl | (simp only [List.length_drop, List.length_take]; rfl)) ?_; (with_reducible refine (impl_EverRuined.calls kj1128 t467 t468 t469 t471 t472 t473 _ A1851.out).mono ?_); rintro e w1868 ⟨rfl, hb⟩; refine ⟨_, rfl, ?_⟩; replace BK470 := Aside0.mk (blk_below (g := gb470) (o := .cells #[.int .i64 t468, .int .i64 t469] 25 (0, 0)) (by (with_reducible repeat (first | refine blk_drewN ?_ _ | refine blk_drew ?_ | refine blk_alloc ?_ _)); refine blk_put (cs := #[.int .i64 t468, .int .i64 0]) ?_ 1 _ rfl; (with_reducible repeat (first | refine blk_drewN ?_ _ | refine blk_drew ?_ | refine blk_alloc ?_ _)); refine blk_put (cs := #[.int .i64 0, .int .i64 0]) ?_ 0 _ rfl; (with_reducible repeat (first | refine blk_drewN ?_ _ | refine blk_drew ?_ | refine blk_alloc ?_ _)); exact BK470.out) hb); replace HB := tL HL hb; (try clear hb); (try clear hb2); (try clear hk); (try clear hi)) | ((with_reducible refine gate_dst (N := 38) rfl ?_); refine box_event ?hg (N := 38) ?hd (cs := #[.int .i64 0, .int .i64 0]) (t := 25) ?hr ?_; (case hd => rfl); (case hg => rfl); (case hr => first | (go_simp; done) | (go_simp; rfl)); intro gb474 hg w1869 hbox hb; have GE474 := sL HL hg; have NB470_474 := nL BK470 UL470 hg; have NB474_470 := mL BK470 UL470 hg; replace BK470 := bL BK470 UL470 hb; replace HB := tL HL hb; have BK474 := Aside0.mk (hbox); clear hb hbox hg; have hnb1881 := NB474_470.out; have hnc1881 := NB470_474.out; have hcz1882_0 : w1869.cell? ⟨gb474, 0, none⟩ = some (.int .i64 0) := (blk_cell BK474.out 0).trans rfl; have hcz1882_1 : w1869.cell? ⟨gb474, 1, none⟩ = some (.int .i64 0) := (blk_cell BK474.out 1).trans rfl; have hfz1882_0 := blk_frozen BK474.out 0; have hfz1882_1 := blk_frozen BK474.out 1; have hcz1883_0 : w1869.cell? ⟨gb470, 0, none⟩ = some (.int .i64 t468) := (blk_cell BK470.out 0).trans rfl; have hcz1883_1 : w1869.cell? ⟨gb470, 1, none⟩ = some (.int .i64 t469) := (blk_cell BK470.out 1).trans rfl; have hfz1883_0 := blk_frozen BK470.out 0; have hfz1883_1 := blk_frozen BK470.out 1) | ((with_reducible refine gate_callee (f := 27) rfl ?_); refine goesL_ (some 489) rfl rfl Try.func27 (by kernel_rfl) rfl #[.int .i64 t467, .agg #[.int .i64 t468, .int .i64 t469]] rfl (by (try simp only [List.map_toArray, List.map_cons, List.map_nil]); first | done | rfl | (simp only [List.length_drop, List.length_take]; rfl)) ?_; (with_reducible refine (spec_EverRuined.calls kj1128 t467 t468 t469 t475 t476 t477 _ A1852.out).mono ?_); rintro e w1884 ⟨rfl, hb⟩; refine ⟨_, rfl, ?_⟩; replace BK470 := bL BK470 UL470 hb; replace BK474 := Aside0.mk (blk_below (g := gb474) (o := .cells #[.int .i64 t471, .int .i64 t472] 25 (0, 0)) (by (with_reducible repeat (first | refine blk_drewN ?_ _ | refine blk_drew ?_ | refine blk_alloc ?_ _)); refine blk_put (cs := #[.int .i64 t471, .int .i64 0]) ?_ 1 _ rfl; (with_reducible repeat (first | refine blk_drewN ?_ _ | refine blk_drew ?_ | refine blk_alloc ?_ _)); refine blk_put (cs := #[.int .i64 0, .int .i64 0]) ?_ 0 _ rfl; (with_reducible repeat (first | refine blk_drewN ?_ _ | refine blk_drew ?_ | refine blk_alloc ?_ _)); exact BK474.out) hb); replace HB := tL HL hb; (try clear hb); (try clear hb2); (try clear hk); (try clear hi)) | ((with_reducible refine gate_dst (N := 40) rfl ?_); refine box_event ?hg (N := 40) ?hd (cs := #[.int .i64 0, .int .i64 0]) (t := 25) ?hr ?_; (case hd => rfl); (case hg => rfl); (case hr => first | (go_simp; done) | (go_simp; rfl)); intro gb478 hg w1885 hbox hb; have GE478 := sL HL hg; have NB470_478 := nL BK470 UL470 hg; have NB478_470 := mL BK470 UL470 hg; have NB474_478 := nL BK474 UL474 hg; have NB478_474 := mL BK474 UL474 hg; replace BK470 := bL BK470 UL470 hb; replace BK474 := bL BK474 UL474 hb; replace HB := tL HL hb; have BK478 := Aside0.mk (hbox); clear hb hbox hg; have hcz1899_0 : w1885.cell? ⟨gb478, 0, none⟩ = some (.int .i64 0) := (blk_cell BK478.out 0).trans rfl; have hcz1899_1 : w1885.cell? ⟨gb478, 1, none⟩ = some (.int .i64 0) := (blk_cell BK478.out 1).trans rfl; have hfz1899_0 := blk_frozen BK478.out 0; have hfz1899_1 := blk_frozen BK478.out 1))
              (try simp only [Act.put, List.setIfInBounds_toArray, ↓set64_, ↓set8_, List.set_cons_zero, List.set_cons_succ])
              go_cut [499] from 1 to 0 (fun v499 wc => ∃ (kq : Nat) (x499_1852 : Bool), v499 = .bool x499_1852 ∧ Aside0 (laws_FnRuinAddsUp.j8 kq l1 t467 t473 x499_1852 t468 t469 t471 t472 = some r) ∧ Aside0 (kq ≤ kj1128) ∧ Aside0 (wc.heap[gb470]? = some (.cells #[.int .i64 t468, .int .i64 t469] 25 (0, 0))) ∧ Aside0 (wc.heap[gb474]? = some (.cells #[.int .i64 t471, .int .i64 t472] 25 (0, 0))) ∧ Aside0 (wc.heap[gb478]? = some (.cells #[.int .i64 t475, .int .i64 t476] 25 (0, 0))) ∧ Aside0 (Below w.heap.size w wc))
              case first => as_aux_lemma =>
                have H := HC1853.out
                clear HC1853
                by_cases c1900 : (t473 != t477) = true
                · rw [if_pos c1900] at H
                  have c1900b0 : (t473 != t477) = true := c1900
                  (try (have c1900b1 : decide (t473 = t477) = false := by simpa using c1900))
                  (try (have c1900b2 : (t473 == t477) = false := by simpa using c1900))
                  (try (have c1900b3 : ¬ (t473 = t477) := by simpa using c1900))
                  clear c1900
                  (first | rw [c1900b0] | (simp only [i64_w, i32_w]; rw [c1900b0]) | skip)
                  exact absurd H (by generalize kj1128 = q_; cases q_ <;> simp [laws_FnRuinAddsUp.j8])
                · rw [if_neg c1900] at H
                  have c1900b0 : (t473 != t477) = false := by simpa using c1900
                  (try (have c1900b1 : decide (t473 = t477) = true := by simpa using c1900))
                  (try (have c1900b2 : (t473 == t477) = true := by simpa using c1900))
                  clear c1900
                  (first | rw [c1900b0] | (simp only [i64_w, i32_w]; rw [c1900b0]) | skip)
                  have H' := Aside0.mk H
                  clear H
                  have hnb1913 := NB474_478.out
                  have hnc1913 := NB478_474.out
                  have hcz1914_0 : w1885.cell? ⟨gb474, 0, none⟩ = some (.int .i64 t471) := (blk_cell BK474.out 0).trans rfl
                  have hcz1914_1 : w1885.cell? ⟨gb474, 1, none⟩ = some (.int .i64 t472) := (blk_cell BK474.out 1).trans rfl
                  have hfz1914_0 := blk_frozen BK474.out 0
                  have hfz1914_1 := blk_frozen BK474.out 1
                  have hcz1927_0 : w1885.cell? ⟨gb478, 0, none⟩ = some (.int .i64 0) := (blk_cell BK478.out 0).trans rfl
                  have hcz1927_1 : w1885.cell? ⟨gb478, 1, none⟩ = some (.int .i64 0) := (blk_cell BK478.out 1).trans rfl
                  have hfz1927_0 := blk_frozen BK478.out 0
                  have hfz1927_1 := blk_frozen BK478.out 1
                  as_aux_lemma =>
                    go_wp2
                    go_meet
                    case rel => exact ⟨_, ((!(t471 == t475) || (!(t472 == t476)))), (by first | rfl | (simp; done) | (simp [*]; done)), H', ⟨by have := HJ15.out; have := HJ1128.out; first | omega | exact Nat.le_refl _⟩, ⟨UL470⟩, ⟨UL474⟩, ⟨by (with_reducible repeat (first | refine blk_drewN ?_ _ | refine blk_drew ?_ | refine blk_alloc ?_ _)); refine blk_put (cs := #[.int .i64 t475, .int .i64 0]) ?_ 1 _ rfl; (with_reducible repeat (first | refine blk_drewN ?_ _ | refine blk_drew ?_ | refine blk_alloc ?_ _)); refine blk_put (cs := #[.int .i64 0, .int .i64 0]) ?_ 0 _ rfl; (with_reducible repeat (first | refine blk_drewN ?_ _ | refine blk_drew ?_ | refine blk_alloc ?_ _)); exact BK478.out⟩, ⟨HL⟩⟩
              case rest => as_aux_lemma =>
                clear HC1853
                obtain ⟨kq, x499_1852, rfl, HA, HJ1852, BK470, BK474, BK478, HB⟩ := hcut
                cases kq with
                | zero => exact absurd HA.out (by simp [laws_FnRuinAddsUp.j8])
                | succ kj1852 =>
                  have H := HA.out
                  clear HA
                  simp only [laws_FnRuinAddsUp.j8] at H
                  by_cases c1928 : x499_1852 = true
                  · subst c1928
                    rw [if_pos rfl] at H
                    exact absurd H (by simp)
                  · replace c1928 := Bool.eq_false_iff.mpr c1928
                    subst c1928
                    rw [if_neg Bool.false_ne_true] at H
                    have HC1929 := Aside0.mk H
                    clear H
                    go_upto_if 500 with (fail)
                    go_cut [] from 1 to 0 (fun wc => ∃ (kq : Nat), Aside0 (laws_FnRuinAddsUp.j10 kq l1 = some r) ∧ Aside0 (kq ≤ kj1852) ∧ Aside0 (Below w.heap.size w wc))
                    case first => as_aux_lemma =>
                      have H := HC1929.out
                      clear HC1929
                      by_cases c1930 : t473 = true
                      · subst c1930
                        rw [if_pos rfl] at H
                        have HC1931 := Aside0.mk H
                        clear H
                        go_upto_region 40 with (fail)
                        go_cut [523] from 1 to 0 (fun v523 wc => ∃ (kq : Nat) (x523_1930 : Bool), v523 = .bool x523_1930 ∧ Aside0 (laws_FnRuinAddsUp.j9 kq l1 t467 x523_1930 t468 t469 t471 t472 = some r) ∧ Aside0 (kq ≤ kj1852) ∧ Aside0 (wc.heap[gb470]? = some (.cells #[.int .i64 t468, .int .i64 t469] 25 (0, 0))) ∧ Aside0 (wc.heap[gb474]? = some (.cells #[.int .i64 t471, .int .i64 t472] 25 (0, 0))) ∧ Aside0 (wc.heap[gb478]? = some (.cells #[.int .i64 t475, .int .i64 t476] 25 (0, 0))) ∧ Aside0 (Below w.heap.size w wc))
                        case first => as_aux_lemma =>
                          have H := HC1931.out
                          clear HC1931
                          by_cases c1932 : (wrap64 (2 * t468)) ≤ t469
                          · rw [if_pos c1932] at H
                            have c1932b0 : decide ((wrap64 (2 * t468)) ≤ t469) = true := decide_eq_true c1932
                            clear c1932
                            (first | rw [c1932b0] | (simp only [i64_w, i32_w]; rw [c1932b0]) | skip)
                            by_cases c1933 : (!(t471 == 1) || (!(t472 == 1))) = true
                            · rw [if_pos c1933] at H
                              have c1933b0 : (!(t471 == 1) || (!(t472 == 1))) = true := c1933
                              clear c1933
                              exact absurd H (by generalize kj1852 = q_; cases q_ <;> simp [laws_FnRuinAddsUp.j9])
                            · rw [if_neg c1933] at H
                              have c1933b0 : (!(t471 == 1) || (!(t472 == 1))) = false := by simpa using c1933
                              clear c1933
                              by_cases c1961 : t471 < 1
                              · rw [if_pos c1961] at H
                                have c1961b0 : decide (t471 < 1) = true := decide_eq_true c1961
                                clear c1961
                                exact absurd H (by generalize kj1852 = q_; cases q_ <;> simp [laws_FnRuinAddsUp.j9])
                              · rw [if_neg c1961] at H
                                have c1961b0 : decide (t471 < 1) = false := decide_eq_false c1961
                                clear c1961
                                have H' := Aside0.mk H
                                clear H
                                have hnb2000 := NB470_474.out
                                have hnc2000 := NB474_470.out
                                have hcz2002_0 : wc.cell? ⟨gb470, 0, none⟩ = some (.int .i64 t468) := (blk_cell BK470.out 0).trans rfl
                                have hcz2002_1 : wc.cell? ⟨gb470, 1, none⟩ = some (.int .i64 t469) := (blk_cell BK470.out 1).trans rfl
                                have hfz2002_0 := blk_frozen BK470.out 0
                                have hfz2002_1 := blk_frozen BK470.out 1
                                have hcz2015_0 : wc.cell? ⟨gb474, 0, none⟩ = some (.int .i64 t471) := (blk_cell BK474.out 0).trans rfl
                                have hcz2015_1 : wc.cell? ⟨gb474, 1, none⟩ = some (.int .i64 t472) := (blk_cell BK474.out 1).trans rfl
                                have hfz2015_0 := blk_frozen BK474.out 0
                                have hfz2015_1 := blk_frozen BK474.out 1
                                as_aux_lemma =>
                                  go_wp2
                                  go_meet
                                  case rel => exact ⟨_, (decide (t471 > t472)), (by first | rfl | (simp; done) | (simp [*]; done)), H', ⟨by have := HJ15.out; have := HJ1128.out; have := HJ1852.out; first | omega | exact Nat.le_refl _⟩, ⟨UL470⟩, ⟨UL474⟩, ⟨UL478⟩, ⟨HL⟩⟩
                          · rw [if_neg c1932] at H
                            have c1932b0 : decide ((wrap64 (2 * t468)) ≤ t469) = false := decide_eq_false c1932
                            clear c1932
                            (first | rw [c1932b0] | (simp only [i64_w, i32_w]; rw [c1932b0]) | skip)
                            by_cases c2016 : t471 < 1
                            · rw [if_pos c2016] at H
                              have c2016b0 : decide (t471 < 1) = true := decide_eq_true c2016
                              clear c2016
                              exact absurd H (by generalize kj1852 = q_; cases q_ <;> simp [laws_FnRuinAddsUp.j9])
                            · rw [if_neg c2016] at H
                              have c2016b0 : decide (t471 < 1) = false := decide_eq_false c2016
                              clear c2016
                              have H' := Aside0.mk H
                              clear H
                              have hnb2055 := NB470_474.out
                              have hnc2055 := NB474_470.out
                              have hcz2057_0 : wc.cell? ⟨gb470, 0, none⟩ = some (.int .i64 t468) := (blk_cell BK470.out 0).trans rfl
                              have hcz2057_1 : wc.cell? ⟨gb470, 1, none⟩ = some (.int .i64 t469) := (blk_cell BK470.out 1).trans rfl
                              have hfz2057_0 := blk_frozen BK470.out 0
                              have hfz2057_1 := blk_frozen BK470.out 1
                              have hcz2070_0 : wc.cell? ⟨gb474, 0, none⟩ = some (.int .i64 t471) := (blk_cell BK474.out 0).trans rfl
                              have hcz2070_1 : wc.cell? ⟨gb474, 1, none⟩ = some (.int .i64 t472) := (blk_cell BK474.out 1).trans rfl
                              have hfz2070_0 := blk_frozen BK474.out 0
                              have hfz2070_1 := blk_frozen BK474.out 1
                              as_aux_lemma =>
                                go_wp2
                                go_meet
                                case rel => exact ⟨_, (decide (t471 > t472)), (by first | rfl | (simp; done) | (simp [*]; done)), H', ⟨by have := HJ15.out; have := HJ1128.out; have := HJ1852.out; first | omega | exact Nat.le_refl _⟩, ⟨UL470⟩, ⟨UL474⟩, ⟨UL478⟩, ⟨HL⟩⟩
                        case rest => as_aux_lemma =>
                          clear HC1931
                          obtain ⟨kq, x523_1930, rfl, HA, HJ1930, BK470, BK474, BK478, HB⟩ := hcut
                          cases kq with
                          | zero => exact absurd HA.out (by simp [laws_FnRuinAddsUp.j9])
                          | succ kj1930 =>
                            have H := HA.out
                            clear HA
                            simp only [laws_FnRuinAddsUp.j9] at H
                            by_cases c2071 : x523_1930 = true
                            · subst c2071
                              rw [if_pos rfl] at H
                              exact absurd H (by simp)
                            · replace c2071 := Bool.eq_false_iff.mpr c2071
                              subst c2071
                              rw [if_neg Bool.false_ne_true] at H
                              by_cases c2072 : t467 > 0
                              · rw [if_pos c2072] at H
                                have c2072b0 : decide (0 < t467) = true := decide_eq_true c2072
                                clear c2072
                                replace H := Option.bind_eq_some_iff.mp H
                                obtain ⟨⟨t479, t480, t481⟩, A20730, H⟩ := H
                                try dsimp only at H
                                have A2073 := Aside0.mk A20730
                                clear A20730
                                replace H := Option.bind_eq_some_iff.mp H
                                obtain ⟨⟨t483, t484, t485⟩, A20740, H⟩ := H
                                replace H : (if t481 = true then (if t485 = true then (if (wrap64 ((wrap64 (t471 * t480)) * t484)) = (wrap64 ((wrap64 (t479 * t483)) * t472)) then (laws_FnRuinAddsUp.j10 kj1930 l1) else (none)) else (none)) else (none)) = some r := H
                                have A2074 := Aside0.mk A20740
                                clear A20740
                                by_cases c2075 : t481 = true
                                · subst c2075
                                  rw [if_pos rfl] at H
                                  by_cases c2076 : t485 = true
                                  · subst c2076
                                    rw [if_pos rfl] at H
                                    by_cases c2077 : (wrap64 ((wrap64 (t471 * t480)) * t484)) = (wrap64 ((wrap64 (t479 * t483)) * t472))
                                    · rw [if_pos c2077] at H
                                      have c2077b0 : ((wrap64 ((wrap64 (t471 * t480)) * t484)) == (wrap64 ((wrap64 (t479 * t483)) * t472))) = true := beq_iff_eq.mpr c2077
                                      have c2077b1 : ((wrap64 ((wrap64 (t471 * t480)) * t484)) != (wrap64 ((wrap64 (t479 * t483)) * t472))) = false := bne_eq_false_iff_eq.mpr c2077
                                      clear c2077
                                      have H' := Aside0.mk H
                                      clear H
                                      have hcz2091_0 : wc.cell? ⟨gb470, 0, none⟩ = some (.int .i64 t468) := (blk_cell BK470.out 0).trans rfl
                                      have hcz2091_1 : wc.cell? ⟨gb470, 1, none⟩ = some (.int .i64 t469) := (blk_cell BK470.out 1).trans rfl
                                      have hfz2091_0 := blk_frozen BK470.out 0
                                      have hfz2091_1 := blk_frozen BK470.out 1
                                      as_aux_lemma =>
                                        go_wp2_with (first | ((with_reducible refine gate_callee (f := 26) rfl ?_); refine goesL_ (some 530) rfl rfl Try.func26 (by kernel_rfl) rfl #[.int .i64 (wrap64 (t467 - 1)), .agg #[.int .i64 t468, .int .i64 t469]] rfl (by (try simp only [List.map_toArray, List.map_cons, List.map_nil]); first | done | rfl | (simp only [List.length_drop, List.length_take]; rfl)) ?_; (with_reducible refine (impl_EverRuined.calls kj1930 (wrap64 (t467 - 1)) t468 t469 t479 t480 true _ A2073.out).mono ?_); rintro e w2092 ⟨rfl, hb⟩; refine ⟨_, rfl, ?_⟩; replace BK470 := bL BK470 UL470 hb; replace BK474 := bL BK474 UL474 hb; replace BK478 := bL BK478 UL478 hb; replace HB := tL HL hb; (try clear hb); (try clear hb2); (try clear hk); (try clear hi)) | ((with_reducible refine gate_dst (N := 42) rfl ?_); refine box_event ?hg (N := 42) ?hd (cs := #[.int .i64 0, .int .i64 0]) (t := 25) ?hr ?_; (case hd => rfl); (case hg => rfl); (case hr => first | (go_simp; done) | (go_simp; rfl)); intro gb482 hg w2093 hbox hb; have GE482 := sL HL hg; have NB470_482 := nL BK470 UL470 hg; have NB482_470 := mL BK470 UL470 hg; have NB474_482 := nL BK474 UL474 hg; have NB482_474 := mL BK474 UL474 hg; have NB478_482 := nL BK478 UL478 hg; have NB482_478 := mL BK478 UL478 hg; replace BK470 := bL BK470 UL470 hb; replace BK474 := bL BK474 UL474 hb; replace BK478 := bL BK478 UL478 hb; replace HB := tL HL hb; have BK482 := Aside0.mk (hbox); clear hb hbox hg; have hnb2105 := NB482_470.out; have hnc2105 := NB470_482.out; have hcz2108_0 : w2093.cell? ⟨gb482, 0, none⟩ = some (.int .i64 0) := (blk_cell BK482.out 0).trans rfl; have hcz2108_1 : w2093.cell? ⟨gb482, 1, none⟩ = some (.int .i64 0) := (blk_cell BK482.out 1).trans rfl; have hfz2108_0 := blk_frozen BK482.out 0; have hfz2108_1 := blk_frozen BK482.out 1; have hcz2109_0 : w2093.cell? ⟨gb470, 0, none⟩ = some (.int .i64 t468) := (blk_cell BK470.out 0).trans rfl; have hcz2109_1 : w2093.cell? ⟨gb470, 1, none⟩ = some (.int .i64 t469) := (blk_cell BK470.out 1).trans rfl; have hfz2109_0 := blk_frozen BK470.out 0; have hfz2109_1 := blk_frozen BK470.out 1) | ((with_reducible refine gate_callee (f := 26) rfl ?_); refine goesL_ (some 535) rfl rfl Try.func26 (by kernel_rfl) rfl #[.int .i64 1, .agg #[.int .i64 t468, .int .i64 t469]] rfl (by (try simp only [List.map_toArray, List.map_cons, List.map_nil]); first | done | rfl | (simp only [List.length_drop, List.length_take]; rfl)) ?_; (with_reducible refine (impl_EverRuined.calls kj1930 1 t468 t469 t483 t484 true _ A2074.out).mono ?_); rintro e w2110 ⟨rfl, hb⟩; refine ⟨_, rfl, ?_⟩; replace BK470 := bL BK470 UL470 hb; replace BK474 := bL BK474 UL474 hb; replace BK478 := bL BK478 UL478 hb; replace BK482 := Aside0.mk (blk_below (g := gb482) (o := .cells #[.int .i64 t479, .int .i64 t480] 25 (0, 0)) (by (with_reducible repeat (first | refine blk_drewN ?_ _ | refine blk_drew ?_ | refine blk_alloc ?_ _)); refine blk_put (cs := #[.int .i64 t479, .int .i64 0]) ?_ 1 _ rfl; (with_reducible repeat (first | refine blk_drewN ?_ _ | refine blk_drew ?_ | refine blk_alloc ?_ _)); refine blk_put (cs := #[.int .i64 0, .int .i64 0]) ?_ 0 _ rfl; (with_reducible repeat (first | refine blk_drewN ?_ _ | refine blk_drew ?_ | refine blk_alloc ?_ _)); exact BK482.out) hb); replace HB := tL HL hb; (try clear hb); (try clear hb2); (try clear hk); (try clear hi)) | ((with_reducible refine gate_dst (N := 44) rfl ?_); refine box_event ?hg (N := 44) ?hd (cs := #[.int .i64 0, .int .i64 0]) (t := 25) ?hr ?_; (case hd => rfl); (case hg => rfl); (case hr => first | (go_simp; done) | (go_simp; rfl)); intro gb486 hg w2111 hbox hb; have GE486 := sL HL hg; have NB470_486 := nL BK470 UL470 hg; have NB486_470 := mL BK470 UL470 hg; have NB474_486 := nL BK474 UL474 hg; have NB486_474 := mL BK474 UL474 hg; have NB478_486 := nL BK478 UL478 hg; have NB486_478 := mL BK478 UL478 hg; have NB482_486 := nL BK482 UL482 hg; have NB486_482 := mL BK482 UL482 hg; replace BK470 := bL BK470 UL470 hb; replace BK474 := bL BK474 UL474 hb; replace BK478 := bL BK478 UL478 hb; replace BK482 := bL BK482 UL482 hb; replace HB := tL HL hb; have BK486 := Aside0.mk (hbox); clear hb hbox hg; have hnb2124 := NB486_474.out; have hnc2124 := NB474_486.out; have hnb2126 := NB486_482.out; have hnc2126 := NB482_486.out; have hcz2127_0 : w2111.cell? ⟨gb486, 0, none⟩ = some (.int .i64 0) := (blk_cell BK486.out 0).trans rfl; have hcz2127_1 : w2111.cell? ⟨gb486, 1, none⟩ = some (.int .i64 0) := (blk_cell BK486.out 1).trans rfl; have hfz2127_0 := blk_frozen BK486.out 0; have hfz2127_1 := blk_frozen BK486.out 1; have hcz2140_0 : w2111.cell? ⟨gb474, 0, none⟩ = some (.int .i64 t471) := (blk_cell BK474.out 0).trans rfl; have hcz2140_1 : w2111.cell? ⟨gb474, 1, none⟩ = some (.int .i64 t472) := (blk_cell BK474.out 1).trans rfl; have hfz2140_0 := blk_frozen BK474.out 0; have hfz2140_1 := blk_frozen BK474.out 1; have hcz2141_0 : w2111.cell? ⟨gb482, 0, none⟩ = some (.int .i64 t479) := (blk_cell BK482.out 0).trans rfl; have hcz2141_1 : w2111.cell? ⟨gb482, 1, none⟩ = some (.int .i64 t480) := (blk_cell BK482.out 1).trans rfl; have hfz2141_0 := blk_frozen BK482.out 0; have hfz2141_1 := blk_frozen BK482.out 1))
                                        go_meet
                                        case rel => exact ⟨_, H', ⟨by have := HJ15.out; have := HJ1128.out; have := HJ1852.out; have := HJ1930.out; first | omega | exact Nat.le_refl _⟩, ⟨HL⟩⟩
                                    · rw [if_neg c2077] at H
                                      exact absurd H (by simp)
                                  · replace c2076 := Bool.eq_false_iff.mpr c2076
                                    subst c2076
                                    rw [if_neg Bool.false_ne_true] at H
                                    exact absurd H (by simp)
                                · replace c2075 := Bool.eq_false_iff.mpr c2075
                                  subst c2075
                                  rw [if_neg Bool.false_ne_true] at H
                                  exact absurd H (by simp)
                              · rw [if_neg c2072] at H
                                have c2072b0 : decide (0 < t467) = false := decide_eq_false c2072
                                clear c2072
                                have H' := Aside0.mk H
                                clear H
                                as_aux_lemma =>
                                  go_wp2
                                  go_meet
                                  case rel => exact ⟨_, H', ⟨by have := HJ15.out; have := HJ1128.out; have := HJ1852.out; have := HJ1930.out; first | omega | exact Nat.le_refl _⟩, ⟨HL⟩⟩
                      · replace c1930 := Bool.eq_false_iff.mpr c1930
                        subst c1930
                        rw [if_neg Bool.false_ne_true] at H
                        have H' := Aside0.mk H
                        clear H
                        as_aux_lemma =>
                          go_wp2
                          go_meet
                          case rel => exact ⟨_, H', ⟨by have := HJ15.out; have := HJ1128.out; have := HJ1852.out; first | omega | exact Nat.le_refl _⟩, ⟨HL⟩⟩
                    case rest => as_aux_lemma =>
                      clear HC1929
                      obtain ⟨kq, HA, HJ1928, HB⟩ := hcut
                      cases kq with
                      | zero => exact absurd HA.out (by simp [laws_FnRuinAddsUp.j10])
                      | succ kj1928 =>
                        have H := HA.out
                        clear HA
                        simp only [laws_FnRuinAddsUp.j10] at H
                        replace H := Option.bind_eq_some_iff.mp H
                        obtain ⟨⟨t487, t488⟩, A21420, H⟩ := H
                        try dsimp only at H
                        have A2142 := Aside0.mk A21420
                        clear A21420
                        replace H := Option.bind_eq_some_iff.mp H
                        obtain ⟨⟨t490, t491, t492, t493⟩, A21430, H⟩ := H
                        try dsimp only at H
                        have A2143 := Aside0.mk A21430
                        clear A21430
                        replace H := Option.bind_eq_some_iff.mp H
                        obtain ⟨⟨t496, t497⟩, A21440, H⟩ := H
                        try dsimp only at H
                        have A2144 := Aside0.mk A21440
                        clear A21440
                        replace H := Option.bind_eq_some_iff.mp H
                        obtain ⟨⟨t498, t499⟩, A21450, H⟩ := H
                        try dsimp only at H
                        have A2145 := Aside0.mk A21450
                        clear A21450
                        replace H := Option.bind_eq_some_iff.mp H
                        obtain ⟨⟨t500, t501⟩, A21460, H⟩ := H
                        try dsimp only at H
                        have A2146 := Aside0.mk A21460
                        clear A21460
                        replace H := Option.bind_eq_some_iff.mp H
                        obtain ⟨t502, A21470, H⟩ := H
                        try dsimp only at H
                        have A2147 := Aside0.mk A21470
                        clear A21470
                        replace H := Option.bind_eq_some_iff.mp H
                        obtain ⟨t503, A21480, H⟩ := H
                        try dsimp only at H
                        have A2148 := Aside0.mk A21480
                        clear A21480
                        go_upto_region 52 with (first | ((with_reducible refine gate_callee (f := 28) rfl ?_); refine goesL_ (some 564) rfl rfl Try.func28 (by kernel_rfl) rfl #[.slice A1 l1.length c1] rfl (by (try simp only [List.map_toArray, List.map_cons, List.map_nil]); first | done | rfl | (simp only [List.length_drop, List.length_take]; rfl)) ?_; (with_reducible refine (spec_DrawIsChance.calls kj1928 _ _ l1 t487 t488 _ ?side1 ?side2 A2142.out).mono ?_); (case side1 => repeat (first | exact (Kd.C_below HR1.out HB.out) | (with_reducible refine Kd.C_alloc ?_ _) | (with_reducible refine Kd.C_drewN ?_ _) | (with_reducible refine Kd.C_drew ?_))); (case side2 => exact HC1.out); rintro e w2155 ⟨rfl, hb⟩; refine ⟨_, rfl, ?_⟩; replace HB := tL HL hb; (try clear hb); (try clear hb2); (try clear hk); (try clear hi)) | ((with_reducible refine gate_dst (N := 46) rfl ?_); refine box_event ?hg (N := 46) ?hd (cs := #[.int .i64 0, .int .i64 0]) (t := 25) ?hr ?_; (case hd => rfl); (case hg => rfl); (case hr => first | (go_simp; done) | (go_simp; rfl)); intro gb489 hg w2156 hbox hb; have GE489 := sL HL hg; replace HB := tL HL hb; have BK489 := Aside0.mk (hbox); clear hb hbox hg; have hcz2171_0 : w2156.cell? ⟨gb489, 0, none⟩ = some (.int .i64 0) := (blk_cell BK489.out 0).trans rfl; have hcz2171_1 : w2156.cell? ⟨gb489, 1, none⟩ = some (.int .i64 0) := (blk_cell BK489.out 1).trans rfl; have hfz2171_0 := blk_frozen BK489.out 0; have hfz2171_1 := blk_frozen BK489.out 1) | ((with_reducible refine gate_callee (f := 29) rfl ?_); refine goesL_ (some 567) rfl rfl Try.func29 (by kernel_rfl) rfl #[.slice A1 l1.length c1] rfl (by (try simp only [List.map_toArray, List.map_cons, List.map_nil]); first | done | rfl | (simp only [List.length_drop, List.length_take]; rfl)) ?_; (with_reducible refine (spec_DrawCompareChances.calls kj1928 _ _ l1 t490 t491 t492 t493 _ ?side1 ?side2 A2143.out).mono ?_); (case side1 => exact Kd.C_below HR1.out HL); (case side2 => exact HC1.out); rintro e w2172 ⟨rfl, hb⟩; refine ⟨_, rfl, ?_⟩; replace BK489 := Aside0.mk (blk_below (g := gb489) (o := .cells #[.int .i64 t487, .int .i64 t488] 25 (0, 0)) (by (with_reducible repeat (first | refine blk_drewN ?_ _ | refine blk_drew ?_ | refine blk_alloc ?_ _)); refine blk_put (cs := #[.int .i64 t487, .int .i64 0]) ?_ 1 _ rfl; (with_reducible repeat (first | refine blk_drewN ?_ _ | refine blk_drew ?_ | refine blk_alloc ?_ _)); refine blk_put (cs := #[.int .i64 0, .int .i64 0]) ?_ 0 _ rfl; (with_reducible repeat (first | refine blk_drewN ?_ _ | refine blk_drew ?_ | refine blk_alloc ?_ _)); exact BK489.out) hb); replace HB := tL HL hb; (try clear hb); (try clear hb2); (try clear hk); (try clear hi)) | ((with_reducible refine gate_dst (N := 47) rfl ?_); refine box_event ?hg (N := 47) ?hd (cs := #[.int .i64 0, .int .i64 0]) (t := 25) ?hr ?_; (case hd => rfl); (case hg => rfl); (case hr => first | (go_simp; done) | (go_simp; rfl)); intro gb494 hg w2173 hbox hb; have GE494 := sL HL hg; have NB489_494 := nL BK489 UL489 hg; have NB494_489 := mL BK489 UL489 hg; replace BK489 := bL BK489 UL489 hb; replace HB := tL HL hb; have BK494 := Aside0.mk (hbox); clear hb hbox hg) | ((with_reducible refine gate_dst (N := 48) rfl ?_); refine box_event ?hg (N := 48) ?hd (cs := #[.int .i64 0, .int .i64 0]) (t := 25) ?hr ?_; (case hd => rfl); (case hg => rfl); (case hr => first | (go_simp; done) | (go_simp; rfl)); intro gb495 hg w2174 hbox hb; have GE495 := sL HL hg; have NB489_495 := nL BK489 UL489 hg; have NB495_489 := mL BK489 UL489 hg; have NB494_495 := nL BK494 UL494 hg; have NB495_494 := mL BK494 UL494 hg; replace BK489 := bL BK489 UL489 hb; replace BK494 := bL BK494 UL494 hb; replace HB := tL HL hb; have BK495 := Aside0.mk (hbox); clear hb hbox hg; have hnb2190 := NB494_495.out; have hnc2190 := NB495_494.out; have hcz2191_0 : w2174.cell? ⟨gb494, 0, none⟩ = some (.int .i64 0) := (blk_cell BK494.out 0).trans rfl; have hcz2191_1 : w2174.cell? ⟨gb494, 1, none⟩ = some (.int .i64 0) := (blk_cell BK494.out 1).trans rfl; have hfz2191_0 := blk_frozen BK494.out 0; have hfz2191_1 := blk_frozen BK494.out 1; have hcz2207_0 : w2174.cell? ⟨gb495, 0, none⟩ = some (.int .i64 0) := (blk_cell BK495.out 0).trans rfl; have hcz2207_1 : w2174.cell? ⟨gb495, 1, none⟩ = some (.int .i64 0) := (blk_cell BK495.out 1).trans rfl; have hfz2207_0 := blk_frozen BK495.out 0; have hfz2207_1 := blk_frozen BK495.out 1) | ((with_reducible refine gate_callee (f := 30) rfl ?_); refine goesL_ (some 573) rfl rfl Try.func30 (by kernel_rfl) rfl #[.agg #[.int .i64 t490, .int .i64 t491], .agg #[.int .i64 t492, .int .i64 t493]] rfl (by (try simp only [List.map_toArray, List.map_cons, List.map_nil]); first | done | rfl | (simp only [List.length_drop, List.length_take]; rfl)) ?_; (with_reducible refine (impl_CompareChances.calls kj1928 t490 t491 t492 t493 t496 t497 _ A2144.out).mono ?_); rintro e w2208 ⟨rfl, hb⟩; refine ⟨_, rfl, ?_⟩; replace BK489 := bL BK489 UL489 hb; replace BK494 := Aside0.mk (blk_below (g := gb494) (o := .cells #[.int .i64 t490, .int .i64 t491] 25 (0, 0)) (by (with_reducible repeat (first | refine blk_drewN ?_ _ | refine blk_drew ?_ | refine blk_alloc ?_ _)); refine blk_far ?_ NB494_495.out _; (with_reducible repeat (first | refine blk_drewN ?_ _ | refine blk_drew ?_ | refine blk_alloc ?_ _)); refine blk_far ?_ NB494_495.out _; (with_reducible repeat (first | refine blk_drewN ?_ _ | refine blk_drew ?_ | refine blk_alloc ?_ _)); refine blk_put (cs := #[.int .i64 t490, .int .i64 0]) ?_ 1 _ rfl; (with_reducible repeat (first | refine blk_drewN ?_ _ | refine blk_drew ?_ | refine blk_alloc ?_ _)); refine blk_put (cs := #[.int .i64 0, .int .i64 0]) ?_ 0 _ rfl; (with_reducible repeat (first | refine blk_drewN ?_ _ | refine blk_drew ?_ | refine blk_alloc ?_ _)); exact BK494.out) hb); replace BK495 := Aside0.mk (blk_below (g := gb495) (o := .cells #[.int .i64 t492, .int .i64 t493] 25 (0, 0)) (by (with_reducible repeat (first | refine blk_drewN ?_ _ | refine blk_drew ?_ | refine blk_alloc ?_ _)); refine blk_put (cs := #[.int .i64 t492, .int .i64 0]) ?_ 1 _ rfl; (with_reducible repeat (first | refine blk_drewN ?_ _ | refine blk_drew ?_ | refine blk_alloc ?_ _)); refine blk_put (cs := #[.int .i64 0, .int .i64 0]) ?_ 0 _ rfl; (with_reducible repeat (first | refine blk_drewN ?_ _ | refine blk_drew ?_ | refine blk_alloc ?_ _)); refine blk_far ?_ NB495_494.out _; (with_reducible repeat (first | refine blk_drewN ?_ _ | refine blk_drew ?_ | refine blk_alloc ?_ _)); refine blk_far ?_ NB495_494.out _; (with_reducible repeat (first | refine blk_drewN ?_ _ | refine blk_drew ?_ | refine blk_alloc ?_ _)); exact BK495.out) hb); replace HB := tL HL hb; (try clear hb); (try clear hb2); (try clear hk); (try clear hi); have hcz2209_0 : w2208.cell? ⟨gb494, 0, none⟩ = some (.int .i64 t490) := (blk_cell BK494.out 0).trans rfl; have hcz2209_1 : w2208.cell? ⟨gb494, 1, none⟩ = some (.int .i64 t491) := (blk_cell BK494.out 1).trans rfl; have hfz2209_0 := blk_frozen BK494.out 0; have hfz2209_1 := blk_frozen BK494.out 1; have hcz2210_0 : w2208.cell? ⟨gb495, 0, none⟩ = some (.int .i64 t492) := (blk_cell BK495.out 0).trans rfl; have hcz2210_1 : w2208.cell? ⟨gb495, 1, none⟩ = some (.int .i64 t493) := (blk_cell BK495.out 1).trans rfl; have hfz2210_0 := blk_frozen BK495.out 0; have hfz2210_1 := blk_frozen BK495.out 1) | ((with_reducible refine gate_callee (f := 31) rfl ?_); refine goesL_ (some 579) rfl rfl Try.func31 (by kernel_rfl) rfl #[.agg #[.int .i64 t490, .int .i64 t491], .agg #[.int .i64 t492, .int .i64 t493]] rfl (by (try simp only [List.map_toArray, List.map_cons, List.map_nil]); first | done | rfl | (simp only [List.length_drop, List.length_take]; rfl)) ?_; (with_reducible refine (spec_CompareChances.calls kj1928 t490 t491 t492 t493 t498 t499 _ A2145.out).mono ?_); rintro e w2211 ⟨rfl, hb⟩; refine ⟨_, rfl, ?_⟩; replace BK489 := bL BK489 UL489 hb; replace BK494 := bL BK494 UL494 hb; replace BK495 := bL BK495 UL495 hb; replace HB := tL HL hb; (try clear hb); (try clear hb2); (try clear hk); (try clear hi); have hcz2212_0 : w2211.cell? ⟨gb495, 0, none⟩ = some (.int .i64 t492) := (blk_cell BK495.out 0).trans rfl; have hcz2212_1 : w2211.cell? ⟨gb495, 1, none⟩ = some (.int .i64 t493) := (blk_cell BK495.out 1).trans rfl; have hfz2212_0 := blk_frozen BK495.out 0; have hfz2212_1 := blk_frozen BK495.out 1; have hcz2213_0 : w2211.cell? ⟨gb494, 0, none⟩ = some (.int .i64 t490) := (blk_cell BK494.out 0).trans rfl; have hcz2213_1 : w2211.cell? ⟨gb494, 1, none⟩ = some (.int .i64 t491) := (blk_cell BK494.out 1).trans rfl; have hfz2213_0 := blk_frozen BK494.out 0; have hfz2213_1 := blk_frozen BK494.out 1) | ((with_reducible refine gate_callee (f := 30) rfl ?_); refine goesL_ (some 585) rfl rfl Try.func30 (by kernel_rfl) rfl #[.agg #[.int .i64 t492, .int .i64 t493], .agg #[.int .i64 t490, .int .i64 t491]] rfl (by (try simp only [List.map_toArray, List.map_cons, List.map_nil]); first | done | rfl | (simp only [List.length_drop, List.length_take]; rfl)) ?_; (with_reducible refine (impl_CompareChances.calls kj1928 t492 t493 t490 t491 t500 t501 _ A2146.out).mono ?_); rintro e w2214 ⟨rfl, hb⟩; refine ⟨_, rfl, ?_⟩; replace BK489 := bL BK489 UL489 hb; replace BK494 := bL BK494 UL494 hb; replace BK495 := bL BK495 UL495 hb; replace HB := tL HL hb; (try clear hb); (try clear hb2); (try clear hk); (try clear hi)))
                        by_cases c2149 : (t502 == t503) = true
                        · rw [if_pos c2149] at H
                          have c2149b0 : (t502 == t503) = true := c2149
                          (try (have c2149b1 : decide (t502 = t503) = true := by simpa using c2149))
                          (try (have c2149b2 : (t502 == t503) = true := by simpa using c2149))
                          clear c2149
                          by_cases c2150 : (t497 == t499) = true
                          · rw [if_pos c2150] at H
                            have c2150b0 : (t497 == t499) = true := c2150
                            (try (have c2150b1 : decide (t497 = t499) = true := by simpa using c2150))
                            (try (have c2150b2 : (t497 == t499) = true := by simpa using c2150))
                            clear c2150
                            by_cases c2151 : t496 = t498
                            · rw [if_pos c2151] at H
                              have c2151b0 : (t496 == t498) = true := beq_iff_eq.mpr c2151
                              have c2151b1 : (t496 != t498) = false := bne_eq_false_iff_eq.mpr c2151
                              clear c2151
                              by_cases c2152 : (t501 == t497) = true
                              · rw [if_pos c2152] at H
                                have c2152b0 : (t501 == t497) = true := c2152
                                (try (have c2152b1 : decide (t501 = t497) = true := by simpa using c2152))
                                (try (have c2152b2 : (t501 == t497) = true := by simpa using c2152))
                                clear c2152
                                by_cases c2153 : t500 = (wrap64 (-t496))
                                · rw [if_pos c2153] at H
                                  have c2153b0 : (t500 == (wrap64 (-t496))) = true := beq_iff_eq.mpr c2153
                                  have c2153b1 : (t500 != (wrap64 (-t496))) = false := bne_eq_false_iff_eq.mpr c2153
                                  clear c2153
                                  by_cases c2154 : t497 = true
                                  · subst c2154
                                    rw [if_pos rfl] at H
                                    obtain rfl := Option.some.inj H
                                    as_aux_lemma =>
                                      replace BK489 := Aside0.mk (blk_drew BK489.out)
                                      replace BK494 := Aside0.mk (blk_drew BK494.out)
                                      replace BK495 := Aside0.mk (blk_drew BK495.out)
                                      replace HB := Aside0.mk (below_drew1 HB.out)
                                      refine start_ (n := 39) (S := fun w' => w'.cell? ⟨gb489, 0, none⟩ = some (.int .i64 t487) ∧ w'.cell? ⟨gb489, 1, none⟩ = some (.int .i64 t488) ∧ w'.cell? ⟨gb494, 0, none⟩ = some (.int .i64 t490) ∧ w'.cell? ⟨gb494, 1, none⟩ = some (.int .i64 t491) ∧ w'.cell? ⟨gb495, 0, none⟩ = some (.int .i64 t492) ∧ w'.cell? ⟨gb495, 1, none⟩ = some (.int .i64 t493)) (ds := []) #[false, false, false, false, false, false, false, false, false, false, false, false, false, false, false, false, false, false, false, false, false, false, false, false, false, false, false, false, false, false, false, false, false, false, false, false, false, false, false] (by kernel_rfl) rfl rfl ⟨(blk_cell BK489.out 0).trans rfl, (blk_cell BK489.out 1).trans rfl, (blk_cell BK494.out 0).trans rfl, (blk_cell BK494.out 1).trans rfl, (blk_cell BK495.out 0).trans rfl, (blk_cell BK495.out 1).trans rfl⟩ (fun hHeld => ?_); refine with_tabW laws_FnRuinAddsUp.tab52 laws_FnRuinAddsUp.bits52 (fun HT_ HW_ => ?_)
                                      generalize w2214.drew = w2215 at BK489 BK494 BK495 HB hHeld ⊢
                                      refine take_ (i := 0) (N := some 588) (v := ?_) (a' := ?_) #[true, false, false, false, false, false, false, false, false, false, false, false, false, false, false, false, false, false, false, false, false, false, false, false, false, false, false, false, false, false, false, false, false, false, false, false, false, false, false] rfl rfl (take_ofW HT_.out HW_.out (by kernel_rfl)) (fun _ _ _ h => h) (Or.inl ⟨by rfl, ?_⟩) hHeld ?_ ?_
                                      rotate_left
                                      · rintro w' ⟨s0, s1, s2, s3, s4, s5⟩
                                        go_simp
                                        with_reducible rfl
                                      rotate_left
                                      · simp only [Act.put, List.setIfInBounds_toArray, ↓set64_, ↓set8_, List.set_cons_zero, List.set_cons_succ, i64_w, i32_w]
                                        rfl
                                      refine take_ (i := 2) (N := some 590) (v := ?_) (a' := ?_) #[true, false, true, false, false, false, false, false, false, false, false, false, false, false, false, false, false, false, false, false, false, false, false, false, false, false, false, false, false, false, false, false, false, false, false, false, false, false, false] rfl rfl (take_ofW HT_.out HW_.out (by kernel_rfl)) (fun _ _ _ h => h) (Or.inl ⟨by rfl, ?_⟩) hHeld ?_ ?_
                                      rotate_left
                                      · rintro w' ⟨s0, s1, s2, s3, s4, s5⟩
                                        go_simp
                                        with_reducible rfl
                                      rotate_left
                                      · simp only [Act.put, List.setIfInBounds_toArray, ↓set64_, ↓set8_, List.set_cons_zero, List.set_cons_succ, i64_w, i32_w]
                                        rfl
                                      refine one_ (i := 1) (N := some 589) #[true, true, true, false, false, false, false, false, false, false, false, false, false, false, false, false, false, false, false, false, false, false, false, false, false, false, false, false, false, false, false, false, false, false, false, false, false, false, false] rfl rfl (one_of HT_.out (by kernel_rfl)) (by decide) (fun K hK => ?_)
                                      refine goes_ Try.func24 (by kernel_rfl) rfl #[.agg #[.int .i64 t487, .int .i64 t488]] (by rfl) rfl rfl (by (try simp only [List.map_toArray, List.map_cons, List.map_nil]); first | done | rfl | (simp only [List.length_drop, List.length_take]; rfl)) ?_
                                      with_reducible refine (impl_IsChance.calls kj1928 t487 t488 t502 _ A2147.out).mono ?_
                                      rintro e w2216 ⟨rfl, hb⟩
                                      refine ⟨_, rfl, ?_⟩
                                      replace BK489 := bL BK489 UL489 hb
                                      replace BK494 := bL BK494 UL494 hb
                                      replace BK495 := bL BK495 UL495 hb
                                      replace HB := tL HL hb
                                      (try clear hb)
                                      (try clear hb2)
                                      (try clear hk)
                                      (try clear hi)
                                      refine hK.out _ _ ⟨(blk_cell BK489.out 0).trans rfl, (blk_cell BK489.out 1).trans rfl, (blk_cell BK494.out 0).trans rfl, (blk_cell BK494.out 1).trans rfl, (blk_cell BK495.out 0).trans rfl, (blk_cell BK495.out 1).trans rfl⟩ (fun hHeld => ?_)
                                      clear hK K
                                      refine norm_ (a' := ?_) ?_ ?_
                                      rotate_left
                                      · show Act.put _ (some 589) _ = _
                                        simp only [Act.put, List.setIfInBounds_toArray, ↓set64_, ↓set8_, List.set_cons_zero, List.set_cons_succ, i64_w, i32_w]
                                        rfl
                                      refine one_ (i := 3) (N := some 591) #[true, true, true, true, false, false, false, false, false, false, false, false, false, false, false, false, false, false, false, false, false, false, false, false, false, false, false, false, false, false, false, false, false, false, false, false, false, false, false] rfl rfl (one_of HT_.out (by kernel_rfl)) (by decide) (fun K hK => ?_)
                                      refine goes_ Try.func32 (by kernel_rfl) rfl #[.agg #[.int .i64 t487, .int .i64 t488]] (by rfl) rfl rfl (by (try simp only [List.map_toArray, List.map_cons, List.map_nil]); first | done | rfl | (simp only [List.length_drop, List.length_take]; rfl)) ?_
                                      with_reducible refine (spec_IsChance.calls kj1928 t487 t488 t503 _ A2148.out).mono ?_
                                      rintro e w2217 ⟨rfl, hb⟩
                                      refine ⟨_, rfl, ?_⟩
                                      replace BK489 := bL BK489 UL489 hb
                                      replace BK494 := bL BK494 UL494 hb
                                      replace BK495 := bL BK495 UL495 hb
                                      replace HB := tL HL hb
                                      (try clear hb)
                                      (try clear hb2)
                                      (try clear hk)
                                      (try clear hi)
                                      refine hK.out _ _ ⟨(blk_cell BK489.out 0).trans rfl, (blk_cell BK489.out 1).trans rfl, (blk_cell BK494.out 0).trans rfl, (blk_cell BK494.out 1).trans rfl, (blk_cell BK495.out 0).trans rfl, (blk_cell BK495.out 1).trans rfl⟩ (fun hHeld => ?_)
                                      clear hK K
                                      refine norm_ (a' := ?_) ?_ ?_
                                      rotate_left
                                      · show Act.put _ (some 591) _ = _
                                        simp only [Act.put, List.setIfInBounds_toArray, ↓set64_, ↓set8_, List.set_cons_zero, List.set_cons_succ, i64_w, i32_w]
                                        rfl
                                      refine pure_ (i := 4) (N := some 592) (v := ?_) (a' := ?_) #[true, true, true, true, true, false, false, false, false, false, false, false, false, false, false, false, false, false, false, false, false, false, false, false, false, false, false, false, false, false, false, false, false, false, false, false, false, false, false] rfl rfl (any_of HT_.out (by kernel_rfl)) (fun _ _ _ h => h) (Or.inl ⟨by rfl, ?_⟩) ?_ ?_
                                      rotate_left
                                      · intro w'
                                        go_simp
                                        with_reducible rfl
                                      rotate_left
                                      · simp only [Act.put, List.setIfInBounds_toArray, ↓set64_, ↓set8_, List.set_cons_zero, List.set_cons_succ, i64_w, i32_w]
                                        rfl
                                      refine pure_ (i := 5) (N := some 593) (v := ?_) (a' := ?_) #[true, true, true, true, true, true, false, false, false, false, false, false, false, false, false, false, false, false, false, false, false, false, false, false, false, false, false, false, false, false, false, false, false, false, false, false, false, false, false] rfl rfl (any_of HT_.out (by kernel_rfl)) (fun _ _ _ h => h) (Or.inl ⟨by rfl, ?_⟩) ?_ ?_
                                      rotate_left
                                      · intro w'
                                        go_simp
                                        with_reducible rfl
                                      rotate_left
                                      · simp only [Act.put, List.setIfInBounds_toArray, ↓set64_, ↓set8_, List.set_cons_zero, List.set_cons_succ, i64_w, i32_w]
                                        rfl
                                      refine pure_ (i := 6) (N := some 594) (v := ?_) (a' := ?_) #[true, true, true, true, true, true, true, false, false, false, false, false, false, false, false, false, false, false, false, false, false, false, false, false, false, false, false, false, false, false, false, false, false, false, false, false, false, false, false] rfl rfl (any_of HT_.out (by kernel_rfl)) (fun _ _ _ h => h) (Or.inl ⟨by rfl, ?_⟩) ?_ ?_
                                      rotate_left
                                      · intro w'
                                        go_simp
                                        with_reducible rfl
                                      rotate_left
                                      · simp only [Act.put, List.setIfInBounds_toArray, ↓set64_, ↓set8_, List.set_cons_zero, List.set_cons_succ, i64_w, i32_w]
                                        rfl
                                      refine pure_ (i := 7) (N := some 595) (v := ?_) (a' := ?_) #[true, true, true, true, true, true, true, true, false, false, false, false, false, false, false, false, false, false, false, false, false, false, false, false, false, false, false, false, false, false, false, false, false, false, false, false, false, false, false] rfl rfl (any_of HT_.out (by kernel_rfl)) (fun _ _ _ h => h) (Or.inl ⟨by rfl, ?_⟩) ?_ ?_
                                      rotate_left
                                      · intro w'
                                        go_simp
                                        with_reducible rfl
                                      rotate_left
                                      · simp only [Act.put, List.setIfInBounds_toArray, ↓set64_, ↓set8_, List.set_cons_zero, List.set_cons_succ, i64_w, i32_w]
                                        rfl
                                      refine pure_ (i := 8) (N := some 596) (v := ?_) (a' := ?_) #[true, true, true, true, true, true, true, true, true, false, false, false, false, false, false, false, false, false, false, false, false, false, false, false, false, false, false, false, false, false, false, false, false, false, false, false, false, false, false] rfl rfl (any_of HT_.out (by kernel_rfl)) (fun _ _ _ h => h) (Or.inl ⟨by rfl, ?_⟩) ?_ ?_
                                      rotate_left
                                      · intro w'
                                        go_simp
                                        with_reducible rfl
                                      rotate_left
                                      · simp only [Act.put, List.setIfInBounds_toArray, ↓set64_, ↓set8_, List.set_cons_zero, List.set_cons_succ, i64_w, i32_w]
                                        rfl
                                      refine pure_ (i := 9) (N := some 597) (v := ?_) (a' := ?_) #[true, true, true, true, true, true, true, true, true, true, false, false, false, false, false, false, false, false, false, false, false, false, false, false, false, false, false, false, false, false, false, false, false, false, false, false, false, false, false] rfl rfl (any_of HT_.out (by kernel_rfl)) (fun _ _ _ h => h) (Or.inl ⟨by rfl, ?_⟩) ?_ ?_
                                      rotate_left
                                      · intro w'
                                        go_simp
                                        with_reducible rfl
                                      rotate_left
                                      · simp only [Act.put, List.setIfInBounds_toArray, ↓set64_, ↓set8_, List.set_cons_zero, List.set_cons_succ, i64_w, i32_w]
                                        rfl
                                      refine pure_ (i := 10) (N := some 598) (v := ?_) (a' := ?_) #[true, true, true, true, true, true, true, true, true, true, true, false, false, false, false, false, false, false, false, false, false, false, false, false, false, false, false, false, false, false, false, false, false, false, false, false, false, false, false] rfl rfl (any_of HT_.out (by kernel_rfl)) (fun _ _ _ h => h) (Or.inl ⟨by rfl, ?_⟩) ?_ ?_
                                      rotate_left
                                      · intro w'
                                        go_simp
                                        with_reducible rfl
                                      rotate_left
                                      · simp only [Act.put, List.setIfInBounds_toArray, ↓set64_, ↓set8_, List.set_cons_zero, List.set_cons_succ, i64_w, i32_w]
                                        rfl
                                      refine pure_ (i := 11) (N := some 599) (v := ?_) (a' := ?_) #[true, true, true, true, true, true, true, true, true, true, true, true, false, false, false, false, false, false, false, false, false, false, false, false, false, false, false, false, false, false, false, false, false, false, false, false, false, false, false] rfl rfl (any_of HT_.out (by kernel_rfl)) (fun _ _ _ h => h) (Or.inl ⟨by rfl, ?_⟩) ?_ ?_
                                      rotate_left
                                      · intro w'
                                        go_simp
                                        with_reducible rfl
                                      rotate_left
                                      · simp only [Act.put, List.setIfInBounds_toArray, ↓set64_, ↓set8_, List.set_cons_zero, List.set_cons_succ, i64_w, i32_w]
                                        rfl
                                      refine pure_ (i := 12) (N := some 600) (v := ?_) (a' := ?_) #[true, true, true, true, true, true, true, true, true, true, true, true, true, false, false, false, false, false, false, false, false, false, false, false, false, false, false, false, false, false, false, false, false, false, false, false, false, false, false] rfl rfl (any_of HT_.out (by kernel_rfl)) (fun _ _ _ h => h) (Or.inl ⟨by rfl, ?_⟩) ?_ ?_
                                      rotate_left
                                      · intro w'
                                        go_simp
                                        with_reducible rfl
                                      rotate_left
                                      · simp only [Act.put, List.setIfInBounds_toArray, ↓set64_, ↓set8_, List.set_cons_zero, List.set_cons_succ, i64_w, i32_w]
                                        rfl
                                      refine pure_ (i := 13) (N := some 601) (v := ?_) (a' := ?_) #[true, true, true, true, true, true, true, true, true, true, true, true, true, true, false, false, false, false, false, false, false, false, false, false, false, false, false, false, false, false, false, false, false, false, false, false, false, false, false] rfl rfl (any_of HT_.out (by kernel_rfl)) (fun _ _ _ h => h) (Or.inl ⟨by rfl, ?_⟩) ?_ ?_
                                      rotate_left
                                      · intro w'
                                        go_simp
                                        with_reducible rfl
                                      rotate_left
                                      · simp only [Act.put, List.setIfInBounds_toArray, ↓set64_, ↓set8_, List.set_cons_zero, List.set_cons_succ, i64_w, i32_w]
                                        rfl
                                      refine pure_ (i := 14) (N := some 602) (v := ?_) (a' := ?_) #[true, true, true, true, true, true, true, true, true, true, true, true, true, true, true, false, false, false, false, false, false, false, false, false, false, false, false, false, false, false, false, false, false, false, false, false, false, false, false] rfl rfl (any_of HT_.out (by kernel_rfl)) (fun _ _ _ h => h) (Or.inl ⟨by rfl, ?_⟩) ?_ ?_
                                      rotate_left
                                      · intro w'
                                        go_simp
                                        with_reducible rfl
                                      rotate_left
                                      · simp only [Act.put, List.setIfInBounds_toArray, ↓set64_, ↓set8_, List.set_cons_zero, List.set_cons_succ, i64_w, i32_w]
                                        rfl
                                      refine pure_ (i := 15) (N := some 603) (v := ?_) (a' := ?_) #[true, true, true, true, true, true, true, true, true, true, true, true, true, true, true, true, false, false, false, false, false, false, false, false, false, false, false, false, false, false, false, false, false, false, false, false, false, false, false] rfl rfl (any_of HT_.out (by kernel_rfl)) (fun _ _ _ h => h) (Or.inl ⟨by rfl, ?_⟩) ?_ ?_
                                      rotate_left
                                      · intro w'
                                        go_simp
                                        with_reducible rfl
                                      rotate_left
                                      · simp only [Act.put, List.setIfInBounds_toArray, ↓set64_, ↓set8_, List.set_cons_zero, List.set_cons_succ, i64_w, i32_w]
                                        rfl
                                      refine pure_ (i := 16) (N := some 604) (v := ?_) (a' := ?_) #[true, true, true, true, true, true, true, true, true, true, true, true, true, true, true, true, true, false, false, false, false, false, false, false, false, false, false, false, false, false, false, false, false, false, false, false, false, false, false] rfl rfl (any_of HT_.out (by kernel_rfl)) (fun _ _ _ h => h) (Or.inl ⟨by rfl, ?_⟩) ?_ ?_
                                      rotate_left
                                      · intro w'
                                        go_simp
                                        with_reducible rfl
                                      rotate_left
                                      · simp only [Act.put, List.setIfInBounds_toArray, ↓set64_, ↓set8_, List.set_cons_zero, List.set_cons_succ, i64_w, i32_w]
                                        rfl
                                      refine pure_ (i := 17) (N := some 605) (v := ?_) (a' := ?_) #[true, true, true, true, true, true, true, true, true, true, true, true, true, true, true, true, true, true, false, false, false, false, false, false, false, false, false, false, false, false, false, false, false, false, false, false, false, false, false] rfl rfl (any_of HT_.out (by kernel_rfl)) (fun _ _ _ h => h) (Or.inl ⟨by rfl, ?_⟩) ?_ ?_
                                      rotate_left
                                      · intro w'
                                        go_simp
                                        with_reducible rfl
                                      rotate_left
                                      · simp only [Act.put, List.setIfInBounds_toArray, ↓set64_, ↓set8_, List.set_cons_zero, List.set_cons_succ, i64_w, i32_w]
                                        rfl
                                      refine pure_ (i := 18) (N := some 606) (v := ?_) (a' := ?_) #[true, true, true, true, true, true, true, true, true, true, true, true, true, true, true, true, true, true, true, false, false, false, false, false, false, false, false, false, false, false, false, false, false, false, false, false, false, false, false] rfl rfl (any_of HT_.out (by kernel_rfl)) (fun _ _ _ h => h) (Or.inl ⟨by rfl, ?_⟩) ?_ ?_
                                      rotate_left
                                      · intro w'
                                        go_simp
                                        with_reducible rfl
                                      rotate_left
                                      · simp only [Act.put, List.setIfInBounds_toArray, ↓set64_, ↓set8_, List.set_cons_zero, List.set_cons_succ, i64_w, i32_w]
                                        rfl
                                      refine pure_ (i := 19) (N := some 607) (v := ?_) (a' := ?_) #[true, true, true, true, true, true, true, true, true, true, true, true, true, true, true, true, true, true, true, true, false, false, false, false, false, false, false, false, false, false, false, false, false, false, false, false, false, false, false] rfl rfl (any_of HT_.out (by kernel_rfl)) (fun _ _ _ h => h) (Or.inl ⟨by rfl, ?_⟩) ?_ ?_
                                      rotate_left
                                      · intro w'
                                        go_simp
                                        with_reducible rfl
                                      rotate_left
                                      · simp only [Act.put, List.setIfInBounds_toArray, ↓set64_, ↓set8_, List.set_cons_zero, List.set_cons_succ, i64_w, i32_w]
                                        rfl
                                      refine pure_ (i := 20) (N := some 608) (v := ?_) (a' := ?_) #[true, true, true, true, true, true, true, true, true, true, true, true, true, true, true, true, true, true, true, true, true, false, false, false, false, false, false, false, false, false, false, false, false, false, false, false, false, false, false] rfl rfl (any_of HT_.out (by kernel_rfl)) (fun _ _ _ h => h) (Or.inl ⟨by rfl, ?_⟩) ?_ ?_
                                      rotate_left
                                      · intro w'
                                        go_simp
                                        with_reducible rfl
                                      rotate_left
                                      · simp only [Act.put, List.setIfInBounds_toArray, ↓set64_, ↓set8_, List.set_cons_zero, List.set_cons_succ, i64_w, i32_w]
                                        rfl
                                      refine pure_ (i := 21) (N := some 609) (v := ?_) (a' := ?_) #[true, true, true, true, true, true, true, true, true, true, true, true, true, true, true, true, true, true, true, true, true, true, false, false, false, false, false, false, false, false, false, false, false, false, false, false, false, false, false] rfl rfl (any_of HT_.out (by kernel_rfl)) (fun _ _ _ h => h) (Or.inl ⟨by rfl, ?_⟩) ?_ ?_
                                      rotate_left
                                      · intro w'
                                        go_simp
                                        with_reducible rfl
                                      rotate_left
                                      · simp only [Act.put, List.setIfInBounds_toArray, ↓set64_, ↓set8_, List.set_cons_zero, List.set_cons_succ, i64_w, i32_w]
                                        rfl
                                      refine pure_ (i := 22) (N := some 610) (v := ?_) (a' := ?_) #[true, true, true, true, true, true, true, true, true, true, true, true, true, true, true, true, true, true, true, true, true, true, true, false, false, false, false, false, false, false, false, false, false, false, false, false, false, false, false] rfl rfl (any_of HT_.out (by kernel_rfl)) (fun _ _ _ h => h) (Or.inl ⟨by rfl, ?_⟩) ?_ ?_
                                      rotate_left
                                      · intro w'
                                        go_simp
                                        with_reducible rfl
                                      rotate_left
                                      · simp only [Act.put, List.setIfInBounds_toArray, ↓set64_, ↓set8_, List.set_cons_zero, List.set_cons_succ, i64_w, i32_w]
                                        rfl
                                      refine pure_ (i := 23) (N := some 611) (v := ?_) (a' := ?_) #[true, true, true, true, true, true, true, true, true, true, true, true, true, true, true, true, true, true, true, true, true, true, true, true, false, false, false, false, false, false, false, false, false, false, false, false, false, false, false] rfl rfl (any_of HT_.out (by kernel_rfl)) (fun _ _ _ h => h) (Or.inl ⟨by rfl, ?_⟩) ?_ ?_
                                      rotate_left
                                      · intro w'
                                        go_simp
                                        with_reducible rfl
                                      rotate_left
                                      · simp only [Act.put, List.setIfInBounds_toArray, ↓set64_, ↓set8_, List.set_cons_zero, List.set_cons_succ, i64_w, i32_w]
                                        rfl
                                      refine pure_ (i := 24) (N := some 612) (v := ?_) (a' := ?_) #[true, true, true, true, true, true, true, true, true, true, true, true, true, true, true, true, true, true, true, true, true, true, true, true, true, false, false, false, false, false, false, false, false, false, false, false, false, false, false] rfl rfl (any_of HT_.out (by kernel_rfl)) (fun _ _ _ h => h) (Or.inl ⟨by rfl, ?_⟩) ?_ ?_
                                      rotate_left
                                      · intro w'
                                        go_simp
                                        with_reducible rfl
                                      rotate_left
                                      · simp only [Act.put, List.setIfInBounds_toArray, ↓set64_, ↓set8_, List.set_cons_zero, List.set_cons_succ, i64_w, i32_w]
                                        rfl
                                      refine pure_ (i := 25) (N := some 613) (v := ?_) (a' := ?_) #[true, true, true, true, true, true, true, true, true, true, true, true, true, true, true, true, true, true, true, true, true, true, true, true, true, true, false, false, false, false, false, false, false, false, false, false, false, false, false] rfl rfl (any_of HT_.out (by kernel_rfl)) (fun _ _ _ h => h) (Or.inl ⟨by rfl, ?_⟩) ?_ ?_
                                      rotate_left
                                      · intro w'
                                        go_simp
                                        with_reducible rfl
                                      rotate_left
                                      · simp only [Act.put, List.setIfInBounds_toArray, ↓set64_, ↓set8_, List.set_cons_zero, List.set_cons_succ, i64_w, i32_w]
                                        rfl
                                      refine pure_ (i := 26) (N := some 614) (v := ?_) (a' := ?_) #[true, true, true, true, true, true, true, true, true, true, true, true, true, true, true, true, true, true, true, true, true, true, true, true, true, true, true, false, false, false, false, false, false, false, false, false, false, false, false] rfl rfl (any_of HT_.out (by kernel_rfl)) (fun _ _ _ h => h) (Or.inl ⟨by rfl, ?_⟩) ?_ ?_
                                      rotate_left
                                      · intro w'
                                        go_simp
                                        with_reducible rfl
                                      rotate_left
                                      · simp only [Act.put, List.setIfInBounds_toArray, ↓set64_, ↓set8_, List.set_cons_zero, List.set_cons_succ, i64_w, i32_w]
                                        rfl
                                      refine pure_ (i := 27) (N := some 615) (v := ?_) (a' := ?_) #[true, true, true, true, true, true, true, true, true, true, true, true, true, true, true, true, true, true, true, true, true, true, true, true, true, true, true, true, false, false, false, false, false, false, false, false, false, false, false] rfl rfl (any_of HT_.out (by kernel_rfl)) (fun _ _ _ h => h) (Or.inl ⟨by rfl, ?_⟩) ?_ ?_
                                      rotate_left
                                      · intro w'
                                        go_simp
                                        with_reducible rfl
                                      rotate_left
                                      · simp only [Act.put, List.setIfInBounds_toArray, ↓set64_, ↓set8_, List.set_cons_zero, List.set_cons_succ, i64_w, i32_w]
                                        rfl
                                      refine pure_ (i := 28) (N := some 616) (v := ?_) (a' := ?_) #[true, true, true, true, true, true, true, true, true, true, true, true, true, true, true, true, true, true, true, true, true, true, true, true, true, true, true, true, true, false, false, false, false, false, false, false, false, false, false] rfl rfl (any_of HT_.out (by kernel_rfl)) (fun _ _ _ h => h) (Or.inl ⟨by rfl, ?_⟩) ?_ ?_
                                      rotate_left
                                      · intro w'
                                        go_simp
                                        with_reducible rfl
                                      rotate_left
                                      · simp only [Act.put, List.setIfInBounds_toArray, ↓set64_, ↓set8_, List.set_cons_zero, List.set_cons_succ, i64_w, i32_w]
                                        rfl
                                      refine pure_ (i := 29) (N := some 617) (v := ?_) (a' := ?_) #[true, true, true, true, true, true, true, true, true, true, true, true, true, true, true, true, true, true, true, true, true, true, true, true, true, true, true, true, true, true, false, false, false, false, false, false, false, false, false] rfl rfl (any_of HT_.out (by kernel_rfl)) (fun _ _ _ h => h) (Or.inl ⟨by rfl, ?_⟩) ?_ ?_
                                      rotate_left
                                      · intro w'
                                        go_simp
                                        with_reducible rfl
                                      rotate_left
                                      · simp only [Act.put, List.setIfInBounds_toArray, ↓set64_, ↓set8_, List.set_cons_zero, List.set_cons_succ, i64_w, i32_w]
                                        rfl
                                      refine pure_ (i := 30) (N := some 618) (v := ?_) (a' := ?_) #[true, true, true, true, true, true, true, true, true, true, true, true, true, true, true, true, true, true, true, true, true, true, true, true, true, true, true, true, true, true, true, false, false, false, false, false, false, false, false] rfl rfl (any_of HT_.out (by kernel_rfl)) (fun _ _ _ h => h) (Or.inl ⟨by rfl, ?_⟩) ?_ ?_
                                      rotate_left
                                      · intro w'
                                        go_simp
                                        with_reducible rfl
                                      rotate_left
                                      · simp only [Act.put, List.setIfInBounds_toArray, ↓set64_, ↓set8_, List.set_cons_zero, List.set_cons_succ, i64_w, i32_w]
                                        rfl
                                      refine pure_ (i := 31) (N := some 619) (v := ?_) (a' := ?_) #[true, true, true, true, true, true, true, true, true, true, true, true, true, true, true, true, true, true, true, true, true, true, true, true, true, true, true, true, true, true, true, true, false, false, false, false, false, false, false] rfl rfl (any_of HT_.out (by kernel_rfl)) (fun _ _ _ h => h) (Or.inl ⟨by rfl, ?_⟩) ?_ ?_
                                      rotate_left
                                      · intro w'
                                        go_simp
                                        with_reducible rfl
                                      rotate_left
                                      · simp only [Act.put, List.setIfInBounds_toArray, ↓set64_, ↓set8_, List.set_cons_zero, List.set_cons_succ, i64_w, i32_w]
                                        rfl
                                      refine take_ (i := 32) (N := some 620) (v := ?_) (a' := ?_) #[true, true, true, true, true, true, true, true, true, true, true, true, true, true, true, true, true, true, true, true, true, true, true, true, true, true, true, true, true, true, true, true, true, false, false, false, false, false, false] rfl rfl (take_ofW HT_.out HW_.out (by kernel_rfl)) (fun _ _ _ h => h) (Or.inl ⟨by rfl, ?_⟩) hHeld ?_ ?_
                                      rotate_left
                                      · rintro w' ⟨s0, s1, s2, s3, s4, s5⟩
                                        go_simp
                                        with_reducible rfl
                                      rotate_left
                                      · simp only [Act.put, List.setIfInBounds_toArray, ↓set64_, ↓set8_, List.set_cons_zero, List.set_cons_succ, i64_w, i32_w]
                                        rfl
                                      refine take_ (i := 33) (N := some 621) (v := ?_) (a' := ?_) #[true, true, true, true, true, true, true, true, true, true, true, true, true, true, true, true, true, true, true, true, true, true, true, true, true, true, true, true, true, true, true, true, true, true, false, false, false, false, false] rfl rfl (take_ofW HT_.out HW_.out (by kernel_rfl)) (fun _ _ _ h => h) (Or.inl ⟨by rfl, ?_⟩) hHeld ?_ ?_
                                      rotate_left
                                      · rintro w' ⟨s0, s1, s2, s3, s4, s5⟩
                                        go_simp
                                        with_reducible rfl
                                      rotate_left
                                      · simp only [Act.put, List.setIfInBounds_toArray, ↓set64_, ↓set8_, List.set_cons_zero, List.set_cons_succ, i64_w, i32_w]
                                        rfl
                                      refine pure_ (i := 34) (N := some 622) (v := ?_) (a' := ?_) #[true, true, true, true, true, true, true, true, true, true, true, true, true, true, true, true, true, true, true, true, true, true, true, true, true, true, true, true, true, true, true, true, true, true, true, false, false, false, false] rfl rfl (any_of HT_.out (by kernel_rfl)) (fun _ _ _ h => h) (Or.inl ⟨by rfl, ?_⟩) ?_ ?_
                                      rotate_left
                                      · intro w'
                                        go_simp
                                        with_reducible rfl
                                      rotate_left
                                      · simp only [Act.put, List.setIfInBounds_toArray, ↓set64_, ↓set8_, List.set_cons_zero, List.set_cons_succ, i64_w, i32_w]
                                        rfl
                                      refine pure_ (i := 35) (N := some 623) (v := ?_) (a' := ?_) #[true, true, true, true, true, true, true, true, true, true, true, true, true, true, true, true, true, true, true, true, true, true, true, true, true, true, true, true, true, true, true, true, true, true, true, true, false, false, false] rfl rfl (any_of HT_.out (by kernel_rfl)) (fun _ _ _ h => h) (Or.inl ⟨by rfl, ?_⟩) ?_ ?_
                                      rotate_left
                                      · intro w'
                                        go_simp
                                        with_reducible rfl
                                      rotate_left
                                      · simp only [Act.put, List.setIfInBounds_toArray, ↓set64_, ↓set8_, List.set_cons_zero, List.set_cons_succ, i64_w, i32_w]
                                        rfl
                                      refine pure_ (i := 36) (N := some 624) (v := ?_) (a' := ?_) #[true, true, true, true, true, true, true, true, true, true, true, true, true, true, true, true, true, true, true, true, true, true, true, true, true, true, true, true, true, true, true, true, true, true, true, true, true, false, false] rfl rfl (any_of HT_.out (by kernel_rfl)) (fun _ _ _ h => h) (Or.inl ⟨by rfl, ?_⟩) ?_ ?_
                                      rotate_left
                                      · intro w'
                                        go_simp
                                        with_reducible rfl
                                      rotate_left
                                      · simp only [Act.put, List.setIfInBounds_toArray, ↓set64_, ↓set8_, List.set_cons_zero, List.set_cons_succ, i64_w, i32_w]
                                        rfl
                                      refine pure_ (i := 37) (N := some 625) (v := ?_) (a' := ?_) #[true, true, true, true, true, true, true, true, true, true, true, true, true, true, true, true, true, true, true, true, true, true, true, true, true, true, true, true, true, true, true, true, true, true, true, true, true, true, false] rfl rfl (any_of HT_.out (by kernel_rfl)) (fun _ _ _ h => h) (Or.inl ⟨by rfl, ?_⟩) ?_ ?_
                                      rotate_left
                                      · intro w'
                                        go_simp
                                        with_reducible rfl
                                      rotate_left
                                      · simp only [Act.put, List.setIfInBounds_toArray, ↓set64_, ↓set8_, List.set_cons_zero, List.set_cons_succ, i64_w, i32_w]
                                        rfl
                                      refine pure_ (i := 38) (N := some 4) (v := ?_) (a' := ?_) #[true, true, true, true, true, true, true, true, true, true, true, true, true, true, true, true, true, true, true, true, true, true, true, true, true, true, true, true, true, true, true, true, true, true, true, true, true, true, true] rfl rfl (any_of HT_.out (by kernel_rfl)) (fun _ _ _ h => h) (Or.inl ⟨by rfl, ?_⟩) ?_ ?_
                                      rotate_left
                                      · intro w'
                                        go_simp
                                        with_reducible rfl
                                      rotate_left
                                      · simp only [Act.put, List.setIfInBounds_toArray, ↓set64_, ↓set8_, List.set_cons_zero, List.set_cons_succ, i64_w, i32_w]
                                        rfl
                                      refine done_ (done_of HT_.out (by kernel_rfl)) ?_
                                      try go_wp2
                                      go_ret
                                      exact ⟨by first | rfl | (simp [errW_none, errW_some] <;> rfl) | (simp [*, errW_none, errW_some] <;> rfl), HL⟩
                                  · replace c2154 := Bool.eq_false_iff.mpr c2154
                                    subst c2154
                                    rw [if_neg Bool.false_ne_true] at H
                                    obtain rfl := Option.some.inj H
                                    as_aux_lemma =>
                                      replace BK489 := Aside0.mk (blk_drew BK489.out)
                                      replace BK494 := Aside0.mk (blk_drew BK494.out)
                                      replace BK495 := Aside0.mk (blk_drew BK495.out)
                                      replace HB := Aside0.mk (below_drew1 HB.out)
                                      refine start_ (n := 39) (S := fun w' => w'.cell? ⟨gb489, 0, none⟩ = some (.int .i64 t487) ∧ w'.cell? ⟨gb489, 1, none⟩ = some (.int .i64 t488)) (ds := []) #[false, false, false, false, false, false, false, false, false, false, false, false, false, false, false, false, false, false, false, false, false, false, false, false, false, false, false, false, false, false, false, false, false, false, false, false, false, false, false] (by kernel_rfl) rfl rfl ⟨(blk_cell BK489.out 0).trans rfl, (blk_cell BK489.out 1).trans rfl⟩ (fun hHeld => ?_); refine with_tabW laws_FnRuinAddsUp.tab52 laws_FnRuinAddsUp.bits52 (fun HT_ HW_ => ?_)
                                      generalize w2214.drew = w2278 at BK489 BK494 BK495 HB hHeld ⊢
                                      refine take_ (i := 0) (N := some 588) (v := ?_) (a' := ?_) #[true, false, false, false, false, false, false, false, false, false, false, false, false, false, false, false, false, false, false, false, false, false, false, false, false, false, false, false, false, false, false, false, false, false, false, false, false, false, false] rfl rfl (take_ofW HT_.out HW_.out (by kernel_rfl)) (fun _ _ _ h => h) (Or.inl ⟨by rfl, ?_⟩) hHeld ?_ ?_
                                      rotate_left
                                      · rintro w' ⟨s0, s1⟩
                                        go_simp
                                        with_reducible rfl
                                      rotate_left
                                      · simp only [Act.put, List.setIfInBounds_toArray, ↓set64_, ↓set8_, List.set_cons_zero, List.set_cons_succ, i64_w, i32_w]
                                        rfl
                                      refine take_ (i := 2) (N := some 590) (v := ?_) (a' := ?_) #[true, false, true, false, false, false, false, false, false, false, false, false, false, false, false, false, false, false, false, false, false, false, false, false, false, false, false, false, false, false, false, false, false, false, false, false, false, false, false] rfl rfl (take_ofW HT_.out HW_.out (by kernel_rfl)) (fun _ _ _ h => h) (Or.inl ⟨by rfl, ?_⟩) hHeld ?_ ?_
                                      rotate_left
                                      · rintro w' ⟨s0, s1⟩
                                        go_simp
                                        with_reducible rfl
                                      rotate_left
                                      · simp only [Act.put, List.setIfInBounds_toArray, ↓set64_, ↓set8_, List.set_cons_zero, List.set_cons_succ, i64_w, i32_w]
                                        rfl
                                      refine one_ (i := 1) (N := some 589) #[true, true, true, false, false, false, false, false, false, false, false, false, false, false, false, false, false, false, false, false, false, false, false, false, false, false, false, false, false, false, false, false, false, false, false, false, false, false, false] rfl rfl (one_of HT_.out (by kernel_rfl)) (by decide) (fun K hK => ?_)
                                      refine goes_ Try.func24 (by kernel_rfl) rfl #[.agg #[.int .i64 t487, .int .i64 t488]] (by rfl) rfl rfl (by (try simp only [List.map_toArray, List.map_cons, List.map_nil]); first | done | rfl | (simp only [List.length_drop, List.length_take]; rfl)) ?_
                                      with_reducible refine (impl_IsChance.calls kj1928 t487 t488 t502 _ A2147.out).mono ?_
                                      rintro e w2279 ⟨rfl, hb⟩
                                      refine ⟨_, rfl, ?_⟩
                                      replace BK489 := bL BK489 UL489 hb
                                      replace BK494 := bL BK494 UL494 hb
                                      replace BK495 := bL BK495 UL495 hb
                                      replace HB := tL HL hb
                                      (try clear hb)
                                      (try clear hb2)
                                      (try clear hk)
                                      (try clear hi)
                                      refine hK.out _ _ ⟨(blk_cell BK489.out 0).trans rfl, (blk_cell BK489.out 1).trans rfl⟩ (fun hHeld => ?_)
                                      clear hK K
                                      refine norm_ (a' := ?_) ?_ ?_
                                      rotate_left
                                      · show Act.put _ (some 589) _ = _
                                        simp only [Act.put, List.setIfInBounds_toArray, ↓set64_, ↓set8_, List.set_cons_zero, List.set_cons_succ, i64_w, i32_w]
                                        rfl
                                      refine one_ (i := 3) (N := some 591) #[true, true, true, true, false, false, false, false, false, false, false, false, false, false, false, false, false, false, false, false, false, false, false, false, false, false, false, false, false, false, false, false, false, false, false, false, false, false, false] rfl rfl (one_of HT_.out (by kernel_rfl)) (by decide) (fun K hK => ?_)
                                      refine goes_ Try.func32 (by kernel_rfl) rfl #[.agg #[.int .i64 t487, .int .i64 t488]] (by rfl) rfl rfl (by (try simp only [List.map_toArray, List.map_cons, List.map_nil]); first | done | rfl | (simp only [List.length_drop, List.length_take]; rfl)) ?_
                                      with_reducible refine (spec_IsChance.calls kj1928 t487 t488 t503 _ A2148.out).mono ?_
                                      rintro e w2280 ⟨rfl, hb⟩
                                      refine ⟨_, rfl, ?_⟩
                                      replace BK489 := bL BK489 UL489 hb
                                      replace BK494 := bL BK494 UL494 hb
                                      replace BK495 := bL BK495 UL495 hb
                                      replace HB := tL HL hb
                                      (try clear hb)
                                      (try clear hb2)
                                      (try clear hk)
                                      (try clear hi)
                                      refine hK.out _ _ ⟨(blk_cell BK489.out 0).trans rfl, (blk_cell BK489.out 1).trans rfl⟩ (fun hHeld => ?_)
                                      clear hK K
                                      refine norm_ (a' := ?_) ?_ ?_
                                      rotate_left
                                      · show Act.put _ (some 591) _ = _
                                        simp only [Act.put, List.setIfInBounds_toArray, ↓set64_, ↓set8_, List.set_cons_zero, List.set_cons_succ, i64_w, i32_w]
                                        rfl
                                      refine pure_ (i := 4) (N := some 592) (v := ?_) (a' := ?_) #[true, true, true, true, true, false, false, false, false, false, false, false, false, false, false, false, false, false, false, false, false, false, false, false, false, false, false, false, false, false, false, false, false, false, false, false, false, false, false] rfl rfl (any_of HT_.out (by kernel_rfl)) (fun _ _ _ h => h) (Or.inl ⟨by rfl, ?_⟩) ?_ ?_
                                      rotate_left
                                      · intro w'
                                        go_simp
                                        with_reducible rfl
                                      rotate_left
                                      · simp only [Act.put, List.setIfInBounds_toArray, ↓set64_, ↓set8_, List.set_cons_zero, List.set_cons_succ, i64_w, i32_w]
                                        rfl
                                      refine pure_ (i := 5) (N := some 593) (v := ?_) (a' := ?_) #[true, true, true, true, true, true, false, false, false, false, false, false, false, false, false, false, false, false, false, false, false, false, false, false, false, false, false, false, false, false, false, false, false, false, false, false, false, false, false] rfl rfl (any_of HT_.out (by kernel_rfl)) (fun _ _ _ h => h) (Or.inl ⟨by rfl, ?_⟩) ?_ ?_
                                      rotate_left
                                      · intro w'
                                        go_simp
                                        with_reducible rfl
                                      rotate_left
                                      · simp only [Act.put, List.setIfInBounds_toArray, ↓set64_, ↓set8_, List.set_cons_zero, List.set_cons_succ, i64_w, i32_w]
                                        rfl
                                      refine pure_ (i := 6) (N := some 594) (v := ?_) (a' := ?_) #[true, true, true, true, true, true, true, false, false, false, false, false, false, false, false, false, false, false, false, false, false, false, false, false, false, false, false, false, false, false, false, false, false, false, false, false, false, false, false] rfl rfl (any_of HT_.out (by kernel_rfl)) (fun _ _ _ h => h) (Or.inl ⟨by rfl, ?_⟩) ?_ ?_
                                      rotate_left
                                      · intro w'
                                        go_simp
                                        with_reducible rfl
                                      rotate_left
                                      · simp only [Act.put, List.setIfInBounds_toArray, ↓set64_, ↓set8_, List.set_cons_zero, List.set_cons_succ, i64_w, i32_w]
                                        rfl
                                      refine pure_ (i := 7) (N := some 595) (v := ?_) (a' := ?_) #[true, true, true, true, true, true, true, true, false, false, false, false, false, false, false, false, false, false, false, false, false, false, false, false, false, false, false, false, false, false, false, false, false, false, false, false, false, false, false] rfl rfl (any_of HT_.out (by kernel_rfl)) (fun _ _ _ h => h) (Or.inl ⟨by rfl, ?_⟩) ?_ ?_
                                      rotate_left
                                      · intro w'
                                        go_simp
                                        with_reducible rfl
                                      rotate_left
                                      · simp only [Act.put, List.setIfInBounds_toArray, ↓set64_, ↓set8_, List.set_cons_zero, List.set_cons_succ, i64_w, i32_w]
                                        rfl
                                      refine pure_ (i := 8) (N := some 596) (v := ?_) (a' := ?_) #[true, true, true, true, true, true, true, true, true, false, false, false, false, false, false, false, false, false, false, false, false, false, false, false, false, false, false, false, false, false, false, false, false, false, false, false, false, false, false] rfl rfl (any_of HT_.out (by kernel_rfl)) (fun _ _ _ h => h) (Or.inl ⟨by rfl, ?_⟩) ?_ ?_
                                      rotate_left
                                      · intro w'
                                        go_simp
                                        with_reducible rfl
                                      rotate_left
                                      · simp only [Act.put, List.setIfInBounds_toArray, ↓set64_, ↓set8_, List.set_cons_zero, List.set_cons_succ, i64_w, i32_w]
                                        rfl
                                      refine pure_ (i := 9) (N := some 597) (v := ?_) (a' := ?_) #[true, true, true, true, true, true, true, true, true, true, false, false, false, false, false, false, false, false, false, false, false, false, false, false, false, false, false, false, false, false, false, false, false, false, false, false, false, false, false] rfl rfl (any_of HT_.out (by kernel_rfl)) (fun _ _ _ h => h) (Or.inl ⟨by rfl, ?_⟩) ?_ ?_
                                      rotate_left
                                      · intro w'
                                        go_simp
                                        with_reducible rfl
                                      rotate_left
                                      · simp only [Act.put, List.setIfInBounds_toArray, ↓set64_, ↓set8_, List.set_cons_zero, List.set_cons_succ, i64_w, i32_w]
                                        rfl
                                      refine pure_ (i := 10) (N := some 598) (v := ?_) (a' := ?_) #[true, true, true, true, true, true, true, true, true, true, true, false, false, false, false, false, false, false, false, false, false, false, false, false, false, false, false, false, false, false, false, false, false, false, false, false, false, false, false] rfl rfl (any_of HT_.out (by kernel_rfl)) (fun _ _ _ h => h) (Or.inl ⟨by rfl, ?_⟩) ?_ ?_
                                      rotate_left
                                      · intro w'
                                        go_simp
                                        with_reducible rfl
                                      rotate_left
                                      · simp only [Act.put, List.setIfInBounds_toArray, ↓set64_, ↓set8_, List.set_cons_zero, List.set_cons_succ, i64_w, i32_w]
                                        rfl
                                      refine pure_ (i := 11) (N := some 599) (v := ?_) (a' := ?_) #[true, true, true, true, true, true, true, true, true, true, true, true, false, false, false, false, false, false, false, false, false, false, false, false, false, false, false, false, false, false, false, false, false, false, false, false, false, false, false] rfl rfl (any_of HT_.out (by kernel_rfl)) (fun _ _ _ h => h) (Or.inl ⟨by rfl, ?_⟩) ?_ ?_
                                      rotate_left
                                      · intro w'
                                        go_simp
                                        with_reducible rfl
                                      rotate_left
                                      · simp only [Act.put, List.setIfInBounds_toArray, ↓set64_, ↓set8_, List.set_cons_zero, List.set_cons_succ, i64_w, i32_w]
                                        rfl
                                      refine pure_ (i := 12) (N := some 600) (v := ?_) (a' := ?_) #[true, true, true, true, true, true, true, true, true, true, true, true, true, false, false, false, false, false, false, false, false, false, false, false, false, false, false, false, false, false, false, false, false, false, false, false, false, false, false] rfl rfl (any_of HT_.out (by kernel_rfl)) (fun _ _ _ h => h) (Or.inl ⟨by rfl, ?_⟩) ?_ ?_
                                      rotate_left
                                      · intro w'
                                        go_simp
                                        with_reducible rfl
                                      rotate_left
                                      · simp only [Act.put, List.setIfInBounds_toArray, ↓set64_, ↓set8_, List.set_cons_zero, List.set_cons_succ, i64_w, i32_w]
                                        rfl
                                      refine pure_ (i := 13) (N := some 601) (v := ?_) (a' := ?_) #[true, true, true, true, true, true, true, true, true, true, true, true, true, true, false, false, false, false, false, false, false, false, false, false, false, false, false, false, false, false, false, false, false, false, false, false, false, false, false] rfl rfl (any_of HT_.out (by kernel_rfl)) (fun _ _ _ h => h) (Or.inl ⟨by rfl, ?_⟩) ?_ ?_
                                      rotate_left
                                      · intro w'
                                        go_simp
                                        with_reducible rfl
                                      rotate_left
                                      · simp only [Act.put, List.setIfInBounds_toArray, ↓set64_, ↓set8_, List.set_cons_zero, List.set_cons_succ, i64_w, i32_w]
                                        rfl
                                      refine pure_ (i := 14) (N := some 602) (v := ?_) (a' := ?_) #[true, true, true, true, true, true, true, true, true, true, true, true, true, true, true, false, false, false, false, false, false, false, false, false, false, false, false, false, false, false, false, false, false, false, false, false, false, false, false] rfl rfl (any_of HT_.out (by kernel_rfl)) (fun _ _ _ h => h) (Or.inl ⟨by rfl, ?_⟩) ?_ ?_
                                      rotate_left
                                      · intro w'
                                        go_simp
                                        with_reducible rfl
                                      rotate_left
                                      · simp only [Act.put, List.setIfInBounds_toArray, ↓set64_, ↓set8_, List.set_cons_zero, List.set_cons_succ, i64_w, i32_w]
                                        rfl
                                      refine pure_ (i := 15) (N := some 603) (v := ?_) (a' := ?_) #[true, true, true, true, true, true, true, true, true, true, true, true, true, true, true, true, false, false, false, false, false, false, false, false, false, false, false, false, false, false, false, false, false, false, false, false, false, false, false] rfl rfl (any_of HT_.out (by kernel_rfl)) (fun _ _ _ h => h) (Or.inl ⟨by rfl, ?_⟩) ?_ ?_
                                      rotate_left
                                      · intro w'
                                        go_simp
                                        with_reducible rfl
                                      rotate_left
                                      · simp only [Act.put, List.setIfInBounds_toArray, ↓set64_, ↓set8_, List.set_cons_zero, List.set_cons_succ, i64_w, i32_w]
                                        rfl
                                      refine pure_ (i := 16) (N := some 604) (v := ?_) (a' := ?_) #[true, true, true, true, true, true, true, true, true, true, true, true, true, true, true, true, true, false, false, false, false, false, false, false, false, false, false, false, false, false, false, false, false, false, false, false, false, false, false] rfl rfl (any_of HT_.out (by kernel_rfl)) (fun _ _ _ h => h) (Or.inl ⟨by rfl, ?_⟩) ?_ ?_
                                      rotate_left
                                      · intro w'
                                        go_simp
                                        with_reducible rfl
                                      rotate_left
                                      · simp only [Act.put, List.setIfInBounds_toArray, ↓set64_, ↓set8_, List.set_cons_zero, List.set_cons_succ, i64_w, i32_w]
                                        rfl
                                      refine pure_ (i := 17) (N := some 605) (v := ?_) (a' := ?_) #[true, true, true, true, true, true, true, true, true, true, true, true, true, true, true, true, true, true, false, false, false, false, false, false, false, false, false, false, false, false, false, false, false, false, false, false, false, false, false] rfl rfl (any_of HT_.out (by kernel_rfl)) (fun _ _ _ h => h) (Or.inl ⟨by rfl, ?_⟩) ?_ ?_
                                      rotate_left
                                      · intro w'
                                        go_simp
                                        with_reducible rfl
                                      rotate_left
                                      · simp only [Act.put, List.setIfInBounds_toArray, ↓set64_, ↓set8_, List.set_cons_zero, List.set_cons_succ, i64_w, i32_w]
                                        rfl
                                      refine pure_ (i := 18) (N := some 606) (v := ?_) (a' := ?_) #[true, true, true, true, true, true, true, true, true, true, true, true, true, true, true, true, true, true, true, false, false, false, false, false, false, false, false, false, false, false, false, false, false, false, false, false, false, false, false] rfl rfl (any_of HT_.out (by kernel_rfl)) (fun _ _ _ h => h) (Or.inl ⟨by rfl, ?_⟩) ?_ ?_
                                      rotate_left
                                      · intro w'
                                        go_simp
                                        with_reducible rfl
                                      rotate_left
                                      · simp only [Act.put, List.setIfInBounds_toArray, ↓set64_, ↓set8_, List.set_cons_zero, List.set_cons_succ, i64_w, i32_w]
                                        rfl
                                      refine pure_ (i := 19) (N := some 607) (v := ?_) (a' := ?_) #[true, true, true, true, true, true, true, true, true, true, true, true, true, true, true, true, true, true, true, true, false, false, false, false, false, false, false, false, false, false, false, false, false, false, false, false, false, false, false] rfl rfl (any_of HT_.out (by kernel_rfl)) (fun _ _ _ h => h) (Or.inl ⟨by rfl, ?_⟩) ?_ ?_
                                      rotate_left
                                      · intro w'
                                        go_simp
                                        with_reducible rfl
                                      rotate_left
                                      · simp only [Act.put, List.setIfInBounds_toArray, ↓set64_, ↓set8_, List.set_cons_zero, List.set_cons_succ, i64_w, i32_w]
                                        rfl
                                      refine pure_ (i := 20) (N := some 608) (v := ?_) (a' := ?_) #[true, true, true, true, true, true, true, true, true, true, true, true, true, true, true, true, true, true, true, true, true, false, false, false, false, false, false, false, false, false, false, false, false, false, false, false, false, false, false] rfl rfl (any_of HT_.out (by kernel_rfl)) (fun _ _ _ h => h) (Or.inl ⟨by rfl, ?_⟩) ?_ ?_
                                      rotate_left
                                      · intro w'
                                        go_simp
                                        with_reducible rfl
                                      rotate_left
                                      · simp only [Act.put, List.setIfInBounds_toArray, ↓set64_, ↓set8_, List.set_cons_zero, List.set_cons_succ, i64_w, i32_w]
                                        rfl
                                      refine pure_ (i := 21) (N := some 609) (v := ?_) (a' := ?_) #[true, true, true, true, true, true, true, true, true, true, true, true, true, true, true, true, true, true, true, true, true, true, false, false, false, false, false, false, false, false, false, false, false, false, false, false, false, false, false] rfl rfl (any_of HT_.out (by kernel_rfl)) (fun _ _ _ h => h) (Or.inl ⟨by rfl, ?_⟩) ?_ ?_
                                      rotate_left
                                      · intro w'
                                        go_simp
                                        with_reducible rfl
                                      rotate_left
                                      · simp only [Act.put, List.setIfInBounds_toArray, ↓set64_, ↓set8_, List.set_cons_zero, List.set_cons_succ, i64_w, i32_w]
                                        rfl
                                      refine pure_ (i := 22) (N := some 610) (v := ?_) (a' := ?_) #[true, true, true, true, true, true, true, true, true, true, true, true, true, true, true, true, true, true, true, true, true, true, true, false, false, false, false, false, false, false, false, false, false, false, false, false, false, false, false] rfl rfl (any_of HT_.out (by kernel_rfl)) (fun _ _ _ h => h) (Or.inl ⟨by rfl, ?_⟩) ?_ ?_
                                      rotate_left
                                      · intro w'
                                        go_simp
                                        with_reducible rfl
                                      rotate_left
                                      · simp only [Act.put, List.setIfInBounds_toArray, ↓set64_, ↓set8_, List.set_cons_zero, List.set_cons_succ, i64_w, i32_w]
                                        rfl
                                      refine pure_ (i := 23) (N := some 611) (v := ?_) (a' := ?_) #[true, true, true, true, true, true, true, true, true, true, true, true, true, true, true, true, true, true, true, true, true, true, true, true, false, false, false, false, false, false, false, false, false, false, false, false, false, false, false] rfl rfl (any_of HT_.out (by kernel_rfl)) (fun _ _ _ h => h) (Or.inl ⟨by rfl, ?_⟩) ?_ ?_
                                      rotate_left
                                      · intro w'
                                        go_simp
                                        with_reducible rfl
                                      rotate_left
                                      · simp only [Act.put, List.setIfInBounds_toArray, ↓set64_, ↓set8_, List.set_cons_zero, List.set_cons_succ, i64_w, i32_w]
                                        rfl
                                      refine pure_ (i := 24) (N := some 612) (v := ?_) (a' := ?_) #[true, true, true, true, true, true, true, true, true, true, true, true, true, true, true, true, true, true, true, true, true, true, true, true, true, false, false, false, false, false, false, false, false, false, false, false, false, false, false] rfl rfl (any_of HT_.out (by kernel_rfl)) (fun _ _ _ h => h) (Or.inl ⟨by rfl, ?_⟩) ?_ ?_
                                      rotate_left
                                      · intro w'
                                        go_simp
                                        with_reducible rfl
                                      rotate_left
                                      · simp only [Act.put, List.setIfInBounds_toArray, ↓set64_, ↓set8_, List.set_cons_zero, List.set_cons_succ, i64_w, i32_w]
                                        rfl
                                      refine pure_ (i := 25) (N := some 613) (v := ?_) (a' := ?_) #[true, true, true, true, true, true, true, true, true, true, true, true, true, true, true, true, true, true, true, true, true, true, true, true, true, true, false, false, false, false, false, false, false, false, false, false, false, false, false] rfl rfl (any_of HT_.out (by kernel_rfl)) (fun _ _ _ h => h) (Or.inl ⟨by rfl, ?_⟩) ?_ ?_
                                      rotate_left
                                      · intro w'
                                        go_simp
                                        with_reducible rfl
                                      rotate_left
                                      · simp only [Act.put, List.setIfInBounds_toArray, ↓set64_, ↓set8_, List.set_cons_zero, List.set_cons_succ, i64_w, i32_w]
                                        rfl
                                      refine pure_ (i := 26) (N := some 614) (v := ?_) (a' := ?_) #[true, true, true, true, true, true, true, true, true, true, true, true, true, true, true, true, true, true, true, true, true, true, true, true, true, true, true, false, false, false, false, false, false, false, false, false, false, false, false] rfl rfl (any_of HT_.out (by kernel_rfl)) (fun _ _ _ h => h) (Or.inl ⟨by rfl, ?_⟩) ?_ ?_
                                      rotate_left
                                      · intro w'
                                        go_simp
                                        with_reducible rfl
                                      rotate_left
                                      · simp only [Act.put, List.setIfInBounds_toArray, ↓set64_, ↓set8_, List.set_cons_zero, List.set_cons_succ, i64_w, i32_w]
                                        rfl
                                      refine pure_ (i := 27) (N := some 615) (v := ?_) (a' := ?_) #[true, true, true, true, true, true, true, true, true, true, true, true, true, true, true, true, true, true, true, true, true, true, true, true, true, true, true, true, false, false, false, false, false, false, false, false, false, false, false] rfl rfl (any_of HT_.out (by kernel_rfl)) (fun _ _ _ h => h) (Or.inl ⟨by rfl, ?_⟩) ?_ ?_
                                      rotate_left
                                      · intro w'
                                        go_simp
                                        with_reducible rfl
                                      rotate_left
                                      · simp only [Act.put, List.setIfInBounds_toArray, ↓set64_, ↓set8_, List.set_cons_zero, List.set_cons_succ, i64_w, i32_w]
                                        rfl
                                      refine pure_ (i := 28) (N := some 616) (v := ?_) (a' := ?_) #[true, true, true, true, true, true, true, true, true, true, true, true, true, true, true, true, true, true, true, true, true, true, true, true, true, true, true, true, true, false, false, false, false, false, false, false, false, false, false] rfl rfl (any_of HT_.out (by kernel_rfl)) (fun _ _ _ h => h) (Or.inl ⟨by rfl, ?_⟩) ?_ ?_
                                      rotate_left
                                      · intro w'
                                        go_simp
                                        with_reducible rfl
                                      rotate_left
                                      · simp only [Act.put, List.setIfInBounds_toArray, ↓set64_, ↓set8_, List.set_cons_zero, List.set_cons_succ, i64_w, i32_w]
                                        rfl
                                      refine pure_ (i := 29) (N := some 617) (v := ?_) (a' := ?_) #[true, true, true, true, true, true, true, true, true, true, true, true, true, true, true, true, true, true, true, true, true, true, true, true, true, true, true, true, true, true, false, false, false, false, false, false, false, false, false] rfl rfl (any_of HT_.out (by kernel_rfl)) (fun _ _ _ h => h) (Or.inl ⟨by rfl, ?_⟩) ?_ ?_
                                      rotate_left
                                      · intro w'
                                        go_simp
                                        with_reducible rfl
                                      rotate_left
                                      · simp only [Act.put, List.setIfInBounds_toArray, ↓set64_, ↓set8_, List.set_cons_zero, List.set_cons_succ, i64_w, i32_w]
                                        rfl
                                      refine pure_ (i := 30) (N := some 618) (v := undef) (a' := ?_) #[true, true, true, true, true, true, true, true, true, true, true, true, true, true, true, true, true, true, true, true, true, true, true, true, true, true, true, true, true, true, true, false, false, false, false, false, false, false, false] rfl rfl (any_of HT_.out (by kernel_rfl)) (fun _ _ _ h => h) (Or.inr ⟨by rfl, rfl⟩) ?_ ?_
                                      rotate_left
                                      · simp only [Act.put, List.setIfInBounds_toArray, ↓set64_, ↓set8_, List.set_cons_zero, List.set_cons_succ, i64_w, i32_w]
                                        rfl
                                      refine pure_ (i := 31) (N := some 619) (v := undef) (a' := ?_) #[true, true, true, true, true, true, true, true, true, true, true, true, true, true, true, true, true, true, true, true, true, true, true, true, true, true, true, true, true, true, true, true, false, false, false, false, false, false, false] rfl rfl (any_of HT_.out (by kernel_rfl)) (fun _ _ _ h => h) (Or.inr ⟨by rfl, rfl⟩) ?_ ?_
                                      rotate_left
                                      · simp only [Act.put, List.setIfInBounds_toArray, ↓set64_, ↓set8_, List.set_cons_zero, List.set_cons_succ, i64_w, i32_w]
                                        rfl
                                      refine pure_ (i := 32) (N := some 620) (v := undef) (a' := ?_) #[true, true, true, true, true, true, true, true, true, true, true, true, true, true, true, true, true, true, true, true, true, true, true, true, true, true, true, true, true, true, true, true, true, false, false, false, false, false, false] rfl rfl (any_of HT_.out (by kernel_rfl)) (fun _ _ _ h => h) (Or.inr ⟨by rfl, rfl⟩) ?_ ?_
                                      rotate_left
                                      · simp only [Act.put, List.setIfInBounds_toArray, ↓set64_, ↓set8_, List.set_cons_zero, List.set_cons_succ, i64_w, i32_w]
                                        rfl
                                      refine pure_ (i := 33) (N := some 621) (v := undef) (a' := ?_) #[true, true, true, true, true, true, true, true, true, true, true, true, true, true, true, true, true, true, true, true, true, true, true, true, true, true, true, true, true, true, true, true, true, true, false, false, false, false, false] rfl rfl (any_of HT_.out (by kernel_rfl)) (fun _ _ _ h => h) (Or.inr ⟨by rfl, rfl⟩) ?_ ?_
                                      rotate_left
                                      · simp only [Act.put, List.setIfInBounds_toArray, ↓set64_, ↓set8_, List.set_cons_zero, List.set_cons_succ, i64_w, i32_w]
                                        rfl
                                      refine pure_ (i := 34) (N := some 622) (v := undef) (a' := ?_) #[true, true, true, true, true, true, true, true, true, true, true, true, true, true, true, true, true, true, true, true, true, true, true, true, true, true, true, true, true, true, true, true, true, true, true, false, false, false, false] rfl rfl (any_of HT_.out (by kernel_rfl)) (fun _ _ _ h => h) (Or.inr ⟨by rfl, rfl⟩) ?_ ?_
                                      rotate_left
                                      · simp only [Act.put, List.setIfInBounds_toArray, ↓set64_, ↓set8_, List.set_cons_zero, List.set_cons_succ, i64_w, i32_w]
                                        rfl
                                      refine pure_ (i := 35) (N := some 623) (v := undef) (a' := ?_) #[true, true, true, true, true, true, true, true, true, true, true, true, true, true, true, true, true, true, true, true, true, true, true, true, true, true, true, true, true, true, true, true, true, true, true, true, false, false, false] rfl rfl (any_of HT_.out (by kernel_rfl)) (fun _ _ _ h => h) (Or.inr ⟨by rfl, rfl⟩) ?_ ?_
                                      rotate_left
                                      · simp only [Act.put, List.setIfInBounds_toArray, ↓set64_, ↓set8_, List.set_cons_zero, List.set_cons_succ, i64_w, i32_w]
                                        rfl
                                      refine pure_ (i := 36) (N := some 624) (v := ?_) (a' := ?_) #[true, true, true, true, true, true, true, true, true, true, true, true, true, true, true, true, true, true, true, true, true, true, true, true, true, true, true, true, true, true, true, true, true, true, true, true, true, false, false] rfl rfl (any_of HT_.out (by kernel_rfl)) (fun _ _ _ h => h) (Or.inl ⟨by rfl, ?_⟩) ?_ ?_
                                      rotate_left
                                      · intro w'
                                        go_simp
                                        with_reducible rfl
                                      rotate_left
                                      · simp only [Act.put, List.setIfInBounds_toArray, ↓set64_, ↓set8_, List.set_cons_zero, List.set_cons_succ, i64_w, i32_w]
                                        rfl
                                      refine pure_ (i := 37) (N := some 625) (v := ?_) (a' := ?_) #[true, true, true, true, true, true, true, true, true, true, true, true, true, true, true, true, true, true, true, true, true, true, true, true, true, true, true, true, true, true, true, true, true, true, true, true, true, true, false] rfl rfl (any_of HT_.out (by kernel_rfl)) (fun _ _ _ h => h) (Or.inl ⟨by rfl, ?_⟩) ?_ ?_
                                      rotate_left
                                      · intro w'
                                        go_simp
                                        with_reducible rfl
                                      rotate_left
                                      · simp only [Act.put, List.setIfInBounds_toArray, ↓set64_, ↓set8_, List.set_cons_zero, List.set_cons_succ, i64_w, i32_w]
                                        rfl
                                      refine pure_ (i := 38) (N := some 4) (v := ?_) (a' := ?_) #[true, true, true, true, true, true, true, true, true, true, true, true, true, true, true, true, true, true, true, true, true, true, true, true, true, true, true, true, true, true, true, true, true, true, true, true, true, true, true] rfl rfl (any_of HT_.out (by kernel_rfl)) (fun _ _ _ h => h) (Or.inl ⟨by rfl, ?_⟩) ?_ ?_
                                      rotate_left
                                      · intro w'
                                        go_simp
                                        with_reducible rfl
                                      rotate_left
                                      · simp only [Act.put, List.setIfInBounds_toArray, ↓set64_, ↓set8_, List.set_cons_zero, List.set_cons_succ, i64_w, i32_w]
                                        rfl
                                      refine done_ (done_of HT_.out (by kernel_rfl)) ?_
                                      try go_wp2
                                      go_ret
                                      exact ⟨by first | rfl | (simp [errW_none, errW_some] <;> rfl) | (simp [*, errW_none, errW_some] <;> rfl), HL⟩
                                · rw [if_neg c2153] at H
                                  have c2153b0 : (t500 == (wrap64 (-t496))) = false := beq_eq_false_iff_ne.mpr c2153
                                  have c2153b1 : (t500 != (wrap64 (-t496))) = true := bne_iff_ne.mpr c2153
                                  exact absurd H (by simp)
                              · rw [if_neg c2152] at H
                                have c2152b0 : (t501 == t497) = false := by simpa using c2152
                                (try (have c2152b1 : decide (t501 = t497) = false := by simpa using c2152))
                                (try (have c2152b2 : (t501 == t497) = false := by simpa using c2152))
                                (try (have c2152b3 : ¬ (t501 = t497) := by simpa using c2152))
                                clear c2152
                                exact absurd H (by simp)
                            · rw [if_neg c2151] at H
                              have c2151b0 : (t496 == t498) = false := beq_eq_false_iff_ne.mpr c2151
                              have c2151b1 : (t496 != t498) = true := bne_iff_ne.mpr c2151
                              exact absurd H (by simp)
                          · rw [if_neg c2150] at H
                            have c2150b0 : (t497 == t499) = false := by simpa using c2150
                            (try (have c2150b1 : decide (t497 = t499) = false := by simpa using c2150))
                            (try (have c2150b2 : (t497 == t499) = false := by simpa using c2150))
                            (try (have c2150b3 : ¬ (t497 = t499) := by simpa using c2150))
                            clear c2150
                            exact absurd H (by simp)
                        · rw [if_neg c2149] at H
                          have c2149b0 : (t502 == t503) = false := by simpa using c2149
                          (try (have c2149b1 : decide (t502 = t503) = false := by simpa using c2149))
                          (try (have c2149b2 : (t502 == t503) = false := by simpa using c2149))
                          (try (have c2149b3 : ¬ (t502 = t503) := by simpa using c2149))
                          clear c2149
                          exact absurd H (by simp)
/-- THE ONE PURE STATEMENT of laws_FnRuinAddsUp: yours. -/
def laws_FnRuinAddsUp.Pure : Prop := ∀ (l0 : List Int) (l1 : List Int), l0.length ≤ maxLen → l0.length * 1 ≤ 140737488351232 → (∀ x ∈ l0, (Lit.int .u8 x).wf = true) → l1.length ≤ maxLen → l1.length * 1 ≤ 140737488351232 → (∀ x ∈ l1, (Lit.int .u8 x).wf = true) → ∃ k, laws_FnRuinAddsUp.f k l0 l1 = some true
theorem laws_FnRuinAddsUp.walk (P : laws_FnRuinAddsUp.Pure) (a0 : Option Addr) (len0 cap0 : Nat) (z0 : List Int) (a1 : Option Addr) (len1 cap1 : Nat) (z1 : List Int) (w : World) (w0 : (a0 = none ∧ len0 = 0 ∧ cap0 = 0 ∧ z0 = []) ∨ ∃ x, a0 = some x ∧ len0 ≤ cap0 ∧ cap0 ≤ maxLen ∧ z0.length = cap0 ∧ (∀ i, i < z0.length → w.cell? (x.add i) = some (.int .u8 (z0.getD i 0))) ∧ ∀ n ∈ z0, (Lit.int .u8 n).wf = true) (y0 : len0 * 1 ≤ 140737488351232) (w1 : (a1 = none ∧ len1 = 0 ∧ cap1 = 0 ∧ z1 = []) ∨ ∃ x, a1 = some x ∧ len1 ≤ cap1 ∧ cap1 ≤ maxLen ∧ z1.length = cap1 ∧ (∀ i, i < z1.length → w.cell? (x.add i) = some (.int .u8 (z1.getD i 0))) ∧ ∀ n ∈ z1, (Lit.int .u8 n).wf = true) (y1 : len1 * 1 ≤ 140737488351232) :
    Calls Try.prog 4 #[.slice a0 len0 cap0, .slice a1 len1 cap1] w fun e w' => e = .returned (.bool true) ∧ Below w.heap.size w w' := by
  obtain ⟨l0, rfl, hr0, hm0, hw0, hc0⟩ := ReadsInt.ofRowC w0
  obtain ⟨l1, rfl, hr1, hm1, hw1, hc1⟩ := ReadsInt.ofRowC w1
  obtain ⟨k, h⟩ := P l0 l1 hm0 y0 hw0 hm1 y1 hw1
  refine (laws_FnRuinAddsUp.calls k _ _ l0 _ _ l1 true w (Kd.C_of_reads (d := (0 : Int)) (h1 := fun _ => rfl) hr0) hc0 (Kd.C_of_reads (d := (0 : Int)) (h1 := fun _ => rfl) hr1) hc1 h).mono ?_
  rintro e w' ⟨rfl, hd⟩
  exact ⟨rfl, hd⟩
end Go.Proofs.Ytfembmnagkdnhaa.OFnRuinAddsUp
