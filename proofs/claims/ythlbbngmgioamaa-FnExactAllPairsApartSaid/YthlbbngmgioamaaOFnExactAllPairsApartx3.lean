/- The functions that 'FnExactAllPairsApart' runs, each as a function over numbers and lists, with the proof that the Go text comes to its answers. No condition. -/
import Derived.Test.YthlbbngmgioamaaOFnExactAllPairsApartx0
import Derived.Test.YthlbbngmgioamaaOFnExactAllPairsApartx2
namespace Go.Proofs.Ythlbbngmgioamaa.OFnExactAllPairsApart
open Go.Proofs.Ythlbbngmgioamaa.Stub
open Go.RowKit Go.Proofs.YthlbbngmgioamaaW.PrintWords Go.Proofs.YthlbbngmgioamaaW.PrintLast Go.Proofs.YthlbbngmgioamaaW.PrintMore
attribute [local go_sem] max2_int min2_int max_two min_two max_three min_three max_four min_four   -- for this text's walks alone
set_option linter.unusedVariables false
set_option linter.unusedSimpArgs false

/-! ### spec_ncTexts: function 21 -/
theorem Zrb {p : Prop} (h : p := by first | rfl | (simp [errW_none, errW_some] <;> rfl) | (simp [*, errW_none, errW_some] <;> rfl)) : p := h
theorem Zbb {p : Prop} (h : p := by repeat (first | (with_reducible first | exact HB.out | apply below_alloc | apply pw_below_drewN | apply below_drew1) | exact HB.out)) : p := h
theorem y1b {α : Type} (l : List α) (i : Nat) (a : α) : l.toArray.setIfInBounds i a = (l.set i a).toArray := List.setIfInBounds_toArray l i a
theorem y2b {α : Type} {x : α} {xs : List α} {b : α} : (x :: xs).set 0 b = b :: xs := List.set_cons_zero
theorem y3b {α : Type} {x : α} {xs : List α} {n : Nat} {b : α} : (x :: xs).set (n + 1) b = x :: xs.set n b := List.set_cons_succ
theorem Abq {p : Prop} (h : p) : Aside0 p := Aside0.mk h
theorem Zb1 {p : Prop} (h : p := by rw [hg]; exact (below_size (by repeat (first | (with_reducible first | exact HB.out | apply below_alloc | apply pw_below_drewN | apply below_drew1 | refine below_set ?_ GE133.out) | exact HB.out)))) : p := h
theorem Zb2 {p : Prop} (h : p := by repeat (first | (with_reducible first | exact HB.out | apply below_alloc | apply pw_below_drewN | apply below_drew1 | refine below_set ?_ GE133.out | refine below_set ?_ GE134.out) | exact HB.out)) : p := h
theorem Zb3 {p : Prop} (h : p := by rw [hg]; exact (below_size (Zbb))) : p := h
theorem Zb4 {p : Prop} (h : p := by (try simp only [List.map_toArray, List.map_cons, List.map_nil]); first | done | rfl | (simp only [List.length_drop, List.length_take]; rfl)) : p := h
theorem Zb5 {p : Prop} (h : p := by repeat (first | (with_reducible first | exact HB.out | apply below_alloc | apply pw_below_drewN | apply below_drew1) | exact HB.out)) : p := h
theorem Zb6 {p : Prop} (h : p := by (with_reducible repeat (first | refine blk_drewN ?_ _ | refine blk_drew ?_ | refine blk_alloc ?_ _)); exact BK133.out) : p := h
theorem Zb7 {p : Prop} (h : p := by first | rfl | (simp; done) | (simp [*]; done) | (simp only [i64_w]; done)) : p := h
mutual
def spec_ncTexts.j0 : Nat → Int → Int → Bool → Option (List ByteArray)
  | 0, _, _, _ => none
  | k + 1, x0, x1, x15 => if x15 = true then (some ([] : List ByteArray)) else (if (wrap64 (x0 + x1)) = 0 then (some (([(⟨#[]⟩ : ByteArray)] : List ByteArray))) else ((spec_ncTexts.f k (wrap64 (x0 - 1)) x1).bind fun t119 => (spec_ncTexts.l0 k x0 x1 ([] : List ByteArray) t119 (t119.length : Int) 0)))
def spec_ncTexts.l0 : Nat → Int → Int → List ByteArray → List ByteArray → Int → Int → Option (List ByteArray)
  | 0, _, _, _, _, _, _ => none
  | k + 1, x0, x1, x5, x24, x25, x26 => if x26 < x25 then (if 0 ≤ x26 then (if x26 < (x24.length : Int) then (if 1 + (rdOf ByteArray.empty x24 x26).size ≤ 9223372036854775807 then (if x5.length < 8796093022208 then (spec_ncTexts.l0 k x0 x1 (x5 ++ [(⟨#[69]⟩ : ByteArray) ++ (rdOf ByteArray.empty x24 x26)]) x24 x25 (wrap64 (x26 + 1))) else (none)) else (none)) else (none)) else (none)) else ((spec_ncTexts.f k x0 (wrap64 (x1 - 1))).bind fun t126 => (spec_ncTexts.l1 k x5 t126 (t126.length : Int) 0))
def spec_ncTexts.l1 : Nat → List ByteArray → List ByteArray → Int → Int → Option (List ByteArray)
  | 0, _, _, _, _ => none
  | k + 1, x5, x39, x40, x41 => if x41 < x40 then (if 0 ≤ x41 then (if x41 < (x39.length : Int) then (if 1 + (rdOf ByteArray.empty x39 x41).size ≤ 9223372036854775807 then (if x5.length < 8796093022208 then (spec_ncTexts.l1 k (x5 ++ [(⟨#[78]⟩ : ByteArray) ++ (rdOf ByteArray.empty x39 x41)]) x39 x40 (wrap64 (x41 + 1))) else (none)) else (none)) else (none)) else (none)) else (some x5)
def spec_ncTexts.f : Nat → Int → Int → Option (List ByteArray)
  | 0, _, _ => none
  | k + 1, a0, a1 => if a0 < 0 then (spec_ncTexts.j0 k a0 a1 true) else (spec_ncTexts.j0 k a0 a1 (decide (a1 < 0)))
end
theorem spec_ncTexts.mono_l : ∀ k, (∀ y0 y1, LeO (spec_ncTexts.f k y0 y1) (spec_ncTexts.f (k + 1) y0 y1)) ∧ (∀ y0 y1 y2, LeO (spec_ncTexts.j0 k y0 y1 y2) (spec_ncTexts.j0 (k + 1) y0 y1 y2)) ∧ (∀ y0 y1 y2 y3 y4 y5, LeO (spec_ncTexts.l0 k y0 y1 y2 y3 y4 y5) (spec_ncTexts.l0 (k + 1) y0 y1 y2 y3 y4 y5)) ∧ (∀ y0 y1 y2 y3, LeO (spec_ncTexts.l1 k y0 y1 y2 y3) (spec_ncTexts.l1 (k + 1) y0 y1 y2 y3))
  | 0 => ⟨fun _ _ r h => by simp [spec_ncTexts.f] at h, fun _ _ _ r h => by simp [spec_ncTexts.j0] at h, fun _ _ _ _ _ _ r h => by simp [spec_ncTexts.l0] at h, fun _ _ _ _ r h => by simp [spec_ncTexts.l1] at h⟩
  | k + 1 => by
    obtain ⟨ih0, ih1, ih2, ih3⟩ := spec_ncTexts.mono_l k
    refine ⟨?_, ?_, ?_, ?_⟩
    · intro y0 y1
      unfold spec_ncTexts.f
      repeat' first
      | (with_reducible exact ih0 _ _)
      | (with_reducible exact ih1 _ _ _)
      | (with_reducible exact ih2 _ _ _ _ _ _)
      | (with_reducible exact ih3 _ _ _ _)
      | (with_reducible exact LeO.refl _)
      | (with_reducible exact LeO.none _)
      | (with_reducible refine LeO.ite ?_ ?_)
      | (with_reducible refine LeO.bind ?_ (fun _ => ?_))
      | exact ih0 _ _
      | exact ih1 _ _ _
      | exact ih2 _ _ _ _ _ _
      | exact ih3 _ _ _ _
      | exact LeO.none _
      | refine LeO.ite ?_ ?_
      | refine LeO.bind ?_ (fun _ => ?_)
    · intro y0 y1 y2
      unfold spec_ncTexts.j0
      repeat' first
      | (with_reducible exact ih0 _ _)
      | (with_reducible exact ih1 _ _ _)
      | (with_reducible exact ih2 _ _ _ _ _ _)
      | (with_reducible exact ih3 _ _ _ _)
      | (with_reducible exact LeO.refl _)
      | (with_reducible exact LeO.none _)
      | (with_reducible refine LeO.ite ?_ ?_)
      | (with_reducible refine LeO.bind ?_ (fun _ => ?_))
      | exact ih0 _ _
      | exact ih1 _ _ _
      | exact ih2 _ _ _ _ _ _
      | exact ih3 _ _ _ _
      | exact LeO.none _
      | refine LeO.ite ?_ ?_
      | refine LeO.bind ?_ (fun _ => ?_)
    · intro y0 y1 y2 y3 y4 y5
      unfold spec_ncTexts.l0
      repeat' first
      | (with_reducible exact ih0 _ _)
      | (with_reducible exact ih1 _ _ _)
      | (with_reducible exact ih2 _ _ _ _ _ _)
      | (with_reducible exact ih3 _ _ _ _)
      | (with_reducible exact LeO.refl _)
      | (with_reducible exact LeO.none _)
      | (with_reducible refine LeO.ite ?_ ?_)
      | (with_reducible refine LeO.bind ?_ (fun _ => ?_))
      | exact ih0 _ _
      | exact ih1 _ _ _
      | exact ih2 _ _ _ _ _ _
      | exact ih3 _ _ _ _
      | exact LeO.none _
      | refine LeO.ite ?_ ?_
      | refine LeO.bind ?_ (fun _ => ?_)
    · intro y0 y1 y2 y3
      unfold spec_ncTexts.l1
      repeat' first
      | (with_reducible exact ih0 _ _)
      | (with_reducible exact ih1 _ _ _)
      | (with_reducible exact ih2 _ _ _ _ _ _)
      | (with_reducible exact ih3 _ _ _ _)
      | (with_reducible exact LeO.refl _)
      | (with_reducible exact LeO.none _)
      | (with_reducible refine LeO.ite ?_ ?_)
      | (with_reducible refine LeO.bind ?_ (fun _ => ?_))
      | exact ih0 _ _
      | exact ih1 _ _ _
      | exact ih2 _ _ _ _ _ _
      | exact ih3 _ _ _ _
      | exact LeO.none _
      | refine LeO.ite ?_ ?_
      | refine LeO.bind ?_ (fun _ => ?_)
theorem spec_ncTexts.mono : ∀ a0 a1 k, LeO (spec_ncTexts.f k a0 a1) (spec_ncTexts.f (k + 1) a0 a1) := by
  intro a0 a1 k
  obtain ⟨ih0, ih1, ih2, ih3⟩ := spec_ncTexts.mono_l k
  exact ih0 a0 a1
set_option maxHeartbeats 8000000 in
set_option maxRecDepth 100000 in
theorem spec_ncTexts.calls (k : Nat) : ∀ (a0 : Int) (a1 : Int) (r : List ByteArray) (w : World) (h : spec_ncTexts.f k a0 a1 = some r),
    Calls Try.prog 21 #[.int .i64 a0, .int .i64 a1] w fun e w' => ∃ v0_ : Value, e = .returned (v0_) ∧ Kd.R Kd.string 9 w' w.heap.size (fun _ => True) v0_ r ∧ Below w.heap.size w w' := by
 induction k using Nat.strongRecOn with
 | _ k ih =>
 intro a0 a1 r w h
 cases k with
 | zero => exact absurd h (by simp [spec_ncTexts.f])
 | succ k =>
 simp only [spec_ncTexts.f] at h
 have HB := Abq (Below.refl w.heap.size w)
 have H : (if a0 < 0 then (spec_ncTexts.j0 k a0 a1 true) else (spec_ncTexts.j0 k a0 a1 (decide (a1 < 0)))) = some r := h
 clear h
 have HC3 := Abq H
 clear H
 go_enter Try.func21, Try.ntmps21
 go_upto_region 1 with (fail)
 go_cut [15] (fun v15 wc => ∃ (kq : Nat) (x15_2 : Bool), v15 = .bool x15_2 ∧ Aside0 (spec_ncTexts.j0 kq a0 a1 x15_2 = some r) ∧ Aside0 (kq ≤ k) ∧ Aside0 (Below w.heap.size w wc))
 case first =>
  have H := HC3.out
  clear HC3
  by_cases c4 : a0 < 0
  ·
   rw [if_pos c4] at H
   have c4b0 : decide (a0 < 0) = true := decide_eq_true c4
   clear c4
   (first | rw [c4b0] | (simp only [i64_w, i32_w]; rw [c4b0]) | skip)
   have H' := Abq H
   clear H
   go_wp2
   go_meet
   case rel => exact ⟨_, (true), Zb7, H', ⟨by first | omega | exact Nat.le_refl _⟩, ⟨Zbb⟩⟩
  ·
   rw [if_neg c4] at H
   have c4b0 : decide (a0 < 0) = false := decide_eq_false c4
   clear c4
   (first | rw [c4b0] | (simp only [i64_w, i32_w]; rw [c4b0]) | skip)
   have H' := Abq H
   clear H
   go_wp2
   go_meet
   case rel => exact ⟨_, (decide (a1 < 0)), Zb7, H', ⟨by first | omega | exact Nat.le_refl _⟩, ⟨Zbb⟩⟩
 case rest =>
  clear HC3
  try clear c2
  try clear p2
  try clear c4
  try clear c4b0
  obtain ⟨kq, x15_2, rfl, HA, HJ2, HB⟩ := hcut
  cases kq with
  | zero => exact absurd HA.out (by simp [spec_ncTexts.j0])
  | succ kj2 =>
   have H := HA.out
   clear HA
   simp only [spec_ncTexts.j0] at H
   by_cases c5 : x15_2 = true
   ·
    subst c5
    have H1 : (some ([] : List ByteArray)) = some r := by rw [if_pos rfl] at H; exact H
    clear H
    have H := H1
    clear H1
    obtain rfl := Option.some.inj H
    go_wp2
    go_ret
    exact ⟨_, Zrb, by first | exact Kd.R_nil _ _ _ _ _ | exact Kd.N_nil _ _ _ _ _ | exact Kd.V_nil _ _ _ _ _ | exact Kd.Q_nil _ _ _ _ _ | exact Kd.S_nil _ _ _ _ _, Zbb⟩
   ·
    replace c5 := Bool.eq_false_iff.mpr c5
    subst c5
    have H1 : (if (wrap64 (a0 + a1)) = 0 then (some (([(⟨#[]⟩ : ByteArray)] : List ByteArray))) else ((spec_ncTexts.f kj2 (wrap64 (a0 - 1)) a1).bind fun t119 => (spec_ncTexts.l0 kj2 a0 a1 ([] : List ByteArray) t119 (t119.length : Int) 0))) = some r := by rw [if_neg (show ¬ (false = true) by decide)] at H; exact H
    clear H
    have H := H1
    clear H1
    by_cases c6 : (wrap64 (a0 + a1)) = 0
    ·
     rw [if_pos c6] at H
     have c6b0 : ((wrap64 (a0 + a1)) == 0) = true := beq_iff_eq.mpr c6
     have c6b1 : ((wrap64 (a0 + a1)) != 0) = false := bne_eq_false_iff_eq.mpr c6
     clear c6
     obtain ⟨y116, hy116⟩ : ∃ y_ : List ByteArray, y_ = (([(⟨#[]⟩ : ByteArray)] : List ByteArray)) := ⟨_, rfl⟩
     replace H : (some y116) = some r := by first | (rw [hy116]; with_reducible exact H) | (have H2_ := (Option.bind_some _ _).symm.trans H; rw [hy116]; with_reducible exact H2_) | (have H2_ := (Option.bind_some _ _).symm.trans H; with_reducible exact H2_) | with_reducible exact H | (rw [hy116]; exact H) | exact H
     have Ny116 := Abq hy116
     clear hy116
     obtain rfl := Option.some.inj H
     go_wp2_with (first | ((with_reducible refine gate_dst (N := 20) rfl ?_); refine Kd.R_lit Kd.string _ 9 ?hg (N := 20) ?hd (xs := ([(⟨#[]⟩ : ByteArray)] : List ByteArray)) (inner := [.string (⟨#[]⟩ : ByteArray)]) (ok := fun _ => True) (okp := fun _ => True) ?hr ?hp (fun _ hk => hk) trivial (Below.refl _ _) (Nat.le_refl _) (by simp) ?_; (case hd => rfl); (case hg => rfl); (case hr => first | (go_simp; done) | (go_simp; rfl)); (case hp => exact (Reps.one (show Kd.M Kd.string _ _ _ (⟨#[]⟩ : ByteArray) [.string (⟨#[]⟩ : ByteArray)] from rfl) (Reps.none _ _))); intro v117 w7 ho8 hb hg_ hnew_; clear hg_ hnew_; (first | rw [← Ny116.out] at ho8 | (simp only [Int.reduceToNat] at ho8; rw [← Ny116.out] at ho8)); have n0_ := Abq (Kd.R_lower ho8 (below_size Zb5)); have n1_ := Abq (below_step Zb5 hb); clear HB; have HO118 := n0_; have HB := n1_; clear n0_ n1_; clear hb ho8))
     go_ret
     exact ⟨_, Zrb, by (with_reducible repeat (first | apply Kd.R_alloc | apply Kd.R_drewN | apply Kd.R_drew)); exact HO118.out, Zbb⟩
    ·
     rw [if_neg c6] at H
     have c6b0 : ((wrap64 (a0 + a1)) == 0) = false := beq_eq_false_iff_ne.mpr c6
     have c6b1 : ((wrap64 (a0 + a1)) != 0) = true := bne_iff_ne.mpr c6
     replace H := Option.bind_eq_some_iff.mp H
     obtain ⟨t119, A90, H⟩ := H
     replace H : (spec_ncTexts.l0 kj2 a0 a1 ([] : List ByteArray) t119 (t119.length : Int) 0) = some r := H
     have A9 := Abq A90
     clear A90
     have H' := Abq H
     clear H
     go_wp2_with (first | ((with_reducible refine gate_callee (f := 21) rfl ?_); refine goesL_ (some 24) rfl rfl Try.func21 (by kernel_rfl) rfl #[.int .i64 (wrap64 (a0 - 1)), .int .i64 a1] rfl Zb4 ?_; (with_reducible refine (ih kj2 (by have := HJ2.out; omega) (wrap64 (a0 - 1)) a1 t119 _ A9.out).mono ?_); rintro e w10 ⟨v120, rfl, ho0, hb⟩; refine ⟨_, rfl, ?_⟩; have n0_ := Abq (Kd.R_lower ho0 (below_size Zb5)); have n1_ := Abq (below_step Zb5 hb); clear HB; have HO121 := n0_; have HB := n1_; clear n0_ n1_; (try clear hb); (try clear ho0); obtain ⟨Ao11, co11, eo11⟩ := Kd.R_slice HO121.out; subst eo11))
     go_loopg [5, 26] kj2 (fun kq v5 v26 w' => ∃ (x5_2 : List ByteArray) (x26_2 : Int), v26 = .int .i64 x26_2 ∧ Aside0 (spec_ncTexts.l0 kq a0 a1 x5_2 t119 (t119.length : Int) x26_2 = some r) ∧ Aside0 (kq ≤ kj2) ∧ Aside0 (Kd.R Kd.string 9 w' w.heap.size (fun k_ => some k_ ≠ ((.slice Ao11 t119.length co11) : Value).ownBlock) v5 x5_2) ∧ Aside0 (Kd.R Kd.string 9 w' w.heap.size (fun k_ => some k_ ≠ (v5 : Value).ownBlock) (.slice Ao11 t119.length co11) t119) ∧ Aside0 (Below w.heap.size w w'))
     case atStart => exact ⟨(([] : List ByteArray)), (0), Zb7, H', ⟨Nat.le_refl _⟩, ⟨by first | exact Kd.R_nil _ _ _ _ _ | exact Kd.N_nil _ _ _ _ _ | exact Kd.V_nil _ _ _ _ _ | exact Kd.Q_nil _ _ _ _ _ | exact Kd.S_nil _ _ _ _ _⟩, ⟨by (with_reducible repeat (first | apply Kd.R_alloc | apply Kd.R_drewN | apply Kd.R_drew)); exact Kd.R_mono HO121.out (fun _ hk => (by simp [Value.ownBlock]))⟩, ⟨Zbb⟩⟩
     case round =>
      clear H'
      try clear c2
      try clear p2
      try clear c4
      try clear c4b0
      try clear c5
      try clear c6
      try clear c6b0
      try clear c6b1
      try clear p6
      try clear p2
      obtain ⟨x5_2, x26_2, rfl, HA, HK2, HO_5, HO_24, HB⟩ := hrel
      cases gk with
      | zero => exact absurd HA.out (by simp [spec_ncTexts.l0])
      | succ k2 =>
       have H := HA.out
       clear HA
       simp only [spec_ncTexts.l0] at H
       by_cases c12 : x26_2 < (t119.length : Int)
       ·
        rw [if_pos c12] at H
        have c12b0 : decide (x26_2 < (t119.length : Int)) = true := decide_eq_true c12
        clear c12
        by_cases c13 : 0 ≤ x26_2
        ·
         rw [if_pos c13] at H
         have c13b0 : decide (0 ≤ x26_2) = true := decide_eq_true c13
         clear c13
         by_cases c14 : x26_2 < (t119.length : Int)
         ·
          rw [if_pos c14] at H
          have c14b0 : decide (x26_2 < (t119.length : Int)) = true := decide_eq_true c14
          clear c14
          by_cases c15 : 1 + (rdOf ByteArray.empty t119 x26_2).size ≤ 9223372036854775807
          ·
           rw [if_pos c15] at H
           have c15b0 := eq_true c15
           have c15b1 : decide (1 + (rdOf ByteArray.empty t119 x26_2).size ≤ 9223372036854775807) = true := decide_eq_true c15
           try have c15b2 : (9223372036854775807 < 1 + (rdOf ByteArray.empty t119 x26_2).size) = False := eq_false (Nat.not_lt.2 c15)
           by_cases c16 : x5_2.length < 8796093022208
           ·
            rw [if_pos c16] at H
            have LMc16 := Abq c16
            clear c16
            obtain ⟨y123, hy123⟩ : ∃ y_ : List ByteArray, y_ = (x5_2 ++ [(⟨#[69]⟩ : ByteArray) ++ (rdOf ByteArray.empty t119 x26_2)]) := ⟨_, rfl⟩
            replace H : (spec_ncTexts.l0 k2 a0 a1 y123 t119 (t119.length : Int) (wrap64 (x26_2 + 1))) = some r := by first | (rw [hy123]; with_reducible exact H) | (have H2_ := (Option.bind_some _ _).symm.trans H; rw [hy123]; with_reducible exact H2_) | (have H2_ := (Option.bind_some _ _).symm.trans H; with_reducible exact H2_) | with_reducible exact H | (rw [hy123]; exact H) | exact H
            have Ny123 := Abq hy123
            clear hy123
            have H' := Abq H
            clear H
            have p122 : 0 ≤ (x26_2 : Int) := of_decide_eq_true (by first | (with_reducible assumption) | assumption)
            have q122 : x26_2 < (t119.length : Int) := of_decide_eq_true (by first | (with_reducible assumption) | assumption)
            obtain ⟨ad122, e122, hx122_0⟩ := Kd.at_string (Kd.R_reads' HO_24.out).2.2 x26_2 p122 q122
            cases e122
            replace p122 := eq_true p122
            replace q122 := eq_true q122
            go_wp2_with (first | ((with_reducible refine gate_builtin (b := .append) (xs := #[.tmp 30, .tmp 33]) rfl ?_); at_builtin; refine Kd.R_append Kd.string (w0 := w) w.heap.size rfl (.tmp 30) (.tmp 33) 46 9 (.string ⟨#[]⟩) 16 rfl Try.underlying46 info9 rfl (by decide) (by omega) u5 x5_2 ((⟨#[69]⟩ : ByteArray) ++ (rdOf ByteArray.empty t119 x26_2)) [.string ((⟨#[69]⟩ : ByteArray) ++ (rdOf ByteArray.empty t119 x26_2))] (fun k_ => some k_ ≠ (.slice (some ad122) t119.length co11 : Value).ownBlock) (fun _ => False) rfl rfl ?aP (fun _ hk => hk.elim) ?aF ?aO ?aB ?aS ?aL ?_; (case aP => exact rfl); (case aB => exact Zb5); (case aF => exact (fun k_ hk => Kd.fresh' (Kd.R_lt (by (with_reducible repeat (first | apply Kd.R_alloc | apply Kd.R_drewN | apply Kd.R_drew)); exact HO_24.out)) k_ hk)); (case aO => exact (by (with_reducible repeat (first | apply Kd.R_alloc | apply Kd.R_drewN | apply Kd.R_drew)); exact HO_5.out)); (case aS => exact (below_size Zb5)); (case aL => have := LMc16.out; omega); intro v124 w17 ho hb hg hat; rw [← Ny123.out] at ho; have n0_ := Abq (Kd.R_after (ok := (fun _ => True)) (by (with_reducible repeat (first | apply Kd.R_alloc | apply Kd.R_drewN | apply Kd.R_drew)); exact Kd.R_mono HO_24.out (fun _ hk => ⟨trivial, hk⟩)) hg hat); have n1_ := Abq (hb); have n2_ := Abq (ho); clear HO_24; clear HB; clear HO_5; have HO_24 := n0_; have HB := n1_; have HO125 := n2_; clear n0_ n1_ n2_; clear ho hb hg hat))
            go_roundg k2
            case measure => have := HJ2.out; have := HK2.out; omega
            case rel => exact ⟨(y123), (wrap64 (x26_2 + 1)), Zb7, H', ⟨by have := HJ2.out; have := HK2.out; omega⟩, ⟨by (with_reducible repeat (first | apply Kd.R_alloc | apply Kd.R_drewN | apply Kd.R_drew)); exact HO125.out⟩, ⟨by (with_reducible repeat (first | apply Kd.R_alloc | apply Kd.R_drewN | apply Kd.R_drew)); exact Kd.R_mono HO_24.out (fun _ hk => hk.2)⟩, ⟨Zbb⟩⟩
           ·
            rw [if_neg c16] at H
            exact absurd H (by simp)
          ·
           rw [if_neg c15] at H
           exact absurd H (by simp)
         ·
          rw [if_neg c14] at H
          exact absurd H (by simp)
        ·
         rw [if_neg c13] at H
         exact absurd H (by simp)
       ·
        rw [if_neg c12] at H
        have c12b0 : decide (x26_2 < (t119.length : Int)) = false := decide_eq_false c12
        clear c12
        replace H := Option.bind_eq_some_iff.mp H
        obtain ⟨t126, A180, H⟩ := H
        replace H : (spec_ncTexts.l1 k2 x5_2 t126 (t126.length : Int) 0) = some r := H
        have A18 := Abq A180
        clear A180
        have H' := Abq H
        clear H
        go_wp2_with (first | ((with_reducible refine gate_callee (f := 21) rfl ?_); refine goesL_ (some 39) rfl rfl Try.func21 (by kernel_rfl) rfl #[.int .i64 a0, .int .i64 (wrap64 (a1 - 1))] rfl Zb4 ?_; (with_reducible refine (ih k2 (by have := HJ2.out; have := HK2.out; omega) a0 (wrap64 (a1 - 1)) t126 _ A18.out).mono ?_); rintro e w19 ⟨v127, rfl, ho0, hb⟩; refine ⟨_, rfl, ?_⟩; have n0_ := Abq (Kd.R_elder' (by (with_reducible repeat (first | apply Kd.R_alloc | apply Kd.R_drewN | apply Kd.R_drew)); exact HO_5.out) (Kd.R_base ho0) hb); have n1_ := Abq (Kd.R_elder' (by (with_reducible repeat (first | apply Kd.R_alloc | apply Kd.R_drewN | apply Kd.R_drew)); exact HO_24.out) (Kd.R_base ho0) hb); have n2_ := Abq (Kd.R_lower (Kd.R_new' (Kd.R_new' ho0 (Kd.R_lt (by (with_reducible repeat (first | apply Kd.R_alloc | apply Kd.R_drewN | apply Kd.R_drew)); exact HO_5.out))) (Kd.R_lt (by (with_reducible repeat (first | apply Kd.R_alloc | apply Kd.R_drewN | apply Kd.R_drew)); exact HO_24.out))) (below_size Zb5)); have n3_ := Abq (below_step Zb5 hb); clear HO_5; clear HO_24; clear HB; have HO_5 := n0_; have HO_24 := n1_; have HO128 := n2_; have HB := n3_; clear n0_ n1_ n2_ n3_; (try clear hb); (try clear ho0); obtain ⟨Ao20, co20, eo20⟩ := Kd.R_slice HO128.out; subst eo20))
        go_loopg [5, 41] k2 (fun kq v5 v41 w' => ∃ (x5_3 : List ByteArray) (x41_3 : Int), v41 = .int .i64 x41_3 ∧ Aside0 (spec_ncTexts.l1 kq x5_3 t126 (t126.length : Int) x41_3 = some r) ∧ Aside0 (kq ≤ k2) ∧ Aside0 (Kd.R Kd.string 9 w' w.heap.size (fun k_ => some k_ ≠ ((.slice Ao20 t126.length co20) : Value).ownBlock) v5 x5_3) ∧ Aside0 (Kd.R Kd.string 9 w' w.heap.size (fun k_ => some k_ ≠ (v5 : Value).ownBlock) (.slice Ao20 t126.length co20) t126) ∧ Aside0 (Below w.heap.size w w'))
        case atStart => exact ⟨(x5_2), (0), Zb7, H', ⟨Nat.le_refl _⟩, ⟨by (with_reducible repeat (first | apply Kd.R_alloc | apply Kd.R_drewN | apply Kd.R_drew)); exact Kd.R_mono HO_5.out (fun _ hk => hk.2)⟩, ⟨by (with_reducible repeat (first | apply Kd.R_alloc | apply Kd.R_drewN | apply Kd.R_drew)); exact Kd.R_mono HO128.out (fun _ hk => hk.1.2)⟩, ⟨Zbb⟩⟩
        case round =>
         clear H'
         try clear c1
         try clear p1
         try clear q1
         try clear hx1
         try clear c2
         try clear p2
         try clear c4
         try clear c4b0
         try clear c5
         try clear c6
         try clear c6b0
         try clear c6b1
         try clear p6
         try clear c12
         try clear c12b0
         try clear p12
         try clear q12
         try clear hx12
         try clear c13
         try clear c13b0
         try clear c14
         try clear c14b0
         try clear c15
         try clear c15b0
         try clear c15b1
         try clear c15b2
         try clear c16
         try clear hx122_0
         try clear p122
         try clear p2
         try clear p6
         try clear q122
         obtain ⟨x5_3, x41_3, rfl, HA, HK3, HO_5, HO_39, HB⟩ := hrel
         cases gk with
         | zero => exact absurd HA.out (by simp [spec_ncTexts.l1])
         | succ k3 =>
          have H := HA.out
          clear HA
          simp only [spec_ncTexts.l1] at H
          by_cases c21 : x41_3 < (t126.length : Int)
          ·
           rw [if_pos c21] at H
           have c21b0 : decide (x41_3 < (t126.length : Int)) = true := decide_eq_true c21
           clear c21
           by_cases c22 : 0 ≤ x41_3
           ·
            rw [if_pos c22] at H
            have c22b0 : decide (0 ≤ x41_3) = true := decide_eq_true c22
            clear c22
            by_cases c23 : x41_3 < (t126.length : Int)
            ·
             rw [if_pos c23] at H
             have c23b0 : decide (x41_3 < (t126.length : Int)) = true := decide_eq_true c23
             clear c23
             by_cases c24 : 1 + (rdOf ByteArray.empty t126 x41_3).size ≤ 9223372036854775807
             ·
              rw [if_pos c24] at H
              have c24b0 := eq_true c24
              have c24b1 : decide (1 + (rdOf ByteArray.empty t126 x41_3).size ≤ 9223372036854775807) = true := decide_eq_true c24
              try have c24b2 : (9223372036854775807 < 1 + (rdOf ByteArray.empty t126 x41_3).size) = False := eq_false (Nat.not_lt.2 c24)
              by_cases c25 : x5_3.length < 8796093022208
              ·
               rw [if_pos c25] at H
               have LMc25 := Abq c25
               clear c25
               obtain ⟨y130, hy130⟩ : ∃ y_ : List ByteArray, y_ = (x5_3 ++ [(⟨#[78]⟩ : ByteArray) ++ (rdOf ByteArray.empty t126 x41_3)]) := ⟨_, rfl⟩
               replace H : (spec_ncTexts.l1 k3 y130 t126 (t126.length : Int) (wrap64 (x41_3 + 1))) = some r := by first | (rw [hy130]; with_reducible exact H) | (have H2_ := (Option.bind_some _ _).symm.trans H; rw [hy130]; with_reducible exact H2_) | (have H2_ := (Option.bind_some _ _).symm.trans H; with_reducible exact H2_) | with_reducible exact H | (rw [hy130]; exact H) | exact H
               have Ny130 := Abq hy130
               clear hy130
               have H' := Abq H
               clear H
               have p129 : 0 ≤ (x41_3 : Int) := of_decide_eq_true (by first | (with_reducible assumption) | assumption)
               have q129 : x41_3 < (t126.length : Int) := of_decide_eq_true (by first | (with_reducible assumption) | assumption)
               obtain ⟨ad129, e129, hx129_0⟩ := Kd.at_string (Kd.R_reads' HO_39.out).2.2 x41_3 p129 q129
               cases e129
               replace p129 := eq_true p129
               replace q129 := eq_true q129
               go_wp2_with (first | ((with_reducible refine gate_builtin (b := .append) (xs := #[.tmp 45, .tmp 48]) rfl ?_); at_builtin; refine Kd.R_append Kd.string (w0 := w) w.heap.size rfl (.tmp 45) (.tmp 48) 46 9 (.string ⟨#[]⟩) 16 rfl Try.underlying46 info9 rfl (by decide) (by omega) u5 x5_3 ((⟨#[78]⟩ : ByteArray) ++ (rdOf ByteArray.empty t126 x41_3)) [.string ((⟨#[78]⟩ : ByteArray) ++ (rdOf ByteArray.empty t126 x41_3))] (fun k_ => some k_ ≠ (.slice (some ad129) t126.length co20 : Value).ownBlock) (fun _ => False) rfl rfl ?aP (fun _ hk => hk.elim) ?aF ?aO ?aB ?aS ?aL ?_; (case aP => exact rfl); (case aB => exact Zb5); (case aF => exact (fun k_ hk => Kd.fresh' (Kd.R_lt (by (with_reducible repeat (first | apply Kd.R_alloc | apply Kd.R_drewN | apply Kd.R_drew)); exact HO_39.out)) k_ hk)); (case aO => exact (by (with_reducible repeat (first | apply Kd.R_alloc | apply Kd.R_drewN | apply Kd.R_drew)); exact HO_5.out)); (case aS => exact (below_size Zb5)); (case aL => have := LMc25.out; omega); intro v131 w26 ho hb hg hat; rw [← Ny130.out] at ho; have n0_ := Abq (Kd.R_after (ok := (fun _ => True)) (by (with_reducible repeat (first | apply Kd.R_alloc | apply Kd.R_drewN | apply Kd.R_drew)); exact Kd.R_mono HO_39.out (fun _ hk => ⟨trivial, hk⟩)) hg hat); have n1_ := Abq (hb); have n2_ := Abq (ho); clear HO_39; clear HB; clear HO_5; have HO_39 := n0_; have HB := n1_; have HO132 := n2_; clear n0_ n1_ n2_; clear ho hb hg hat))
               go_roundg k3
               case measure => have := HJ2.out; have := HK2.out; have := HK3.out; omega
               case rel => exact ⟨(y130), (wrap64 (x41_3 + 1)), Zb7, H', ⟨by have := HJ2.out; have := HK2.out; have := HK3.out; omega⟩, ⟨by (with_reducible repeat (first | apply Kd.R_alloc | apply Kd.R_drewN | apply Kd.R_drew)); exact HO132.out⟩, ⟨by (with_reducible repeat (first | apply Kd.R_alloc | apply Kd.R_drewN | apply Kd.R_drew)); exact Kd.R_mono HO_39.out (fun _ hk => hk.2)⟩, ⟨Zbb⟩⟩
              ·
               rw [if_neg c25] at H
               exact absurd H (by simp)
             ·
              rw [if_neg c24] at H
              exact absurd H (by simp)
            ·
             rw [if_neg c23] at H
             exact absurd H (by simp)
           ·
            rw [if_neg c22] at H
            exact absurd H (by simp)
          ·
           rw [if_neg c21] at H
           have c21b0 : decide (x41_3 < (t126.length : Int)) = false := decide_eq_false c21
           clear c21
           obtain rfl := Option.some.inj H
           go_wp2
           go_ret
           exact ⟨_, Zrb, by (with_reducible repeat (first | apply Kd.R_alloc | apply Kd.R_drewN | apply Kd.R_drew)); exact Kd.R_mono HO_5.out (fun _ hk => trivial), Zbb⟩

/-! ### spec_ncAll: function 11 -/
def spec_ncAll.l0 : Nat → List (S37) → List ByteArray → Int → Int → Int → Int → Option ((List (S37)) × Bool)
  | 0, _, _, _, _, _, _ => none
  | k + 1, x6, x23, x24, x25, x134000, x134001 => if x25 < x24 then (if 0 ≤ x25 then (if x25 < (x23.length : Int) then (if x6.length < 4398046511104 then (spec_ncAll.l0 k (x6 ++ [(⟨(⟨x134000, x134001⟩ : S27), rdOf ByteArray.empty x23 x25⟩ : S37)]) x23 x24 (wrap64 (x25 + 1)) x134000 x134001) else (none)) else (none)) else (none)) else (some (x6, true))
def spec_ncAll.f (k : Nat) (a0_0 : Int) (a0_1 : Int) (a1_0 : Int) (a1_1 : Int) : Option ((List (S37)) × Bool) := (spec_ncCount.f k a0_0 a0_1 a1_0 a1_1).bind fun t135 => (if t135 > 200 then (some (([] : List (S37)), false)) else ((spec_ncTexts.f k (wrap64 (a1_0 - a0_0)) (wrap64 (a1_1 - a0_1))).bind fun t136 => (spec_ncAll.l0 k ([] : List (S37)) t136 (t136.length : Int) 0 a0_0 a0_1)))
theorem spec_ncAll.mono_l : ∀ k, (∀ y0 y1 y2 y3 y4 y5, LeO (spec_ncAll.l0 k y0 y1 y2 y3 y4 y5) (spec_ncAll.l0 (k + 1) y0 y1 y2 y3 y4 y5))
  | 0 => fun _ _ _ _ _ _ r h => by simp [spec_ncAll.l0] at h
  | k + 1 => by
    have ih0 := spec_ncAll.mono_l k
    · intro y0 y1 y2 y3 y4 y5
      unfold spec_ncAll.l0
      repeat' first
      | (with_reducible exact ih0 _ _ _ _ _ _)
      | (with_reducible exact spec_ncCount.mono _ _ _ _ _)
      | (with_reducible exact spec_ncTexts.mono _ _ _)
      | (with_reducible exact LeO.refl _)
      | (with_reducible exact LeO.none _)
      | (with_reducible refine LeO.ite ?_ ?_)
      | (with_reducible refine LeO.bind ?_ (fun _ => ?_))
      | exact ih0 _ _ _ _ _ _
      | exact spec_ncCount.mono _ _ _ _ _
      | exact spec_ncTexts.mono _ _ _
      | exact LeO.none _
      | refine LeO.ite ?_ ?_
      | refine LeO.bind ?_ (fun _ => ?_)
theorem spec_ncAll.mono : ∀ a0 a1 a2 a3 k, LeO (spec_ncAll.f k a0 a1 a2 a3) (spec_ncAll.f (k + 1) a0 a1 a2 a3) := by
  intro a0 a1 a2 a3 k
  have ih0 := spec_ncAll.mono_l k
  unfold spec_ncAll.f
  repeat' first
      | (with_reducible exact ih0 _ _ _ _ _ _)
      | (with_reducible exact spec_ncCount.mono _ _ _ _ _)
      | (with_reducible exact spec_ncTexts.mono _ _ _)
      | (with_reducible exact LeO.refl _)
      | (with_reducible exact LeO.none _)
      | (with_reducible refine LeO.ite ?_ ?_)
      | (with_reducible refine LeO.bind ?_ (fun _ => ?_))
      | exact ih0 _ _ _ _ _ _
      | exact spec_ncCount.mono _ _ _ _ _
      | exact spec_ncTexts.mono _ _ _
      | exact LeO.none _
      | refine LeO.ite ?_ ?_
      | refine LeO.bind ?_ (fun _ => ?_)
set_option maxHeartbeats 8000000 in
set_option maxRecDepth 100000 in
theorem spec_ncAll.calls (k : Nat) (a0_0 : Int) (a0_1 : Int) (a1_0 : Int) (a1_1 : Int) (r1 : List (S37)) (r2 : Bool) (w : World) (h : spec_ncAll.f k a0_0 a0_1 a1_0 a1_1 = some (r1, r2)) :
    Calls Try.prog 11 #[.agg #[.int .i64 a0_0, .int .i64 a0_1], .agg #[.int .i64 a1_0, .int .i64 a1_1]] w fun e w' => ∃ v0_ : Value, e = .returned (.tuple #[v0_, .bool r2]) ∧ Kd.R k37 37 w' w.heap.size (fun _ => True) v0_ r1 ∧ Below w.heap.size w w' := by
 have hu27 := Try.underlying27
 have hu37 := Try.underlying37
 have HB := Abq (Below.refl w.heap.size w)
 have H : ((spec_ncCount.f k a0_0 a0_1 a1_0 a1_1).bind fun t135 => (if t135 > 200 then (some (([] : List (S37)), false)) else ((spec_ncTexts.f k (wrap64 (a1_0 - a0_0)) (wrap64 (a1_1 - a0_1))).bind fun t136 => (spec_ncAll.l0 k ([] : List (S37)) t136 (t136.length : Int) 0 a0_0 a0_1)))) = some (r1, r2) := h
 clear h
 replace H := Option.bind_eq_some_iff.mp H
 obtain ⟨t135, A30, H⟩ := H
 replace H : (if t135 > 200 then (some (([] : List (S37)), false)) else ((spec_ncTexts.f k (wrap64 (a1_0 - a0_0)) (wrap64 (a1_1 - a0_1))).bind fun t136 => (spec_ncAll.l0 k ([] : List (S37)) t136 (t136.length : Int) 0 a0_0 a0_1))) = some (r1, r2) := H
 have A3 := Abq A30
 clear A30
 by_cases c4 : t135 > 200
 ·
  rw [if_pos c4] at H
  have c4b0 : decide (200 < t135) = true := decide_eq_true c4
  clear c4
  simp only [Option.some.injEq, Prod.mk.injEq] at H
  obtain ⟨rfl, rfl⟩ := H
  go_enter Try.func11, Try.ntmps11
  go_wp2_with (first | ((with_reducible refine gate_dst (N := 2) rfl ?_); refine box_event ?hg (N := 2) ?hd (cs := #[.int .i64 a0_0, .int .i64 a0_1]) (t := 27) ?hr ?_; (case hd => rfl); (case hg => rfl); (case hr => first | (go_simp; done) | (go_simp; rfl)); intro g133 hg w5 hbox hb; have n0_ := Abq (below_step Zb5 hb); have n1_ := Abq (hbox); have n2_ := Abq ((Zb3 : w.heap.size ≤ g133)); have n3_ := Abq ((Zb3 : w.heap.size ≤ g133)); clear HB; have HB := n0_; have BK133 := n1_; have GW133 := n2_; have GE133 := n3_; clear n0_ n1_ n2_ n3_; clear hb hbox hg) | ((with_reducible refine gate_dst (N := 3) rfl ?_); refine box_event ?hg (N := 3) ?hd (cs := #[.int .i64 a1_0, .int .i64 a1_1]) (t := 27) ?hr ?_; (case hd => rfl); (case hg => rfl); (case hr => first | (go_simp; done) | (go_simp; rfl)); intro g134 hg w6 hbox hb; have n0_ := Abq (blk_below (g := g133) (o := .cells #[.int .i64 a0_0, .int .i64 a0_1] 27 (0, 0)) Zb6 hb); have n1_ := Abq (below_step (by repeat (first | (with_reducible first | exact HB.out | apply below_alloc | apply pw_below_drewN | apply below_drew1 | refine below_set ?_ GE133.out) | exact HB.out)) hb); have n2_ := Abq (hbox); have n3_ := Abq ((Zb1 : w.heap.size ≤ g134)); have n4_ := Abq ((Zb1 : w.heap.size ≤ g134)); have n5_ := Abq ((by rw [hg]; exact Nat.ne_of_lt (blk_lt (g := g133) (o := .cells #[.int .i64 a0_0, .int .i64 a0_1] 27 (0, 0)) Zb6) : g133 ≠ g134)); have n6_ := Abq ((by rw [hg]; exact Nat.ne_of_gt (blk_lt (g := g133) (o := .cells #[.int .i64 a0_0, .int .i64 a0_1] 27 (0, 0)) Zb6) : g134 ≠ g133)); clear BK133; clear HB; have BK133 := n0_; have HB := n1_; have BK134 := n2_; have GW134 := n3_; have GE134 := n4_; have NB133_134 := n5_; have NB134_133 := n6_; clear n0_ n1_ n2_ n3_ n4_ n5_ n6_; clear hb hbox hg; have hnb7 := NB133_134.out; have hnc7 := NB134_133.out; have hcz8_0 : w6.cell? ⟨g133, 0, none⟩ = some (.int .i64 a0_0) := (blk_cell BK133.out 0).trans rfl; have hcz8_1 : w6.cell? ⟨g133, 1, none⟩ = some (.int .i64 a0_1) := (blk_cell BK133.out 1).trans rfl; have hfz8_0 := blk_frozen BK133.out 0; have hfz8_1 := blk_frozen BK133.out 1; have hcz9_0 : w6.cell? ⟨g134, 0, none⟩ = some (.int .i64 a1_0) := (blk_cell BK134.out 0).trans rfl; have hcz9_1 : w6.cell? ⟨g134, 1, none⟩ = some (.int .i64 a1_1) := (blk_cell BK134.out 1).trans rfl; have hfz9_0 := blk_frozen BK134.out 0; have hfz9_1 := blk_frozen BK134.out 1) | ((with_reducible refine gate_callee (f := 20) rfl ?_); refine goesL_ (some 11) rfl rfl Try.func20 (by kernel_rfl) rfl #[.agg #[.int .i64 a0_0, .int .i64 a0_1], .agg #[.int .i64 a1_0, .int .i64 a1_1]] rfl Zb4 ?_; (with_reducible refine (spec_ncCount.calls k a0_0 a0_1 a1_0 a1_1 t135 _ A3.out).mono ?_); rintro e w10 ⟨rfl, hb⟩; refine ⟨_, rfl, ?_⟩; have n0_ := Abq (blk_below (g := g133) (o := .cells #[.int .i64 a0_0, .int .i64 a0_1] 27 (0, 0)) Zb6 hb); have n1_ := Abq (blk_below (g := g134) (o := .cells #[.int .i64 a1_0, .int .i64 a1_1] 27 (0, 0)) (by (with_reducible repeat (first | refine blk_drewN ?_ _ | refine blk_drew ?_ | refine blk_alloc ?_ _)); exact BK134.out) hb); have n2_ := Abq (below_step Zb2 hb); clear BK133; clear BK134; clear HB; have BK133 := n0_; have BK134 := n1_; have HB := n2_; clear n0_ n1_ n2_; (try clear hb)))
  go_ret2
  exact ⟨_, Zrb, by first | exact Kd.R_nil _ _ _ _ _ | exact Kd.N_nil _ _ _ _ _ | exact Kd.V_nil _ _ _ _ _ | exact Kd.Q_nil _ _ _ _ _ | exact Kd.S_nil _ _ _ _ _, by repeat (first | (with_reducible first | exact HB.out | apply below_alloc | apply pw_below_drewN | apply below_drew1 | refine below_set ?_ GE133.out | refine below_set ?_ GE134.out) | exact HB.out)⟩
 ·
  rw [if_neg c4] at H
  have c4b0 : decide (200 < t135) = false := decide_eq_false c4
  clear c4
  replace H := Option.bind_eq_some_iff.mp H
  obtain ⟨t136, A110, H⟩ := H
  replace H : (spec_ncAll.l0 k ([] : List (S37)) t136 (t136.length : Int) 0 a0_0 a0_1) = some (r1, r2) := H
  have A11 := Abq A110
  clear A110
  have H' := Abq H
  clear H
  go_enter Try.func11, Try.ntmps11
  go_wp2_with (first | ((with_reducible refine gate_dst (N := 2) rfl ?_); refine box_event ?hg (N := 2) ?hd (cs := #[.int .i64 a0_0, .int .i64 a0_1]) (t := 27) ?hr ?_; (case hd => rfl); (case hg => rfl); (case hr => first | (go_simp; done) | (go_simp; rfl)); intro g133 hg w12 hbox hb; have n0_ := Abq (below_step Zb5 hb); have n1_ := Abq (hbox); have n2_ := Abq ((Zb3 : w.heap.size ≤ g133)); have n3_ := Abq ((Zb3 : w.heap.size ≤ g133)); clear HB; have HB := n0_; have BK133 := n1_; have GW133 := n2_; have GE133 := n3_; clear n0_ n1_ n2_ n3_; clear hb hbox hg) | ((with_reducible refine gate_dst (N := 3) rfl ?_); refine box_event ?hg (N := 3) ?hd (cs := #[.int .i64 a1_0, .int .i64 a1_1]) (t := 27) ?hr ?_; (case hd => rfl); (case hg => rfl); (case hr => first | (go_simp; done) | (go_simp; rfl)); intro g134 hg w13 hbox hb; have n0_ := Abq (blk_below (g := g133) (o := .cells #[.int .i64 a0_0, .int .i64 a0_1] 27 (0, 0)) Zb6 hb); have n1_ := Abq (below_step (by repeat (first | (with_reducible first | exact HB.out | apply below_alloc | apply pw_below_drewN | apply below_drew1 | refine below_set ?_ GE133.out) | exact HB.out)) hb); have n2_ := Abq (hbox); have n3_ := Abq ((Zb1 : w.heap.size ≤ g134)); have n4_ := Abq ((Zb1 : w.heap.size ≤ g134)); have n5_ := Abq ((by rw [hg]; exact Nat.ne_of_lt (blk_lt (g := g133) (o := .cells #[.int .i64 a0_0, .int .i64 a0_1] 27 (0, 0)) Zb6) : g133 ≠ g134)); have n6_ := Abq ((by rw [hg]; exact Nat.ne_of_gt (blk_lt (g := g133) (o := .cells #[.int .i64 a0_0, .int .i64 a0_1] 27 (0, 0)) Zb6) : g134 ≠ g133)); clear BK133; clear HB; have BK133 := n0_; have HB := n1_; have BK134 := n2_; have GW134 := n3_; have GE134 := n4_; have NB133_134 := n5_; have NB134_133 := n6_; clear n0_ n1_ n2_ n3_ n4_ n5_ n6_; clear hb hbox hg; have hnb14 := NB133_134.out; have hnc14 := NB134_133.out; have hcz15_0 : w13.cell? ⟨g133, 0, none⟩ = some (.int .i64 a0_0) := (blk_cell BK133.out 0).trans rfl; have hcz15_1 : w13.cell? ⟨g133, 1, none⟩ = some (.int .i64 a0_1) := (blk_cell BK133.out 1).trans rfl; have hfz15_0 := blk_frozen BK133.out 0; have hfz15_1 := blk_frozen BK133.out 1; have hcz16_0 : w13.cell? ⟨g134, 0, none⟩ = some (.int .i64 a1_0) := (blk_cell BK134.out 0).trans rfl; have hcz16_1 : w13.cell? ⟨g134, 1, none⟩ = some (.int .i64 a1_1) := (blk_cell BK134.out 1).trans rfl; have hfz16_0 := blk_frozen BK134.out 0; have hfz16_1 := blk_frozen BK134.out 1) | ((with_reducible refine gate_callee (f := 20) rfl ?_); refine goesL_ (some 11) rfl rfl Try.func20 (by kernel_rfl) rfl #[.agg #[.int .i64 a0_0, .int .i64 a0_1], .agg #[.int .i64 a1_0, .int .i64 a1_1]] rfl Zb4 ?_; (with_reducible refine (spec_ncCount.calls k a0_0 a0_1 a1_0 a1_1 t135 _ A3.out).mono ?_); rintro e w17 ⟨rfl, hb⟩; refine ⟨_, rfl, ?_⟩; have n0_ := Abq (blk_below (g := g133) (o := .cells #[.int .i64 a0_0, .int .i64 a0_1] 27 (0, 0)) Zb6 hb); have n1_ := Abq (blk_below (g := g134) (o := .cells #[.int .i64 a1_0, .int .i64 a1_1] 27 (0, 0)) (by (with_reducible repeat (first | refine blk_drewN ?_ _ | refine blk_drew ?_ | refine blk_alloc ?_ _)); exact BK134.out) hb); have n2_ := Abq (below_step Zb2 hb); clear BK133; clear BK134; clear HB; have BK133 := n0_; have BK134 := n1_; have HB := n2_; clear n0_ n1_ n2_; (try clear hb); have hcz18_0 : w17.cell? ⟨g134, 0, none⟩ = some (.int .i64 a1_0) := (blk_cell BK134.out 0).trans rfl; have hcz18_1 : w17.cell? ⟨g134, 1, none⟩ = some (.int .i64 a1_1) := (blk_cell BK134.out 1).trans rfl; have hfz18_0 := blk_frozen BK134.out 0; have hfz18_1 := blk_frozen BK134.out 1; have hcz19_0 : w17.cell? ⟨g133, 0, none⟩ = some (.int .i64 a0_0) := (blk_cell BK133.out 0).trans rfl; have hcz19_1 : w17.cell? ⟨g133, 1, none⟩ = some (.int .i64 a0_1) := (blk_cell BK133.out 1).trans rfl; have hfz19_0 := blk_frozen BK133.out 0; have hfz19_1 := blk_frozen BK133.out 1) | ((with_reducible refine gate_callee (f := 21) rfl ?_); refine goesL_ (some 23) rfl rfl Try.func21 (by kernel_rfl) rfl #[.int .i64 (wrap64 (a1_0 - a0_0)), .int .i64 (wrap64 (a1_1 - a0_1))] rfl Zb4 ?_; (with_reducible refine (spec_ncTexts.calls k (wrap64 (a1_0 - a0_0)) (wrap64 (a1_1 - a0_1)) t136 _ A11.out).mono ?_); rintro e w20 ⟨v137, rfl, ho0, hb⟩; refine ⟨_, rfl, ?_⟩; have n0_ := Abq (Kd.R_lower ho0 (below_size Zb2)); have n1_ := Abq (blk_below (g := g133) (o := .cells #[.int .i64 a0_0, .int .i64 a0_1] 27 (0, 0)) Zb6 hb); have n2_ := Abq (blk_below (g := g134) (o := .cells #[.int .i64 a1_0, .int .i64 a1_1] 27 (0, 0)) (by (with_reducible repeat (first | refine blk_drewN ?_ _ | refine blk_drew ?_ | refine blk_alloc ?_ _)); exact BK134.out) hb); have n3_ := Abq (below_step Zb2 hb); clear BK133; clear BK134; clear HB; have HO138 := n0_; have BK133 := n1_; have BK134 := n2_; have HB := n3_; clear n0_ n1_ n2_ n3_; (try clear hb); (try clear ho0); obtain ⟨Ao21, co21, eo21⟩ := Kd.R_slice HO138.out; subst eo21))
  go_loopg [6, 25] k (fun kq v6 v25 w' => ∃ (x6_1 : List (S37)) (x25_1 : Int), v25 = .int .i64 x25_1 ∧ Aside0 (spec_ncAll.l0 kq x6_1 t136 (t136.length : Int) x25_1 a0_0 a0_1 = some (r1, r2)) ∧ Aside0 (kq ≤ k) ∧ Aside0 (Kd.R k37 37 w' w.heap.size (fun _ => True) v6 x6_1) ∧ Aside0 (Kd.R Kd.string 9 w' w.heap.size (fun _ => True) (.slice Ao21 t136.length co21) t136) ∧ Aside0 (w'.heap[g133]? = some (.cells #[.int .i64 a0_0, .int .i64 a0_1] 27 (0, 0))) ∧ Aside0 (w'.heap[g134]? = some (.cells #[.int .i64 a1_0, .int .i64 a1_1] 27 (0, 0))) ∧ Aside0 (Below w.heap.size w w'))
  case atStart => exact ⟨(([] : List (S37))), (0), Zb7, H', ⟨Nat.le_refl _⟩, ⟨by first | exact Kd.R_nil _ _ _ _ _ | exact Kd.N_nil _ _ _ _ _ | exact Kd.V_nil _ _ _ _ _ | exact Kd.Q_nil _ _ _ _ _ | exact Kd.S_nil _ _ _ _ _⟩, ⟨by (with_reducible repeat (first | apply Kd.R_alloc | apply Kd.R_drewN | apply Kd.R_drew)); exact HO138.out⟩, ⟨by (with_reducible repeat (first | refine blk_drewN ?_ _ | refine blk_drew ?_ | refine blk_alloc ?_ _)); exact BK133.out⟩, ⟨by (with_reducible repeat (first | refine blk_drewN ?_ _ | refine blk_drew ?_ | refine blk_alloc ?_ _)); exact BK134.out⟩, ⟨by repeat (first | (with_reducible first | exact HB.out | apply below_alloc | apply pw_below_drewN | apply below_drew1 | refine below_set ?_ GE133.out | refine below_set ?_ GE134.out) | exact HB.out)⟩⟩
  case round =>
   clear H'
   try clear c1
   try clear c2
   try clear p2
   try clear c4
   try clear c4b0
   try clear p6
   try clear c7
   try clear c11
   try clear c14
   try clear c20
   try clear c21
   try clear hcz15_0
   try clear hcz15_1
   try clear hcz16_0
   try clear hcz16_1
   try clear hcz18_0
   try clear hcz18_1
   try clear hcz19_0
   try clear hcz19_1
   try clear hcz8_0
   try clear hcz8_1
   try clear hcz9_0
   try clear hcz9_1
   try clear hfz15_0
   try clear hfz15_1
   try clear hfz16_0
   try clear hfz16_1
   try clear hfz18_0
   try clear hfz18_1
   try clear hfz19_0
   try clear hfz19_1
   try clear hfz8_0
   try clear hfz8_1
   try clear hfz9_0
   try clear hfz9_1
   obtain ⟨x6_1, x25_1, rfl, HA, HK1, HO_6, HO_23, BK133, BK134, HB⟩ := hrel
   cases gk with
   | zero => exact absurd HA.out (by simp [spec_ncAll.l0])
   | succ k1 =>
    have H := HA.out
    clear HA
    simp only [spec_ncAll.l0] at H
    by_cases c22 : x25_1 < (t136.length : Int)
    ·
     rw [if_pos c22] at H
     have c22b0 : decide (x25_1 < (t136.length : Int)) = true := decide_eq_true c22
     clear c22
     by_cases c23 : 0 ≤ x25_1
     ·
      rw [if_pos c23] at H
      have c23b0 : decide (0 ≤ x25_1) = true := decide_eq_true c23
      clear c23
      by_cases c24 : x25_1 < (t136.length : Int)
      ·
       rw [if_pos c24] at H
       have c24b0 : decide (x25_1 < (t136.length : Int)) = true := decide_eq_true c24
       clear c24
       by_cases c25 : x6_1.length < 4398046511104
       ·
        rw [if_pos c25] at H
        have LMc25 := Abq c25
        clear c25
        obtain ⟨y140, hy140⟩ : ∃ y_ : List (S37), y_ = (x6_1 ++ [(⟨(⟨a0_0, a0_1⟩ : S27), rdOf ByteArray.empty t136 x25_1⟩ : S37)]) := ⟨_, rfl⟩
        replace H : (spec_ncAll.l0 k1 y140 t136 (t136.length : Int) (wrap64 (x25_1 + 1)) a0_0 a0_1) = some (r1, r2) := by first | (rw [hy140]; with_reducible exact H) | (have H2_ := (Option.bind_some _ _).symm.trans H; rw [hy140]; with_reducible exact H2_) | (have H2_ := (Option.bind_some _ _).symm.trans H; with_reducible exact H2_) | with_reducible exact H | (rw [hy140]; exact H) | exact H
        have Ny140 := Abq hy140
        clear hy140
        have H' := Abq H
        clear H
        have p139 : 0 ≤ (x25_1 : Int) := of_decide_eq_true (by first | (with_reducible assumption) | assumption)
        have q139 : x25_1 < (t136.length : Int) := of_decide_eq_true (by first | (with_reducible assumption) | assumption)
        obtain ⟨ad139, e139, hx139_0⟩ := Kd.at_string (Kd.R_reads' HO_23.out).2.2 x25_1 p139 q139
        cases e139
        replace p139 := eq_true p139
        replace q139 := eq_true q139
        have hnb26 := NB133_134.out
        have hnc26 := NB134_133.out
        have hcz27_0 : wr.cell? ⟨g133, 0, none⟩ = some (.int .i64 a0_0) := (blk_cell BK133.out 0).trans rfl
        have hcz27_1 : wr.cell? ⟨g133, 1, none⟩ = some (.int .i64 a0_1) := (blk_cell BK133.out 1).trans rfl
        have hfz27_0 := blk_frozen BK133.out 0
        have hfz27_1 := blk_frozen BK133.out 1
        go_wp2_with (first | ((with_reducible refine gate_builtin (b := .append) (xs := #[.tmp 29, .tmp 33]) rfl ?_); at_builtin; refine Kd.R_append k37 (w0 := w) w.heap.size rfl (.tmp 29) (.tmp 33) 33 37 (.agg #[(.int .i64 0), (.int .i64 0), (.string ⟨#[]⟩)]) 32 rfl Try.underlying33 info37 rfl (by decide) (by omega) u6 x6_1 (⟨(⟨a0_0, a0_1⟩ : S27), rdOf ByteArray.empty t136 x25_1⟩ : S37) [.int .i64 a0_0, .int .i64 a0_1, .string (rdOf ByteArray.empty t136 x25_1)] (fun _ => True) (fun _ => False) rfl rfl ?aP (fun _ hk => hk.elim) ?aF ?aO ?aB ?aS ?aL ?_; (case aP => exact k37_mkM _ _ _ (⟨(⟨a0_0, a0_1⟩ : S27), rdOf ByteArray.empty t136 x25_1⟩ : S37)); (case aB => exact Zb2); (case aF => exact (fun _ _ => trivial)); (case aO => exact (by (with_reducible repeat (first | apply Kd.R_alloc | apply Kd.R_drewN | apply Kd.R_drew)); exact HO_6.out)); (case aS => exact (below_size Zb2)); (case aL => have := LMc25.out; omega); intro v141 w28 ho hb hg hat; rw [← Ny140.out] at ho; have n0_ := Abq (Kd.R_over' (by (with_reducible repeat (first | apply Kd.R_alloc | apply Kd.R_drewN | apply Kd.R_drew)); exact HO_23.out) (Kd.R_typed (by (with_reducible repeat (first | apply Kd.R_alloc | apply Kd.R_drewN | apply Kd.R_drew)); exact HO_6.out)) (by decide) hg); have n1_ := Abq (blk_grown (g := g133) (o := .cells #[.int .i64 a0_0, .int .i64 a0_1] 27 (0, 0)) Zb6 hg (Kd.R_ne HO_6.out BK133.out (by decide))); have n2_ := Abq (blk_grown (g := g134) (o := .cells #[.int .i64 a1_0, .int .i64 a1_1] 27 (0, 0)) (by (with_reducible repeat (first | refine blk_drewN ?_ _ | refine blk_drew ?_ | refine blk_alloc ?_ _)); exact BK134.out) hg (Kd.R_ne HO_6.out BK134.out (by decide))); have n3_ := Abq (hb); have n4_ := Abq (ho); clear HO_23; clear BK133; clear BK134; clear HB; clear HO_6; have HO_23 := n0_; have BK133 := n1_; have BK134 := n2_; have HB := n3_; have HO142 := n4_; clear n0_ n1_ n2_ n3_ n4_; clear ho hb hg hat))
        go_roundg k1
        case measure => have := HK1.out; omega
        case rel => exact ⟨(y140), (wrap64 (x25_1 + 1)), Zb7, H', ⟨by have := HK1.out; omega⟩, ⟨by (with_reducible repeat (first | apply Kd.R_alloc | apply Kd.R_drewN | apply Kd.R_drew)); exact HO142.out⟩, ⟨by (with_reducible repeat (first | apply Kd.R_alloc | apply Kd.R_drewN | apply Kd.R_drew)); exact HO_23.out⟩, ⟨by (with_reducible repeat (first | refine blk_drewN ?_ _ | refine blk_drew ?_ | refine blk_alloc ?_ _)); exact BK133.out⟩, ⟨by (with_reducible repeat (first | refine blk_drewN ?_ _ | refine blk_drew ?_ | refine blk_alloc ?_ _)); exact BK134.out⟩, ⟨by repeat (first | (with_reducible first | exact HB.out | apply below_alloc | apply pw_below_drewN | apply below_drew1 | refine below_set ?_ GE133.out | refine below_set ?_ GE134.out) | exact HB.out)⟩⟩
       ·
        rw [if_neg c25] at H
        exact absurd H (by simp)
      ·
       rw [if_neg c24] at H
       exact absurd H (by simp)
     ·
      rw [if_neg c23] at H
      exact absurd H (by simp)
    ·
     rw [if_neg c22] at H
     have c22b0 : decide (x25_1 < (t136.length : Int)) = false := decide_eq_false c22
     clear c22
     simp only [Option.some.injEq, Prod.mk.injEq] at H
     obtain ⟨rfl, rfl⟩ := H
     go_wp2
     go_ret2
     exact ⟨_, Zrb, by (with_reducible repeat (first | apply Kd.R_alloc | apply Kd.R_drewN | apply Kd.R_drew)); exact HO_6.out, by repeat (first | (with_reducible first | exact HB.out | apply below_alloc | apply pw_below_drewN | apply below_drew1 | refine below_set ?_ GE133.out | refine below_set ?_ GE134.out) | exact HB.out)⟩

end Go.Proofs.Ythlbbngmgioamaa.OFnExactAllPairsApart
