/- The sum over all mixed paths of the weights of their steps, whatever function of a step and a height is handed in: computed by a plain function. Its conditions: the function handed in answers as told, and writes nothing. -/
import Derived.Test.YtgoiohlmifgncaaFnG
import Derived.Test.YtgoiohlmifgncaaProg
import Derived.Below
import Derived.Deep.Draws
import Derived.Deep.AppendLies
import Derived.Maps.AppendAt
import Derived.OwnWalk
import Derived.Laws.BytesArg
import Derived.Laws.MakeOwn
import Derived.Laws.OwnMore
import Derived.Deep.OwnRows
import Derived.Tactics
import Derived.Lib.ConvBytes
import Derived.Laws.Slices
import Derived.WalkKit
import Derived.KernelRfl
import Derived.RowKit3
import Derived.Deep.LoopGhost
import Derived.Deep.QuietTactic
import Derived.BigQuiet
import Derived.WideLaws
import Derived.Deep.DeepCutAuto
import Derived.Deep.CutBlock
import Derived.Deep.RegionHeld3
import Derived.Laws.Rows
import Derived.Lib.AppendStr
import Derived.ArgAppend
import Derived.Laws.IdiomCopy
import Derived.OrdersHeld
import Derived.Laws.BitsLemmas
import Derived.RowKit
import Derived.Test.YtgoiohlmifgncaaWWords
import Derived.Test.YtgoiohlmifgncaaWLast
import Derived.Test.YtgoiohlmifgncaaWTab
import Derived.Test.YtgoiohlmifgncaaWFour
import Derived.Test.YtgoiohlmifgncaaWQPut
import Derived.Test.YtgoiohlmifgncaaWApart
import Derived.Test.YtgoiohlmifgncaaWArr
import Derived.Test.YtgoiohlmifgncaaWZeros
import Derived.Test.YtgoiohlmifgncaaWFoot
import Derived.Test.YtgoiohlmifgncaaWKept
import Derived.Test.YtgoiohlmifgncaaWShare
import Derived.Test.YtgoiohlmifgncaaWN
import Derived.Test.YtgoiohlmifgncaaWFootNe
import Derived.Test.YtgoiohlmifgncaaWAt
import Derived.Test.YtgoiohlmifgncaaWEqStruct
import Derived.Test.YtgoiohlmifgncaaWRepsOne
import Derived.Test.YtgoiohlmifgncaaWInv
import Derived.Test.YtgoiohlmifgncaaWInvWords
import Derived.Test.YtgoiohlmifgncaaWGuard
import Derived.Test.YtgoiohlmifgncaaWNEv
import Derived.Test.YtgoiohlmifgncaaWMore
namespace Go.Proofs.Ytgoiohlmifgncaa.Gen
open Go.Proofs.Ytgoiohlmifgncaa.FnG
open Go.RowKit Go.Proofs.YtgoiohlmifgncaaW.PrintWords Go.Proofs.YtgoiohlmifgncaaW.PrintLast Go.Proofs.YtgoiohlmifgncaaW.PrintMore
attribute [local go_sem] max2_int min2_int max_two min_two max_three min_three max_four min_four   -- for this text's walks alone
set_option linter.unusedVariables false
set_option linter.unusedSimpArgs false
/-! ### impl_sumMixed: function 30 -/
theorem y1sm {α : Type} (l : List α) (i : Nat) (a : α) : l.toArray.setIfInBounds i a = (l.set i a).toArray := List.setIfInBounds_toArray l i a
theorem y2sm {α : Type} {x : α} {xs : List α} {b : α} : (x :: xs).set 0 b = b :: xs := List.set_cons_zero
theorem y3sm {α : Type} {x : α} {xs : List α} {n : Nat} {b : α} : (x :: xs).set (n + 1) b = x :: xs.set n b := List.set_cons_succ
theorem Asmq {p : Prop} (h : p) : Aside0 p := Aside0.mk h
theorem Zsm1 {p : Prop} (h : p := by (try simp only [List.map_toArray, List.map_cons, List.map_nil]); first | done | rfl | (simp only [List.length_drop, List.length_take]; rfl)) : p := h
theorem Zsm2 {p : Prop} (h : p := by repeat (first | (with_reducible first | exact HB.out | apply below_alloc | apply pw_below_drewN | apply below_drew1) | exact HB.out)) : p := h
theorem Zsm3 {p : Prop} (h : p := by (with_reducible repeat (first | apply Kd.R_alloc | apply Kd.R_drewN | apply Kd.R_drew)); exact HO_17.out) : p := h
theorem Zsm4 {p : Prop} (h : p := by (with_reducible repeat (first | apply Kd.R_alloc | apply Kd.R_drewN | apply Kd.R_drew)); exact HO_6.out) : p := h
theorem Zsm5 {p : Prop} (h : p := by first | (with_reducible assumption) | assumption) : p := h
theorem Zsm6 {p : Prop} (h : p := by kernel_rfl) : p := h
theorem info3 : (Try.prog.info? 3).map (fun i => (i.zero, i.size, i.bytes)) = some (some (.int .i64 0), 1, 8) := by kernel_rfl
mutual
def sumMixed.l0 (wt : Int → Int → Option Int) : Nat → List Int → Int → Int → Option (Int)
  | 0, _, _, _ => none
  | k + 1, x5, x10, x11 => if x11 < x10 then (if 0 ≤ (wrap64 ((x5.length : Int) + 1)) then (if (wrap64 ((x5.length : Int) + 1) : Int).toNat ≤ 35184372088832 then (sumMixed.l1 wt k (List.replicate (wrap64 ((x5.length : Int) + 1) : Int).toNat 0) x10 x11 x5 (x5.length : Int) 0) else (none)) else (none)) else (if 0 < (x5.length : Int) then (some (rd x5 0)) else (none))
def sumMixed.l1 (wt : Int → Int → Option Int) : Nat → List Int → Int → Int → List Int → Int → Int → Option (Int)
  | 0, _, _, _, _, _, _ => none
  | k + 1, x6, x10, x11, x17, x18, x19 => if x19 < x18 then (if 0 ≤ x19 then (if x19 < (x17.length : Int) then (if (rd x17 x19) = 0 then (sumMixed.l1 wt k x6 x10 x11 x17 x18 (wrap64 (x19 + 1))) else (if 0 ≤ (wrap64 (x19 + 1)) then (if (wrap64 (x19 + 1)) < (x6.length : Int) then ((wt 85 x19).bind fun t136 => ((some (x6.set ((wrap64 (x19 + 1)) : Int).toNat (wrap64 ((rd x6 (wrap64 (x19 + 1))) + (wrap64 ((rd x17 x19) * t136)))) : List Int)).bind fun y137 => (if x19 < (x6.length : Int) then ((wt 70 x19).bind fun t139 => ((some (y137.set (x19 : Int).toNat (wrap64 ((rd y137 x19) + (wrap64 ((rd x17 x19) * t139)))) : List Int)).bind fun y140 => (if x19 > 0 then (if 0 ≤ (wrap64 (x19 - 1)) then (if (wrap64 (x19 - 1)) < (x6.length : Int) then ((wt 68 x19).bind fun t142 => (sumMixed.l1 wt k (y140.set ((wrap64 (x19 - 1)) : Int).toNat (wrap64 ((rd y140 (wrap64 (x19 - 1))) + (wrap64 ((rd x17 x19) * t142))))) x10 x11 x17 x18 (wrap64 (x19 + 1)))) else (none)) else (none)) else (sumMixed.l1 wt k y140 x10 x11 x17 x18 (wrap64 (x19 + 1)))))) else (none)))) else (none)) else (none))) else (none)) else (none)) else (sumMixed.l0 wt k x6 x10 (wrap64 (x11 + 1)))
end
def sumMixed.f (wt : Int → Int → Option Int) (k : Nat) (a0 : Int) : Option (Int) := sumMixed.l0 wt k (([1] : List Int)) a0 0
theorem sumMixed.mono_l (wt : Int → Int → Option Int) : ∀ k, (∀ y0 y1 y2, LeO (sumMixed.l0 wt k y0 y1 y2) (sumMixed.l0 wt (k + 1) y0 y1 y2)) ∧ (∀ y0 y1 y2 y3 y4 y5, LeO (sumMixed.l1 wt k y0 y1 y2 y3 y4 y5) (sumMixed.l1 wt (k + 1) y0 y1 y2 y3 y4 y5))
  | 0 => ⟨fun _ _ _ r h => by simp [sumMixed.l0] at h, fun _ _ _ _ _ _ r h => by simp [sumMixed.l1] at h⟩
  | k + 1 => by
    obtain ⟨ih0, ih1⟩ := sumMixed.mono_l wt k
    refine ⟨?_, ?_⟩
    · intro y0 y1 y2
      unfold sumMixed.l0
      repeat' first
      | (with_reducible exact ih0 _ _ _)
      | (with_reducible exact ih1 _ _ _ _ _ _)
      | (with_reducible exact LeO.refl _)
      | (with_reducible exact LeO.none _)
      | (with_reducible refine LeO.ite ?_ ?_)
      | (with_reducible refine LeO.bind ?_ (fun _ => ?_))
      | exact ih0 _ _ _
      | exact ih1 _ _ _ _ _ _
      | exact LeO.none _
      | refine LeO.ite ?_ ?_
      | refine LeO.bind ?_ (fun _ => ?_)
    · intro y0 y1 y2 y3 y4 y5
      unfold sumMixed.l1
      repeat' first
      | (with_reducible exact ih0 _ _ _)
      | (with_reducible exact ih1 _ _ _ _ _ _)
      | (with_reducible exact LeO.refl _)
      | (with_reducible exact LeO.none _)
      | (with_reducible refine LeO.ite ?_ ?_)
      | (with_reducible refine LeO.bind ?_ (fun _ => ?_))
      | exact ih0 _ _ _
      | exact ih1 _ _ _ _ _ _
      | exact LeO.none _
      | refine LeO.ite ?_ ?_
      | refine LeO.bind ?_ (fun _ => ?_)
theorem sumMixed.mono (wt : Int → Int → Option Int) : ∀ a0 k, LeO (sumMixed.f wt k a0) (sumMixed.f wt (k + 1) a0) := by
  intro a0 k
  obtain ⟨ih0, ih1⟩ := sumMixed.mono_l wt k
  unfold sumMixed.f
  repeat' first
      | (with_reducible exact ih0 _ _ _)
      | (with_reducible exact ih1 _ _ _ _ _ _)
      | (with_reducible exact LeO.refl _)
      | (with_reducible exact LeO.none _)
      | (with_reducible refine LeO.ite ?_ ?_)
      | (with_reducible refine LeO.bind ?_ (fun _ => ?_))
      | exact ih0 _ _ _
      | exact ih1 _ _ _ _ _ _
      | exact LeO.none _
      | refine LeO.ite ?_ ?_
      | refine LeO.bind ?_ (fun _ => ?_)
def sumMixed.T9 : Bool × List (List Nat × List Nat) := (true, [([], []), ([], []), ([1], [1]), ([0, 2], [0, 2]), ([3], [3]), ([], []), ([], []), ([], []), ([6, 7], [6, 7]), ([5, 8], [5, 8]), ([4, 9], [4, 9]), ([0, 2, 0, 1, 2, 3, 4, 5, 6, 7, 8, 9, 10], [0, 2]), ([11, 10, 8, 0, 1, 2, 3, 4, 5, 6, 7, 8, 9, 10], [10, 11])])
def sumMixed.B9 : List Nat := [0, 0, 2, 7, 15, 0, 0, 0, 192, 480, 1023, 2047, 4095]
theorem sumMixed.tab9 : rtab .any (opsOf Try.f23 9) = sumMixed.T9 := by kernel_rfl
theorem sumMixed.bits9 : waitsOk sumMixed.T9.2 sumMixed.B9 = true := by kernel_rfl
def sumMixed.T10 : Bool × List (List Nat × List Nat) := (true, [([], []), ([], []), ([0, 1], [0, 1]), ([2], [2]), ([], []), ([], []), ([], []), ([5, 6], [5, 6]), ([4, 7], [4, 7]), ([3, 8], [3, 8]), ([0, 1, 0, 1, 2, 3, 4, 5, 6, 7, 8, 9], [0, 1]), ([10, 9, 7, 0, 1, 2, 3, 4, 5, 6, 7, 8, 9], [9, 10])])
def sumMixed.B10 : List Nat := [0, 0, 3, 7, 0, 0, 0, 96, 240, 511, 1023, 2047]
theorem sumMixed.tab10 : rtab .any (opsOf Try.f23 10) = sumMixed.T10 := by kernel_rfl
theorem sumMixed.bits10 : waitsOk sumMixed.T10.2 sumMixed.B10 = true := by kernel_rfl
def sumMixed.T12 : Bool × List (List Nat × List Nat) := (true, [([], []), ([], []), ([1], [1]), ([0, 2], [0, 2]), ([3], [3]), ([], []), ([], []), ([], []), ([6, 7], [6, 7]), ([5, 8], [5, 8]), ([4, 9], [4, 9]), ([0, 2, 0, 1, 2, 3, 4, 5, 6, 7, 8, 9, 10], [0, 2]), ([11, 10, 8, 0, 1, 2, 3, 4, 5, 6, 7, 8, 9, 10], [10, 11])])
def sumMixed.B12 : List Nat := [0, 0, 2, 7, 15, 0, 0, 0, 192, 480, 1023, 2047, 4095]
theorem sumMixed.tab12 : rtab .any (opsOf Try.f23 12) = sumMixed.T12 := by kernel_rfl
theorem sumMixed.bits12 : waitsOk sumMixed.T12.2 sumMixed.B12 = true := by kernel_rfl
set_option maxHeartbeats 8000000 in
set_option maxRecDepth 100000 in
theorem sumMixed.calls (wt : Int → Int → Option Int) {g : FuncId} {fn : Func} {lb : Array Value} (hf : Try.prog.funcs[g]? = some fn) (hname : (fn.name == "runtime.NumGoroutine") = false) (hb : fn.body.isSome = true) (k : Nat) (a0 : Int) (r : Int) (w : World)
  (hwt0 : ∀ (c h t : Int) (W : World), Below w.heap.size w W → wt c h = some t → Calls Try.prog g (#[.int .u8 c, .int .i64 h] ++ lb) W fun e W' => e = .returned (.int .i64 t) ∧ Drawn0 W W') (h : sumMixed.f wt k a0 = some r) :
  Calls Try.prog 23 #[.int .i64 a0, .func (.func g) #[] lb] w fun e w' => e = .returned (.int .i64 r) ∧ Below w.heap.size w w' := by
 have HWT := Asmq hwt0
 have HF := Asmq hf
 have HN := Asmq hname
 have HBO := Asmq hb
 clear hwt0 hf hname hb
 have HB := Asmq (Below.refl w.heap.size w)
 have H : (sumMixed.l0 wt k (([1] : List Int)) a0 0) = some r := h
 clear h
 obtain ⟨y127, hy127⟩ : ∃ y_ : List Int, y_ = (([1] : List Int)) := ⟨_, rfl⟩
 replace H : (sumMixed.l0 wt k y127 a0 0) = some r := by first | (rw [hy127]; with_reducible exact H) | (have H2_ := (Option.bind_some _ _).symm.trans H; rw [hy127]; with_reducible exact H2_) | (have H2_ := (Option.bind_some _ _).symm.trans H; with_reducible exact H2_) | with_reducible exact H | (rw [hy127]; exact H) | exact H
 have Ny127 := Asmq hy127
 clear hy127
 have H' := Asmq H
 clear H
 go_enter Try.func23, Try.ntmps23
 go_wp2_with (first | ((with_reducible refine gate_dst (N := 9) rfl ?_); refine Kd.R_lit (Kd.int .i64) _ 3 ?hg (N := 9) ?hd (xs := ([1] : List Int)) (inner := [.int .i64 1]) (ok := fun _ => True) (okp := fun _ => True) ?hr ?hp (fun _ hk => hk) trivial (Below.refl _ _) (Nat.le_refl _) (by simp) ?_; (case hd => rfl); (case hg => rfl); (case hr => first | (go_simp; done) | (go_simp; rfl)); (case hp => exact (Reps.one (show Kd.M (Kd.int .i64) _ _ _ 1 [.int .i64 1] from rfl) (Reps.none _ _))); intro v128 w3 ho4 hb hg_ hnew_; clear hg_ hnew_; (first | rw [← Ny127.out] at ho4 | (simp only [Int.reduceToNat] at ho4; rw [← Ny127.out] at ho4)); have n0_ := Asmq (Kd.R_lower ho4 (below_size Zsm2)); have n1_ := Asmq (below_step Zsm2 hb); clear HB; have HO129 := n0_; have HB := n1_; clear n0_ n1_; clear hb ho4))
 go_loopg [5, 11] k (fun kq v5 v11 w' => ∃ (x5_1 : List Int) (x11_1 : Int), v11 = .int .i64 x11_1 ∧ Aside0 (sumMixed.l0 wt kq x5_1 a0 x11_1 = some r) ∧ Aside0 (kq ≤ k) ∧ Aside0 (Kd.R (Kd.int .i64) 3 w' w.heap.size (fun _ => True) v5 x5_1) ∧ Aside0 (Below w.heap.size w w'))
 case atStart => exact ⟨(y127), (0), (by first | rfl | (simp; done) | (simp [*]; done)), H', ⟨Nat.le_refl _⟩, ⟨by (with_reducible repeat (first | apply Kd.R_alloc | apply Kd.R_drewN | apply Kd.R_drew)); exact HO129.out⟩, ⟨by repeat (first | (with_reducible first | exact HB.out | apply below_alloc | apply pw_below_drewN | apply below_drew1) | exact HB.out)⟩⟩
 clear H'
 try clear p2
 try clear c3
 obtain ⟨x5_1, x11_1, rfl, HA, HK1, HO_5, HB⟩ := hrel
 obtain _ | k1 := gk
 · exact absurd HA.out (by simp [sumMixed.l0])
 have H := HA.out
 clear HA
 simp only [sumMixed.l0] at H
 by_cases c5 : x11_1 < a0
 rotate_left
 ·
  rw [if_neg c5] at H
  have c5b0 : decide (x11_1 < a0) = false := decide_eq_false c5
  clear c5
  by_cases c45 : 0 < (x5_1.length : Int)
  rotate_left
  ·
   rw [if_neg c45] at H
   exact absurd H (by simp)
  rw [if_pos c45] at H
  have c45b0 : decide (0 < (x5_1.length : Int)) = true := decide_eq_true c45
  have c45b1 : decide (0 < x5_1.length) = true := decide_eq_true (by omega)
  clear c45
  obtain rfl := Option.some.inj H
  obtain ⟨Ao46, co46, eo46⟩ := Kd.R_slice HO_5.out
  subst eo46
  have p130 : 0 ≤ (0 : Int) := (by omega)
  have q130 : 0 < (x5_1.length : Int) := of_decide_eq_true Zsm5
  obtain ⟨ad130, e130, hx130_0⟩ := Kd.at_int (Kd.R_reads' HO_5.out).2.2 0 p130 q130
  cases e130
  have qi130 : (0 < x5_1.length) = True := eq_true (by omega)
  (try rw [show ((0 : Int)).toNat = 0 from rfl] at hx130_0)
  (try rw [Addr.add_zero'] at hx130_0)
  replace p130 := eq_true p130
  replace q130 := eq_true q130
  go_wp2
  go_ret
  exact ⟨by first | rfl | (simp [errW_none, errW_some] <;> rfl) | (simp [*, errW_none, errW_some] <;> rfl), by repeat (first | (with_reducible first | exact HB.out | apply below_alloc | apply pw_below_drewN | apply below_drew1) | exact HB.out)⟩
 rw [if_pos c5] at H
 have c5b0 : decide (x11_1 < a0) = true := decide_eq_true c5
 clear c5
 obtain ⟨ji6, hji6⟩ : ∃ j_ : Int, (wrap64 ((x5_1.length : Int) + 1)) = j_ := ⟨_, rfl⟩
 replace H : (if 0 ≤ (ji6) then (if (ji6 : Int).toNat ≤ 35184372088832 then (sumMixed.l1 wt k1 (List.replicate (ji6 : Int).toNat 0) a0 x11_1 x5_1 (x5_1.length : Int) 0) else (none)) else (none)) = some r := by first | (rw [hji6] at H; exact H) | (simp only [hji6] at H ⊢; exact H)
 have hji6w : (IntKind.i64.wrap ((x5_1.length : Int) + 1)) = ji6 := (i64_w _).trans hji6
 by_cases c7 : 0 ≤ (ji6)
 rotate_left
 ·
  rw [if_neg c7] at H
  exact absurd H (by simp)
 rw [if_pos c7] at H
 have c7b0 := eq_true c7
 have c7b1 : decide (0 ≤ (ji6)) = true := decide_eq_true c7
 clear c7
 by_cases c8 : (ji6 : Int).toNat ≤ 35184372088832
 rotate_left
 ·
  rw [if_neg c8] at H
  exact absurd H (by simp)
 rw [if_pos c8] at H
 have c8b0 := eq_true c8
 have c8b1 : decide ((ji6 : Int).toNat ≤ 35184372088832) = true := decide_eq_true c8
 clear c8
 obtain ⟨y131, hy131⟩ : ∃ y_ : List Int, y_ = (List.replicate (ji6 : Int).toNat 0) := ⟨_, rfl⟩
 replace H : (sumMixed.l1 wt k1 y131 a0 x11_1 x5_1 (x5_1.length : Int) 0) = some r := by first | (rw [hy131]; with_reducible exact H) | (have H2_ := (Option.bind_some _ _).symm.trans H; rw [hy131]; with_reducible exact H2_) | (have H2_ := (Option.bind_some _ _).symm.trans H; with_reducible exact H2_) | with_reducible exact H | (rw [hy131]; exact H) | exact H
 have Ny131 := Asmq hy131
 clear hy131
 have H' := Asmq H
 clear H
 obtain ⟨Ao9, co9, eo9⟩ := Kd.R_slice HO_5.out
 subst eo9
 go_wp2_with (first | ((with_reducible refine gate_dst (N := 16) rfl ?_); refine Kd.R_make (Kd.int .i64) _ 3 rfl (N := 16) rfl 22 _ _ rfl ji6 rfl rfl Try.underlying22 (.int .i64 0) 8 info3 rfl (by decide) (by omega) 0 (ok := fun _ => True) (okp := fun _ => True) rfl (fun _ hk => hk) trivial (of_decide_eq_true Zsm5) (Nat.le_trans (Nat.mul_le_mul_right _ (of_decide_eq_true Zsm5 : ji6.toNat ≤ 35184372088832)) (by omega)) (Below.refl _ _) (Nat.le_refl _) ?_; intro v132 w10 ho11 hb hg_ hnew_; clear hg_ hnew_; (first | rw [← Ny131.out] at ho11 | (simp only [Int.reduceToNat] at ho11; rw [← Ny131.out] at ho11)); have n0_ := Asmq (Kd.R_elder' (by (with_reducible repeat (first | apply Kd.R_alloc | apply Kd.R_drewN | apply Kd.R_drew)); exact HO_5.out) (Kd.R_base ho11) hb); have n1_ := Asmq (Kd.R_lower (Kd.R_new' ho11 (Kd.R_lt (by (with_reducible repeat (first | apply Kd.R_alloc | apply Kd.R_drewN | apply Kd.R_drew)); exact HO_5.out))) (below_size Zsm2)); have n2_ := Asmq (below_step Zsm2 hb); clear HO_5; clear HB; have HO_5 := n0_; have HO133 := n1_; have HB := n2_; clear n0_ n1_ n2_; clear hb ho11))
 go_loopg [19] k1 (fun kq v19 w' => ∃ (x6_2 : List Int) (x19_2 : Int), v19 = .int .i64 x19_2 ∧ Aside0 (sumMixed.l1 wt kq x6_2 a0 x11_1 x5_1 (x5_1.length : Int) x19_2 = some r) ∧ Aside0 (kq ≤ k1) ∧ Aside0 (Kd.R (Kd.int .i64) 3 w' w.heap.size (fun k_ => some k_ ≠ ((.slice Ao9 x5_1.length co9) : Value).ownBlock) v132 x6_2) ∧ Aside0 (Kd.R (Kd.int .i64) 3 w' w.heap.size (fun k_ => some k_ ≠ (v132 : Value).ownBlock) (.slice Ao9 x5_1.length co9) x5_1) ∧ Aside0 (Below w.heap.size w w'))
 case atStart => exact ⟨(y131), (0), (by first | rfl | (simp; done) | (simp [*]; done)), H', ⟨Nat.le_refl _⟩, ⟨by (with_reducible repeat (first | apply Kd.R_alloc | apply Kd.R_drewN | apply Kd.R_drew)); exact Kd.R_mono HO133.out (fun _ hk => hk.2)⟩, ⟨by (with_reducible repeat (first | apply Kd.R_alloc | apply Kd.R_drewN | apply Kd.R_drew)); exact Kd.R_mono HO_5.out (fun _ hk => hk.2)⟩, ⟨by repeat (first | (with_reducible first | exact HB.out | apply below_alloc | apply pw_below_drewN | apply below_drew1) | exact HB.out)⟩⟩
 clear H'
 try clear p2
 try clear c3
 try clear c5
 try clear c5b0
 try clear p6
 try clear c7
 try clear c7b0
 try clear c7b1
 try clear c8
 try clear c8b0
 try clear c8b1
 try clear p2
 obtain ⟨x6_2, x19_2, rfl, HA, HK2, HO_6, HO_17, HB⟩ := hrel
 obtain _ | k2 := gk
 · exact absurd HA.out (by simp [sumMixed.l1])
 have H := HA.out
 clear HA
 simp only [sumMixed.l1] at H
 by_cases c12 : x19_2 < (x5_1.length : Int)
 rotate_left
 ·
  rw [if_neg c12] at H
  have c12b0 : decide (x19_2 < (x5_1.length : Int)) = false := decide_eq_false c12
  clear c12
  have H' := Asmq H
  clear H
  go_wp2
  go_roundg k2
  case measure => have := HK1.out; have := HK2.out; omega
  case rel => exact ⟨(x6_2), (wrap64 (x11_1 + 1)), (by first | rfl | (simp; done) | (simp [*]; done)), H', ⟨by have := HK1.out; have := HK2.out; omega⟩, ⟨by (with_reducible repeat (first | apply Kd.R_alloc | apply Kd.R_drewN | apply Kd.R_drew)); exact Kd.R_mono HO_6.out (fun _ hk => trivial)⟩, ⟨by repeat (first | (with_reducible first | exact HB.out | apply below_alloc | apply pw_below_drewN | apply below_drew1) | exact HB.out)⟩⟩
 rw [if_pos c12] at H
 have c12b0 : decide (x19_2 < (x5_1.length : Int)) = true := decide_eq_true c12
 clear c12
 by_cases c13 : 0 ≤ x19_2
 rotate_left
 ·
  rw [if_neg c13] at H
  exact absurd H (by simp)
 rw [if_pos c13] at H
 have c13b0 : decide (0 ≤ x19_2) = true := decide_eq_true c13
 clear c13
 by_cases c14 : x19_2 < (x5_1.length : Int)
 rotate_left
 ·
  rw [if_neg c14] at H
  exact absurd H (by simp)
 rw [if_pos c14] at H
 have c14b0 : decide (x19_2 < (x5_1.length : Int)) = true := decide_eq_true c14
 clear c14
 by_cases c15 : (rd x5_1 x19_2) = 0
 ·
  rw [if_pos c15] at H
  have c15b0 : ((rd x5_1 x19_2) == 0) = true := beq_iff_eq.mpr c15
  have c15b1 : ((rd x5_1 x19_2) != 0) = false := bne_eq_false_iff_eq.mpr c15
  clear c15
  have H' := Asmq H
  clear H
  have p134 : 0 ≤ (x19_2 : Int) := of_decide_eq_true Zsm5
  have q134 : x19_2 < (x5_1.length : Int) := of_decide_eq_true Zsm5
  obtain ⟨ad134, e134, hx134_0⟩ := Kd.at_int (Kd.R_reads' HO_17.out).2.2 x19_2 p134 q134
  cases e134
  replace p134 := eq_true p134
  replace q134 := eq_true q134
  go_wp2
  go_roundg k2
  case measure => have := HK1.out; have := HK2.out; omega
  case rel => exact ⟨(x6_2), (wrap64 (x19_2 + 1)), (by first | rfl | (simp; done) | (simp [*]; done)), H', ⟨by have := HK1.out; have := HK2.out; omega⟩, ⟨by (with_reducible repeat (first | apply Kd.R_alloc | apply Kd.R_drewN | apply Kd.R_drew)); exact HO_6.out⟩, ⟨by (with_reducible repeat (first | apply Kd.R_alloc | apply Kd.R_drewN | apply Kd.R_drew)); exact HO_17.out⟩, ⟨by repeat (first | (with_reducible first | exact HB.out | apply below_alloc | apply pw_below_drewN | apply below_drew1) | exact HB.out)⟩⟩
 rw [if_neg c15] at H
 have c15b0 : ((rd x5_1 x19_2) == 0) = false := beq_eq_false_iff_ne.mpr c15
 have c15b1 : ((rd x5_1 x19_2) != 0) = true := bne_iff_ne.mpr c15
 obtain ⟨ji16, hji16⟩ : ∃ j_ : Int, (wrap64 (x19_2 + 1)) = j_ := ⟨_, rfl⟩
 replace H : (if 0 ≤ (ji16) then (if (ji16) < (x6_2.length : Int) then ((wt 85 x19_2).bind fun t136 => ((some (x6_2.set ((ji16) : Int).toNat (wrap64 ((rd x6_2 (ji16)) + (wrap64 ((rd x5_1 x19_2) * t136)))) : List Int)).bind fun y137 => (if x19_2 < (x6_2.length : Int) then ((wt 70 x19_2).bind fun t139 => ((some (y137.set (x19_2 : Int).toNat (wrap64 ((rd y137 x19_2) + (wrap64 ((rd x5_1 x19_2) * t139)))) : List Int)).bind fun y140 => (if x19_2 > 0 then (if 0 ≤ (wrap64 (x19_2 - 1)) then (if (wrap64 (x19_2 - 1)) < (x6_2.length : Int) then ((wt 68 x19_2).bind fun t142 => (sumMixed.l1 wt k2 (y140.set ((wrap64 (x19_2 - 1)) : Int).toNat (wrap64 ((rd y140 (wrap64 (x19_2 - 1))) + (wrap64 ((rd x5_1 x19_2) * t142))))) a0 x11_1 x5_1 (x5_1.length : Int) ji16)) else (none)) else (none)) else (sumMixed.l1 wt k2 y140 a0 x11_1 x5_1 (x5_1.length : Int) ji16)))) else (none)))) else (none)) else (none)) = some r := by first | (rw [hji16] at H; exact H) | (simp only [hji16] at H ⊢; exact H)
 have hji16w : (IntKind.i64.wrap (x19_2 + 1)) = ji16 := (i64_w _).trans hji16
 by_cases c17 : 0 ≤ (ji16)
 rotate_left
 ·
  rw [if_neg c17] at H
  exact absurd H (by simp)
 rw [if_pos c17] at H
 have c17b0 : decide (0 ≤ (ji16)) = true := decide_eq_true c17
 clear c17
 by_cases c18 : (ji16) < (x6_2.length : Int)
 rotate_left
 ·
  rw [if_neg c18] at H
  exact absurd H (by simp)
 rw [if_pos c18] at H
 have c18b0 : decide ((ji16) < (x6_2.length : Int)) = true := decide_eq_true c18
 clear c18
 replace H := Option.bind_eq_some_iff.mp H
 obtain ⟨t136, A190, H⟩ := H
 replace H : ((some (x6_2.set ((ji16) : Int).toNat (wrap64 ((rd x6_2 (ji16)) + (wrap64 ((rd x5_1 x19_2) * t136)))) : List Int)).bind fun y137 => (if x19_2 < (x6_2.length : Int) then ((wt 70 x19_2).bind fun t139 => ((some (y137.set (x19_2 : Int).toNat (wrap64 ((rd y137 x19_2) + (wrap64 ((rd x5_1 x19_2) * t139)))) : List Int)).bind fun y140 => (if x19_2 > 0 then (if 0 ≤ (wrap64 (x19_2 - 1)) then (if (wrap64 (x19_2 - 1)) < (x6_2.length : Int) then ((wt 68 x19_2).bind fun t142 => (sumMixed.l1 wt k2 (y140.set ((wrap64 (x19_2 - 1)) : Int).toNat (wrap64 ((rd y140 (wrap64 (x19_2 - 1))) + (wrap64 ((rd x5_1 x19_2) * t142))))) a0 x11_1 x5_1 (x5_1.length : Int) ji16)) else (none)) else (none)) else (sumMixed.l1 wt k2 y140 a0 x11_1 x5_1 (x5_1.length : Int) ji16)))) else (none))) = some r := H
 have A19 := Asmq A190
 clear A190
 obtain ⟨y137, hy137⟩ : ∃ y_ : List Int, y_ = (x6_2.set ((ji16) : Int).toNat (wrap64 ((rd x6_2 (ji16)) + (wrap64 ((rd x5_1 x19_2) * t136))))) := ⟨_, rfl⟩
 replace H : (if x19_2 < (x6_2.length : Int) then ((wt 70 x19_2).bind fun t139 => ((some (y137.set (x19_2 : Int).toNat (wrap64 ((rd y137 x19_2) + (wrap64 ((rd x5_1 x19_2) * t139)))) : List Int)).bind fun y140 => (if x19_2 > 0 then (if 0 ≤ (wrap64 (x19_2 - 1)) then (if (wrap64 (x19_2 - 1)) < (x6_2.length : Int) then ((wt 68 x19_2).bind fun t142 => (sumMixed.l1 wt k2 (y140.set ((wrap64 (x19_2 - 1)) : Int).toNat (wrap64 ((rd y140 (wrap64 (x19_2 - 1))) + (wrap64 ((rd x5_1 x19_2) * t142))))) a0 x11_1 x5_1 (x5_1.length : Int) ji16)) else (none)) else (none)) else (sumMixed.l1 wt k2 y140 a0 x11_1 x5_1 (x5_1.length : Int) ji16)))) else (none)) = some r := by first | (rw [hy137]; with_reducible exact H) | (have H2_ := (Option.bind_some _ _).symm.trans H; rw [hy137]; with_reducible exact H2_) | (have H2_ := (Option.bind_some _ _).symm.trans H; with_reducible exact H2_) | with_reducible exact H | (rw [hy137]; exact H) | exact H
 have Ny137 := Asmq hy137
 clear hy137
 by_cases c21 : x19_2 < (x6_2.length : Int)
 rotate_left
 ·
  rw [if_neg c21] at H
  exact absurd H (by simp)
 rw [if_pos c21] at H
 have c21b0 : decide (x19_2 < (x6_2.length : Int)) = true := decide_eq_true c21
 clear c21
 replace H := Option.bind_eq_some_iff.mp H
 obtain ⟨t139, A220, H⟩ := H
 replace H : ((some (y137.set (x19_2 : Int).toNat (wrap64 ((rd y137 x19_2) + (wrap64 ((rd x5_1 x19_2) * t139)))) : List Int)).bind fun y140 => (if x19_2 > 0 then (if 0 ≤ (wrap64 (x19_2 - 1)) then (if (wrap64 (x19_2 - 1)) < (x6_2.length : Int) then ((wt 68 x19_2).bind fun t142 => (sumMixed.l1 wt k2 (y140.set ((wrap64 (x19_2 - 1)) : Int).toNat (wrap64 ((rd y140 (wrap64 (x19_2 - 1))) + (wrap64 ((rd x5_1 x19_2) * t142))))) a0 x11_1 x5_1 (x5_1.length : Int) ji16)) else (none)) else (none)) else (sumMixed.l1 wt k2 y140 a0 x11_1 x5_1 (x5_1.length : Int) ji16))) = some r := H
 have A22 := Asmq A220
 clear A220
 obtain ⟨y140, hy140⟩ : ∃ y_ : List Int, y_ = (y137.set (x19_2 : Int).toNat (wrap64 ((rd y137 x19_2) + (wrap64 ((rd x5_1 x19_2) * t139))))) := ⟨_, rfl⟩
 replace H : (if x19_2 > 0 then (if 0 ≤ (wrap64 (x19_2 - 1)) then (if (wrap64 (x19_2 - 1)) < (x6_2.length : Int) then ((wt 68 x19_2).bind fun t142 => (sumMixed.l1 wt k2 (y140.set ((wrap64 (x19_2 - 1)) : Int).toNat (wrap64 ((rd y140 (wrap64 (x19_2 - 1))) + (wrap64 ((rd x5_1 x19_2) * t142))))) a0 x11_1 x5_1 (x5_1.length : Int) ji16)) else (none)) else (none)) else (sumMixed.l1 wt k2 y140 a0 x11_1 x5_1 (x5_1.length : Int) ji16)) = some r := by first | (rw [hy140]; with_reducible exact H) | (have H2_ := (Option.bind_some _ _).symm.trans H; rw [hy140]; with_reducible exact H2_) | (have H2_ := (Option.bind_some _ _).symm.trans H; with_reducible exact H2_) | with_reducible exact H | (rw [hy140]; exact H) | exact H
 have Ny140 := Asmq hy140
 clear hy140
 by_cases c24 : x19_2 > 0
 rotate_left
 ·
  rw [if_neg c24] at H
  have c24b0 : decide (0 < x19_2) = false := decide_eq_false c24
  clear c24
  have H' := Asmq H
  clear H
  have p134 : 0 ≤ (x19_2 : Int) := of_decide_eq_true Zsm5
  have q134 : x19_2 < (x5_1.length : Int) := of_decide_eq_true Zsm5
  obtain ⟨ad134, e134, hx134_0⟩ := Kd.at_int (Kd.R_reads' HO_17.out).2.2 x19_2 p134 q134
  cases e134
  replace p134 := eq_true p134
  replace q134 := eq_true q134
  try go_wp2
  have n0_ := Asmq (Kd.R_drew HO_6.out)
  have n1_ := Asmq (Kd.R_drew HO_17.out)
  have n2_ := Asmq (below_drew1 HB.out)
  clear HO_6 HO_17 HB
  have HO_6 := n0_
  have HO_17 := n1_
  have HB := n2_
  clear n0_ n1_ n2_
  obtain ⟨Ao40, co40, eo40⟩ := Kd.R_slice HO_6.out
  (first | subst eo40 | (injection eo40 with f1_ f2_ f3_; have f4_ := f1_.symm; have f5_ := f3_.symm; clear f1_ f2_ f3_; subst f4_; subst f5_))
  have p135 : 0 ≤ ((ji16) : Int) := of_decide_eq_true Zsm5
  have q135 : (ji16) < (x6_2.length : Int) := of_decide_eq_true Zsm5
  obtain ⟨ad135, e135, hx135_0⟩ := Kd.at_int (Kd.R_reads' HO_6.out).2.2 (ji16) p135 q135
  cases e135
  replace p135 := eq_true p135
  replace q135 := eq_true q135
  refine start_ (n := 13) (S := fun w' => w'.cell? (ad135.add ((ji16)).toNat) = some (.int .i64 (rd x6_2 (ji16)))) (ds := [12]) #[false, false, false, false, false, false, false, false, false, false, false, false, false] Zsm6 rfl rfl (hx135_0) (fun hHeld => ?_); refine with_tabW sumMixed.tab9 sumMixed.bits9 (fun HT_ HW_ => ?_)
  generalize wr.drew = w39 at HO_6 HO_17 HB hx135_0 hHeld ⊢
  refine pure_ (i := 0) (N := some 26) (v := ?_) (a' := ?_) #[true, false, false, false, false, false, false, false, false, false, false, false, false] rfl rfl (any_of HT_.out Zsm6) (fun _ _ _ h => h) (Or.inl ⟨by rfl, ?_⟩) ?_ ?_
  rotate_left
  ·
   intro w'
   go_simp
   with_reducible rfl
  rotate_left
  ·
   simp only [Act.put, y1sm, y2sm, y3sm, i64_w, i32_w]
   rfl
  refine pure_ (i := 1) (N := some 27) (v := ?_) (a' := ?_) #[true, true, false, false, false, false, false, false, false, false, false, false, false] rfl rfl (any_of HT_.out Zsm6) (fun _ _ _ h => h) (Or.inl ⟨by rfl, ?_⟩) ?_ ?_
  rotate_left
  ·
   intro w'
   go_simp
   with_reducible rfl
  rotate_left
  ·
   simp only [Act.put, y1sm, y2sm, y3sm, i64_w, i32_w]
   rfl
  refine pure_ (i := 2) (N := some 28) (v := ?_) (a' := ?_) #[true, true, true, false, false, false, false, false, false, false, false, false, false] rfl rfl (any_of HT_.out Zsm6) (fun _ _ _ h => h) (Or.inl ⟨by rfl, ?_⟩) ?_ ?_
  rotate_left
  ·
   intro w'
   go_simp
   with_reducible rfl
  rotate_left
  ·
   simp only [Act.put, y1sm, y2sm, y3sm, i64_w, i32_w]
   rfl
  refine pure_ (i := 3) (N := some 29) (v := ?_) (a' := ?_) #[true, true, true, true, false, false, false, false, false, false, false, false, false] rfl rfl (any_of HT_.out Zsm6) (fun _ _ _ h => h) (Or.inl ⟨by rfl, ?_⟩) ?_ ?_
  rotate_left
  ·
   intro w'
   go_simp
   with_reducible rfl
  rotate_left
  ·
   simp only [Act.put, y1sm, y2sm, y3sm, i64_w, i32_w]
   rfl
  refine pure_ (i := 5) (N := some 31) (v := ?_) (a' := ?_) #[true, true, true, true, false, true, false, false, false, false, false, false, false] rfl rfl (any_of HT_.out Zsm6) (fun _ _ _ h => h) (Or.inl ⟨by rfl, ?_⟩) ?_ ?_
  rotate_left
  ·
   intro w'
   go_simp
   with_reducible rfl
  rotate_left
  ·
   simp only [Act.put, y1sm, y2sm, y3sm, i64_w, i32_w]
   rfl
  refine pure_ (i := 6) (N := some 32) (v := ?_) (a' := ?_) #[true, true, true, true, false, true, true, false, false, false, false, false, false] rfl rfl (any_of HT_.out Zsm6) (fun _ _ _ h => h) (Or.inl ⟨by rfl, ?_⟩) ?_ ?_
  rotate_left
  ·
   intro w'
   go_simp
   with_reducible rfl
  rotate_left
  ·
   simp only [Act.put, y1sm, y2sm, y3sm, i64_w, i32_w]
   rfl
  refine pure_ (i := 7) (N := some 33) (v := ?_) (a' := ?_) #[true, true, true, true, false, true, true, true, false, false, false, false, false] rfl rfl (any_of HT_.out Zsm6) (fun _ _ _ h => h) (Or.inl ⟨by rfl, ?_⟩) ?_ ?_
  rotate_left
  ·
   intro w'
   go_simp
   with_reducible rfl
  rotate_left
  ·
   simp only [Act.put, y1sm, y2sm, y3sm, i64_w, i32_w]
   rfl
  refine take_ (i := 4) (N := some 30) (v := ?_) (a' := ?_) #[true, true, true, true, true, true, true, true, false, false, false, false, false] rfl rfl (take_ofW HT_.out HW_.out Zsm6) (fun _ _ _ h => h) (Or.inl ⟨by rfl, ?_⟩) hHeld ?_ ?_
  rotate_left
  ·
   intro w' s0
   go_simp
   with_reducible rfl
  rotate_left
  ·
   simp only [Act.put, y1sm, y2sm, y3sm, i64_w, i32_w]
   rfl
  refine one_ (i := 8) (N := some 34) #[true, true, true, true, true, true, true, true, true, false, false, false, false] rfl rfl (one_of HT_.out Zsm6) (by decide) (fun K hK => ?_)
  refine goesG_ (lb := lb) HF.out HN.out HBO.out (#[.int .u8 85, .int .i64 x19_2] ++ lb) (by rfl) rfl rfl (by first | rfl | (simp [Act.eval]; done)) Zsm1 ?_
  with_reducible refine (HWT.out 85 x19_2 t136 _ Zsm2 A19.out).mono ?_
  rintro e w' ⟨rfl, ⟨nd, rfl⟩⟩
  refine ⟨_, rfl, ?_⟩
  have n0_ := Asmq (Kd.R_drewN HO_6.out nd)
  have n1_ := Asmq (Kd.R_drewN HO_17.out nd)
  have n2_ := Asmq (pw_below_drewN HB.out nd)
  (try clear HO_6)
  (try clear HO_17)
  (try clear HB)
  replace hHeld : (fun w' : World => w'.cell? (ad135.add ((ji16)).toNat) = some (.int .i64 (rd x6_2 (ji16)))) (World.drewN w39 nd) := hHeld
  generalize World.drewN w39 nd = w39 at n0_ n1_ n2_ hHeld ⊢
  have HO_6 := n0_
  have HO_17 := n1_
  have HB := n2_
  clear n0_ n1_ n2_
  have p20 : 0 ≤ ((ji16) : Int) := of_decide_eq_true Zsm5
  have q20 : ((ji16) : Int) < ((x6_2.length : Int) : Int) := of_decide_eq_true Zsm5
  obtain ⟨go20, co20, eo20, g20, gl20, cl20, HG20⟩ := Kd.R_form HO_6.out (by omega)
  (first | cases eo20 | (injection eo20 with ea_ en_ ec_; (first | subst ea_ | (injection ea_ with ea_; subst ea_)); subst ec_; clear en_))
  have GB20 := Asmq g20
  have GG20 := Asmq HG20
  clear g20 gl20 HG20
  (first | simp only [add_plain] at hx135_0 | skip)
  obtain ⟨hx20_0, hf20_0⟩ := Kd.R_celln 0 HO_6.out ((ji16) : Int) p20 q20
  replace p20 := eq_true p20
  replace q20 := eq_true q20
  have HP41 := Kd.R_putn HO_6.out ((ji16) : Int) (wrap64 ((rd x6_2 (ji16)) + (wrap64 ((rd x5_1 x19_2) * t136))))
  rw [← Ny137.out] at HP41
  have HQ41 := Asmq HP41
  clear HP41
  refine hK.out _ _ (hHeld) (fun hHeld => ?_)
  clear hK K
  refine norm_ (a' := ?_) ?_ ?_
  rotate_left
  ·
   show Act.put _ (some 34) _ = _
   simp only [Act.put, y1sm, y2sm, y3sm, i64_w, i32_w]
   rfl
  refine pure_ (i := 9) (N := some 35) (v := ?_) (a' := ?_) #[true, true, true, true, true, true, true, true, true, true, false, false, false] rfl rfl (any_of HT_.out Zsm6) (fun _ _ _ h => h) (Or.inl ⟨by rfl, ?_⟩) ?_ ?_
  rotate_left
  ·
   intro w'
   go_simp
   with_reducible rfl
  rotate_left
  ·
   simp only [Act.put, y1sm, y2sm, y3sm, i64_w, i32_w]
   rfl
  refine pure_ (i := 10) (N := some 36) (v := ?_) (a' := ?_) #[true, true, true, true, true, true, true, true, true, true, true, false, false] rfl rfl (any_of HT_.out Zsm6) (fun _ _ _ h => h) (Or.inl ⟨by rfl, ?_⟩) ?_ ?_
  rotate_left
  ·
   intro w'
   go_simp
   with_reducible rfl
  rotate_left
  ·
   simp only [Act.put, y1sm, y2sm, y3sm, i64_w, i32_w]
   rfl
  refine pure_ (i := 11) (N := some 37) (v := ?_) (a' := ?_) #[true, true, true, true, true, true, true, true, true, true, true, true, false] rfl rfl (any_of HT_.out Zsm6) (fun _ _ _ h => h) (Or.inl ⟨by rfl, ?_⟩) ?_ ?_
  rotate_left
  ·
   intro w'
   go_simp
   with_reducible rfl
  rotate_left
  ·
   simp only [Act.put, y1sm, y2sm, y3sm, i64_w, i32_w]
   rfl
  refine last_ (i := 12) (N := none) #[true, true, true, true, true, true, true, true, true, true, true, true, true] rfl rfl (one_of HT_.out Zsm6) (by decide) (fun K hK => ?_)
  refine skip_ (w1 := ?_) (by rfl) rfl ?_ ?_
  rotate_left
  ·
   go_simp
   rfl
  refine hK.out _ _ ?_
  clear hK K
  refine done_ (done_of HT_.out Zsm6) ?_
  try go_wp2
  have n0_ : Aside0 (Kd.R (Kd.int .i64) 3 (w39.setCell ⟨go20, ((ji16) : Int).toNat, none⟩ (.int .i64 (wrap64 ((rd x6_2 (ji16)) + (wrap64 ((rd x5_1 x19_2) * t136)))))) w.heap.size (fun k_ => some k_ ≠ (.slice (some ad134) x5_1.length co9 : Value).ownBlock) (.slice (some ⟨go20, 0, none⟩) x6_2.length co40) y137) := ⟨by (with_reducible repeat (first | apply Kd.R_alloc | apply Kd.R_drewN | apply Kd.R_drew)); exact HQ41.out⟩
  have n1_ : Aside0 (Kd.R (Kd.int .i64) 3 (w39.setCell ⟨go20, ((ji16) : Int).toNat, none⟩ (.int .i64 (wrap64 ((rd x6_2 (ji16)) + (wrap64 ((rd x5_1 x19_2) * t136)))))) w.heap.size (fun k_ => some k_ ≠ (.slice (some ⟨go20, 0, none⟩) x6_2.length co40 : Value).ownBlock) (.slice (some ad134) x5_1.length co9) x5_1) := ⟨by (with_reducible repeat (first | apply Kd.R_alloc | apply Kd.R_drewN | apply Kd.R_drew)); exact Kd.R_mono (Kd.R_far (p := ⟨go20, ((ji16) : Int).toNat, none⟩) (Kd.R_mono HO_17.out (fun k_ hk => (⟨hk, fun e_ => hk (by rw [e_]; rfl)⟩ : _ ∧ k_ ≠ go20))) (fun _ hk => hk.2) (.int .i64 (wrap64 ((rd x6_2 (ji16)) + (wrap64 ((rd x5_1 x19_2) * t136)))))) (fun _ hk => hk.1)⟩
  have n2_ : Aside0 (Below w.heap.size w (w39.setCell ⟨go20, ((ji16) : Int).toNat, none⟩ (.int .i64 (wrap64 ((rd x6_2 (ji16)) + (wrap64 ((rd x5_1 x19_2) * t136))))))) := ⟨by repeat (first | (with_reducible first | exact HB.out | apply below_alloc | apply pw_below_drewN | apply below_drew1 | refine below_set ?_ GB20.out) | exact HB.out)⟩
  (try clear HO_6)
  (try clear HO_17)
  (try clear HB)
  generalize (w39.setCell ⟨go20, ((ji16) : Int).toNat, none⟩ (.int .i64 (wrap64 ((rd x6_2 (ji16)) + (wrap64 ((rd x5_1 x19_2) * t136)))))) = w42 at n0_ n1_ n2_ ⊢
  have HO_6 := n0_
  have HO_17 := n1_
  have HB := n2_
  clear n0_ n1_ n2_
  (try (rw [drewN_self w42]; generalize hq_ : World.drewN w42 _ = w42; have n0_ : Aside0 (Kd.R (Kd.int .i64) 3 w42 w.heap.size (fun k_ => some k_ ≠ (.slice (some ⟨go20, 0, none⟩) x6_2.length co40 : Value).ownBlock) (.slice (some ad134) x5_1.length co9) x5_1) := ⟨by rw [← hq_]; exact Zsm3⟩; have n1_ : Aside0 (Kd.R (Kd.int .i64) 3 w42 w.heap.size (fun k_ => some k_ ≠ (.slice (some ad134) x5_1.length co9 : Value).ownBlock) (.slice (some ⟨go20, 0, none⟩) x6_2.length co40) y137) := ⟨by rw [← hq_]; exact Zsm4⟩; have n2_ : Aside0 (Below w.heap.size w w42) := ⟨by rw [← hq_]; exact Zsm2⟩; clear HO_17 HO_6 HB hq_; have HO_17 := n0_; have HO_6 := n1_; have HB := n2_; clear n0_ n1_ n2_))
  (try (rw [drewN_self w42]; generalize hq_ : World.drewN w42 _ = w42; have n0_ : Aside0 (Kd.R (Kd.int .i64) 3 w42 w.heap.size (fun k_ => some k_ ≠ (.slice (some ⟨go20, 0, none⟩) x6_2.length co40 : Value).ownBlock) (.slice (some ad134) x5_1.length co9) x5_1) := ⟨by rw [← hq_]; exact Zsm3⟩; have n1_ : Aside0 (Kd.R (Kd.int .i64) 3 w42 w.heap.size (fun k_ => some k_ ≠ (.slice (some ad134) x5_1.length co9 : Value).ownBlock) (.slice (some ⟨go20, 0, none⟩) x6_2.length co40) y137) := ⟨by rw [← hq_]; exact Zsm4⟩; have n2_ : Aside0 (Below w.heap.size w w42) := ⟨by rw [← hq_]; exact Zsm2⟩; clear HO_17 HO_6 HB hq_; have HO_17 := n0_; have HO_6 := n1_; have HB := n2_; clear n0_ n1_ n2_))
  have n0_ := Asmq (Kd.R_drew HO_6.out)
  have n1_ := Asmq (Kd.R_drew HO_17.out)
  have n2_ := Asmq (below_drew1 HB.out)
  clear HO_6 HO_17 HB
  have HO_6 := n0_
  have HO_17 := n1_
  have HB := n2_
  clear n0_ n1_ n2_
  have p138 : 0 ≤ (x19_2 : Int) := of_decide_eq_true Zsm5
  have q138 : x19_2 < (y137.length : Int) := (by have h_ : (x19_2 : Int) < ((x6_2.length : Int) : Int) := of_decide_eq_true Zsm5; first | (have e_ := (Kd.R_reads' HO_6.out).1; omega) | simpa only [Ny137.out, List.length_set] using h_)
  have ql138 : ((x19_2 : Int) < ((x6_2.length : Int) : Int)) = True := eq_true (of_decide_eq_true Zsm5)
  obtain ⟨ad138, e138, hx138_0⟩ := Kd.at_int (Kd.R_reads' HO_6.out).2.2 x19_2 p138 q138
  obtain rfl : (⟨go20, 0, none⟩ : Addr) = ad138 := (by injection e138)
  (first | simp only [add_plain] at hx138_0 | simp only [add_at] at hx138_0 | simp only [Addr.add, Nat.zero_add] at hx138_0 | skip)
  replace p138 := eq_true p138
  replace q138 := eq_true q138
  refine start_ (n := 12) (S := fun w' => w'.cell? ⟨go20, (x19_2).toNat, none⟩ = some (.int .i64 (rd y137 x19_2))) (ds := [11]) #[false, false, false, false, false, false, false, false, false, false, false, false] Zsm6 rfl rfl (hx138_0) (fun hHeld => ?_); refine with_tabW sumMixed.tab10 sumMixed.bits10 (fun HT_ HW_ => ?_)
  generalize w42.drew = w43 at HO_6 HO_17 HB HQ41 hx138_0 hHeld ⊢
  refine pure_ (i := 0) (N := some 38) (v := ?_) (a' := ?_) #[true, false, false, false, false, false, false, false, false, false, false, false] rfl rfl (any_of HT_.out Zsm6) (fun _ _ _ h => h) (Or.inl ⟨by rfl, ?_⟩) ?_ ?_
  rotate_left
  ·
   intro w'
   go_simp
   with_reducible rfl
  rotate_left
  ·
   simp only [Act.put, y1sm, y2sm, y3sm, i64_w, i32_w]
   rfl
  refine pure_ (i := 1) (N := some 39) (v := ?_) (a' := ?_) #[true, true, false, false, false, false, false, false, false, false, false, false] rfl rfl (any_of HT_.out Zsm6) (fun _ _ _ h => h) (Or.inl ⟨by rfl, ?_⟩) ?_ ?_
  rotate_left
  ·
   intro w'
   go_simp
   with_reducible rfl
  rotate_left
  ·
   simp only [Act.put, y1sm, y2sm, y3sm, i64_w, i32_w]
   rfl
  refine pure_ (i := 2) (N := some 40) (v := ?_) (a' := ?_) #[true, true, true, false, false, false, false, false, false, false, false, false] rfl rfl (any_of HT_.out Zsm6) (fun _ _ _ h => h) (Or.inl ⟨by rfl, ?_⟩) ?_ ?_
  rotate_left
  ·
   intro w'
   go_simp
   with_reducible rfl
  rotate_left
  ·
   simp only [Act.put, y1sm, y2sm, y3sm, i64_w, i32_w]
   rfl
  refine pure_ (i := 4) (N := some 42) (v := ?_) (a' := ?_) #[true, true, true, false, true, false, false, false, false, false, false, false] rfl rfl (any_of HT_.out Zsm6) (fun _ _ _ h => h) (Or.inl ⟨by rfl, ?_⟩) ?_ ?_
  rotate_left
  ·
   intro w'
   go_simp
   with_reducible rfl
  rotate_left
  ·
   simp only [Act.put, y1sm, y2sm, y3sm, i64_w, i32_w]
   rfl
  refine pure_ (i := 5) (N := some 43) (v := ?_) (a' := ?_) #[true, true, true, false, true, true, false, false, false, false, false, false] rfl rfl (any_of HT_.out Zsm6) (fun _ _ _ h => h) (Or.inl ⟨by rfl, ?_⟩) ?_ ?_
  rotate_left
  ·
   intro w'
   go_simp
   with_reducible rfl
  rotate_left
  ·
   simp only [Act.put, y1sm, y2sm, y3sm, i64_w, i32_w]
   rfl
  refine pure_ (i := 6) (N := some 44) (v := ?_) (a' := ?_) #[true, true, true, false, true, true, true, false, false, false, false, false] rfl rfl (any_of HT_.out Zsm6) (fun _ _ _ h => h) (Or.inl ⟨by rfl, ?_⟩) ?_ ?_
  rotate_left
  ·
   intro w'
   go_simp
   with_reducible rfl
  rotate_left
  ·
   simp only [Act.put, y1sm, y2sm, y3sm, i64_w, i32_w]
   rfl
  refine take_ (i := 3) (N := some 41) (v := ?_) (a' := ?_) #[true, true, true, true, true, true, true, false, false, false, false, false] rfl rfl (take_ofW HT_.out HW_.out Zsm6) (fun _ _ _ h => h) (Or.inl ⟨by rfl, ?_⟩) hHeld ?_ ?_
  rotate_left
  ·
   intro w' s0
   go_simp
   with_reducible rfl
  rotate_left
  ·
   simp only [Act.put, y1sm, y2sm, y3sm, i64_w, i32_w]
   rfl
  refine one_ (i := 7) (N := some 45) #[true, true, true, true, true, true, true, true, false, false, false, false] rfl rfl (one_of HT_.out Zsm6) (by decide) (fun K hK => ?_)
  refine goesG_ (lb := lb) HF.out HN.out HBO.out (#[.int .u8 70, .int .i64 x19_2] ++ lb) (by rfl) rfl rfl (by first | rfl | (simp [Act.eval]; done)) Zsm1 ?_
  with_reducible refine (HWT.out 70 x19_2 t139 _ Zsm2 A22.out).mono ?_
  rintro e w' ⟨rfl, ⟨nd, rfl⟩⟩
  refine ⟨_, rfl, ?_⟩
  have n0_ := Asmq (Kd.R_drewN HO_6.out nd)
  have n1_ := Asmq (Kd.R_drewN HO_17.out nd)
  have n2_ := Asmq (pw_below_drewN HB.out nd)
  (try clear HO_6)
  (try clear HO_17)
  (try clear HB)
  replace hHeld : (fun w' : World => w'.cell? ⟨go20, (x19_2).toNat, none⟩ = some (.int .i64 (rd y137 x19_2))) (World.drewN w43 nd) := hHeld
  generalize World.drewN w43 nd = w43 at n0_ n1_ n2_ hHeld ⊢
  have HO_6 := n0_
  have HO_17 := n1_
  have HB := n2_
  clear n0_ n1_ n2_
  have p23 : 0 ≤ (x19_2 : Int) := of_decide_eq_true Zsm5
  have q23 : (x19_2 : Int) < ((x6_2.length : Int) : Int) := of_decide_eq_true Zsm5
  obtain ⟨hx23_0, hf23_0⟩ := Kd.R_celln 0 HO_6.out (x19_2 : Int) p23 q23
  replace p23 := eq_true p23
  replace q23 := eq_true q23
  have HP44 := Kd.R_putn HO_6.out (x19_2 : Int) (wrap64 ((rd y137 x19_2) + (wrap64 ((rd x5_1 x19_2) * t139))))
  rw [← Ny140.out] at HP44
  have HQ44 := Asmq HP44
  clear HP44
  refine hK.out _ _ (hHeld) (fun hHeld => ?_)
  clear hK K
  refine norm_ (a' := ?_) ?_ ?_
  rotate_left
  ·
   show Act.put _ (some 45) _ = _
   simp only [Act.put, y1sm, y2sm, y3sm, i64_w, i32_w]
   rfl
  refine pure_ (i := 8) (N := some 46) (v := ?_) (a' := ?_) #[true, true, true, true, true, true, true, true, true, false, false, false] rfl rfl (any_of HT_.out Zsm6) (fun _ _ _ h => h) (Or.inl ⟨by rfl, ?_⟩) ?_ ?_
  rotate_left
  ·
   intro w'
   go_simp
   with_reducible rfl
  rotate_left
  ·
   simp only [Act.put, y1sm, y2sm, y3sm, i64_w, i32_w]
   rfl
  refine pure_ (i := 9) (N := some 47) (v := ?_) (a' := ?_) #[true, true, true, true, true, true, true, true, true, true, false, false] rfl rfl (any_of HT_.out Zsm6) (fun _ _ _ h => h) (Or.inl ⟨by rfl, ?_⟩) ?_ ?_
  rotate_left
  ·
   intro w'
   go_simp
   with_reducible rfl
  rotate_left
  ·
   simp only [Act.put, y1sm, y2sm, y3sm, i64_w, i32_w]
   rfl
  refine pure_ (i := 10) (N := some 48) (v := ?_) (a' := ?_) #[true, true, true, true, true, true, true, true, true, true, true, false] rfl rfl (any_of HT_.out Zsm6) (fun _ _ _ h => h) (Or.inl ⟨by rfl, ?_⟩) ?_ ?_
  rotate_left
  ·
   intro w'
   go_simp
   with_reducible rfl
  rotate_left
  ·
   simp only [Act.put, y1sm, y2sm, y3sm, i64_w, i32_w]
   rfl
  refine last_ (i := 11) (N := none) #[true, true, true, true, true, true, true, true, true, true, true, true] rfl rfl (one_of HT_.out Zsm6) (by decide) (fun K hK => ?_)
  refine skip_ (w1 := ?_) (by rfl) rfl ?_ ?_
  rotate_left
  ·
   go_simp
   rfl
  refine hK.out _ _ ?_
  clear hK K
  refine done_ (done_of HT_.out Zsm6) ?_
  try go_wp2
  go_roundg k2
  case measure => have := HK1.out; have := HK2.out; omega
  case rel => exact ⟨(y140), (ji16), (by first | rfl | (simp; done) | (simp only [← hji16] <;> (first | rfl | simp)) | (simp [*]; done)), H', ⟨by have := HK1.out; have := HK2.out; omega⟩, ⟨by (with_reducible repeat (first | apply Kd.R_alloc | apply Kd.R_drewN | apply Kd.R_drew)); exact HQ44.out⟩, ⟨by (with_reducible repeat (first | apply Kd.R_alloc | apply Kd.R_drewN | apply Kd.R_drew)); exact Kd.R_mono (Kd.R_far (p := ⟨go20, (x19_2 : Int).toNat, none⟩) (Kd.R_mono HO_17.out (fun k_ hk => (⟨hk, fun e_ => hk (by rw [e_]; rfl)⟩ : _ ∧ k_ ≠ go20))) (fun _ hk => hk.2) (.int .i64 (wrap64 ((rd y137 x19_2) + (wrap64 ((rd x5_1 x19_2) * t139)))))) (fun _ hk => hk.1)⟩, ⟨by repeat (first | (with_reducible first | exact HB.out | apply below_alloc | apply pw_below_drewN | apply below_drew1 | refine below_set ?_ GB20.out) | exact HB.out)⟩⟩
 rw [if_pos c24] at H
 have c24b0 : decide (0 < x19_2) = true := decide_eq_true c24
 clear c24
 obtain ⟨ji25, hji25⟩ : ∃ j_ : Int, (wrap64 (x19_2 - 1)) = j_ := ⟨_, rfl⟩
 replace H : (if 0 ≤ (ji25) then (if (ji25) < (x6_2.length : Int) then ((wt 68 x19_2).bind fun t142 => (sumMixed.l1 wt k2 (y140.set ((ji25) : Int).toNat (wrap64 ((rd y140 (ji25)) + (wrap64 ((rd x5_1 x19_2) * t142))))) a0 x11_1 x5_1 (x5_1.length : Int) ji16)) else (none)) else (none)) = some r := by first | (rw [hji25] at H; exact H) | (simp only [hji25] at H ⊢; exact H)
 (try rw [hji25] at A19)
 (try rw [hji25] at A22)
 have hji25w : (IntKind.i64.wrap (x19_2 - 1)) = ji25 := (i64_w _).trans hji25
 by_cases c26 : 0 ≤ (ji25)
 rotate_left
 ·
  rw [if_neg c26] at H
  exact absurd H (by simp)
 rw [if_pos c26] at H
 have c26b0 : decide (0 ≤ (ji25)) = true := decide_eq_true c26
 clear c26
 by_cases c27 : (ji25) < (x6_2.length : Int)
 rotate_left
 ·
  rw [if_neg c27] at H
  exact absurd H (by simp)
 rw [if_pos c27] at H
 have c27b0 : decide ((ji25) < (x6_2.length : Int)) = true := decide_eq_true c27
 clear c27
 replace H := Option.bind_eq_some_iff.mp H
 obtain ⟨t142, A280, H⟩ := H
 replace H : (sumMixed.l1 wt k2 (y140.set ((ji25) : Int).toNat (wrap64 ((rd y140 (ji25)) + (wrap64 ((rd x5_1 x19_2) * t142))))) a0 x11_1 x5_1 (x5_1.length : Int) ji16) = some r := H
 have A28 := Asmq A280
 clear A280
 obtain ⟨y143, hy143⟩ : ∃ y_ : List Int, y_ = (y140.set ((ji25) : Int).toNat (wrap64 ((rd y140 (ji25)) + (wrap64 ((rd x5_1 x19_2) * t142))))) := ⟨_, rfl⟩
 replace H : (sumMixed.l1 wt k2 y143 a0 x11_1 x5_1 (x5_1.length : Int) ji16) = some r := by first | (rw [hy143]; with_reducible exact H) | (have H2_ := (Option.bind_some _ _).symm.trans H; rw [hy143]; with_reducible exact H2_) | (have H2_ := (Option.bind_some _ _).symm.trans H; with_reducible exact H2_) | with_reducible exact H | (rw [hy143]; exact H) | exact H
 have Ny143 := Asmq hy143
 clear hy143
 have H' := Asmq H
 clear H
 have p134 : 0 ≤ (x19_2 : Int) := of_decide_eq_true Zsm5
 have q134 : x19_2 < (x5_1.length : Int) := of_decide_eq_true Zsm5
 obtain ⟨ad134, e134, hx134_0⟩ := Kd.at_int (Kd.R_reads' HO_17.out).2.2 x19_2 p134 q134
 cases e134
 replace p134 := eq_true p134
 replace q134 := eq_true q134
 try go_wp2
 have n0_ := Asmq (Kd.R_drew HO_6.out)
 have n1_ := Asmq (Kd.R_drew HO_17.out)
 have n2_ := Asmq (below_drew1 HB.out)
 clear HO_6 HO_17 HB
 have HO_6 := n0_
 have HO_17 := n1_
 have HB := n2_
 clear n0_ n1_ n2_
 obtain ⟨Ao31, co31, eo31⟩ := Kd.R_slice HO_6.out
 (first | subst eo31 | (injection eo31 with f1_ f2_ f3_; have f4_ := f1_.symm; have f5_ := f3_.symm; clear f1_ f2_ f3_; subst f4_; subst f5_))
 have p135 : 0 ≤ ((ji16) : Int) := of_decide_eq_true Zsm5
 have q135 : (ji16) < (x6_2.length : Int) := of_decide_eq_true Zsm5
 obtain ⟨ad135, e135, hx135_0⟩ := Kd.at_int (Kd.R_reads' HO_6.out).2.2 (ji16) p135 q135
 cases e135
 replace p135 := eq_true p135
 replace q135 := eq_true q135
 refine start_ (n := 13) (S := fun w' => w'.cell? (ad135.add ((ji16)).toNat) = some (.int .i64 (rd x6_2 (ji16)))) (ds := [12]) #[false, false, false, false, false, false, false, false, false, false, false, false, false] Zsm6 rfl rfl (hx135_0) (fun hHeld => ?_); refine with_tabW sumMixed.tab9 sumMixed.bits9 (fun HT_ HW_ => ?_)
 generalize wr.drew = w30 at HO_6 HO_17 HB hx135_0 hHeld ⊢
 refine pure_ (i := 0) (N := some 26) (v := ?_) (a' := ?_) #[true, false, false, false, false, false, false, false, false, false, false, false, false] rfl rfl (any_of HT_.out Zsm6) (fun _ _ _ h => h) (Or.inl ⟨by rfl, ?_⟩) ?_ ?_
 rotate_left
 ·
  intro w'
  go_simp
  with_reducible rfl
 rotate_left
 ·
  simp only [Act.put, y1sm, y2sm, y3sm, i64_w, i32_w]
  rfl
 refine pure_ (i := 1) (N := some 27) (v := ?_) (a' := ?_) #[true, true, false, false, false, false, false, false, false, false, false, false, false] rfl rfl (any_of HT_.out Zsm6) (fun _ _ _ h => h) (Or.inl ⟨by rfl, ?_⟩) ?_ ?_
 rotate_left
 ·
  intro w'
  go_simp
  with_reducible rfl
 rotate_left
 ·
  simp only [Act.put, y1sm, y2sm, y3sm, i64_w, i32_w]
  rfl
 refine pure_ (i := 2) (N := some 28) (v := ?_) (a' := ?_) #[true, true, true, false, false, false, false, false, false, false, false, false, false] rfl rfl (any_of HT_.out Zsm6) (fun _ _ _ h => h) (Or.inl ⟨by rfl, ?_⟩) ?_ ?_
 rotate_left
 ·
  intro w'
  go_simp
  with_reducible rfl
 rotate_left
 ·
  simp only [Act.put, y1sm, y2sm, y3sm, i64_w, i32_w]
  rfl
 refine pure_ (i := 3) (N := some 29) (v := ?_) (a' := ?_) #[true, true, true, true, false, false, false, false, false, false, false, false, false] rfl rfl (any_of HT_.out Zsm6) (fun _ _ _ h => h) (Or.inl ⟨by rfl, ?_⟩) ?_ ?_
 rotate_left
 ·
  intro w'
  go_simp
  with_reducible rfl
 rotate_left
 ·
  simp only [Act.put, y1sm, y2sm, y3sm, i64_w, i32_w]
  rfl
 refine pure_ (i := 5) (N := some 31) (v := ?_) (a' := ?_) #[true, true, true, true, false, true, false, false, false, false, false, false, false] rfl rfl (any_of HT_.out Zsm6) (fun _ _ _ h => h) (Or.inl ⟨by rfl, ?_⟩) ?_ ?_
 rotate_left
 ·
  intro w'
  go_simp
  with_reducible rfl
 rotate_left
 ·
  simp only [Act.put, y1sm, y2sm, y3sm, i64_w, i32_w]
  rfl
 refine pure_ (i := 6) (N := some 32) (v := ?_) (a' := ?_) #[true, true, true, true, false, true, true, false, false, false, false, false, false] rfl rfl (any_of HT_.out Zsm6) (fun _ _ _ h => h) (Or.inl ⟨by rfl, ?_⟩) ?_ ?_
 rotate_left
 ·
  intro w'
  go_simp
  with_reducible rfl
 rotate_left
 ·
  simp only [Act.put, y1sm, y2sm, y3sm, i64_w, i32_w]
  rfl
 refine pure_ (i := 7) (N := some 33) (v := ?_) (a' := ?_) #[true, true, true, true, false, true, true, true, false, false, false, false, false] rfl rfl (any_of HT_.out Zsm6) (fun _ _ _ h => h) (Or.inl ⟨by rfl, ?_⟩) ?_ ?_
 rotate_left
 ·
  intro w'
  go_simp
  with_reducible rfl
 rotate_left
 ·
  simp only [Act.put, y1sm, y2sm, y3sm, i64_w, i32_w]
  rfl
 refine take_ (i := 4) (N := some 30) (v := ?_) (a' := ?_) #[true, true, true, true, true, true, true, true, false, false, false, false, false] rfl rfl (take_ofW HT_.out HW_.out Zsm6) (fun _ _ _ h => h) (Or.inl ⟨by rfl, ?_⟩) hHeld ?_ ?_
 rotate_left
 ·
  intro w' s0
  go_simp
  with_reducible rfl
 rotate_left
 ·
  simp only [Act.put, y1sm, y2sm, y3sm, i64_w, i32_w]
  rfl
 refine one_ (i := 8) (N := some 34) #[true, true, true, true, true, true, true, true, true, false, false, false, false] rfl rfl (one_of HT_.out Zsm6) (by decide) (fun K hK => ?_)
 refine goesG_ (lb := lb) HF.out HN.out HBO.out (#[.int .u8 85, .int .i64 x19_2] ++ lb) (by rfl) rfl rfl (by first | rfl | (simp [Act.eval]; done)) Zsm1 ?_
 with_reducible refine (HWT.out 85 x19_2 t136 _ Zsm2 A19.out).mono ?_
 rintro e w' ⟨rfl, ⟨nd, rfl⟩⟩
 refine ⟨_, rfl, ?_⟩
 have n0_ := Asmq (Kd.R_drewN HO_6.out nd)
 have n1_ := Asmq (Kd.R_drewN HO_17.out nd)
 have n2_ := Asmq (pw_below_drewN HB.out nd)
 (try clear HO_6)
 (try clear HO_17)
 (try clear HB)
 replace hHeld : (fun w' : World => w'.cell? (ad135.add ((ji16)).toNat) = some (.int .i64 (rd x6_2 (ji16)))) (World.drewN w30 nd) := hHeld
 generalize World.drewN w30 nd = w30 at n0_ n1_ n2_ hHeld ⊢
 have HO_6 := n0_
 have HO_17 := n1_
 have HB := n2_
 clear n0_ n1_ n2_
 have p20 : 0 ≤ ((ji16) : Int) := of_decide_eq_true Zsm5
 have q20 : ((ji16) : Int) < ((x6_2.length : Int) : Int) := of_decide_eq_true Zsm5
 obtain ⟨go20, co20, eo20, g20, gl20, cl20, HG20⟩ := Kd.R_form HO_6.out (by omega)
 (first | cases eo20 | (injection eo20 with ea_ en_ ec_; (first | subst ea_ | (injection ea_ with ea_; subst ea_)); subst ec_; clear en_))
 have GB20 := Asmq g20
 have GG20 := Asmq HG20
 clear g20 gl20 HG20
 (first | simp only [add_plain] at hx135_0 | skip)
 obtain ⟨hx20_0, hf20_0⟩ := Kd.R_celln 0 HO_6.out ((ji16) : Int) p20 q20
 replace p20 := eq_true p20
 replace q20 := eq_true q20
 have HP32 := Kd.R_putn HO_6.out ((ji16) : Int) (wrap64 ((rd x6_2 (ji16)) + (wrap64 ((rd x5_1 x19_2) * t136))))
 rw [← Ny137.out] at HP32
 have HQ32 := Asmq HP32
 clear HP32
 refine hK.out _ _ (hHeld) (fun hHeld => ?_)
 clear hK K
 refine norm_ (a' := ?_) ?_ ?_
 rotate_left
 ·
  show Act.put _ (some 34) _ = _
  simp only [Act.put, y1sm, y2sm, y3sm, i64_w, i32_w]
  rfl
 refine pure_ (i := 9) (N := some 35) (v := ?_) (a' := ?_) #[true, true, true, true, true, true, true, true, true, true, false, false, false] rfl rfl (any_of HT_.out Zsm6) (fun _ _ _ h => h) (Or.inl ⟨by rfl, ?_⟩) ?_ ?_
 rotate_left
 ·
  intro w'
  go_simp
  with_reducible rfl
 rotate_left
 ·
  simp only [Act.put, y1sm, y2sm, y3sm, i64_w, i32_w]
  rfl
 refine pure_ (i := 10) (N := some 36) (v := ?_) (a' := ?_) #[true, true, true, true, true, true, true, true, true, true, true, false, false] rfl rfl (any_of HT_.out Zsm6) (fun _ _ _ h => h) (Or.inl ⟨by rfl, ?_⟩) ?_ ?_
 rotate_left
 ·
  intro w'
  go_simp
  with_reducible rfl
 rotate_left
 ·
  simp only [Act.put, y1sm, y2sm, y3sm, i64_w, i32_w]
  rfl
 refine pure_ (i := 11) (N := some 37) (v := ?_) (a' := ?_) #[true, true, true, true, true, true, true, true, true, true, true, true, false] rfl rfl (any_of HT_.out Zsm6) (fun _ _ _ h => h) (Or.inl ⟨by rfl, ?_⟩) ?_ ?_
 rotate_left
 ·
  intro w'
  go_simp
  with_reducible rfl
 rotate_left
 ·
  simp only [Act.put, y1sm, y2sm, y3sm, i64_w, i32_w]
  rfl
 refine last_ (i := 12) (N := none) #[true, true, true, true, true, true, true, true, true, true, true, true, true] rfl rfl (one_of HT_.out Zsm6) (by decide) (fun K hK => ?_)
 refine skip_ (w1 := ?_) (by rfl) rfl ?_ ?_
 rotate_left
 ·
  go_simp
  rfl
 refine hK.out _ _ ?_
 clear hK K
 refine done_ (done_of HT_.out Zsm6) ?_
 try go_wp2
 have n0_ : Aside0 (Kd.R (Kd.int .i64) 3 (w30.setCell ⟨go20, ((ji16) : Int).toNat, none⟩ (.int .i64 (wrap64 ((rd x6_2 (ji16)) + (wrap64 ((rd x5_1 x19_2) * t136)))))) w.heap.size (fun k_ => some k_ ≠ (.slice (some ad134) x5_1.length co9 : Value).ownBlock) (.slice (some ⟨go20, 0, none⟩) x6_2.length co31) y137) := ⟨by (with_reducible repeat (first | apply Kd.R_alloc | apply Kd.R_drewN | apply Kd.R_drew)); exact HQ32.out⟩
 have n1_ : Aside0 (Kd.R (Kd.int .i64) 3 (w30.setCell ⟨go20, ((ji16) : Int).toNat, none⟩ (.int .i64 (wrap64 ((rd x6_2 (ji16)) + (wrap64 ((rd x5_1 x19_2) * t136)))))) w.heap.size (fun k_ => some k_ ≠ (.slice (some ⟨go20, 0, none⟩) x6_2.length co31 : Value).ownBlock) (.slice (some ad134) x5_1.length co9) x5_1) := ⟨by (with_reducible repeat (first | apply Kd.R_alloc | apply Kd.R_drewN | apply Kd.R_drew)); exact Kd.R_mono (Kd.R_far (p := ⟨go20, ((ji16) : Int).toNat, none⟩) (Kd.R_mono HO_17.out (fun k_ hk => (⟨hk, fun e_ => hk (by rw [e_]; rfl)⟩ : _ ∧ k_ ≠ go20))) (fun _ hk => hk.2) (.int .i64 (wrap64 ((rd x6_2 (ji16)) + (wrap64 ((rd x5_1 x19_2) * t136)))))) (fun _ hk => hk.1)⟩
 have n2_ : Aside0 (Below w.heap.size w (w30.setCell ⟨go20, ((ji16) : Int).toNat, none⟩ (.int .i64 (wrap64 ((rd x6_2 (ji16)) + (wrap64 ((rd x5_1 x19_2) * t136))))))) := ⟨by repeat (first | (with_reducible first | exact HB.out | apply below_alloc | apply pw_below_drewN | apply below_drew1 | refine below_set ?_ GB20.out) | exact HB.out)⟩
 (try clear HO_6)
 (try clear HO_17)
 (try clear HB)
 generalize (w30.setCell ⟨go20, ((ji16) : Int).toNat, none⟩ (.int .i64 (wrap64 ((rd x6_2 (ji16)) + (wrap64 ((rd x5_1 x19_2) * t136)))))) = w33 at n0_ n1_ n2_ ⊢
 have HO_6 := n0_
 have HO_17 := n1_
 have HB := n2_
 clear n0_ n1_ n2_
 (try (rw [drewN_self w33]; generalize hq_ : World.drewN w33 _ = w33; have n0_ : Aside0 (Kd.R (Kd.int .i64) 3 w33 w.heap.size (fun k_ => some k_ ≠ (.slice (some ⟨go20, 0, none⟩) x6_2.length co31 : Value).ownBlock) (.slice (some ad134) x5_1.length co9) x5_1) := ⟨by rw [← hq_]; exact Zsm3⟩; have n1_ : Aside0 (Kd.R (Kd.int .i64) 3 w33 w.heap.size (fun k_ => some k_ ≠ (.slice (some ad134) x5_1.length co9 : Value).ownBlock) (.slice (some ⟨go20, 0, none⟩) x6_2.length co31) y137) := ⟨by rw [← hq_]; exact Zsm4⟩; have n2_ : Aside0 (Below w.heap.size w w33) := ⟨by rw [← hq_]; exact Zsm2⟩; clear HO_17 HO_6 HB hq_; have HO_17 := n0_; have HO_6 := n1_; have HB := n2_; clear n0_ n1_ n2_))
 (try (rw [drewN_self w33]; generalize hq_ : World.drewN w33 _ = w33; have n0_ : Aside0 (Kd.R (Kd.int .i64) 3 w33 w.heap.size (fun k_ => some k_ ≠ (.slice (some ⟨go20, 0, none⟩) x6_2.length co31 : Value).ownBlock) (.slice (some ad134) x5_1.length co9) x5_1) := ⟨by rw [← hq_]; exact Zsm3⟩; have n1_ : Aside0 (Kd.R (Kd.int .i64) 3 w33 w.heap.size (fun k_ => some k_ ≠ (.slice (some ad134) x5_1.length co9 : Value).ownBlock) (.slice (some ⟨go20, 0, none⟩) x6_2.length co31) y137) := ⟨by rw [← hq_]; exact Zsm4⟩; have n2_ : Aside0 (Below w.heap.size w w33) := ⟨by rw [← hq_]; exact Zsm2⟩; clear HO_17 HO_6 HB hq_; have HO_17 := n0_; have HO_6 := n1_; have HB := n2_; clear n0_ n1_ n2_))
 have n0_ := Asmq (Kd.R_drew HO_6.out)
 have n1_ := Asmq (Kd.R_drew HO_17.out)
 have n2_ := Asmq (below_drew1 HB.out)
 clear HO_6 HO_17 HB
 have HO_6 := n0_
 have HO_17 := n1_
 have HB := n2_
 clear n0_ n1_ n2_
 have p138 : 0 ≤ (x19_2 : Int) := of_decide_eq_true Zsm5
 have q138 : x19_2 < (y137.length : Int) := (by have h_ : (x19_2 : Int) < ((x6_2.length : Int) : Int) := of_decide_eq_true Zsm5; first | (have e_ := (Kd.R_reads' HO_6.out).1; omega) | simpa only [Ny137.out, List.length_set] using h_)
 have ql138 : ((x19_2 : Int) < ((x6_2.length : Int) : Int)) = True := eq_true (of_decide_eq_true Zsm5)
 obtain ⟨ad138, e138, hx138_0⟩ := Kd.at_int (Kd.R_reads' HO_6.out).2.2 x19_2 p138 q138
 obtain rfl : (⟨go20, 0, none⟩ : Addr) = ad138 := (by injection e138)
 (first | simp only [add_plain] at hx138_0 | simp only [add_at] at hx138_0 | simp only [Addr.add, Nat.zero_add] at hx138_0 | skip)
 replace p138 := eq_true p138
 replace q138 := eq_true q138
 refine start_ (n := 12) (S := fun w' => w'.cell? ⟨go20, (x19_2).toNat, none⟩ = some (.int .i64 (rd y137 x19_2))) (ds := [11]) #[false, false, false, false, false, false, false, false, false, false, false, false] Zsm6 rfl rfl (hx138_0) (fun hHeld => ?_); refine with_tabW sumMixed.tab10 sumMixed.bits10 (fun HT_ HW_ => ?_)
 generalize w33.drew = w34 at HO_6 HO_17 HB HQ32 hx138_0 hHeld ⊢
 refine pure_ (i := 0) (N := some 38) (v := ?_) (a' := ?_) #[true, false, false, false, false, false, false, false, false, false, false, false] rfl rfl (any_of HT_.out Zsm6) (fun _ _ _ h => h) (Or.inl ⟨by rfl, ?_⟩) ?_ ?_
 rotate_left
 ·
  intro w'
  go_simp
  with_reducible rfl
 rotate_left
 ·
  simp only [Act.put, y1sm, y2sm, y3sm, i64_w, i32_w]
  rfl
 refine pure_ (i := 1) (N := some 39) (v := ?_) (a' := ?_) #[true, true, false, false, false, false, false, false, false, false, false, false] rfl rfl (any_of HT_.out Zsm6) (fun _ _ _ h => h) (Or.inl ⟨by rfl, ?_⟩) ?_ ?_
 rotate_left
 ·
  intro w'
  go_simp
  with_reducible rfl
 rotate_left
 ·
  simp only [Act.put, y1sm, y2sm, y3sm, i64_w, i32_w]
  rfl
 refine pure_ (i := 2) (N := some 40) (v := ?_) (a' := ?_) #[true, true, true, false, false, false, false, false, false, false, false, false] rfl rfl (any_of HT_.out Zsm6) (fun _ _ _ h => h) (Or.inl ⟨by rfl, ?_⟩) ?_ ?_
 rotate_left
 ·
  intro w'
  go_simp
  with_reducible rfl
 rotate_left
 ·
  simp only [Act.put, y1sm, y2sm, y3sm, i64_w, i32_w]
  rfl
 refine pure_ (i := 4) (N := some 42) (v := ?_) (a' := ?_) #[true, true, true, false, true, false, false, false, false, false, false, false] rfl rfl (any_of HT_.out Zsm6) (fun _ _ _ h => h) (Or.inl ⟨by rfl, ?_⟩) ?_ ?_
 rotate_left
 ·
  intro w'
  go_simp
  with_reducible rfl
 rotate_left
 ·
  simp only [Act.put, y1sm, y2sm, y3sm, i64_w, i32_w]
  rfl
 refine pure_ (i := 5) (N := some 43) (v := ?_) (a' := ?_) #[true, true, true, false, true, true, false, false, false, false, false, false] rfl rfl (any_of HT_.out Zsm6) (fun _ _ _ h => h) (Or.inl ⟨by rfl, ?_⟩) ?_ ?_
 rotate_left
 ·
  intro w'
  go_simp
  with_reducible rfl
 rotate_left
 ·
  simp only [Act.put, y1sm, y2sm, y3sm, i64_w, i32_w]
  rfl
 refine pure_ (i := 6) (N := some 44) (v := ?_) (a' := ?_) #[true, true, true, false, true, true, true, false, false, false, false, false] rfl rfl (any_of HT_.out Zsm6) (fun _ _ _ h => h) (Or.inl ⟨by rfl, ?_⟩) ?_ ?_
 rotate_left
 ·
  intro w'
  go_simp
  with_reducible rfl
 rotate_left
 ·
  simp only [Act.put, y1sm, y2sm, y3sm, i64_w, i32_w]
  rfl
 refine take_ (i := 3) (N := some 41) (v := ?_) (a' := ?_) #[true, true, true, true, true, true, true, false, false, false, false, false] rfl rfl (take_ofW HT_.out HW_.out Zsm6) (fun _ _ _ h => h) (Or.inl ⟨by rfl, ?_⟩) hHeld ?_ ?_
 rotate_left
 ·
  intro w' s0
  go_simp
  with_reducible rfl
 rotate_left
 ·
  simp only [Act.put, y1sm, y2sm, y3sm, i64_w, i32_w]
  rfl
 refine one_ (i := 7) (N := some 45) #[true, true, true, true, true, true, true, true, false, false, false, false] rfl rfl (one_of HT_.out Zsm6) (by decide) (fun K hK => ?_)
 refine goesG_ (lb := lb) HF.out HN.out HBO.out (#[.int .u8 70, .int .i64 x19_2] ++ lb) (by rfl) rfl rfl (by first | rfl | (simp [Act.eval]; done)) Zsm1 ?_
 with_reducible refine (HWT.out 70 x19_2 t139 _ Zsm2 A22.out).mono ?_
 rintro e w' ⟨rfl, ⟨nd, rfl⟩⟩
 refine ⟨_, rfl, ?_⟩
 have n0_ := Asmq (Kd.R_drewN HO_6.out nd)
 have n1_ := Asmq (Kd.R_drewN HO_17.out nd)
 have n2_ := Asmq (pw_below_drewN HB.out nd)
 (try clear HO_6)
 (try clear HO_17)
 (try clear HB)
 replace hHeld : (fun w' : World => w'.cell? ⟨go20, (x19_2).toNat, none⟩ = some (.int .i64 (rd y137 x19_2))) (World.drewN w34 nd) := hHeld
 generalize World.drewN w34 nd = w34 at n0_ n1_ n2_ hHeld ⊢
 have HO_6 := n0_
 have HO_17 := n1_
 have HB := n2_
 clear n0_ n1_ n2_
 have p23 : 0 ≤ (x19_2 : Int) := of_decide_eq_true Zsm5
 have q23 : (x19_2 : Int) < ((x6_2.length : Int) : Int) := of_decide_eq_true Zsm5
 obtain ⟨hx23_0, hf23_0⟩ := Kd.R_celln 0 HO_6.out (x19_2 : Int) p23 q23
 replace p23 := eq_true p23
 replace q23 := eq_true q23
 have HP35 := Kd.R_putn HO_6.out (x19_2 : Int) (wrap64 ((rd y137 x19_2) + (wrap64 ((rd x5_1 x19_2) * t139))))
 rw [← Ny140.out] at HP35
 have HQ35 := Asmq HP35
 clear HP35
 refine hK.out _ _ (hHeld) (fun hHeld => ?_)
 clear hK K
 refine norm_ (a' := ?_) ?_ ?_
 rotate_left
 ·
  show Act.put _ (some 45) _ = _
  simp only [Act.put, y1sm, y2sm, y3sm, i64_w, i32_w]
  rfl
 refine pure_ (i := 8) (N := some 46) (v := ?_) (a' := ?_) #[true, true, true, true, true, true, true, true, true, false, false, false] rfl rfl (any_of HT_.out Zsm6) (fun _ _ _ h => h) (Or.inl ⟨by rfl, ?_⟩) ?_ ?_
 rotate_left
 ·
  intro w'
  go_simp
  with_reducible rfl
 rotate_left
 ·
  simp only [Act.put, y1sm, y2sm, y3sm, i64_w, i32_w]
  rfl
 refine pure_ (i := 9) (N := some 47) (v := ?_) (a' := ?_) #[true, true, true, true, true, true, true, true, true, true, false, false] rfl rfl (any_of HT_.out Zsm6) (fun _ _ _ h => h) (Or.inl ⟨by rfl, ?_⟩) ?_ ?_
 rotate_left
 ·
  intro w'
  go_simp
  with_reducible rfl
 rotate_left
 ·
  simp only [Act.put, y1sm, y2sm, y3sm, i64_w, i32_w]
  rfl
 refine pure_ (i := 10) (N := some 48) (v := ?_) (a' := ?_) #[true, true, true, true, true, true, true, true, true, true, true, false] rfl rfl (any_of HT_.out Zsm6) (fun _ _ _ h => h) (Or.inl ⟨by rfl, ?_⟩) ?_ ?_
 rotate_left
 ·
  intro w'
  go_simp
  with_reducible rfl
 rotate_left
 ·
  simp only [Act.put, y1sm, y2sm, y3sm, i64_w, i32_w]
  rfl
 refine last_ (i := 11) (N := none) #[true, true, true, true, true, true, true, true, true, true, true, true] rfl rfl (one_of HT_.out Zsm6) (by decide) (fun K hK => ?_)
 refine skip_ (w1 := ?_) (by rfl) rfl ?_ ?_
 rotate_left
 ·
  go_simp
  rfl
 refine hK.out _ _ ?_
 clear hK K
 refine done_ (done_of HT_.out Zsm6) ?_
 try go_wp2
 have n0_ : Aside0 (Kd.R (Kd.int .i64) 3 (w34.setCell ⟨go20, (x19_2 : Int).toNat, none⟩ (.int .i64 (wrap64 ((rd y137 x19_2) + (wrap64 ((rd x5_1 x19_2) * t139)))))) w.heap.size (fun k_ => some k_ ≠ (.slice (some ad134) x5_1.length co9 : Value).ownBlock) (.slice (some ⟨go20, 0, none⟩) x6_2.length co31) y140) := ⟨by (with_reducible repeat (first | apply Kd.R_alloc | apply Kd.R_drewN | apply Kd.R_drew)); exact HQ35.out⟩
 have n1_ : Aside0 (Kd.R (Kd.int .i64) 3 (w34.setCell ⟨go20, (x19_2 : Int).toNat, none⟩ (.int .i64 (wrap64 ((rd y137 x19_2) + (wrap64 ((rd x5_1 x19_2) * t139)))))) w.heap.size (fun k_ => some k_ ≠ (.slice (some ⟨go20, 0, none⟩) x6_2.length co31 : Value).ownBlock) (.slice (some ad134) x5_1.length co9) x5_1) := ⟨by (with_reducible repeat (first | apply Kd.R_alloc | apply Kd.R_drewN | apply Kd.R_drew)); exact Kd.R_mono (Kd.R_far (p := ⟨go20, (x19_2 : Int).toNat, none⟩) (Kd.R_mono HO_17.out (fun k_ hk => (⟨hk, fun e_ => hk (by rw [e_]; rfl)⟩ : _ ∧ k_ ≠ go20))) (fun _ hk => hk.2) (.int .i64 (wrap64 ((rd y137 x19_2) + (wrap64 ((rd x5_1 x19_2) * t139)))))) (fun _ hk => hk.1)⟩
 have n2_ : Aside0 (Below w.heap.size w (w34.setCell ⟨go20, (x19_2 : Int).toNat, none⟩ (.int .i64 (wrap64 ((rd y137 x19_2) + (wrap64 ((rd x5_1 x19_2) * t139))))))) := ⟨by repeat (first | (with_reducible first | exact HB.out | apply below_alloc | apply pw_below_drewN | apply below_drew1 | refine below_set ?_ GB20.out) | exact HB.out)⟩
 (try clear HO_6)
 (try clear HO_17)
 (try clear HB)
 generalize (w34.setCell ⟨go20, (x19_2 : Int).toNat, none⟩ (.int .i64 (wrap64 ((rd y137 x19_2) + (wrap64 ((rd x5_1 x19_2) * t139)))))) = w36 at n0_ n1_ n2_ ⊢
 have HO_6 := n0_
 have HO_17 := n1_
 have HB := n2_
 clear n0_ n1_ n2_
 (try (rw [drewN_self w36]; generalize hq_ : World.drewN w36 _ = w36; have n0_ : Aside0 (Kd.R (Kd.int .i64) 3 w36 w.heap.size (fun k_ => some k_ ≠ (.slice (some ⟨go20, 0, none⟩) x6_2.length co31 : Value).ownBlock) (.slice (some ad134) x5_1.length co9) x5_1) := ⟨by rw [← hq_]; exact Zsm3⟩; have n1_ : Aside0 (Kd.R (Kd.int .i64) 3 w36 w.heap.size (fun k_ => some k_ ≠ (.slice (some ad134) x5_1.length co9 : Value).ownBlock) (.slice (some ⟨go20, 0, none⟩) x6_2.length co31) y140) := ⟨by rw [← hq_]; exact Zsm4⟩; have n2_ : Aside0 (Below w.heap.size w w36) := ⟨by rw [← hq_]; exact Zsm2⟩; clear HO_17 HO_6 HB hq_; have HO_17 := n0_; have HO_6 := n1_; have HB := n2_; clear n0_ n1_ n2_))
 (try (rw [drewN_self w36]; generalize hq_ : World.drewN w36 _ = w36; have n0_ : Aside0 (Kd.R (Kd.int .i64) 3 w36 w.heap.size (fun k_ => some k_ ≠ (.slice (some ⟨go20, 0, none⟩) x6_2.length co31 : Value).ownBlock) (.slice (some ad134) x5_1.length co9) x5_1) := ⟨by rw [← hq_]; exact Zsm3⟩; have n1_ : Aside0 (Kd.R (Kd.int .i64) 3 w36 w.heap.size (fun k_ => some k_ ≠ (.slice (some ad134) x5_1.length co9 : Value).ownBlock) (.slice (some ⟨go20, 0, none⟩) x6_2.length co31) y140) := ⟨by rw [← hq_]; exact Zsm4⟩; have n2_ : Aside0 (Below w.heap.size w w36) := ⟨by rw [← hq_]; exact Zsm2⟩; clear HO_17 HO_6 HB hq_; have HO_17 := n0_; have HO_6 := n1_; have HB := n2_; clear n0_ n1_ n2_))
 have n0_ := Asmq (Kd.R_drew HO_6.out)
 have n1_ := Asmq (Kd.R_drew HO_17.out)
 have n2_ := Asmq (below_drew1 HB.out)
 clear HO_6 HO_17 HB
 have HO_6 := n0_
 have HO_17 := n1_
 have HB := n2_
 clear n0_ n1_ n2_
 have p141 : 0 ≤ ((ji25) : Int) := of_decide_eq_true Zsm5
 have q141 : (ji25) < (y140.length : Int) := (by have h_ : ((ji25) : Int) < ((x6_2.length : Int) : Int) := of_decide_eq_true Zsm5; first | (have e_ := (Kd.R_reads' HO_6.out).1; omega) | simpa only [Ny137.out, Ny140.out, List.length_set] using h_)
 have ql141 : (((ji25) : Int) < ((x6_2.length : Int) : Int)) = True := eq_true (of_decide_eq_true Zsm5)
 obtain ⟨ad141, e141, hx141_0⟩ := Kd.at_int (Kd.R_reads' HO_6.out).2.2 (ji25) p141 q141
 obtain rfl : (⟨go20, 0, none⟩ : Addr) = ad141 := (by injection e141)
 (first | simp only [add_plain] at hx141_0 | simp only [add_at] at hx141_0 | simp only [Addr.add, Nat.zero_add] at hx141_0 | skip)
 replace p141 := eq_true p141
 replace q141 := eq_true q141
 refine start_ (n := 13) (S := fun w' => w'.cell? ⟨go20, ((ji25)).toNat, none⟩ = some (.int .i64 (rd y140 (ji25)))) (ds := [12]) #[false, false, false, false, false, false, false, false, false, false, false, false, false] Zsm6 rfl rfl (hx141_0) (fun hHeld => ?_); refine with_tabW sumMixed.tab12 sumMixed.bits12 (fun HT_ HW_ => ?_)
 generalize w36.drew = w37 at HO_6 HO_17 HB HQ35 hx141_0 hHeld ⊢
 refine pure_ (i := 0) (N := some 51) (v := ?_) (a' := ?_) #[true, false, false, false, false, false, false, false, false, false, false, false, false] rfl rfl (any_of HT_.out Zsm6) (fun _ _ _ h => h) (Or.inl ⟨by rfl, ?_⟩) ?_ ?_
 rotate_left
 ·
  intro w'
  go_simp
  with_reducible rfl
 rotate_left
 ·
  simp only [Act.put, y1sm, y2sm, y3sm, i64_w, i32_w]
  rfl
 refine pure_ (i := 1) (N := some 52) (v := ?_) (a' := ?_) #[true, true, false, false, false, false, false, false, false, false, false, false, false] rfl rfl (any_of HT_.out Zsm6) (fun _ _ _ h => h) (Or.inl ⟨by rfl, ?_⟩) ?_ ?_
 rotate_left
 ·
  intro w'
  go_simp
  with_reducible rfl
 rotate_left
 ·
  simp only [Act.put, y1sm, y2sm, y3sm, i64_w, i32_w]
  rfl
 refine pure_ (i := 2) (N := some 53) (v := ?_) (a' := ?_) #[true, true, true, false, false, false, false, false, false, false, false, false, false] rfl rfl (any_of HT_.out Zsm6) (fun _ _ _ h => h) (Or.inl ⟨by rfl, ?_⟩) ?_ ?_
 rotate_left
 ·
  intro w'
  go_simp
  with_reducible rfl
 rotate_left
 ·
  simp only [Act.put, y1sm, y2sm, y3sm, i64_w, i32_w]
  rfl
 refine pure_ (i := 3) (N := some 54) (v := ?_) (a' := ?_) #[true, true, true, true, false, false, false, false, false, false, false, false, false] rfl rfl (any_of HT_.out Zsm6) (fun _ _ _ h => h) (Or.inl ⟨by rfl, ?_⟩) ?_ ?_
 rotate_left
 ·
  intro w'
  go_simp
  with_reducible rfl
 rotate_left
 ·
  simp only [Act.put, y1sm, y2sm, y3sm, i64_w, i32_w]
  rfl
 refine pure_ (i := 5) (N := some 56) (v := ?_) (a' := ?_) #[true, true, true, true, false, true, false, false, false, false, false, false, false] rfl rfl (any_of HT_.out Zsm6) (fun _ _ _ h => h) (Or.inl ⟨by rfl, ?_⟩) ?_ ?_
 rotate_left
 ·
  intro w'
  go_simp
  with_reducible rfl
 rotate_left
 ·
  simp only [Act.put, y1sm, y2sm, y3sm, i64_w, i32_w]
  rfl
 refine pure_ (i := 6) (N := some 57) (v := ?_) (a' := ?_) #[true, true, true, true, false, true, true, false, false, false, false, false, false] rfl rfl (any_of HT_.out Zsm6) (fun _ _ _ h => h) (Or.inl ⟨by rfl, ?_⟩) ?_ ?_
 rotate_left
 ·
  intro w'
  go_simp
  with_reducible rfl
 rotate_left
 ·
  simp only [Act.put, y1sm, y2sm, y3sm, i64_w, i32_w]
  rfl
 refine pure_ (i := 7) (N := some 58) (v := ?_) (a' := ?_) #[true, true, true, true, false, true, true, true, false, false, false, false, false] rfl rfl (any_of HT_.out Zsm6) (fun _ _ _ h => h) (Or.inl ⟨by rfl, ?_⟩) ?_ ?_
 rotate_left
 ·
  intro w'
  go_simp
  with_reducible rfl
 rotate_left
 ·
  simp only [Act.put, y1sm, y2sm, y3sm, i64_w, i32_w]
  rfl
 refine take_ (i := 4) (N := some 55) (v := ?_) (a' := ?_) #[true, true, true, true, true, true, true, true, false, false, false, false, false] rfl rfl (take_ofW HT_.out HW_.out Zsm6) (fun _ _ _ h => h) (Or.inl ⟨by rfl, ?_⟩) hHeld ?_ ?_
 rotate_left
 ·
  intro w' s0
  go_simp
  with_reducible rfl
 rotate_left
 ·
  simp only [Act.put, y1sm, y2sm, y3sm, i64_w, i32_w]
  rfl
 refine one_ (i := 8) (N := some 59) #[true, true, true, true, true, true, true, true, true, false, false, false, false] rfl rfl (one_of HT_.out Zsm6) (by decide) (fun K hK => ?_)
 refine goesG_ (lb := lb) HF.out HN.out HBO.out (#[.int .u8 68, .int .i64 x19_2] ++ lb) (by rfl) rfl rfl (by first | rfl | (simp [Act.eval]; done)) Zsm1 ?_
 with_reducible refine (HWT.out 68 x19_2 t142 _ Zsm2 A28.out).mono ?_
 rintro e w' ⟨rfl, ⟨nd, rfl⟩⟩
 refine ⟨_, rfl, ?_⟩
 have n0_ := Asmq (Kd.R_drewN HO_6.out nd)
 have n1_ := Asmq (Kd.R_drewN HO_17.out nd)
 have n2_ := Asmq (pw_below_drewN HB.out nd)
 (try clear HO_6)
 (try clear HO_17)
 (try clear HB)
 replace hHeld : (fun w' : World => w'.cell? ⟨go20, ((ji25)).toNat, none⟩ = some (.int .i64 (rd y140 (ji25)))) (World.drewN w37 nd) := hHeld
 generalize World.drewN w37 nd = w37 at n0_ n1_ n2_ hHeld ⊢
 have HO_6 := n0_
 have HO_17 := n1_
 have HB := n2_
 clear n0_ n1_ n2_
 have p29 : 0 ≤ ((ji25) : Int) := of_decide_eq_true Zsm5
 have q29 : ((ji25) : Int) < ((x6_2.length : Int) : Int) := of_decide_eq_true Zsm5
 obtain ⟨hx29_0, hf29_0⟩ := Kd.R_celln 0 HO_6.out ((ji25) : Int) p29 q29
 replace p29 := eq_true p29
 replace q29 := eq_true q29
 have HP38 := Kd.R_putn HO_6.out ((ji25) : Int) (wrap64 ((rd y140 (ji25)) + (wrap64 ((rd x5_1 x19_2) * t142))))
 rw [← Ny143.out] at HP38
 have HQ38 := Asmq HP38
 clear HP38
 refine hK.out _ _ (hHeld) (fun hHeld => ?_)
 clear hK K
 refine norm_ (a' := ?_) ?_ ?_
 rotate_left
 ·
  show Act.put _ (some 59) _ = _
  simp only [Act.put, y1sm, y2sm, y3sm, i64_w, i32_w]
  rfl
 refine pure_ (i := 9) (N := some 60) (v := ?_) (a' := ?_) #[true, true, true, true, true, true, true, true, true, true, false, false, false] rfl rfl (any_of HT_.out Zsm6) (fun _ _ _ h => h) (Or.inl ⟨by rfl, ?_⟩) ?_ ?_
 rotate_left
 ·
  intro w'
  go_simp
  with_reducible rfl
 rotate_left
 ·
  simp only [Act.put, y1sm, y2sm, y3sm, i64_w, i32_w]
  rfl
 refine pure_ (i := 10) (N := some 61) (v := ?_) (a' := ?_) #[true, true, true, true, true, true, true, true, true, true, true, false, false] rfl rfl (any_of HT_.out Zsm6) (fun _ _ _ h => h) (Or.inl ⟨by rfl, ?_⟩) ?_ ?_
 rotate_left
 ·
  intro w'
  go_simp
  with_reducible rfl
 rotate_left
 ·
  simp only [Act.put, y1sm, y2sm, y3sm, i64_w, i32_w]
  rfl
 refine pure_ (i := 11) (N := some 62) (v := ?_) (a' := ?_) #[true, true, true, true, true, true, true, true, true, true, true, true, false] rfl rfl (any_of HT_.out Zsm6) (fun _ _ _ h => h) (Or.inl ⟨by rfl, ?_⟩) ?_ ?_
 rotate_left
 ·
  intro w'
  go_simp
  with_reducible rfl
 rotate_left
 ·
  simp only [Act.put, y1sm, y2sm, y3sm, i64_w, i32_w]
  rfl
 refine last_ (i := 12) (N := none) #[true, true, true, true, true, true, true, true, true, true, true, true, true] rfl rfl (one_of HT_.out Zsm6) (by decide) (fun K hK => ?_)
 refine skip_ (w1 := ?_) (by rfl) rfl ?_ ?_
 rotate_left
 ·
  go_simp
  rfl
 refine hK.out _ _ ?_
 clear hK K
 refine done_ (done_of HT_.out Zsm6) ?_
 try go_wp2
 go_roundg k2
 case measure => have := HK1.out; have := HK2.out; omega
 case rel => exact ⟨(y143), (ji16), (by first | rfl | (simp; done) | (simp only [← hji16] <;> (first | rfl | simp)) | (simp [*]; done)), H', ⟨by have := HK1.out; have := HK2.out; omega⟩, ⟨by (with_reducible repeat (first | apply Kd.R_alloc | apply Kd.R_drewN | apply Kd.R_drew)); exact HQ38.out⟩, ⟨by (with_reducible repeat (first | apply Kd.R_alloc | apply Kd.R_drewN | apply Kd.R_drew)); exact Kd.R_mono (Kd.R_far (p := ⟨go20, ((ji25) : Int).toNat, none⟩) (Kd.R_mono HO_17.out (fun k_ hk => (⟨hk, fun e_ => hk (by rw [e_]; rfl)⟩ : _ ∧ k_ ≠ go20))) (fun _ hk => hk.2) (.int .i64 (wrap64 ((rd y140 (ji25)) + (wrap64 ((rd x5_1 x19_2) * t142)))))) (fun _ hk => hk.1)⟩, ⟨by repeat (first | (with_reducible first | exact HB.out | apply below_alloc | apply pw_below_drewN | apply below_drew1 | refine below_set ?_ GB20.out) | exact HB.out)⟩⟩
end Go.Proofs.Ytgoiohlmifgncaa.Gen
