/- Contracts of functions that the printer does not take, in the printer's own form. No condition. -/
import Derived.Test.YtgoiohlmifgncaaProg
import Derived.Test.YtgoiohlmifgncaaFnG
import Derived.LoopTactic
import Derived.BigGuardPart
import Derived.Test.YtgoiohlmifgncaaSum
import Derived.Test.YtgoiohlmifgncaaWWords
import Derived.Test.YtgoiohlmifgncaaWLast
import Derived.Test.YtgoiohlmifgncaaWMore
import Derived.WalkKit
import Derived.KernelRfl
import Derived.Below
namespace Go.Proofs.Ytgoiohlmifgncaa.Stub
open Go.RowKit Go.Proofs.YtgoiohlmifgncaaW.PrintWords Go.Proofs.YtgoiohlmifgncaaW.PrintLast Go.Proofs.Ytgoiohlmifgncaa.FnG Go.Proofs.YtgoiohlmifgncaaW.PrintMore Go.Proofs.Ytgoiohlmifgncaa.Gen
set_option linter.unusedVariables false
set_option linter.unusedSimpArgs false
/-- Whether a number is in a range. -/
theorem inB (a0 a1 a2 : Int) (w : World) : Calls Try.prog 17 #[.int .i64 a0, .int .i64 a1, .int .i64 a2] w fun e w' => e = .returned (.bool (decide (a1 ≤ a0) && decide (a0 ≤ a2))) ∧ w' = w := by
  by_cases h1 : a1 ≤ a0
  · have h1' : decide (a1 ≤ a0) = true := decide_eq_true h1
    rw [h1']
    go_enter Try.func17, Try.ntmps17
    go_wp2
    go_ret
    exact ⟨rfl, rfl⟩
  · have h1' : decide (a1 ≤ a0) = false := decide_eq_false h1
    rw [h1']
    go_enter Try.func17, Try.ntmps17
    go_wp2
    go_ret
    exact ⟨rfl, rfl⟩
/-- Whether a number is outside a range. -/
def outB (lo hi x : Int) : Bool := !(decide (lo ≤ x) && decide (x ≤ hi))
theorem outB_eq (lo hi x : Int) : outB lo hi x = (!decide (lo ≤ x) || !decide (x ≤ hi)) := by unfold outB; rw [Bool.not_and]
theorem ret_bool {a b : Bool} (h : a = b) : Ending.returned (.bool a) = .returned (.bool b) := by rw [h]

/-- What slices.IndexFunc answers is at least 0 just where some element meets the predicate. -/
def Finds (q : Bool) (w : World) (e : Ending) (w' : World) : Prop := ∃ n : Int, decide (0 ≤ n) = q ∧ e = .returned (.int .i64 n) ∧ Below w.heap.size w w'
theorem any_take_succ (p : Int → Bool) (l : List Int) (k : Nat) (h : k < l.length) : (l.take (k + 1)).any p = ((l.take k).any p || p (rd l k)) := by
  rw [List.take_succ_eq_append_getElem h, List.any_append]
  simp [rd, h]
theorem any_of_mem (p : Int → Bool) (l : List Int) (k : Nat) (h : k < l.length) (hp : p (rd l k) = true) : l.any p = true := by
  rw [List.any_eq_true]
  exact ⟨l[k], List.getElem_mem h, by simpa [rd, h] using hp⟩
theorem indexFunc (p : Int → Bool) {g : FuncId} {fn : Func} {lb : Array Value} (hf : Try.prog.funcs[g]? = some fn) (hname : (fn.name == "runtime.NumGoroutine") = false) (hb : fn.body.isSome = true)
    (A : Option Addr) (c : Nat) (l : List Int) (w : World) (hC : Kd.C (Kd.int .i64) w A l.length l) (hl : l.length ≤ 1000000000)
    (hp : ∀ (x : Int) (W : World), Below w.heap.size w W → Calls Try.prog g (#[.int .i64 x] ++ lb) W fun e W' => e = .returned (.bool (p x)) ∧ Below W.heap.size W W') :
    Calls Try.prog 25 #[.slice A l.length c, .func (.func g) #[] lb] w (Finds (l.any p) w) := by
  have HC := Aside0.mk hC
  have HP := Aside0.mk hp
  have HF := Aside0.mk hf
  have HN := Aside0.mk hname
  have HBO := Aside0.mk hb
  clear hC hp hf hname hb
  go_enter Try.func25, Try.ntmps25
  go_wp2
  go_loopw [8] (fun v8 wr => ∃ k : Nat, k ≤ l.length ∧ v8 = .int .i64 k ∧ Aside0 ((l.take k).any p = false) ∧ Aside0 (Below w.heap.size w wr)) (fun v8 _ => l.length - (RowKit.intOf v8).toNat)
  case atStart => exact ⟨0, Nat.zero_le _, rfl, ⟨by simp⟩, ⟨Below.refl _ _⟩⟩
  case round =>
    obtain ⟨k, hk, rfl, HA, HB⟩ := hrel
    by_cases hlt : k < l.length
    · obtain ⟨ad, rfl, hx⟩ := Kd.at_int (Kd.C_below HC.out HB.out) (k : Int) (by omega) (by omega)
      have hx' : wr.cell? (ad.add k) = some (.int .i64 (rd l k)) := hx
      clear hx
      have HS := Aside0.mk (any_take_succ p l k hlt)
      cases hpx : p (rd l k) with
      | false =>
        have HX := Aside0.mk hpx
        clear hpx
        go_wp2_with ((with_reducible refine gate_calleeG rfl ?_); refine goesLG_ (lb := lb) (some 16) rfl rfl HF.out HN.out HBO.out (#[.int .i64 (rd l k)] ++ lb) rfl rfl (by (try simp only [List.map_toArray, List.map_cons, List.map_nil]); first | done | rfl) ?_; refine (HP.out (rd l k) _ HB.out).mono ?_; rintro e w1 ⟨rfl, hb1⟩; rw [HX.out]; refine ⟨_, rfl, ?_⟩; have HB1 := Aside0.mk (HB.out.trans (hb1.mono HB.out.size)); clear hb1)
        go_roundw
        case rel => exact ⟨k + 1, by omega, by go_num, ⟨by rw [HS.out, HA.out, HX.out]; rfl⟩, HB1⟩
        case measure => simp [RowKit.intOf]; omega
      | true =>
        have HX := Aside0.mk hpx
        clear hpx
        go_wp2_with ((with_reducible refine gate_calleeG rfl ?_); refine goesLG_ (lb := lb) (some 16) rfl rfl HF.out HN.out HBO.out (#[.int .i64 (rd l k)] ++ lb) rfl rfl (by (try simp only [List.map_toArray, List.map_cons, List.map_nil]); first | done | rfl) ?_; refine (HP.out (rd l k) _ HB.out).mono ?_; rintro e w1 ⟨rfl, hb1⟩; rw [HX.out]; refine ⟨_, rfl, ?_⟩; have HB1 := Aside0.mk (HB.out.trans (hb1.mono HB.out.size)); clear hb1)
        go_ret
        exact ⟨k, by rw [any_of_mem p l k hlt HX.out]; exact decide_eq_true (by omega), rfl, HB1.out⟩
    · obtain rfl : k = l.length := by omega
      go_wp2
      go_ret
      exact ⟨-1, by rw [List.take_length] at HA; rw [HA.out]; rfl, rfl, HB.out⟩
/-- slices.ContainsFunc over whole numbers, whatever predicate is handed in. -/
theorem containsFunc (p : Int → Bool) {g : FuncId} {fn : Func} {lb : Array Value} (hf : Try.prog.funcs[g]? = some fn) (hname : (fn.name == "runtime.NumGoroutine") = false) (hb : fn.body.isSome = true)
    (A : Option Addr) (c : Nat) (l : List Int) (w : World) (hC : Kd.C (Kd.int .i64) w A l.length l) (hl : l.length ≤ 1000000000)
    (hp : ∀ (x : Int) (W : World), Below w.heap.size w W → Calls Try.prog g (#[.int .i64 x] ++ lb) W fun e W' => e = .returned (.bool (p x)) ∧ Below W.heap.size W W') :
    Calls Try.prog 21 #[.slice A l.length c, .func (.func g) #[] lb] w fun e w' => e = .returned (.bool (l.any p)) ∧ Below w.heap.size w w' := by
  have HI := Aside0.mk (indexFunc p hf hname hb A c l w hC hl hp)
  clear hC hp hf hname hb
  go_enter Try.func21, Try.ntmps21
  go_wp2_with (go_at_call 25; refine HI.out.mono ?_; rintro e w1 ⟨n, hn, rfl, hb1⟩; have HN := Aside0.mk hn; have HB := Aside0.mk hb1; clear hn hb1)
  go_ret
  exact ⟨ret_bool HN.out, HB.out⟩
theorem bcellS {W w1 : World} (hb : Below W.heap.size W w1) : (∀ b o, b < W.heap.size → w1.cell? ⟨b, o, none⟩ = W.cell? ⟨b, o, none⟩) ∧ (∀ b o, b < W.heap.size → w1.frozen? ⟨b, o, none⟩ = W.frozen? ⟨b, o, none⟩) :=
  ⟨fun b o h => hb.cell (p := ⟨b, o, none⟩) h, fun b o h => hb.frozen (p := ⟨b, o, none⟩) h⟩

/-- The predicate of areMoments. -/
theorem areMoments1 (x most : Int) (B : Nat) (w W : World) (hb : Below w.heap.size w W) (hw : B < w.heap.size) (h1 : w.cell? ⟨B, 0, none⟩ = some (.int .i64 most)) (h0 : -1000000000000 ≤ most ∧ most ≤ 1000000000000) :
    Calls Try.prog 22 #[.int .i64 x, .pointer (some ⟨B, 0, none⟩)] W fun e W' => e = .returned (.bool (outB (-most) most x)) ∧ Below W.heap.size W W' := by
  have e1 : W.cell? ⟨B, 0, none⟩ = some (.int .i64 most) := (hb.cell (p := ⟨B, 0, none⟩) (by show B < _; omega)).trans h1
  clear h1 hb hw
  obtain ⟨h2, h3⟩ := h0
  go_enter Try.func22, Try.ntmps22
  go_wp2_with (go_at_call 17; refine (inB x (-most) most _).mono ?_; rintro e w1 ⟨rfl, rfl⟩)
  go_ret
  exact ⟨ret_bool (outB_eq _ _ _).symm, Below.refl _ _⟩
/-- Whether numbers are moments of a size of at most so much. -/
def impl_areMoments.f (l0 : List Int) (a1 : Int) : Option Bool :=
  if -1000000000000 ≤ a1 ∧ a1 ≤ 1000000000000 then some (decide ((1 : Int) ≤ (l0.length : Int)) && decide ((l0.length : Int) ≤ 8) && !(l0.any fun x => outB (-a1) a1 x)) else none
theorem impl_areMoments.calls (A0 : Option Addr) (c0 : Nat) (l0 : List Int) (a1 : Int) (r : Bool) (w : World) (hr0 : Kd.C (Kd.int .i64) w A0 l0.length l0) (hc0 : l0.length ≤ c0) (h : impl_areMoments.f l0 a1 = some r) :
    Calls Try.prog 15 #[.slice A0 l0.length c0, .int .i64 a1] w fun e w' => e = .returned (.bool r) ∧ Below w.heap.size w w' := by
  unfold impl_areMoments.f at h
  by_cases h0 : -1000000000000 ≤ a1 ∧ a1 ≤ 1000000000000
  · rw [if_pos h0] at h
    have H := Aside0.mk (Option.some.inj h)
    clear h
    by_cases hin : (1 : Int) ≤ (l0.length : Int) ∧ (l0.length : Int) ≤ 8
    · have hn : (decide ((1 : Int) ≤ (l0.length : Int)) && decide ((l0.length : Int) ≤ 8)) = true := by simp; omega
      have hl : l0.length ≤ 1000000000 := by omega
      have hc : ∀ W : World, Below w.heap.size w W → w.heap.size < W.heap.size → W.cell? ⟨w.heap.size, 0, none⟩ = some (.int .i64 a1) →
          Calls Try.prog 21 #[.slice A0 l0.length c0, .func (.func 22) #[] #[.pointer (some ⟨w.heap.size, 0, none⟩)]] W fun e w' => e = .returned (.bool (l0.any fun x => outB (-a1) a1 x)) ∧ Below W.heap.size W w' :=
        fun W hb hs h1 => containsFunc (fun x => outB (-a1) a1 x) Try.func22 (by kernel_rfl) rfl A0 c0 l0 W (Kd.C_below hr0 hb) hl (fun x W' hb' => areMoments1 x a1 w.heap.size W W' hb' hs h1 h0)
      have HC := Aside0.mk hc
      have HN := Aside0.mk hn
      clear hc hr0 hn hin h0 hl
      go_enter Try.func15, Try.ntmps15
      go_wp2_with (first | (go_at_call 17; refine (inB _ _ _ _).mono ?_; rintro e w1 ⟨rfl, rfl⟩; rw [HN.out]) | (go_at_call 21; refine (HC.out _ ((Below.refl _ _).alloc (Nat.le_refl _) _) (by simp) (World.cell?_alloc_new _ _ _ 0)).mono ?_; rintro e w1 ⟨rfl, hb1⟩; have HB := Aside0.mk hb1; clear hb1))
      go_ret
      refine ⟨ret_bool ?_, ((Below.refl _ _).alloc (Nat.le_refl _) _).trans (HB.out.mono (by simp))⟩
      rw [← H.out, HN.out, Bool.true_and]
    · have hn : (decide ((1 : Int) ≤ (l0.length : Int)) && decide ((l0.length : Int) ≤ 8)) = false := by
        rw [Bool.and_eq_false_iff]; simp only [decide_eq_false_iff_not]; omega
      have HN := Aside0.mk hn
      clear hr0 hn hin h0
      go_enter Try.func15, Try.ntmps15
      go_wp2_with (go_at_call 17; refine (inB _ _ _ _).mono ?_; rintro e w1 ⟨rfl, rfl⟩; rw [HN.out])
      go_ret
      exact ⟨ret_bool (by rw [← H.out, HN.out, Bool.false_and]), (Below.refl _ _).alloc (Nat.le_refl _) _⟩
  · rw [if_neg h0] at h; cases h

/-- The weight of a step of a mixed path by levels. -/
def wmom (flat down : List Int) (c h : Int) : Option Int :=
  if c = 85 then some 1
  else if c = 70 then (if h < (flat.length : Int) then (if 0 ≤ h then some (rd flat h) else none) else some 0)
  else if c = 68 then (if wrap64 (h - 1) < (down.length : Int) then (if 0 ≤ wrap64 (h - 1) then some (rd down (wrap64 (h - 1))) else none) else some 0)
  else some 0
theorem moment1 (c h t : Int) (flat down : List Int) (A0 A1 : Option Addr) (c0 c1 : Nat) (B : Nat) (w W : World) (hb : Below w.heap.size w W) (hw : B < w.heap.size)
    (h1 : w.cell? ⟨B, 0, none⟩ = some (.slice A0 flat.length c0)) (h2 : w.cell? ⟨B, 1, none⟩ = some (.slice A1 down.length c1)) (hf : Kd.C (Kd.int .i64) w A0 flat.length flat) (hd : Kd.C (Kd.int .i64) w A1 down.length down)
    (ht : wmom flat down c h = some t) :
    Calls Try.prog 24 #[.int .u8 c, .int .i64 h, .pointer (some ⟨B, 0, none⟩)] W fun e W' => e = .returned (.int .i64 t) ∧ Drawn0 W W' := by
  have e1 : W.cell? ⟨B, 0, none⟩ = some (.slice A0 flat.length c0) := (hb.cell (p := ⟨B, 0, none⟩) (by show B < _; omega)).trans h1
  have e2 : W.cell? ⟨B, 1, none⟩ = some (.slice A1 down.length c1) := (hb.cell (p := ⟨B, 1, none⟩) (by show B < _; omega)).trans h2
  have Hf := Aside0.mk (Kd.C_below hf hb)
  have Hd := Aside0.mk (Kd.C_below hd hb)
  clear h1 h2 hf hd hb hw
  unfold wmom at ht
  by_cases c1 : c = 85
  · rw [if_pos c1] at ht
    obtain rfl := Option.some.inj ht
    subst c1
    go_enter Try.func24, Try.ntmps24
    go_wp2
    go_ret
    exact ⟨rfl, ⟨0, rfl⟩⟩
  rw [if_neg c1] at ht
  have c1' : (c == 85) = false := by simpa using c1
  by_cases c2 : c = 70
  · rw [if_pos c2] at ht
    subst c2
    clear c1 c1'
    by_cases g : h < (flat.length : Int)
    · rw [if_pos g] at ht
      by_cases g0 : 0 ≤ h
      · rw [if_pos g0] at ht
        obtain rfl := Option.some.inj ht
        obtain ⟨ad, rfl, hx⟩ := Kd.at_int Hf.out h g0 g
        have g1 : decide (h < (flat.length : Int)) = true := decide_eq_true g
        replace g0 := eq_true g0
        replace g := eq_true g
        go_enter Try.func24, Try.ntmps24
        go_wp2
        go_ret
        exact ⟨rfl, ⟨0, rfl⟩⟩
      · rw [if_neg g0] at ht; cases ht
    · rw [if_neg g] at ht
      obtain rfl := Option.some.inj ht
      have g1 : decide (h < (flat.length : Int)) = false := decide_eq_false g
      clear g
      go_enter Try.func24, Try.ntmps24
      go_wp2
      go_ret
      exact ⟨rfl, ⟨0, rfl⟩⟩
  rw [if_neg c2] at ht
  have c2' : (c == 70) = false := by simpa using c2
  by_cases c3 : c = 68
  · rw [if_pos c3] at ht
    subst c3
    clear c1 c1' c2 c2'
    obtain ⟨j, hj⟩ : ∃ j : Int, wrap64 (h - 1) = j := ⟨_, rfl⟩
    rw [hj] at ht
    have hjw : IntKind.i64.wrap (h - 1) = j := (i64_w _).trans hj
    by_cases g : j < (down.length : Int)
    · rw [if_pos g] at ht
      by_cases g0 : 0 ≤ j
      · rw [if_pos g0] at ht
        obtain rfl := Option.some.inj ht
        obtain ⟨ad, rfl, hx⟩ := Kd.at_int Hd.out j g0 g
        have g1 : decide (j < (down.length : Int)) = true := decide_eq_true g
        replace g0 := eq_true g0
        replace g := eq_true g
        go_enter Try.func24, Try.ntmps24
        go_wp2
        go_ret
        exact ⟨rfl, ⟨0, rfl⟩⟩
      · rw [if_neg g0] at ht; cases ht
    · rw [if_neg g] at ht
      obtain rfl := Option.some.inj ht
      have g1 : decide (j < (down.length : Int)) = false := decide_eq_false g
      clear g
      go_enter Try.func24, Try.ntmps24
      go_wp2
      go_ret
      exact ⟨rfl, ⟨0, rfl⟩⟩
  rw [if_neg c3] at ht
  have c3' : (c == 68) = false := by simpa using c3
  obtain rfl := Option.some.inj ht
  clear c1 c2 c3
  go_enter Try.func24, Try.ntmps24
  go_wp2
  go_ret
  exact ⟨rfl, ⟨0, rfl⟩⟩
/-- The moment of n. -/
def impl_Levels_moment.f (k : Nat) (l0 l1 : List Int) (n : Int) : Option Int := sumMixed.f (wmom l0 l1) k n
theorem impl_Levels_moment.mono : ∀ a0 a1 a2 k, LeO (impl_Levels_moment.f k a0 a1 a2) (impl_Levels_moment.f (k + 1) a0 a1 a2) := fun _ _ a2 k => sumMixed.mono _ a2 k
theorem impl_Levels_moment.calls (k : Nat) (A0_0 : Option Addr) (c0_0 : Nat) (l0_0 : List Int) (A0_1 : Option Addr) (c0_1 : Nat) (l0_1 : List Int) (a1 : Int) (r : Int) (w : World) (hr0_0 : Kd.C (Kd.int .i64) w A0_0 l0_0.length l0_0) (hc0_0 : l0_0.length ≤ c0_0) (hr0_1 : Kd.C (Kd.int .i64) w A0_1 l0_1.length l0_1) (hc0_1 : l0_1.length ≤ c0_1) (h : impl_Levels_moment.f k l0_0 l0_1 a1 = some r) :
    Calls Try.prog 16 #[.agg #[.slice A0_0 l0_0.length c0_0, .slice A0_1 l0_1.length c0_1], .int .i64 a1] w fun e w' => e = .returned (.int .i64 r) ∧ Below w.heap.size w w' := by
  have hc : ∀ W1 : World, Below w.heap.size w W1 → w.heap.size < W1.heap.size → W1.cell? ⟨w.heap.size, 0, none⟩ = some (.slice A0_0 l0_0.length c0_0) → W1.cell? ⟨w.heap.size, 1, none⟩ = some (.slice A0_1 l0_1.length c0_1) →
      Calls Try.prog 23 #[.int .i64 a1, .func (.func 24) #[] #[.pointer (some ⟨w.heap.size, 0, none⟩)]] W1 fun e w' => e = .returned (.int .i64 r) ∧ Below W1.heap.size W1 w' :=
    fun W1 hb hs h1 h2 => sumMixed.calls (wmom l0_0 l0_1) Try.func24 (by kernel_rfl) rfl k a1 r W1 (fun c x t W hb' ht => moment1 c x t l0_0 l0_1 A0_0 A0_1 c0_0 c0_1 w.heap.size W1 W hb' hs h1 h2 (Kd.C_below hr0_0 hb) (Kd.C_below hr0_1 hb) ht) h
  have HC := Aside0.mk hc
  clear hc h hr0_0 hr0_1
  go_enter Try.func16, Try.ntmps16
  go_wp2_with (go_at_call 23; refine (HC.out _ ((Below.refl _ _).alloc (Nat.le_refl _) _) (by simp) (World.cell?_alloc_new _ _ _ 0) (World.cell?_alloc_new _ _ _ 1)).mono ?_; rintro e w1 ⟨rfl, hb1⟩; have HB := Aside0.mk hb1; clear hb1)
  go_ret
  exact ⟨rfl, ((Below.refl _ _).alloc (Nat.le_refl _) _).trans (HB.out.mono (by simp))⟩


end Go.Proofs.Ytgoiohlmifgncaa.Stub
