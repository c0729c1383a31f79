/- Contracts of functions that the printer does not take, in the printer's own form. No condition. -/
import Derived.Test.YtpkghkohjnagjaaProg
import Derived.Shelf.Spec.SlicesGrow
import Derived.Test.YtpkghkohjnagjaaLays
import Derived.Test.YtpkghkohjnagjaaFnG
import Derived.LoopTactic
import Derived.BigGuardPart
import Derived.Laws.Cover3
import Derived.Test.YtpkghkohjnagjaaWWords
import Derived.Test.YtpkghkohjnagjaaWLast
import Derived.Test.YtpkghkohjnagjaaWMore
import Derived.WalkKit
import Derived.KernelRfl
import Derived.Below
namespace Go.Proofs.Ytpkghkohjnagjaa.Stub
open Go.RowKit Go.Proofs.YtpkghkohjnagjaaW.PrintWords Go.Proofs.YtpkghkohjnagjaaW.PrintLast Go.Proofs.Ytpkghkohjnagjaa.FnG Go.Proofs.YtpkghkohjnagjaaW.PrintMore
set_option linter.unusedVariables false
set_option linter.unusedSimpArgs false
theorem infoG : (Try.prog.info? 3).map (fun i => (i.zero, i.size, i.bytes)) = some (some (.int .i64 0), 1, 8) := by kernel_rfl
/-- slices.Grow of nil: memory for so many numbers. -/
def slices_Grow_int_int.f (l0 : List Int) (a1 : Int) : Option (List Int) :=
  match l0 with
  | [] => if 0 ≤ a1 ∧ a1 ≤ 1000000000 then some [] else none
  | _ :: _ => none
theorem slices_Grow_int_int.calls (A0 : Option Addr) (c0 : Nat) (l0 : List Int) (a1 : Int) (r : List Int) (w : World) (hr0 : Kd.C (Kd.int .i64) w A0 l0.length l0) (hc0 : l0.length ≤ c0) (h : slices_Grow_int_int.f l0 a1 = some r) (hz : A0 = none ∧ c0 = 0 := by exact ⟨rfl, rfl⟩) :
    Calls Try.prog 46 #[.slice A0 l0.length c0, .int .i64 a1] w fun e w' => ∃ v0_ : Value, e = .returned (v0_) ∧ Kd.R (Kd.int .i64) 3 w' w.heap.size (fun _ => True) v0_ r ∧ Below w.heap.size w w' := by
  obtain ⟨rfl, rfl⟩ := hz
  unfold slices_Grow_int_int.f at h
  cases l0 with
  | cons x l => cases h
  | nil =>
    simp only at h
    by_cases hn : 0 ≤ a1 ∧ a1 ≤ 1000000000
    · rw [if_pos hn] at h
      obtain rfl := Option.some.inj h
      obtain ⟨n, rfl⟩ : ∃ n : Nat, a1 = n := ⟨a1.toNat, by omega⟩
      obtain ⟨i0, hi, hz0, hz1, hz2⟩ := info_parts infoG
      by_cases h0 : n = 0
      · subst h0
        refine (Any8.slices_Grow_room Try.growI none 0 0 0 w (by omega) (by omega) (by omega) (by omega)).mono ?_
        rintro e w' ⟨rfl, rfl⟩
        exact ⟨_, rfl, Kd.R_nil _ _ _ _ _, Below.refl _ _⟩
      · refine (Any8.slices_Grow_grow Try.growI i0 (.int .i64 0) hi hz0 (by omega) none 0 0 n [] w (by omega) (by omega) (by rw [hz2]; omega) (by omega) (by simp) (fun _ => rfl) (fun a ha => by cases ha)).mono ?_
        rintro e w' ⟨rfl, rfl⟩
        have hge := grownCap_ge w (0 + n) 0 3
        have hle := grownCap_le_maxLen w (0 + n) 0 3 (by unfold maxLen; omega)
        refine ⟨_, rfl, ⟨fun _ _ => trivial, [], ⟨rfl, .inr ⟨w.heap.size, _, _, rfl, Nat.le_refl _, heap_alloc_new w.drew _, Nat.zero_le _, hle, ?_, by simp⟩⟩, Reps.none _ _⟩, ((Below.refl _ _).drew).alloc (Nat.le_refl _) _⟩
        simp only [Array.size_append, List.size_toArray, List.length_nil, size_zeroCells, Value.cells]
        show 0 + (0 + n - 0) * 1 + (grownCap w (0 + n) 0 3 - (0 + n)) * 1 = grownCap w (0 + n) 0 3 * 1
        omega
    · rw [if_neg hn] at h; cases h

/-- Whether a number is in a range. -/
theorem inB (a0 a1 a2 : Int) (w : World) : Calls Try.prog 14 #[.int .i64 a0, .int .i64 a1, .int .i64 a2] w fun e w' => e = .returned (.bool (decide (a1 ≤ a0) && decide (a0 ≤ a2))) ∧ w' = w := by
  by_cases h1 : a1 ≤ a0
  · have h1' : decide (a1 ≤ a0) = true := decide_eq_true h1
    rw [h1']
    go_enter Try.func14, Try.ntmps14
    go_wp2
    go_ret
    exact ⟨rfl, rfl⟩
  · have h1' : decide (a1 ≤ a0) = false := decide_eq_false h1
    rw [h1']
    go_enter Try.func14, Try.ntmps14
    go_wp2
    go_ret
    exact ⟨rfl, rfl⟩
/-- Whether a number is outside a range. -/
def outB (lo hi x : Int) : Bool := !(decide (lo ≤ x) && decide (x ≤ hi))
theorem outB_eq (lo hi x : Int) : outB lo hi x = (!decide (lo ≤ x) || !decide (x ≤ hi)) := by unfold outB; rw [Bool.not_and]
theorem ret_bool {a b : Bool} (h : a = b) : Ending.returned (.bool a) = .returned (.bool b) := by rw [h]

/-- What slices.IndexFunc answers is at least 0 just where some element meets the predicate. -/
def Finds (q : Bool) (w : World) (e : Ending) (w' : World) : Prop := ∃ n : Int, decide (0 ≤ n) = q ∧ e = .returned (.int .i64 n) ∧ Below w.heap.size w w'
theorem any_take_succ (p : Int → Bool) (l : List Int) (k : Nat) (h : k < l.length) : (l.take (k + 1)).any p = ((l.take k).any p || p (rd l k)) := by
  rw [List.take_succ_eq_append_getElem h, List.any_append]
  simp [rd, h]
theorem any_of_mem (p : Int → Bool) (l : List Int) (k : Nat) (h : k < l.length) (hp : p (rd l k) = true) : l.any p = true := by
  rw [List.any_eq_true]
  exact ⟨l[k], List.getElem_mem h, by simpa [rd, h] using hp⟩
theorem indexFunc (p : Int → Bool) {g : FuncId} {fn : Func} {lb : Array Value} (hf : Try.prog.funcs[g]? = some fn) (hname : (fn.name == "runtime.NumGoroutine") = false) (hb : fn.body.isSome = true)
    (A : Option Addr) (c : Nat) (l : List Int) (w : World) (hC : Kd.C (Kd.int .i64) w A l.length l) (hl : l.length ≤ 1000000000)
    (hp : ∀ (x : Int) (W : World), Below w.heap.size w W → Calls Try.prog g (#[.int .i64 x] ++ lb) W fun e W' => e = .returned (.bool (p x)) ∧ Below W.heap.size W W') :
    Calls Try.prog 44 #[.slice A l.length c, .func (.func g) #[] lb] w (Finds (l.any p) w) := by
  have HC := Aside0.mk hC
  have HP := Aside0.mk hp
  have HF := Aside0.mk hf
  have HN := Aside0.mk hname
  have HBO := Aside0.mk hb
  clear hC hp hf hname hb
  go_enter Try.func44, Try.ntmps44
  go_wp2
  go_loopw [8] (fun v8 wr => ∃ k : Nat, k ≤ l.length ∧ v8 = .int .i64 k ∧ Aside0 ((l.take k).any p = false) ∧ Aside0 (Below w.heap.size w wr)) (fun v8 _ => l.length - (RowKit.intOf v8).toNat)
  case atStart => exact ⟨0, Nat.zero_le _, rfl, ⟨by simp⟩, ⟨Below.refl _ _⟩⟩
  case round =>
    obtain ⟨k, hk, rfl, HA, HB⟩ := hrel
    by_cases hlt : k < l.length
    · obtain ⟨ad, rfl, hx⟩ := Kd.at_int (Kd.C_below HC.out HB.out) (k : Int) (by omega) (by omega)
      have hx' : wr.cell? (ad.add k) = some (.int .i64 (rd l k)) := hx
      clear hx
      have HS := Aside0.mk (any_take_succ p l k hlt)
      cases hpx : p (rd l k) with
      | false =>
        have HX := Aside0.mk hpx
        clear hpx
        go_wp2_with ((with_reducible refine gate_calleeG rfl ?_); refine goesLG_ (lb := lb) (some 16) rfl rfl HF.out HN.out HBO.out (#[.int .i64 (rd l k)] ++ lb) rfl rfl (by (try simp only [List.map_toArray, List.map_cons, List.map_nil]); first | done | rfl) ?_; refine (HP.out (rd l k) _ HB.out).mono ?_; rintro e w1 ⟨rfl, hb1⟩; rw [HX.out]; refine ⟨_, rfl, ?_⟩; have HB1 := Aside0.mk (HB.out.trans (hb1.mono HB.out.size)); clear hb1)
        go_roundw
        case rel => exact ⟨k + 1, by omega, by go_num, ⟨by rw [HS.out, HA.out, HX.out]; rfl⟩, HB1⟩
        case measure => simp [RowKit.intOf]; omega
      | true =>
        have HX := Aside0.mk hpx
        clear hpx
        go_wp2_with ((with_reducible refine gate_calleeG rfl ?_); refine goesLG_ (lb := lb) (some 16) rfl rfl HF.out HN.out HBO.out (#[.int .i64 (rd l k)] ++ lb) rfl rfl (by (try simp only [List.map_toArray, List.map_cons, List.map_nil]); first | done | rfl) ?_; refine (HP.out (rd l k) _ HB.out).mono ?_; rintro e w1 ⟨rfl, hb1⟩; rw [HX.out]; refine ⟨_, rfl, ?_⟩; have HB1 := Aside0.mk (HB.out.trans (hb1.mono HB.out.size)); clear hb1)
        go_ret
        exact ⟨k, by rw [any_of_mem p l k hlt HX.out]; exact decide_eq_true (by omega), rfl, HB1.out⟩
    · obtain rfl : k = l.length := by omega
      go_wp2
      go_ret
      exact ⟨-1, by rw [List.take_length] at HA; rw [HA.out]; rfl, rfl, HB.out⟩
/-- slices.ContainsFunc over whole numbers, whatever predicate is handed in. -/
theorem containsFunc (p : Int → Bool) {g : FuncId} {fn : Func} {lb : Array Value} (hf : Try.prog.funcs[g]? = some fn) (hname : (fn.name == "runtime.NumGoroutine") = false) (hb : fn.body.isSome = true)
    (A : Option Addr) (c : Nat) (l : List Int) (w : World) (hC : Kd.C (Kd.int .i64) w A l.length l) (hl : l.length ≤ 1000000000)
    (hp : ∀ (x : Int) (W : World), Below w.heap.size w W → Calls Try.prog g (#[.int .i64 x] ++ lb) W fun e W' => e = .returned (.bool (p x)) ∧ Below W.heap.size W W') :
    Calls Try.prog 39 #[.slice A l.length c, .func (.func g) #[] lb] w fun e w' => e = .returned (.bool (l.any p)) ∧ Below w.heap.size w w' := by
  have HI := Aside0.mk (indexFunc p hf hname hb A c l w hC hl hp)
  clear hC hp hf hname hb
  go_enter Try.func39, Try.ntmps39
  go_wp2_with (go_at_call 44; refine HI.out.mono ?_; rintro e w1 ⟨n, hn, rfl, hb1⟩; have HN := Aside0.mk hn; have HB := Aside0.mk hb1; clear hn hb1)
  go_ret
  exact ⟨ret_bool HN.out, HB.out⟩
theorem bcellS {W w1 : World} (hb : Below W.heap.size W w1) : (∀ b o, b < W.heap.size → w1.cell? ⟨b, o, none⟩ = W.cell? ⟨b, o, none⟩) ∧ (∀ b o, b < W.heap.size → w1.frozen? ⟨b, o, none⟩ = W.frozen? ⟨b, o, none⟩) :=
  ⟨fun b o h => hb.cell (p := ⟨b, o, none⟩) h, fun b o h => hb.frozen (p := ⟨b, o, none⟩) h⟩

def rdL (l : List (List Int)) (k : Nat) : List Int := l.getD k []
theorem atRow {w : World} {A : Option Addr} {n : Nat} {xs : List (List Int)} (h : Kd.C (Kd.slice 3 (Kd.int .i64)) w A n xs) (k : Nat) (h1 : k < n) : ∃ ad A0 c0, A = some ad ∧ w.cell? (ad.add k) = some (.slice A0 (rdL xs k).length c0) ∧ (Kd.int .i64).C w A0 (rdL xs k).length (rdL xs k) := by
  obtain ⟨ad, c, e, _, hK, hc0⟩ := Kd.C_get h ([] : List Int) (k : Int) (by omega) (by omega)
  have hc : ∀ j u, c[j]? = some u → w.cell? (ad.add ((k : Int).toNat * 1 + j)) = some u := hc0
  obtain ⟨A0, c0, rfl, l0, g0⟩ := hK
  exact ⟨ad, A0, c0, e, by have hq := hc 0 _ rfl; rwa [Nat.mul_one, Nat.add_zero] at hq, g0⟩
theorem any_take_succL (p : List Int → Bool) (l : List (List Int)) (k : Nat) (h : k < l.length) : (l.take (k + 1)).any p = ((l.take k).any p || p (rdL l k)) := by
  rw [List.take_succ_eq_append_getElem h, List.any_append]
  simp [rdL, h]
theorem any_of_memL (p : List Int → Bool) (l : List (List Int)) (k : Nat) (h : k < l.length) (hp : p (rdL l k) = true) : l.any p = true := by
  rw [List.any_eq_true]
  exact ⟨l[k], List.getElem_mem h, by simpa [rdL, h] using hp⟩
theorem indexFuncL (p : List Int → Bool) {g : FuncId} {fn : Func} {lb : Array Value} (hf : Try.prog.funcs[g]? = some fn) (hname : (fn.name == "runtime.NumGoroutine") = false) (hb : fn.body.isSome = true)
    (A : Option Addr) (c : Nat) (l : List (List Int)) (w : World) (hC : Kd.C (Kd.slice 3 (Kd.int .i64)) w A l.length l) (hl : l.length ≤ 1000000000)
    (hp : ∀ (x : List Int) (A' : Option Addr) (c' : Nat) (W : World), Below w.heap.size w W → Kd.C (Kd.int .i64) W A' x.length x → Calls Try.prog g (#[.slice A' x.length c'] ++ lb) W fun e W' => e = .returned (.bool (p x)) ∧ Below W.heap.size W W') :
    Calls Try.prog 43 #[.slice A l.length c, .func (.func g) #[] lb] w (Finds (l.any p) w) := by
  have HC := Aside0.mk hC
  have HP := Aside0.mk hp
  have HF := Aside0.mk hf
  have HN := Aside0.mk hname
  have HBO := Aside0.mk hb
  clear hC hp hf hname hb
  go_enter Try.func43, Try.ntmps43
  go_wp2
  go_loopw [8] (fun v8 wr => ∃ k : Nat, k ≤ l.length ∧ v8 = .int .i64 k ∧ Aside0 ((l.take k).any p = false) ∧ Aside0 (Below w.heap.size w wr)) (fun v8 _ => l.length - (RowKit.intOf v8).toNat)
  case atStart => exact ⟨0, Nat.zero_le _, rfl, ⟨by simp⟩, ⟨Below.refl _ _⟩⟩
  case round =>
    obtain ⟨k, hk, rfl, HA, HB⟩ := hrel
    by_cases hlt : k < l.length
    · obtain ⟨ad, A', c', rfl, hx, hi⟩ := atRow (Kd.C_below HC.out HB.out) k hlt
      have HI := Aside0.mk hi
      clear hi
      have HS := Aside0.mk (any_take_succL p l k hlt)
      cases hpx : p (rdL l k) with
      | false =>
        have HX := Aside0.mk hpx
        clear hpx
        go_wp2_with ((with_reducible refine gate_calleeG rfl ?_); refine goesLG_ (lb := lb) (some 16) rfl rfl HF.out HN.out HBO.out (#[.slice A' (rdL l k).length c'] ++ lb) rfl rfl (by (try simp only [List.map_toArray, List.map_cons, List.map_nil]); first | done | rfl) ?_; refine (HP.out (rdL l k) A' c' _ HB.out HI.out).mono ?_; rintro e w1 ⟨rfl, hb1⟩; rw [HX.out]; refine ⟨_, rfl, ?_⟩; have HB1 := Aside0.mk (HB.out.trans (hb1.mono HB.out.size)); clear hb1)
        go_roundw
        case rel => exact ⟨k + 1, by omega, by go_num, ⟨by rw [HS.out, HA.out, HX.out]; rfl⟩, HB1⟩
        case measure => simp [RowKit.intOf]; omega
      | true =>
        have HX := Aside0.mk hpx
        clear hpx
        go_wp2_with ((with_reducible refine gate_calleeG rfl ?_); refine goesLG_ (lb := lb) (some 16) rfl rfl HF.out HN.out HBO.out (#[.slice A' (rdL l k).length c'] ++ lb) rfl rfl (by (try simp only [List.map_toArray, List.map_cons, List.map_nil]); first | done | rfl) ?_; refine (HP.out (rdL l k) A' c' _ HB.out HI.out).mono ?_; rintro e w1 ⟨rfl, hb1⟩; rw [HX.out]; refine ⟨_, rfl, ?_⟩; have HB1 := Aside0.mk (HB.out.trans (hb1.mono HB.out.size)); clear hb1)
        go_ret
        exact ⟨k, by rw [any_of_memL p l k hlt HX.out]; exact decide_eq_true (by omega), rfl, HB1.out⟩
    · obtain rfl : k = l.length := by omega
      go_wp2
      go_ret
      exact ⟨-1, by rw [List.take_length] at HA; rw [HA.out]; rfl, rfl, HB.out⟩
/-- slices.ContainsFunc over whole numbers, whatever predicate is handed in. -/
theorem containsFuncL (p : List Int → Bool) {g : FuncId} {fn : Func} {lb : Array Value} (hf : Try.prog.funcs[g]? = some fn) (hname : (fn.name == "runtime.NumGoroutine") = false) (hb : fn.body.isSome = true)
    (A : Option Addr) (c : Nat) (l : List (List Int)) (w : World) (hC : Kd.C (Kd.slice 3 (Kd.int .i64)) w A l.length l) (hl : l.length ≤ 1000000000)
    (hp : ∀ (x : List Int) (A' : Option Addr) (c' : Nat) (W : World), Below w.heap.size w W → Kd.C (Kd.int .i64) W A' x.length x → Calls Try.prog g (#[.slice A' x.length c'] ++ lb) W fun e W' => e = .returned (.bool (p x)) ∧ Below W.heap.size W W') :
    Calls Try.prog 37 #[.slice A l.length c, .func (.func g) #[] lb] w fun e w' => e = .returned (.bool (l.any p)) ∧ Below w.heap.size w w' := by
  have HI := Aside0.mk (indexFuncL p hf hname hb A c l w hC hl hp)
  clear hC hp hf hname hb
  go_enter Try.func37, Try.ntmps37
  go_wp2_with (go_at_call 43; refine HI.out.mono ?_; rintro e w1 ⟨n, hn, rfl, hb1⟩; have HN := Aside0.mk hn; have HB := Aside0.mk hb1; clear hn hb1)
  go_ret
  exact ⟨ret_bool HN.out, HB.out⟩

theorem isMatrix11 (x : Int) (W : World) :
    Calls Try.prog 40 #[.int .i64 x] W fun e W' => e = .returned (.bool (outB (-10000) 10000 x)) ∧ Below W.heap.size W W' := by
  go_enter Try.func40, Try.ntmps40
  go_wp2_with (go_at_call 14; refine (inB _ _ _ _).mono ?_; rintro e w1 ⟨rfl, rfl⟩)
  go_ret
  exact ⟨ret_bool (outB_eq _ _ _).symm, Below.refl _ _⟩
/-- Whether a row is no row of a square of so many rows. -/
def badRow (n : Nat) (r : List Int) : Bool := if r.length = n then r.any fun x => outB (-10000) 10000 x else true
theorem isMatrix1 (r : List Int) (A A0 : Option Addr) (c n c0 : Nat) (hn : n ≤ 1000) (B : Nat) (w W : World) (hb : Below w.heap.size w W) (hw : B < w.heap.size) (h1 : w.cell? ⟨B, 0, none⟩ = some (.slice A0 n c0)) (hr : Kd.C (Kd.int .i64) W A r.length r) :
    Calls Try.prog 38 #[.slice A r.length c, .pointer (some ⟨B, 0, none⟩)] W fun e W' => e = .returned (.bool (badRow n r)) ∧ Below W.heap.size W W' := by
  have e1 : W.cell? ⟨B, 0, none⟩ = some (.slice A0 n c0) := (hb.cell (p := ⟨B, 0, none⟩) (by show B < _; omega)).trans h1
  clear h1 hb hw
  unfold badRow
  by_cases hl : r.length = n
  · rw [if_pos hl]
    have HA := Aside0.mk (containsFunc (fun x => outB (-10000) 10000 x) Try.func40 (by kernel_rfl) rfl A c r W (lb := #[]) hr (by omega) (fun x W' hb' => isMatrix11 x W'))
    have b0 : ((r.length : Int) != (n : Int)) = false := by rw [bne_eq_false_iff_eq]; omega
    clear hl hn hr
    go_enter Try.func38, Try.ntmps38
    go_wp2_with (go_at_call 39; (with_reducible refine HA.out.mono ?_); rintro e w1 ⟨rfl, hb1⟩; have HB := Aside0.mk hb1; clear hb1)
    go_ret
    exact ⟨rfl, HB.out⟩
  · rw [if_neg hl]
    have b0 : ((r.length : Int) != (n : Int)) = true := by rw [bne_iff_ne]; omega
    clear hl hn hr
    go_enter Try.func38, Try.ntmps38
    go_wp2
    go_ret
    exact ⟨rfl, Below.refl _ _⟩
/-- Whether rows are a matrix. -/
def impl_isMatrix.f (l0 : List (List Int)) : Option Bool :=
  if (1 : Int) ≤ (l0.length : Int) ∧ (l0.length : Int) ≤ 4 then some (!(l0.any (badRow l0.length))) else some false
theorem impl_isMatrix.calls (A0 : Option Addr) (c0 : Nat) (l0 : List (List Int)) (r : Bool) (w : World) (hr0 : Kd.C (Kd.slice 3 (Kd.int .i64)) w A0 l0.length l0) (hc0 : l0.length ≤ c0) (h : impl_isMatrix.f l0 = some r) :
    Calls Try.prog 33 #[.slice A0 l0.length c0] w fun e w' => e = .returned (.bool r) ∧ Below w.heap.size w w' := by
  unfold impl_isMatrix.f at h
  by_cases hin : (1 : Int) ≤ (l0.length : Int) ∧ (l0.length : Int) ≤ 4
  · rw [if_pos hin] at h
    obtain rfl := Option.some.inj h
    have hn : (decide ((1 : Int) ≤ (l0.length : Int)) && decide ((l0.length : Int) ≤ 4)) = true := by simp; omega
    have hl : l0.length ≤ 1000 := by omega
    have hc : ∀ W : World, Below w.heap.size w W → w.heap.size < W.heap.size → W.cell? ⟨w.heap.size, 0, none⟩ = some (.slice A0 l0.length c0) →
        Calls Try.prog 37 #[.slice A0 l0.length c0, .func (.func 38) #[] #[.pointer (some ⟨w.heap.size, 0, none⟩)]] W fun e w' => e = .returned (.bool (l0.any (badRow l0.length))) ∧ Below W.heap.size W w' :=
      fun W hb hs h1 => containsFuncL (badRow l0.length) Try.func38 (by kernel_rfl) rfl A0 c0 l0 W (Kd.C_below hr0 hb) (by omega) (fun x A' c' W' hb' hx => isMatrix1 x A' A0 c' l0.length c0 hl w.heap.size W W' hb' hs h1 hx)
    have HC := Aside0.mk hc
    have HN := Aside0.mk hn
    clear hc hr0 hn hin hl
    go_enter Try.func33, Try.ntmps33
    go_wp2_with (first | (go_at_call 14; refine (inB _ _ _ _).mono ?_; rintro e w1 ⟨rfl, rfl⟩; rw [HN.out]) | (go_at_call 37; refine (HC.out _ ((Below.refl _ _).alloc (Nat.le_refl _) _) (by simp) (World.cell?_alloc_new _ _ _ 0)).mono ?_; rintro e w1 ⟨rfl, hb1⟩; have HB := Aside0.mk hb1; clear hb1))
    go_ret
    exact ⟨rfl, ((Below.refl _ _).alloc (Nat.le_refl _) _).trans (HB.out.mono (by simp))⟩
  · rw [if_neg hin] at h
    obtain rfl := Option.some.inj h
    have hn : (decide ((1 : Int) ≤ (l0.length : Int)) && decide ((l0.length : Int) ≤ 4)) = false := by
      rw [Bool.and_eq_false_iff]; simp only [decide_eq_false_iff_not]; omega
    have HN := Aside0.mk hn
    clear hr0 hn hin
    go_enter Try.func33, Try.ntmps33
    go_wp2_with (go_at_call 14; refine (inB _ _ _ _).mono ?_; rintro e w1 ⟨rfl, rfl⟩; rw [HN.out])
    go_ret
    exact ⟨rfl, (Below.refl _ _).alloc (Nat.le_refl _) _⟩

theorem infoCl : (Try.prog.info? 3).map (fun i => (i.zero, i.size, i.bytes)) = some (some (.int .i64 0), 1, 8) := by kernel_rfl
/-- slices.Clone: the same numbers in memory of their own. -/
def slices_Clone_int_int.f (l0 : List Int) : Option (List Int) := if l0.length < 17592186044416 then some l0 else none
set_option maxHeartbeats 8000000 in
set_option maxRecDepth 100000 in
theorem slices_Clone_int_int.calls (A0 : Option Addr) (c0 : Nat) (l0 : List Int) (r : List Int) (w : World) (hr0 : Kd.C (Kd.int .i64) w A0 l0.length l0) (hc0 : l0.length ≤ c0) (h : slices_Clone_int_int.f l0 = some r) :
    Calls Try.prog 24 #[.slice A0 l0.length c0] w fun e w' => ∃ v0_ : Value, e = .returned (v0_) ∧ Kd.R (Kd.int .i64) 3 w' w.heap.size (fun _ => True) v0_ r ∧ Below w.heap.size w w' := by
  unfold slices_Clone_int_int.f at h
  by_cases c2 : l0.length < 17592186044416
  · rw [if_pos c2] at h
    obtain rfl := Option.some.inj h
    have hn1 : ∀ (W : World) (l c : Nat), (binOp .eql 43 (.slice none l c) (.slice none 0 0)).run Try.prog W = .ok (.bool true) W := fun W l c => by simp [binOp, run_equal_slice_nil W 43 3 none l c Try.underlying43]
    have hn2 : ∀ (W : World) (q : Addr) (l c : Nat), (binOp .eql 43 (.slice (some q) l c) (.slice none 0 0)).run Try.prog W = .ok (.bool false) W := fun W q l c => by simp [binOp, run_equal_slice_nil W 43 3 (some q) l c Try.underlying43]
    have HB := Aside0.mk (Below.refl w.heap.size w)
    cases A0 with
    | none =>
      have h0 : l0 = [] := by
        cases l0 with
        | nil => rfl
        | cons x l =>
          obtain ⟨ad, e, _⟩ := hr0.2.2 (by simp)
          cases e
      subst h0
      go_enter Try.func24, Try.ntmps24
      go_wp2
      go_ret
      exact ⟨_, rfl, Kd.R_nil _ _ _ _ _, HB.out⟩
    | some ad =>
      have HR0 := Aside0.mk hr0
      have LMc2 := Aside0.mk c2
      clear c2 hr0
      go_enter Try.func24, Try.ntmps24
      go_wp2_with (first | ((with_reducible refine gate_dst (N := 5) rfl ?_); refine Kd.R_lit (Kd.int .i64) _ 3 ?hg (N := 5) ?hd (xs := ([] : List Int)) (inner := []) (ok := fun _ => True) (okp := fun _ => True) ?hr ?hp (fun _ hk => hk) trivial (Below.refl _ _) (Nat.le_refl _) (by simp) ?_; (case hd => rfl); (case hg => rfl); (case hr => first | (go_simp; done) | (go_simp; rfl)); (case hp => exact (Reps.none _ _)); intro v117 w3 ho4 hb hg_ hnew_; clear hg_ hnew_; have n0_ := Aside0.mk (Kd.R_lower ho4 (below_size (by repeat (first | (with_reducible first | exact HB.out | apply below_alloc | apply pw_below_drewN | apply below_drew1) | exact HB.out)))); have n1_ := Aside0.mk (below_step (by repeat (first | (with_reducible first | exact HB.out | apply below_alloc | apply pw_below_drewN | apply below_drew1) | exact HB.out)) hb); clear HB; have HO118 := n0_; have HB := n1_; clear n0_ n1_; clear hb ho4) | ((with_reducible refine gate_builtin (b := .append) (xs := #[.tmp 5, .tmp 6]) rfl ?_); at_builtin; refine Kd.R_append_rows (Kd.int .i64) (w0 := w) w.heap.size rfl (.tmp 5) (.tmp 6) 43 3 (.int .i64 0) 8 rfl Try.underlying43 infoCl rfl (by decide) (by omega) v117 [] l0 _ _ _ (fun _ => True) (fun _ => False) rfl rfl ?aO ?aR (fun _ _ h => h) (fun _ h => h.elim) ?aF ?aB ?aS ?aL ?_; (case aR => repeat (first | exact (Kd.C_below HR0.out HB.out) | (with_reducible refine Kd.C_alloc ?_ _) | (with_reducible refine Kd.C_drewN ?_ _) | (with_reducible refine Kd.C_drew ?_))); (case aB => exact (by repeat (first | (with_reducible first | exact HB.out | apply below_alloc | apply pw_below_drewN | apply below_drew1) | exact HB.out))); (case aF => exact (fun _ _ => trivial)); (case aO => exact (by (with_reducible repeat (first | apply Kd.R_alloc | apply Kd.R_drewN | apply Kd.R_drew)); exact HO118.out)); (case aS => exact (below_size (by repeat (first | (with_reducible first | exact HB.out | apply below_alloc | apply pw_below_drewN | apply below_drew1) | exact HB.out)))); (case aL => have := LMc2.out; simp only [List.length_nil]; omega); intro v120 w5 ho hb hg hat; have n0_ := Aside0.mk (hb); have n1_ := Aside0.mk (ho); clear HB; clear HO118; have HB := n0_; have HO121 := n1_; clear n0_ n1_; clear ho hb hg hat))
      go_ret
      exact ⟨_, rfl, HO121.out, HB.out⟩
  · rw [if_neg c2] at h
    cases h


end Go.Proofs.Ytpkghkohjnagjaa.Stub
