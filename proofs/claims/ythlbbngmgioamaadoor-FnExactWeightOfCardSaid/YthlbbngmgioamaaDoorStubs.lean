/- Contracts of functions that the printer does not take, in the printer's own form. No condition. -/
import Derived.Test.YthlbbngmgioamaaDoorProg
import Derived.Shelf.Strings.SlTrimAscii
import Derived.Test.YthlbbngmgioamaaDoorLays
import Derived.Test.YthlbbngmgioamaaDoorFnG
import Derived.LoopTactic
import Derived.BigGuardPart
import Derived.Test.YthlbbngmgioamaaDoorWWords
import Derived.Test.YthlbbngmgioamaaDoorWLast
import Derived.Test.YthlbbngmgioamaaDoorWMore
import Derived.WalkKit
import Derived.KernelRfl
import Derived.Below
namespace Go.Proofs.YthlbbngmgioamaaDoor.Stub
open Go.RowKit Go.Proofs.YthlbbngmgioamaaDoorW.PrintWords Go.Proofs.YthlbbngmgioamaaDoorW.PrintLast Go.Lib Go.Shelf Go.Proofs.YthlbbngmgioamaaDoor.FnG Go.Proofs.YthlbbngmgioamaaDoorW.PrintMore
set_option linter.unusedVariables false
set_option linter.unusedSimpArgs false
/-- strings.Trim at a cutset of ASCII bytes, by the shelf's contract. -/
def strings_Trim.f (a0 : ByteArray) (a1 : ByteArray) : Option ByteArray :=
  if a0.size ≤ 9223372036854775807 then if a1.size < 4294967281 then if a1.data.toList.all (fun b => decide (b.toNat < 128)) = true then some ⟨(Lib.trimS a0.data.toList a1.data.toList).toArray⟩ else none else none else none
theorem strings_Trim.calls (a0 : ByteArray) (a1 : ByteArray) (r : ByteArray) (w : World) (h : strings_Trim.f a0 a1 = some r) :
    Calls Tryd.prog 25 #[.string a0, .string a1] w fun e w' => e = .returned (.string r) ∧ Below w.heap.size w w' := by
  unfold strings_Trim.f at h
  by_cases h1 : a0.size ≤ 9223372036854775807
  · rw [if_pos h1] at h
    by_cases h2 : a1.size < 4294967281
    · rw [if_pos h2] at h
      by_cases h3 : a1.data.toList.all (fun b => decide (b.toNat < 128)) = true
      · rw [if_pos h3] at h
        obtain rfl := Option.some.inj h
        exact Any.strings_Trim_laid Tryd.lays160 (by kernel_rfl) a0 a1 w h1 h2 (ascii_of_all h3)
      · rw [if_neg h3] at h; cases h
    · rw [if_neg h2] at h; cases h
  · rw [if_neg h1] at h; cases h

/-- Whether a number is in a range. -/
theorem inB (a0 a1 a2 : Int) (w : World) : Calls Tryd.prog 19 #[.int .i64 a0, .int .i64 a1, .int .i64 a2] w fun e w' => e = .returned (.bool (decide (a1 ≤ a0) && decide (a0 ≤ a2))) ∧ w' = w := by
  by_cases h1 : a1 ≤ a0
  · have h1' : decide (a1 ≤ a0) = true := decide_eq_true h1
    rw [h1']
    go_enter Tryd.func19, Tryd.ntmps19
    go_wp2
    go_ret
    exact ⟨rfl, rfl⟩
  · have h1' : decide (a1 ≤ a0) = false := decide_eq_false h1
    rw [h1']
    go_enter Tryd.func19, Tryd.ntmps19
    go_wp2
    go_ret
    exact ⟨rfl, rfl⟩
/-- Whether a number is outside a range. -/
def outB (lo hi x : Int) : Bool := !(decide (lo ≤ x) && decide (x ≤ hi))
theorem outB_eq (lo hi x : Int) : outB lo hi x = (!decide (lo ≤ x) || !decide (x ≤ hi)) := by unfold outB; rw [Bool.not_and]
theorem ret_bool {a b : Bool} (h : a = b) : Ending.returned (.bool a) = .returned (.bool b) := by rw [h]

/-- What slices.IndexFunc answers is at least 0 just where some element meets the predicate. -/
def Finds (q : Bool) (w : World) (e : Ending) (w' : World) : Prop := ∃ n : Int, decide (0 ≤ n) = q ∧ e = .returned (.int .i64 n) ∧ Below w.heap.size w w'
theorem any_take_succ (p : Int → Bool) (l : List Int) (k : Nat) (h : k < l.length) : (l.take (k + 1)).any p = ((l.take k).any p || p (rd l k)) := by
  rw [List.take_succ_eq_append_getElem h, List.any_append]
  simp [rd, h]
theorem any_of_mem (p : Int → Bool) (l : List Int) (k : Nat) (h : k < l.length) (hp : p (rd l k) = true) : l.any p = true := by
  rw [List.any_eq_true]
  exact ⟨l[k], List.getElem_mem h, by simpa [rd, h] using hp⟩
theorem indexFunc (p : Int → Bool) {g : FuncId} {fn : Func} {lb : Array Value} (hf : Tryd.prog.funcs[g]? = some fn) (hname : (fn.name == "runtime.NumGoroutine") = false) (hb : fn.body.isSome = true)
    (A : Option Addr) (c : Nat) (l : List Int) (w : World) (hC : Kd.C (Kd.int .i64) w A l.length l) (hl : l.length ≤ 1000000000)
    (hp : ∀ (x : Int) (W : World), Below w.heap.size w W → Calls Tryd.prog g (#[.int .i64 x] ++ lb) W fun e W' => e = .returned (.bool (p x)) ∧ Below W.heap.size W W') :
    Calls Tryd.prog 24 #[.slice A l.length c, .func (.func g) #[] lb] w (Finds (l.any p) w) := by
  have HC := Aside0.mk hC
  have HP := Aside0.mk hp
  have HF := Aside0.mk hf
  have HN := Aside0.mk hname
  have HBO := Aside0.mk hb
  clear hC hp hf hname hb
  go_enter Tryd.func24, Tryd.ntmps24
  go_wp2
  go_loopw [8] (fun v8 wr => ∃ k : Nat, k ≤ l.length ∧ v8 = .int .i64 k ∧ Aside0 ((l.take k).any p = false) ∧ Aside0 (Below w.heap.size w wr)) (fun v8 _ => l.length - (RowKit.intOf v8).toNat)
  case atStart => exact ⟨0, Nat.zero_le _, rfl, ⟨by simp⟩, ⟨Below.refl _ _⟩⟩
  case round =>
    obtain ⟨k, hk, rfl, HA, HB⟩ := hrel
    by_cases hlt : k < l.length
    · obtain ⟨ad, rfl, hx⟩ := Kd.at_int (Kd.C_below HC.out HB.out) (k : Int) (by omega) (by omega)
      have hx' : wr.cell? (ad.add k) = some (.int .i64 (rd l k)) := hx
      clear hx
      have HS := Aside0.mk (any_take_succ p l k hlt)
      cases hpx : p (rd l k) with
      | false =>
        have HX := Aside0.mk hpx
        clear hpx
        go_wp2_with ((with_reducible refine gate_calleeG rfl ?_); refine goesLG_ (lb := lb) (some 16) rfl rfl HF.out HN.out HBO.out (#[.int .i64 (rd l k)] ++ lb) rfl rfl (by (try simp only [List.map_toArray, List.map_cons, List.map_nil]); first | done | rfl) ?_; refine (HP.out (rd l k) _ HB.out).mono ?_; rintro e w1 ⟨rfl, hb1⟩; rw [HX.out]; refine ⟨_, rfl, ?_⟩; have HB1 := Aside0.mk (HB.out.trans (hb1.mono HB.out.size)); clear hb1)
        go_roundw
        case rel => exact ⟨k + 1, by omega, by go_num, ⟨by rw [HS.out, HA.out, HX.out]; rfl⟩, HB1⟩
        case measure => simp [RowKit.intOf]; omega
      | true =>
        have HX := Aside0.mk hpx
        clear hpx
        go_wp2_with ((with_reducible refine gate_calleeG rfl ?_); refine goesLG_ (lb := lb) (some 16) rfl rfl HF.out HN.out HBO.out (#[.int .i64 (rd l k)] ++ lb) rfl rfl (by (try simp only [List.map_toArray, List.map_cons, List.map_nil]); first | done | rfl) ?_; refine (HP.out (rd l k) _ HB.out).mono ?_; rintro e w1 ⟨rfl, hb1⟩; rw [HX.out]; refine ⟨_, rfl, ?_⟩; have HB1 := Aside0.mk (HB.out.trans (hb1.mono HB.out.size)); clear hb1)
        go_ret
        exact ⟨k, by rw [any_of_mem p l k hlt HX.out]; exact decide_eq_true (by omega), rfl, HB1.out⟩
    · obtain rfl : k = l.length := by omega
      go_wp2
      go_ret
      exact ⟨-1, by rw [List.take_length] at HA; rw [HA.out]; rfl, rfl, HB.out⟩
/-- slices.ContainsFunc over whole numbers, whatever predicate is handed in. -/
theorem containsFunc (p : Int → Bool) {g : FuncId} {fn : Func} {lb : Array Value} (hf : Tryd.prog.funcs[g]? = some fn) (hname : (fn.name == "runtime.NumGoroutine") = false) (hb : fn.body.isSome = true)
    (A : Option Addr) (c : Nat) (l : List Int) (w : World) (hC : Kd.C (Kd.int .i64) w A l.length l) (hl : l.length ≤ 1000000000)
    (hp : ∀ (x : Int) (W : World), Below w.heap.size w W → Calls Tryd.prog g (#[.int .i64 x] ++ lb) W fun e W' => e = .returned (.bool (p x)) ∧ Below W.heap.size W W') :
    Calls Tryd.prog 20 #[.slice A l.length c, .func (.func g) #[] lb] w fun e w' => e = .returned (.bool (l.any p)) ∧ Below w.heap.size w w' := by
  have HI := Aside0.mk (indexFunc p hf hname hb A c l w hC hl hp)
  clear hC hp hf hname hb
  go_enter Tryd.func20, Tryd.ntmps20
  go_wp2_with (go_at_call 24; refine HI.out.mono ?_; rintro e w1 ⟨n, hn, rfl, hb1⟩; have HN := Aside0.mk hn; have HB := Aside0.mk hb1; clear hn hb1)
  go_ret
  exact ⟨ret_bool HN.out, HB.out⟩
theorem bcellS {W w1 : World} (hb : Below W.heap.size W w1) : (∀ b o, b < W.heap.size → w1.cell? ⟨b, o, none⟩ = W.cell? ⟨b, o, none⟩) ∧ (∀ b o, b < W.heap.size → w1.frozen? ⟨b, o, none⟩ = W.frozen? ⟨b, o, none⟩) :=
  ⟨fun b o h => hb.cell (p := ⟨b, o, none⟩) h, fun b o h => hb.frozen (p := ⟨b, o, none⟩) h⟩

/-- The predicates of IsLevels. -/
theorem isLevels1 (x : Int) (W : World) :
    Calls Tryd.prog 21 #[.int .i64 x] W fun e W' => e = .returned (.bool (outB (-5) 5 x)) ∧ Below W.heap.size W W' := by
  go_enter Tryd.func21, Tryd.ntmps21
  go_wp2_with (go_at_call 19; refine (inB _ _ _ _).mono ?_; rintro e w1 ⟨rfl, rfl⟩)
  go_ret
  exact ⟨ret_bool (outB_eq _ _ _).symm, Below.refl _ _⟩
theorem isLevels2 (x : Int) (W : World) :
    Calls Tryd.prog 22 #[.int .i64 x] W fun e W' => e = .returned (.bool (outB 1 5 x)) ∧ Below W.heap.size W W' := by
  go_enter Tryd.func22, Tryd.ntmps22
  go_wp2_with (go_at_call 19; refine (inB _ _ _ _).mono ?_; rintro e w1 ⟨rfl, rfl⟩)
  go_ret
  exact ⟨ret_bool (outB_eq _ _ _).symm, Below.refl _ _⟩
/-- Whether there are levels. -/
def impl_IsLevels.f (l0 l1 : List Int) : Option Bool :=
  if (l0.length : Int) = (l1.length : Int) then
    if (1 : Int) ≤ (l0.length : Int) ∧ (l0.length : Int) ≤ 6 then
      if (l0.any fun x => outB (-5) 5 x) = true then some false else some (!(l1.any fun x => outB 1 5 x))
    else some false
  else some false
set_option maxHeartbeats 1000000 in
theorem impl_IsLevels.calls (A0_0 : Option Addr) (c0_0 : Nat) (l0_0 : List Int) (A0_1 : Option Addr) (c0_1 : Nat) (l0_1 : List Int) (r : Bool) (w : World) (hr0_0 : Kd.C (Kd.int .i64) w A0_0 l0_0.length l0_0) (hc0_0 : l0_0.length ≤ c0_0) (hr0_1 : Kd.C (Kd.int .i64) w A0_1 l0_1.length l0_1) (hc0_1 : l0_1.length ≤ c0_1) (h : impl_IsLevels.f l0_0 l0_1 = some r) :
    Calls Tryd.prog 13 #[.agg #[.slice A0_0 l0_0.length c0_0, .slice A0_1 l0_1.length c0_1]] w fun e w' => e = .returned (.bool r) ∧ Below w.heap.size w w' := by
  have hu := Tryd.underlying28
  unfold impl_IsLevels.f at h
  by_cases he : (l0_0.length : Int) = (l0_1.length : Int)
  · rw [if_pos he] at h
    have he' : ((l0_0.length : Int) == (l0_1.length : Int)) = true := by simpa using he
    by_cases hin : (1 : Int) ≤ (l0_0.length : Int) ∧ (l0_0.length : Int) ≤ 6
    · rw [if_pos hin] at h
      have hn : (decide ((1 : Int) ≤ (l0_0.length : Int)) && decide ((l0_0.length : Int) ≤ 6)) = true := by simp; omega
      have HN := Aside0.mk hn
      have hl0 : l0_0.length ≤ 1000000000 := by omega
      have hl1 : l0_1.length ≤ 1000000000 := by omega
      have hA : ∀ W : World, Below w.heap.size w W →
          Calls Tryd.prog 20 #[.slice A0_0 l0_0.length c0_0, .func (.func 21) #[] #[]] W fun e w' => e = .returned (.bool (l0_0.any fun x => outB (-5) 5 x)) ∧ Below W.heap.size W w' :=
        fun W hb => containsFunc (fun x => outB (-5) 5 x) Tryd.func21 (by kernel_rfl) rfl A0_0 c0_0 l0_0 W (Kd.C_below hr0_0 hb) hl0 (fun x W' hb' => isLevels1 x W')
      have hB : ∀ W : World, Below w.heap.size w W →
          Calls Tryd.prog 20 #[.slice A0_1 l0_1.length c0_1, .func (.func 22) #[] #[]] W fun e w' => e = .returned (.bool (l0_1.any fun x => outB 1 5 x)) ∧ Below W.heap.size W w' :=
        fun W hb => containsFunc (fun x => outB 1 5 x) Tryd.func22 (by kernel_rfl) rfl A0_1 c0_1 l0_1 W (Kd.C_below hr0_1 hb) hl1 (fun x W' hb' => isLevels2 x W')
      have HA := Aside0.mk hA
      have HBB := Aside0.mk hB
      clear hA hB hr0_0 hr0_1 hn hin hl0 hl1 he
      cases hq : (l0_0.any fun x => outB (-5) 5 x) with
      | true =>
        rw [hq] at h; simp only [if_true] at h
        obtain rfl := Option.some.inj h
        have HQ := Aside0.mk hq
        clear hq
        go_enter Tryd.func13, Tryd.ntmps13
        go_wp2_with (first | (go_at_call 19; refine (inB _ _ _ _).mono ?_; rintro e w1 ⟨rfl, rfl⟩; rw [HN.out]) | (go_at_call 20; (with_reducible refine (HA.out _ ?hbel).mono ?_); (case hbel => exact (Below.refl _ _).alloc (Nat.le_refl _) _); rw [HQ.out]; rintro e w1 ⟨rfl, hb1⟩; have HB := Aside0.mk hb1; clear hb1))
        go_ret
        exact ⟨rfl, ((Below.refl _ _).alloc (Nat.le_refl _) _).trans (HB.out.mono (by simp))⟩
      | false =>
        rw [hq] at h; simp only [Bool.false_eq_true, if_false] at h
        obtain rfl := Option.some.inj h
        have HQ := Aside0.mk hq
        clear hq
        go_enter Tryd.func13, Tryd.ntmps13
        go_wp2_with (first | (go_at_call 19; refine (inB _ _ _ _).mono ?_; rintro e w1 ⟨rfl, rfl⟩; rw [HN.out]) | (go_at_call 20; (with_reducible refine (HA.out _ ?hbel).mono ?_); (case hbel => exact (Below.refl _ _).alloc (Nat.le_refl _) _); rw [HQ.out]; rintro e w1 ⟨rfl, hb1⟩; obtain ⟨hc1, hf1⟩ := bcellS hb1; have HB := Aside0.mk (((Below.refl w.heap.size w).alloc (Nat.le_refl _) _).trans (hb1.mono (by simp))); clear hb1) | (go_at_call 20; (with_reducible refine (HBB.out _ ?hbel).mono ?_); (case hbel => exact HB.out); rintro e w2 ⟨rfl, hb2⟩; have HB2 := Aside0.mk hb2; clear hb2))
        go_ret
        exact ⟨rfl, HB.out.trans (HB2.out.mono HB.out.size)⟩
    · rw [if_neg hin] at h
      obtain rfl := Option.some.inj h
      have hn : (decide ((1 : Int) ≤ (l0_0.length : Int)) && decide ((l0_0.length : Int) ≤ 6)) = false := by
        rw [Bool.and_eq_false_iff]; simp only [decide_eq_false_iff_not]; omega
      have HN := Aside0.mk hn
      clear hn hin he hr0_0 hr0_1
      go_enter Tryd.func13, Tryd.ntmps13
      go_wp2_with (go_at_call 19; refine (inB _ _ _ _).mono ?_; rintro e w1 ⟨rfl, rfl⟩; rw [HN.out])
      go_ret
      exact ⟨rfl, (Below.refl _ _).alloc (Nat.le_refl _) _⟩
  · rw [if_neg he] at h
    obtain rfl := Option.some.inj h
    have he' : ((l0_0.length : Int) == (l0_1.length : Int)) = false := by simpa using he
    clear he hr0_0 hr0_1
    go_enter Tryd.func13, Tryd.ntmps13
    go_wp2
    go_ret
    exact ⟨rfl, (Below.refl _ _).alloc (Nat.le_refl _) _⟩


end Go.Proofs.YthlbbngmgioamaaDoor.Stub
