/- 'FnExactDeterminantOf': for every input the law returns true, and each argument reads behind the call as it read before. No condition. -/
import Derived.Test.YtaneoolaknnkaaaRows
import Derived.Test.YtaneoolaknnkaaaOFnExactDeterminantOfx4
import Derived.Test.YtaneoolaknnkaaaPureFnExactDeterminantOf
import Derived.WalkKit
import Derived.ProofKit
import Derived.OpenShut
import Derived.ShutString
import Derived.ChangeOld
import Derived.Below
import Derived.SizedLaws
import Derived.Lib.SmallJoins
import Derived.Carry
import Derived.Deep.Matrix
namespace Go.Proofs.Ytaneoolaknnkaaa.fnExactDeterminantOf
open Go.ChangeShapes Go.WideShapes Go.ChangeAt Go.RowKit Go.Joins
open Go.ChangeMaps (open_string shut_string)
open Go.Proofs.YtaneoolaknnkaaaW.PrintWords Go.Proofs.YtaneoolaknnkaaaW.PrintLast
set_option linter.unusedVariables false
theorem own : ownKnob Try.prog.godebug = none := by kernel_rfl
theorem laidOut : laidOutB Try.prog = true := by kernel_rfl
theorem cells22 : Try.prog.cellsOf 22 = 1 := by kernel_rfl
/-- A row of whole numbers, opened. -/
theorem open_row {H : Type} {enc : TypeId × Value → H} {w : World} {base : Nat} {held : Bool} {fuel : Nat} {cs : List Value} {x : DataW H × List MemPlace} (h : DataW.trod enc Try.prog w base (fun _ => true) held fuel 22 cs = some x) :
    ∃ (A : Option Addr) (c : Nat) (l : List Int), cs = [.slice A l.length c] ∧ Kd.C (Kd.int .i64) w A l.length l ∧ l.length ≤ c ∧ (l.length ≤ 9223372036854775807 ∧ ∀ n ∈ l, (Lit.int .i64 n).wf = true) := by
  rcases open_ints Try.underlying22 Try.underlying3 (by kernel_rfl) h with ⟨rfl, _⟩ | ⟨a, len, cap, zs, rfl, _, hl, hm, hz, _, hcell, hwz⟩
  · obtain ⟨l, e, hr, hm, hw, hc⟩ := ReadsInt.ofRowC (k := .i64) (w := w) (a := none) (len := 0) (cap := 0) (zs := []) (.inl ⟨rfl, rfl, rfl, rfl⟩)
    exact ⟨none, 0, l, by rw [← e], Kd.C_of_reads (d := (0 : Int)) (h1 := fun _ => rfl) hr, hc, by unfold maxLen at hm; exact hm, hw⟩
  · obtain ⟨l, e, hr, hm, hw, hc⟩ := ReadsInt.ofRowC (k := .i64) (w := w) (a := some a) (len := len) (cap := cap) (zs := zs) (.inr ⟨_, rfl, hl, hm, by simpa using hz, hcell, hwz⟩)
    exact ⟨some a, cap, l, by rw [← e], Kd.C_of_reads (d := (0 : Int)) (h1 := fun _ => rfl) hr, hc, by unfold maxLen at hm; exact hm, hw⟩
theorem open_row_v {H : Type} {enc : TypeId × Value → H} {w : World} {base : Nat} {held : Bool} {r : Reach} {b0 : Nat} {v : Value} {d : DataW H} {p : List MemPlace}
    (hv : Value.okWide Try.prog w r b0 22 v) (h : DataW.Trod enc Try.prog w base (fun _ => true) held 22 v d p) :
    ∃ (A : Option Addr) (c : Nat) (l : List Int), v = .slice A l.length c ∧ Kd.C (Kd.int .i64) w A l.length l ∧ l.length ≤ c ∧ (l.length ≤ 9223372036854775807 ∧ ∀ n ∈ l, (Lit.int .i64 n).wf = true) := by
  obtain ⟨a, len, cap, rfl⟩ := okWide_slice Try.underlying22 hv
  obtain ⟨fuel, hf⟩ := h
  obtain ⟨A, c, l, e, h1⟩ := open_row hf
  simp only [Value.cells, List.cons.injEq, and_true] at e
  exact ⟨A, c, l, e, h1⟩
theorem cells28 : Try.prog.cellsOf 28 = 1 := by kernel_rfl
/-- Rows of rows of whole numbers, opened. -/
theorem open_rows {H : Type} {enc : TypeId × Value → H} {w : World} {base : Nat} {held : Bool} {fuel : Nat} {cs : List Value} {x : DataW H × List MemPlace} (h : DataW.trod enc Try.prog w base (fun _ => true) held fuel 28 cs = some x) :
    ∃ (A : Option Addr) (c : Nat) (l : List (List Int)), cs = [.slice A l.length c] ∧ Kd.C (Kd.slice 3 (Kd.int .i64)) w A l.length l ∧ l.length ≤ c ∧ (l.length ≤ 9223372036854775807 ∧ ∀ r ∈ l, r.length ≤ 9223372036854775807 ∧ ∀ n ∈ r, (Lit.int .i64 n).wf = true) := by
  rcases Go.Deep.open_int_rows Try.underlying28 Try.underlying22 Try.underlying3 cells22 (by kernel_rfl) h with ⟨rfl, _⟩ | ⟨a, len, cap, AA, LL, CC, ZZ, rfl, _, hl, hm, _, hc⟩
  · exact ⟨none, 0, [], rfl, ⟨rfl, Nat.zero_le _, fun h => absurd h (Nat.lt_irrefl 0)⟩, Nat.zero_le _, Nat.zero_le _, fun r hr => by cases hr⟩
  · have each : ∀ r, ∃ l : List Int, r < len → LL r = l.length ∧ Kd.C (Kd.int .i64) w (AA r) l.length l ∧ l.length ≤ CC r ∧ l.length ≤ 9223372036854775807 ∧ ∀ n ∈ l, (Lit.int .i64 n).wf = true := by
      intro r
      by_cases hr : r < len
      · obtain ⟨hcell, hLC, hCm, hZ, hwf, hnone, hsome⟩ := hc r (Nat.lt_of_lt_of_le hr hl)
        have hrow : (AA r = none ∧ LL r = 0 ∧ CC r = 0 ∧ ZZ r = []) ∨ ∃ x, AA r = some x ∧ LL r ≤ CC r ∧ CC r ≤ maxLen ∧ (ZZ r).length = CC r ∧ (∀ i, i < (ZZ r).length → w.cell? (x.add i) = some (.int .i64 ((ZZ r).getD i 0))) ∧ ∀ n ∈ ZZ r, (Lit.int .i64 n).wf = true := by
          cases hA : AA r with
          | none => exact .inl ⟨rfl, by have := hnone hA; omega, hnone hA, List.length_eq_zero_iff.1 (by rw [hZ, hnone hA])⟩
          | some x => exact .inr ⟨x, rfl, hLC, hCm, hZ, fun i hi => (hsome x hA).2 i (by omega), hwf⟩
        obtain ⟨l, e, h1, h2, h3, h4⟩ := ReadsInt.ofRowC hrow
        exact ⟨l, fun _ => ⟨e, Kd.C_of_reads (d := (0 : Int)) (h1 := fun _ => rfl) h1, h4, by unfold maxLen at h2; exact h2, h3⟩⟩
      · exact ⟨[], fun h => absurd h hr⟩
    have hf : ∀ r, r < len → LL r = (Classical.choose (each r)).length ∧ Kd.C (Kd.int .i64) w (AA r) (Classical.choose (each r)).length (Classical.choose (each r)) ∧ (Classical.choose (each r)).length ≤ CC r ∧ (Classical.choose (each r)).length ≤ 9223372036854775807 ∧ ∀ n ∈ Classical.choose (each r), (Lit.int .i64 n).wf = true := fun r => Classical.choose_spec (each r)
    generalize hff : (fun r => Classical.choose (each r)) = f at hf
    have hf' : ∀ r, r < len → LL r = (f r).length ∧ Kd.C (Kd.int .i64) w (AA r) (f r).length (f r) ∧ (f r).length ≤ CC r ∧ (f r).length ≤ 9223372036854775807 ∧ ∀ n ∈ f r, (Lit.int .i64 n).wf = true := by subst hff; exact hf
    clear hf hff
    have hlen : ((List.range len).map f).length = len := by simp
    refine ⟨some a, cap, (List.range len).map f, by rw [hlen], ⟨rfl, by rw [hlen]; unfold maxLen at hm; omega, fun _ => ⟨a, rfl, fun j p hj => ?_⟩⟩, by rw [hlen]; exact hl, by rw [hlen]; unfold maxLen at hm; omega, fun r hr => ?_⟩
    · rw [List.getElem?_map] at hj
      obtain ⟨i, hi, rfl⟩ := Option.map_eq_some_iff.1 hj
      obtain ⟨hjl, hi'⟩ := List.getElem?_eq_some_iff.1 hi
      rw [List.getElem_range] at hi'
      subst hi'
      rw [List.length_range] at hjl
      obtain ⟨g1, g2, g3, g4, g5⟩ := hf' j hjl
      refine ⟨[.slice (AA j) (LL j) (CC j)], rfl, ⟨AA j, CC j, by rw [g1], g3, g2⟩, fun i u hu => ?_⟩
      cases i with
      | zero =>
        obtain rfl := Option.some.inj hu
        show w.cell? (a.add (j * 1 + 0)) = _
        rw [Nat.mul_one, Nat.add_zero]
        exact (hc j (Nat.lt_of_lt_of_le hjl hl)).1
      | succ i => cases hu
    · obtain ⟨i, hi, rfl⟩ := List.mem_map.1 hr
      exact (hf' i (List.mem_range.1 hi)).2.2.2
theorem open_rows_v {H : Type} {enc : TypeId × Value → H} {w : World} {base : Nat} {held : Bool} {r : Reach} {b0 : Nat} {v : Value} {d : DataW H} {p : List MemPlace}
    (hv : Value.okWide Try.prog w r b0 28 v) (h : DataW.Trod enc Try.prog w base (fun _ => true) held 28 v d p) :
    ∃ (A : Option Addr) (c : Nat) (l : List (List Int)), v = .slice A l.length c ∧ Kd.C (Kd.slice 3 (Kd.int .i64)) w A l.length l ∧ l.length ≤ c ∧ (l.length ≤ 9223372036854775807 ∧ ∀ r ∈ l, r.length ≤ 9223372036854775807 ∧ ∀ n ∈ r, (Lit.int .i64 n).wf = true) := by
  obtain ⟨a, len, cap, rfl⟩ := okWide_slice Try.underlying28 hv
  obtain ⟨fuel, hf⟩ := h
  obtain ⟨A, c, l, e, h1⟩ := open_rows hf
  simp only [Value.cells, List.cons.injEq, and_true] at e
  exact ⟨A, c, l, e, h1⟩
set_option maxRecDepth 100000 in
theorem lifted (os : Os) (started : os.Started) (H : Type) (enc : TypeId × Value → H) :
    ReturnsInHanded {} Try.checked os 4 .any (Rows.fnExactDeterminantOfSpec.pre6 enc Try.prog Try.f4 Rows.fnExactDeterminantOfRow.domain false) (Rows.fnExactDeterminantOfSpec.post enc Try.prog Try.f4 false true false false) := by
  refine returnsInHanded_of_change_sized (C := Try.checked) own started (by kernel_rfl) Try.func4
    (ChangeSpec.witness6 (enc := enc) (C := Try.checked) false ⟨#[], #[.slice none 0 0], []⟩ 8 (by kernel_rfl) (by kernel_rfl) (by kernel_rfl) (by kernel_rfl)) ?_
  intro W base args ds gs before hval0 hW hcnd hsz0 _
  have hsz : (DataW.weightsEach Try.prog (Try.f4.params.toList ++ Rows.fnExactDeterminantOfSpec.plain.varTypes Try.prog) (ds ++ gs)).all (· ≤ reachBytes) = true := hsz0
  have hval : ∀ (j : Nat) t v, Try.f4.params[j]? = some t → args[j]? = some v → Value.okWide Try.prog W .any base t v := hval0
  have hW' := hW
  obtain ⟨p, q, hA0, hV, rfl, hfz, hnd⟩ := hW
  have hA : DataW.TrodAll enc Try.prog W 0 (fun _ => true) true Try.f4.params.toList args.toList ds p := hA0
  rw [Try.params4] at hA hval hsz
  obtain ⟨v0, vs0, d0, ds0, p0, q0, hargs, rfl, rfl, h0, r0⟩ := trodAll_cons hA
  obtain ⟨rfl, rfl, rfl⟩ := trodAll_nil r0
  obtain rfl : args = #[v0] := by cases args; simp_all
  obtain ⟨rfl, rfl⟩ := trodVars_none hV
  have g0 := h0
  have lt0 : ∀ x ∈ p0, x.block < W.heap.size := fun x hx => hW'.lt x (by simp [hx])
  have again : ∀ W' : World, Below W.heap.size W W' → DataW.TrodAll enc Try.prog W' 0 (fun b => decide (b < W.heap.size)) true [28] [v0] [d0] _ := fun W' bel =>
    trodAll_cons_mk (Below.trod laidOut (by kernel_rfl) (of_decide_eq_true (by kernel_rfl)) g0 bel lt0) (trodAll_mk0)
  clear g0 lt0
  obtain ⟨A0, c0, l0, rfl, hr_l0, hc_l0, wf_l0⟩ := open_rows_v (hval 0 28 v0 rfl rfl) h0
  clear hA0 hval0 hsz0 hsz
  obtain ⟨k, hk⟩ := Pure.FnExactDeterminantOf l0 wf_l0
  refine (OFnExactDeterminantOf.laws_FnExactDeterminantOf.calls k A0 c0 l0 true W hr_l0 hc_l0 hk).mono fun e W' ⟨he, bel⟩ => ?_
  subst he
  exact ⟨_, rfl, _, _, _, [], _, [], hW', trodAll_mk1 (shut_bool Try.underlying4 _), again W' bel, rfl, bel.frame _, fun h => by cases h⟩
theorem over : Rows.fnExactDeterminantOfRow.holds Try.pinned (OpenSpec.ofChange Rows.fnExactDeterminantOfSpec) :=
  OpenClaim.holds_of_wide 4 Try.f4 rfl rfl rfl rfl rfl rfl rfl ⟨rfl, rfl, rfl, rfl, rfl⟩ rfl rfl rfl rfl rfl (by kernel_rfl) Try.func4 (by kernel_rfl)
    (of_decide_eq_true (by kernel_rfl)) (by unfold Func.isWrapper; first | (rw [if_pos (by decide +kernel)]; kernel_rfl) | (rw [if_neg (by decide +kernel)]; exact ⟨rfl, rfl⟩))
    (fun os started H enc _ => lifted os started H enc)
theorem proved : Rows.FnExactDeterminantOfSaid := over
end Go.Proofs.Ytaneoolaknnkaaa.fnExactDeterminantOf
namespace Go.Proofs.Ytaneoolaknnkaaa
/-- The row, under a short name, for the claim. -/
theorem fnExactDeterminantOf_said : Rows.FnExactDeterminantOfSaid := fnExactDeterminantOf.proved

theorem fnExactDeterminantOf_holds : Rows.FnExactDeterminantOfSaid := fnExactDeterminantOf_said
#print axioms fnExactDeterminantOf_holds
end Go.Proofs.Ytaneoolaknnkaaa
