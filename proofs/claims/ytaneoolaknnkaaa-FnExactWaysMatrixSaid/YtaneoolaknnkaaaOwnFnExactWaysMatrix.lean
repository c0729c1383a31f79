/- 'FnExactWaysMatrix': for every input the law returns true, and each argument reads behind the call as it read before. No condition. -/
import Derived.Test.YtaneoolaknnkaaaRows
import Derived.Test.YtaneoolaknnkaaaOFnExactWaysMatrixx5
import Derived.Test.YtaneoolaknnkaaaPureFnExactWaysMatrix
import Derived.WalkKit
import Derived.ProofKit
import Derived.OpenShut
import Derived.ShutString
import Derived.ChangeOld
import Derived.Below
import Derived.SizedLaws
import Derived.Lib.SmallJoins
import Derived.Carry
import Derived.Deep.Slices
import Derived.ChangeSame
namespace Go.Proofs.Ytaneoolaknnkaaa.fnExactWaysMatrix
open Go.ChangeShapes Go.WideShapes Go.ChangeAt Go.RowKit Go.Joins
open Go.ChangeMaps (open_string shut_string)
open Go.Proofs.YtaneoolaknnkaaaW.PrintWords Go.Proofs.YtaneoolaknnkaaaW.PrintLast
set_option linter.unusedVariables false
theorem own : ownKnob Try.prog.godebug = none := by kernel_rfl
theorem laidOut : laidOutB Try.prog = true := by kernel_rfl
theorem cells64 : Try.prog.cellsOf 64 = 2 := by kernel_rfl
theorem cells3 : Try.prog.cellsOf 3 = 1 := by kernel_rfl
open Go.Proofs.Ytaneoolaknnkaaa.OFnExactWaysMatrix in
/-- A row of cells, opened. -/
theorem open_cells {H : Type} {enc : TypeId × Value → H} {w : World} {base : Nat} {held : Bool} {fuel : Nat} {cs : List Value} {x : DataW H × List MemPlace} (h : DataW.trod enc Try.prog w base (fun _ => true) held fuel 38 cs = some x) :
    ∃ (A : Option Addr) (c : Nat) (l : List S64), cs = [.slice A l.length c] ∧ Kd.C k64 w A l.length l ∧ l.length ≤ c ∧ (l.length ≤ 9223372036854775807 ∧ ∀ c ∈ l, (Lit.int .i64 c.f0).wf = true ∧ (Lit.int .i64 c.f1).wf = true) := by
  rcases Go.Deep.open_slice Try.underlying38 h with ⟨rfl, _⟩ | ⟨a, len, cap, m, n, D, Pl, rfl, _, hl, hm, hmm, _, hi⟩
  · exact ⟨none, 0, [], rfl, ⟨rfl, Nat.zero_le _, fun h => absurd h (Nat.lt_irrefl 0)⟩, Nat.zero_le _, Nat.zero_le _, fun r hr => by cases hr⟩
  · simp only [if_true] at hmm
    subst hmm
    have each : ∀ i, ∃ c : S64, i < len → w.cell? (a.add (i * 2)) = some (.int .i64 c.f0) ∧ w.cell? (a.add (i * 2 + 1)) = some (.int .i64 c.f1) ∧ (Lit.int .i64 c.f0).wf = true ∧ (Lit.int .i64 c.f1).wf = true := by
      intro i
      by_cases hr : i < len
      · obtain ⟨cs', hc, ht⟩ := hi i (Nat.lt_of_lt_of_le hr hl)
        rw [cells64] at hc
        obtain ⟨_, hcl, hat⟩ := World.cells?_some hc
        obtain ⟨y0, y1, q, _, _, h0, h1⟩ := trod_struct2 Try.underlying64 ht
        rw [cells3] at h0 h1
        match cs', hcl with
        | [c0, c1], _ =>
          obtain ⟨u, e0, _, w0⟩ := DataW.trod_int Try.underlying3 h0
          obtain ⟨v, e1, _, w1⟩ := DataW.trod_int Try.underlying3 h1
          simp only [List.drop_zero, List.drop_succ_cons, List.take_succ_cons, List.take_zero, List.cons.injEq, and_true] at e0 e1
          subst e0 e1
          have a0 := hat 0 (by omega)
          have a1 := hat 1 (by omega)
          rw [Go.Deep.add_add] at a0 a1
          exact ⟨⟨u, v⟩, fun _ => ⟨a0, a1, w0, w1⟩⟩
      · exact ⟨⟨0, 0⟩, fun h => absurd h hr⟩
    have hf := fun i => Classical.choose_spec (each i)
    generalize hff : (fun i => Classical.choose (each i)) = f at hf
    have hf' : ∀ i, i < len → w.cell? (a.add (i * 2)) = some (.int .i64 (f i).f0) ∧ w.cell? (a.add (i * 2 + 1)) = some (.int .i64 (f i).f1) ∧ (Lit.int .i64 (f i).f0).wf = true ∧ (Lit.int .i64 (f i).f1).wf = true := by subst hff; exact hf
    clear hf hff
    have hlen : ((List.range len).map f).length = len := by simp
    refine ⟨some a, m, (List.range len).map f, by rw [hlen], ⟨rfl, by rw [hlen]; unfold maxLen at hm; omega, fun _ => ⟨a, rfl, fun j p hj => ?_⟩⟩, by rw [hlen]; exact hl, by rw [hlen]; unfold maxLen at hm; omega, fun r hr => ?_⟩
    · rw [List.getElem?_map] at hj
      obtain ⟨i, hi, rfl⟩ := Option.map_eq_some_iff.1 hj
      obtain ⟨hjl, hi'⟩ := List.getElem?_eq_some_iff.1 hi
      rw [List.getElem_range] at hi'
      subst hi'
      rw [List.length_range] at hjl
      obtain ⟨g1, g2, _⟩ := hf' j hjl
      refine ⟨_, rfl, k64_mk w (f j), fun i u hu => ?_⟩
      match i, hu with
      | 0, hu => obtain rfl := Option.some.inj hu; exact g1
      | 1, hu => obtain rfl := Option.some.inj hu; exact g2
      | i + 2, hu => simp at hu
    · obtain ⟨i, hi, rfl⟩ := List.mem_map.1 hr
      exact (hf' i (List.mem_range.1 hi)).2.2
open Go.Proofs.Ytaneoolaknnkaaa.OFnExactWaysMatrix in
theorem open_cells_v {H : Type} {enc : TypeId × Value → H} {w : World} {base : Nat} {held : Bool} {r : Reach} {b0 : Nat} {v : Value} {d : DataW H} {p : List MemPlace}
    (hv : Value.okWide Try.prog w r b0 38 v) (h : DataW.Trod enc Try.prog w base (fun _ => true) held 38 v d p) :
    ∃ (A : Option Addr) (c : Nat) (l : List S64), v = .slice A l.length c ∧ Kd.C k64 w A l.length l ∧ l.length ≤ c ∧ (l.length ≤ 9223372036854775807 ∧ ∀ c ∈ l, (Lit.int .i64 c.f0).wf = true ∧ (Lit.int .i64 c.f1).wf = true) := by
  obtain ⟨a, len, cap, rfl⟩ := okWide_slice Try.underlying38 hv
  obtain ⟨fuel, hf⟩ := h
  obtain ⟨A, c, l, e, h1⟩ := open_cells hf
  simp only [Value.cells, List.cons.injEq, and_true] at e
  exact ⟨A, c, l, e, h1⟩
set_option maxRecDepth 100000 in
theorem lifted (os : Os) (started : os.Started) (H : Type) (enc : TypeId × Value → H) :
    ReturnsInHanded {} Try.checked os 6 .any (Rows.fnExactWaysMatrixSpec.pre6 enc Try.prog Try.f6 Rows.fnExactWaysMatrixRow.domain false) (Rows.fnExactWaysMatrixSpec.post enc Try.prog Try.f6 false true false false) := by
  refine returnsInHanded_of_change_sized (C := Try.checked) own started (by kernel_rfl) Try.func6
    (ChangeSpec.witness6 (enc := enc) (C := Try.checked) false ⟨#[], #[.slice none 0 0, .slice none 0 0], []⟩ 8 (by kernel_rfl) (by kernel_rfl) (by kernel_rfl) (by kernel_rfl)) ?_
  intro W base args ds gs before hval0 hW hcnd hsz0 _
  have hsz : (DataW.weightsEach Try.prog (Try.f6.params.toList ++ Rows.fnExactWaysMatrixSpec.plain.varTypes Try.prog) (ds ++ gs)).all (· ≤ reachBytes) = true := hsz0
  have hval : ∀ (j : Nat) t v, Try.f6.params[j]? = some t → args[j]? = some v → Value.okWide Try.prog W .any base t v := hval0
  have hW' := hW
  obtain ⟨p, q, hA0, hV, rfl, hfz, hnd⟩ := hW
  have hA : DataW.TrodAll enc Try.prog W 0 (fun _ => true) true Try.f6.params.toList args.toList ds p := hA0
  rw [Try.params6] at hA hval hsz
  obtain ⟨v0, vs0, d0, ds0, p0, q0, hargs, rfl, rfl, h0, r0⟩ := trodAll_cons hA
  obtain ⟨v1, vs1, d1, ds1, p1, q1, rfl, rfl, rfl, h1, r1⟩ := trodAll_cons r0
  obtain ⟨rfl, rfl, rfl⟩ := trodAll_nil r1
  obtain rfl : args = #[v0, v1] := by cases args; simp_all
  obtain ⟨rfl, rfl⟩ := trodVars_none hV
  have g0 := h0
  have lt0 : ∀ x ∈ p0, x.block < W.heap.size := fun x hx => hW'.lt x (by simp [hx])
  have g1 := h1
  have lt1 : ∀ x ∈ p1, x.block < W.heap.size := fun x hx => hW'.lt x (by simp [hx])
  have again : ∀ W' : World, Below W.heap.size W W' → DataW.TrodAll enc Try.prog W' 0 (fun b => decide (b < W.heap.size)) true [38, 38] [v0, v1] [d0, d1] _ := fun W' bel =>
    trodAll_cons_mk (Below.trod laidOut (by kernel_rfl) (of_decide_eq_true (by kernel_rfl)) g0 bel lt0) (trodAll_cons_mk (Below.trod laidOut (by kernel_rfl) (of_decide_eq_true (by kernel_rfl)) g1 bel lt1) (trodAll_mk0))
  clear g0 lt0 g1 lt1
  obtain ⟨A0, c0, l0, rfl, hr_l0, hc_l0, wf_l0⟩ := open_cells_v (hval 0 38 v0 rfl rfl) h0
  obtain ⟨A1, c1, l1, rfl, hr_l1, hc_l1, wf_l1⟩ := open_cells_v (hval 1 38 v1 rfl rfl) h1
  clear hA0 hval0 hsz0 hsz
  obtain ⟨k, hk⟩ := Pure.FnExactWaysMatrix l0 l1 wf_l0 wf_l1
  refine (OFnExactWaysMatrix.laws_FnExactWaysMatrix.calls k A0 c0 l0 A1 c1 l1 true W hr_l0 hc_l0 hr_l1 hc_l1 hk).mono fun e W' ⟨he, bel⟩ => ?_
  subst he
  exact ⟨_, rfl, _, _, _, [], _, [], hW', trodAll_mk1 (shut_bool Try.underlying4 _), again W' bel, rfl, bel.frame _, fun h => by cases h⟩
theorem over : Rows.fnExactWaysMatrixRow.holds Try.pinned (OpenSpec.ofChange Rows.fnExactWaysMatrixSpec) :=
  OpenClaim.holds_of_wide 6 Try.f6 rfl rfl rfl rfl rfl rfl rfl ⟨rfl, rfl, rfl, rfl, rfl⟩ rfl rfl rfl rfl rfl (by kernel_rfl) Try.func6 (by kernel_rfl)
    (of_decide_eq_true (by kernel_rfl)) (by unfold Func.isWrapper; first | (rw [if_pos (by decide +kernel)]; kernel_rfl) | (rw [if_neg (by decide +kernel)]; exact ⟨rfl, rfl⟩))
    (fun os started H enc _ => lifted os started H enc)
theorem proved : Rows.FnExactWaysMatrixSaid := over
end Go.Proofs.Ytaneoolaknnkaaa.fnExactWaysMatrix
namespace Go.Proofs.Ytaneoolaknnkaaa
/-- The row, under a short name, for the claim. -/
theorem fnExactWaysMatrix_said : Rows.FnExactWaysMatrixSaid := fnExactWaysMatrix.proved

theorem fnExactWaysMatrix_holds : Rows.FnExactWaysMatrixSaid := fnExactWaysMatrix_said
#print axioms fnExactWaysMatrix_holds
end Go.Proofs.Ytaneoolaknnkaaa
