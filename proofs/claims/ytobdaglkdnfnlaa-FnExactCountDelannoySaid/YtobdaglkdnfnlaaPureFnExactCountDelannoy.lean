/- Ways over a grid by three kinds of steps: of the arguments that are right each count is reckoned on both sides; of all others both say no. No condition. -/
import Derived.Test.YtobdaglkdnfnlaaOFnExactCountDelannoyx3
import Derived.Test.YtobdaglkdnfnlaaStubs
namespace Go.Proofs.Ytobdaglkdnfnlaa.Pure
open Go.RowKit Go.Proofs.Ytobdaglkdnfnlaa.Stub Go.Proofs.Ytobdaglkdnfnlaa.OFnExactCountDelannoy Go.Proofs.YtobdaglkdnfnlaaW.PrintWords Go.Proofs.YtobdaglkdnfnlaaW.PrintLast
set_option linter.unusedVariables false
set_option linter.unusedSimpArgs false
theorem w64 {n : Int} (h0 : -9223372036854775808 ≤ n) (h1 : n ≤ 9223372036854775807) : wrap64 n = n := by unfold wrap64; omega
theorem wf_bd {n : Int} (h : (Lit.int .i64 n).wf = true) : -9223372036854775808 ≤ n ∧ n ≤ 9223372036854775807 := by
  unfold Lit.wf at h
  rw [Bool.and_eq_true] at h
  exact ⟨of_decide_eq_true h.1, of_decide_eq_true h.2⟩
theorem wN (n : Nat) (h : n ≤ 1000000000000) : wrap64 ((n : Int) + 1) = ((n + 1 : Nat) : Int) := by rw [w64 (by omega) (by omega)]; omega

theorem in_eq (a b c : Int) : impl_in.f a b c = some (decide (b ≤ a ∧ a ≤ c)) := by
  unfold impl_in.f
  by_cases h1 : b ≤ a <;> by_cases h2 : a ≤ c <;> simp [h1, h2]
theorem l1In_eq (a b c : Int) : spec_l1In.f a b c = some (decide (b ≤ a ∧ a ≤ c)) := by
  unfold spec_l1In.f
  by_cases h1 : b ≤ a <;> by_cases h2 : a ≤ c <;> simp [h1, h2]

set_option maxRecDepth 100000 in
theorem tab0 : (List.range 13).all (fun b => laws_FnExactCountDelannoy.f 1500 0 (b : Int) == some true) = true := by decide +kernel
set_option maxRecDepth 100000 in
theorem tab1 : (List.range 13).all (fun b => laws_FnExactCountDelannoy.f 1500 1 (b : Int) == some true) = true := by decide +kernel
set_option maxRecDepth 100000 in
theorem tab2 : (List.range 13).all (fun b => laws_FnExactCountDelannoy.f 1500 2 (b : Int) == some true) = true := by decide +kernel
set_option maxRecDepth 100000 in
theorem tab3 : (List.range 13).all (fun b => laws_FnExactCountDelannoy.f 1500 3 (b : Int) == some true) = true := by decide +kernel
set_option maxRecDepth 100000 in
theorem tab4 : (List.range 13).all (fun b => laws_FnExactCountDelannoy.f 1500 4 (b : Int) == some true) = true := by decide +kernel
set_option maxRecDepth 100000 in
theorem tab5 : (List.range 13).all (fun b => laws_FnExactCountDelannoy.f 1500 5 (b : Int) == some true) = true := by decide +kernel
set_option maxRecDepth 100000 in
theorem tab6 : (List.range 13).all (fun b => laws_FnExactCountDelannoy.f 1500 6 (b : Int) == some true) = true := by decide +kernel
set_option maxRecDepth 100000 in
theorem tab7 : (List.range 13).all (fun b => laws_FnExactCountDelannoy.f 1500 7 (b : Int) == some true) = true := by decide +kernel
set_option maxRecDepth 100000 in
theorem tab8 : (List.range 13).all (fun b => laws_FnExactCountDelannoy.f 1500 8 (b : Int) == some true) = true := by decide +kernel
set_option maxRecDepth 100000 in
theorem tab9 : (List.range 13).all (fun b => laws_FnExactCountDelannoy.f 1500 9 (b : Int) == some true) = true := by decide +kernel
set_option maxRecDepth 100000 in
theorem tab10 : (List.range 13).all (fun b => laws_FnExactCountDelannoy.f 1500 10 (b : Int) == some true) = true := by decide +kernel
set_option maxRecDepth 100000 in
theorem tab11 : (List.range 13).all (fun b => laws_FnExactCountDelannoy.f 1500 11 (b : Int) == some true) = true := by decide +kernel
set_option maxRecDepth 100000 in
theorem tab12 : (List.range 13).all (fun b => laws_FnExactCountDelannoy.f 1500 12 (b : Int) == some true) = true := by decide +kernel
theorem tab : ∀ a : Nat, a < 13 → (List.range 13).all (fun b => laws_FnExactCountDelannoy.f 1500 (a : Int) (b : Int) == some true) = true
  | 0, _ => tab0
  | 1, _ => tab1
  | 2, _ => tab2
  | 3, _ => tab3
  | 4, _ => tab4
  | 5, _ => tab5
  | 6, _ => tab6
  | 7, _ => tab7
  | 8, _ => tab8
  | 9, _ => tab9
  | 10, _ => tab10
  | 11, _ => tab11
  | 12, _ => tab12
  | n + 13, h => absurd h (by omega)
theorem FnExactCountDelannoy : laws_FnExactCountDelannoy.Pure := by
  intro a b wa wb
  refine ⟨1500, ?_⟩
  by_cases h : (0 ≤ a ∧ a ≤ 12) ∧ (0 ≤ b ∧ b ≤ 12)
  · have t := tab
    have t := t a.toNat (by omega)
    rw [List.all_eq_true] at t
    have t := t b.toNat (by rw [List.mem_range]; omega)
    rw [show (a.toNat : Int) = a by omega, show (b.toNat : Int) = b by omega] at t
    exact eq_of_beq t
  · have sb : spec_CountDelannoy.j0 1500 a b true = some (0, false) := by rw [spec_CountDelannoy.j0.eq_2, if_pos rfl]
    have hs : spec_CountDelannoy.f 1500 a b = some (0, false) := by
      unfold spec_CountDelannoy.f
      rw [l1In_eq, l1In_eq, Option.bind_some, Option.bind_some]
      by_cases ha : 0 ≤ a ∧ a ≤ 12
      · rw [if_pos (decide_eq_true ha), decide_eq_false (show ¬ (0 ≤ b ∧ b ≤ 12) from fun hb => h ⟨ha, hb⟩)]; exact sb
      · rw [if_neg (by simpa using ha)]; exact sb
    have hm : impl_CountDelannoy.f 1500 a b = some (0, false) := by
      unfold impl_CountDelannoy.f
      rw [in_eq, in_eq, Option.bind_some, Option.bind_some]
      by_cases ha : 0 ≤ a ∧ a ≤ 12
      · rw [if_pos (decide_eq_true ha), if_neg (by simpa using (show ¬ (0 ≤ b ∧ b ≤ 12) from fun hb => h ⟨ha, hb⟩))]
      · rw [if_neg (by simpa using ha)]
    unfold laws_FnExactCountDelannoy.f
    rw [hs, hm]; rfl
end Go.Proofs.Ytobdaglkdnfnlaa.Pure
