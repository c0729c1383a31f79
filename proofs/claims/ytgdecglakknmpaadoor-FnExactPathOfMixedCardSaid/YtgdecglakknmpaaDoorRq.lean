/- PathOfMixed over the library's replacer. No condition but the contract of IsMixed. -/
import Derived.Test.YtgdecglakknmpaaDoorRo
namespace Go.Proofs.YtgdecglakknmpaaDoor.Rp
open Go.RowKit Go.Proofs.YtgdecglakknmpaaDoorW.PrintWords Go.Proofs.YtgdecglakknmpaaDoorW.PrintLast Go.Proofs.YtgdecglakknmpaaDoorW.PrintMore
set_option linter.unusedVariables false
set_option linter.unusedSimpArgs false
set_option maxRecDepth 100000 in
set_option maxHeartbeats 4000000 in
theorem replace_run (n₀ b k cap : Nat) (hn : n₀ ≤ b) (hkb : k ≠ b) (c2 c3 : Value) (w : World) (hn' : n₀ ≤ w.heap.size) (s : ByteArray) (hs : s.size ≤ 12) (hok : ∀ m (h : m < s.size), okB s[m]) (hb : w.heap[b]? = some (.cells #[.int .u32 0, .int .i32 0, c2, c3, .slice (some ⟨k, 0, none⟩) 6 cap] 46 (0, 0))) (hk : Old w k) :
    Calls Tryd.prog 9 #[.pointer (some ⟨b, 0, none⟩), .string s] w fun e w' => e = .returned (.string ⟨(exp s s.size).toArray⟩) ∧ Below n₀ w w' := by
  have hmf : ∀ (fn : Fn) (first cap : Array Value) (w : World), (Instr.makeFunc fn first cap).run Tryd.prog w = .ok (.func fn first cap) w := fun _ _ _ _ => rfl
  have hm : ∀ (W : World) (a : Nat), (method 259 74 (.pointer (some ⟨a, 0, none⟩)) "Replace").run Tryd.prog W = .ok (99, .pointer (some ⟨a, 0, none⟩)) W := fun W a => by kernel_rfl
  go_enter Tryd.func9, Tryd.ntmps9
  go_wp2_with (first | (go_at_call 12; refine (do_run n₀ b k cap hn hkb c2 c3 w hn' hb hk).mono ?_; rintro e w1 ⟨rfl, n, hA, hab, hB, hL⟩; have x3 := (blk_cell hB 3).trans rfl) | (go_at_call 99; refine (bs_run _ n s hs hok hA).mono ?_; rintro e w2 ⟨rfl, hL2⟩))
  go_ret
  exact ⟨rfl, hL.trans (hL2.mono (by have := hL.size; omega))⟩
set_option maxRecDepth 100000 in
set_option maxHeartbeats 4000000 in
theorem mixed_run (w : World) (s : ByteArray) (hs : s.size ≤ 12) (hok : ∀ m (h : m < s.size), okB s[m])
    (hM : ∀ W, Calls Tryd.prog 7 #[.string s] W fun e W' => e = .returned (.bool true) ∧ Below W.heap.size W W') :
    Calls Tryd.prog 5 #[.string s] w fun e w' => e = .returned (.tuple #[.string ⟨(exp s s.size).toArray⟩, .bool true]) ∧ Below w.heap.size w w' := by
  have hnot : ∀ (x : Bool) (w : World), (Op.unary .not (.bool x)).run Tryd.prog w = .ok (.bool (!x)) w := fun _ _ => rfl
  go_enter Tryd.func5, Tryd.ntmps5
  go_wp2_with (first | (go_at_call 7; refine (hM _).mono ?_; rintro e w0 ⟨rfl, hL0⟩) | (go_at_call 8; refine (new_run _ w0.heap.size ⟨(blk_cell (blk_new w0 _) 0).trans rfl, (blk_cell (blk_new w0 _) 1).trans rfl, (blk_cell (blk_new w0 _) 2).trans rfl, (blk_cell (blk_new w0 _) 3).trans rfl, (blk_cell (blk_new w0 _) 4).trans rfl, (blk_cell (blk_new w0 _) 5).trans rfl⟩).mono ?_; rintro e w1 ⟨b, k, cap, rfl, hbn, hkb, hB, hk, hL⟩; rw [World.size_alloc] at hbn) | (go_at_call 9; refine (replace_run w0.heap.size b k cap (by omega) hkb _ _ w1 (by have := hL.size; simp at this; omega) s hs hok hB hk).mono ?_; rintro e w2 ⟨rfl, hL2⟩))
  go_ret2
  have hz := hL0.size
  exact ⟨rfl, (below_alloc hL0 _).trans ((hL.mono (by simp; omega)).trans (hL2.mono hz))⟩
set_option maxRecDepth 100000 in
set_option maxHeartbeats 4000000 in
theorem mixed_no (w : World) (s : ByteArray)
    (hM : ∀ W, Calls Tryd.prog 7 #[.string s] W fun e W' => e = .returned (.bool false) ∧ Below W.heap.size W W') :
    Calls Tryd.prog 5 #[.string s] w fun e w' => e = .returned (.tuple #[.string ⟨#[]⟩, .bool false]) ∧ Below w.heap.size w w' := by
  have hnot : ∀ (x : Bool) (w : World), (Op.unary .not (.bool x)).run Tryd.prog w = .ok (.bool (!x)) w := fun _ _ => rfl
  go_enter Tryd.func5, Tryd.ntmps5
  go_wp2_with (go_at_call 7; refine (hM _).mono ?_; rintro e w0 ⟨rfl, hL0⟩)
  go_ret2
  exact ⟨rfl, hL0⟩
end Go.Proofs.YtgdecglakknmpaaDoor.Rp
