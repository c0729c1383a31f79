/- strings.Replacer that exchanges two bytes, and 'turned' over it. No condition. -/
import Derived.Test.YtgdecglakknmpaaGreatDoorRp
namespace Go.Proofs.YtgdecglakknmpaaGreatDoor.Rp
open Go.RowKit Go.Proofs.YtgdecglakknmpaaGreatDoorW.PrintWords Go.Proofs.YtgdecglakknmpaaGreatDoorW.PrintLast Go.Proofs.YtgdecglakknmpaaGreatDoorW.PrintMore
set_option linter.unusedVariables false
set_option linter.unusedSimpArgs false
set_option maxRecDepth 100000 in
set_option maxHeartbeats 4000000 in
theorem replace_run (n₀ b k cap : Nat) (hn : n₀ ≤ b) (hkb : k ≠ b) (c2 c3 : Value) (w : World) (hn' : n₀ ≤ w.heap.size) (s : ByteArray) (hs : s.size ≤ 1000) (hb : w.heap[b]? = some (.cells #[.int .u32 0, .int .i32 0, c2, c3, .slice (some ⟨k, 0, none⟩) 4 cap] 59 (0, 0)))
    (h0 : w.cell? ⟨k, 0, none⟩ = some (.string ⟨#[85]⟩)) (h1 : w.cell? ⟨k, 1, none⟩ = some (.string ⟨#[68]⟩)) (h2 : w.cell? ⟨k, 2, none⟩ = some (.string ⟨#[68]⟩)) (h3 : w.cell? ⟨k, 3, none⟩ = some (.string ⟨#[85]⟩)) :
    Calls Tryz.prog 28 #[.pointer (some ⟨b, 0, none⟩), .string s] w fun e w' => e = .returned (.string ⟨s.data.map turnB⟩) ∧ Below n₀ w w' := by
  have hmf : ∀ (fn : Fn) (first cap : Array Value) (w : World), (Instr.makeFunc fn first cap).run Tryz.prog w = .ok (.func fn first cap) w := fun _ _ _ _ => rfl
  have hm : ∀ (W : World) (a : Nat), (method 268 85 (.pointer (some ⟨a, 0, none⟩)) "Replace").run Tryz.prog W = .ok (119, .pointer (some ⟨a, 0, none⟩)) W := fun W a => by kernel_rfl
  go_enter Tryz.func28, Tryz.ntmps28
  go_wp2_with (first | (go_at_call 35; refine (do_run n₀ b k cap hn hkb c2 c3 w hn' hb h0 h1 h2 h3).mono ?_; rintro e w1 ⟨rfl, a, hA, hab, hB, hL⟩; have x3 := (blk_cell hB 3).trans rfl) | (go_at_call 119; refine (bytes_run _ a s hs hA).mono ?_; rintro e w2 ⟨rfl, hL2⟩))
  go_ret
  exact ⟨rfl, hL.trans (hL2.mono (by have := hL.size; omega))⟩
end Go.Proofs.YtgdecglakknmpaaGreatDoor.Rp
