/- sync.Once over the byte-to-text replacer; NewReplacer at three pairs. No condition. -/
import Derived.Test.YtgdecglakknmpaaDoorRm
namespace Go.Proofs.YtgdecglakknmpaaDoor.Rp
open Go.RowKit Go.Proofs.YtgdecglakknmpaaDoorW.PrintWords Go.Proofs.YtgdecglakknmpaaDoorW.PrintLast Go.Proofs.YtgdecglakknmpaaDoorW.PrintMore
set_option linter.unusedVariables false
set_option linter.unusedSimpArgs false
theorem Old.set_b {W : World} {k b : Nat} (h : Old W k) (hkb : k ≠ b) (j : Nat) (v : Value) : Old (W.setCell ⟨b, j, none⟩ v) k := by
  have far : ∀ (i : Nat) (u : Value), W.cell? ⟨k, i, none⟩ = some u → (W.setCell ⟨b, j, none⟩ v).cell? ⟨k, i, none⟩ = some u := fun i u h => (World.cell?_setCell_other _ ⟨b, j, none⟩ ⟨k, i, none⟩ _ (by intro e; cases e; exact hkb rfl)).trans h
  exact ⟨far _ _ h.a0, far _ _ h.a1, far _ _ h.a2, far _ _ h.a3, far _ _ h.a4, far _ _ h.a5⟩
theorem Rep.set_b {W : World} {n : Nat} {cs : Array Value} {c : Nat} {x y : Int} {p : Prop} (h : Rep W n cs c x y p) {b : Nat} (hb : b < n) (j : Nat) (v : Value) : Rep (W.setCell ⟨b, j, none⟩ v) n cs c x y p := by
  refine ⟨h.1, fun q => ?_⟩
  obtain ⟨g, q, h1, h2, h3, h4, h5⟩ := h.2 q
  refine ⟨g, q, h1, h2, by simpa [World.setCell] using h3, ?_, ?_⟩
  · exact (World.cell?_setCell_other _ ⟨b, j, none⟩ ⟨g, 0, none⟩ _ (by intro e; cases e; omega)).trans h4
  · exact (World.cell?_setCell_other _ ⟨b, j, none⟩ ⟨g, 1, none⟩ _ (by intro e; cases e; omega)).trans h5
theorem St.set_b {n : Nat} {W : World} {m : Nat} (h : St n W m) {b : Nat} (hb : b < n) (j : Nat) (v : Value) : St n (W.setCell ⟨b, j, none⟩ v) m := by
  obtain ⟨cs, ts, hC, hT, hts, hcs, h256, r70, r68, r85⟩ := h
  exact ⟨cs, ts, blk_far hC (p := ⟨b, j, none⟩) (by show n + 1 ≠ b; omega) v, blk_far hT (p := ⟨b, j, none⟩) (by show n ≠ b; omega) v, hts, hcs, h256, r70.set_b hb j v, r68.set_b hb j v, r85.set_b hb j v⟩
theorem St.drew {n : Nat} {W : World} {m : Nat} (h : St n W m) : St n W.drew m := h
set_option maxRecDepth 100000 in
set_option maxHeartbeats 4000000 in
/-- The function that runs once: the replacer is made, the pairs are let go. -/
theorem once_f (n₀ b k cap : Nat) (hn : n₀ ≤ b) (c0 c1 c2 c3 : Value) (w : World) (hn' : n₀ ≤ w.heap.size) (hb : w.heap[b]? = some (.cells #[c0, c1, c2, c3, .slice (some ⟨k, 0, none⟩) 6 cap] 46 (0, 0))) (hk : Old w k) :
    Calls Tryd.prog 13 #[.pointer (some ⟨b, 0, none⟩)] w fun e w' => e = .returned (.tuple #[]) ∧ ∃ n, St n w' 3 ∧ b < n ∧
      w'.heap[b]? = some (.cells #[c0, c1, c2, .iface 74 (.pointer (some ⟨n + 1, 0, none⟩)), .slice none 0 0] 46 (0, 0)) ∧ Below n₀ w w' := by
  have hlt := blk_lt hb
  go_enter Tryd.func13, Tryd.ntmps13
  go_wp2_with (go_at_call 17; refine (build_run b k cap c0 c1 c2 c3 w hb hk).mono ?_; rintro e w' ⟨rfl, hA, hB⟩; have hb' := blk_below hb hB; have x3 := (blk_cell hb' 3).trans rfl; have y3 := blk_frozen hb' 3; have x4 := ((blk_cell (blk_set hb' 3 (.iface 74 (.pointer (some ⟨w.heap.size + 1, 0, none⟩)))) 4).trans rfl); have y4 := blk_frozen (blk_set hb' 3 (.iface 74 (.pointer (some ⟨w.heap.size + 1, 0, none⟩)))) 4)
  go_end0
  exact ⟨rfl, w.heap.size, (hA.set_b hlt _ _).set_b hlt _ _, hlt, blk_put (blk_put hb' 3 _ rfl) 4 _ rfl, (((hB.mono hn').setCell (p := ⟨b, 3, none⟩) hn _).setCell (p := ⟨b, 4, none⟩) hn _)⟩
/-! sync.Once, one goroutine: the parts of its slow road, each a contract of its own (turned from the guide's example Lazy) -/
theorem disable (w : World) : (callFunc 44 #[]).run Tryd.prog w = .ok (.value (.tuple #[])) w := run_call_mark0 Tryd.func44 (by kernel_rfl) (by kernel_rfl) (by kernel_rfl) .disable (by kernel_rfl) w
theorem enable (w : World) : (callFunc 46 #[]).run Tryd.prog w = .ok (.value (.tuple #[])) w := run_call_mark0 Tryd.func46 (by kernel_rfl) (by kernel_rfl) (by kernel_rfl) .enable (by kernel_rfl) w
theorem acquire (a : Addr) (w : World) : (callFunc 47 #[.pointer (some a)]).run Tryd.prog w = .ok (.value (.tuple #[])) w := run_call_marked Tryd.func47 (by kernel_rfl) (by kernel_rfl) (by kernel_rfl) .acquire (by kernel_rfl) a w
theorem releaseMerge (a : Addr) (w : World) : (callFunc 49 #[.pointer (some a)]).run Tryd.prog w = .ok (.value (.tuple #[])) w := run_call_marked Tryd.func49 (by kernel_rfl) (by kernel_rfl) (by kernel_rfl) .releaseMerge (by kernel_rfl) a w
set_option maxRecDepth 100000 in
set_option maxHeartbeats 4000000 in
theorem store_deferred (a : Addr) (x : Value) (u : FrameMode) (w : World) (hc : w.cell? a = some x) (hz : w.frozen? a = false) :
    CallsD Tryd.prog 28 #[.pointer (some a), .bool true] u w fun e u' w' => u' = u ∧ (e = .returned (.tuple #[]) ∧ w' = w.drew.setCell a (.int .u32 1)) := by
  have hc' : w.drew.cell? a = some x := by go_simp
  have hz' : w.drew.frozen? a = false := by go_simp
  have hst := run_call_store (P := Tryd.prog) Tryd.func37 (by kernel_rfl) (by kernel_rfl) (by kernel_rfl) (by kernel_rfl) (k := .u32) (y := 1) hc' hz'
  go_enter_d Tryd.func28, Tryd.ntmps28
  go_wp2
  go_region_calls
  all_goals (go_end0; exact ⟨rfl, rfl⟩)
set_option maxRecDepth 100000 in
set_option maxHeartbeats 4000000 in
theorem unlock_deferred (a : Addr) (u : FrameMode) (w : World) (hc : w.cell? a = some (.int .i32 1)) (hz : w.frozen? a = false) :
    CallsD Tryd.prog 27 #[.pointer (some a)] u w fun e u' w' => u' = u ∧ (e = .returned (.tuple #[]) ∧ w' = w.setCell a (.int .i32 0)) := by
  have hd := disable
  have he := enable
  have hr := releaseMerge
  have hadd := run_call_add (P := Tryd.prog) Tryd.func50 (by kernel_rfl) (by kernel_rfl) (by kernel_rfl) .i32 (by kernel_rfl) (y := -1) (s := 0) hc hz (by simp [go_sem]; rfl)
  have hcv := run_convert_to_unsafe (P := Tryd.prog) (src := 94) (dst := 98) Tryd.underlying94 Tryd.underlying98 (by kernel_rfl) hc
  go_enter_d Tryd.func27, Tryd.ntmps27
  go_wp2
  go_end0
  go_wp2
  go_end0
  exact ⟨rfl, rfl⟩
set_option maxRecDepth 100000 in
set_option maxHeartbeats 4000000 in
theorem lock_free (a : Addr) (w : World) (hc : w.cell? a = some (.int .i32 0)) (hz : w.frozen? a = false) :
    Calls Tryd.prog 26 #[.pointer (some a)] w fun e w' => e = .returned (.tuple #[]) ∧ w' = w.setCell a (.int .i32 1) := by
  have hd := disable
  have he := enable
  have ha := acquire
  have hcas := run_call_cas_hit (P := Tryd.prog) Tryd.func45 (by kernel_rfl) (by kernel_rfl) (by kernel_rfl) .i32 (by kernel_rfl) (y := 1) hc hz
  have hc' : (w.setCell a (.int .i32 1)).cell? a = some (.int .i32 1) := World.cell?_setCell_same w a _ hc
  have hcv := run_convert_to_unsafe (P := Tryd.prog) (src := 94) (dst := 98) Tryd.underlying94 Tryd.underlying98 (by kernel_rfl) hc'
  go_enter Tryd.func26, Tryd.ntmps26
  go_wp2
  first | go_end0 | (simp only [Exit.inBlock, Exit.then]; refine bodyPost_ret (results_none rfl _ _ _) rfl ?_) | refine bodyPost_ret (results_none rfl _ _ _) rfl ?_
  go_wp2
  go_end0
  exact ⟨rfl, rfl⟩
set_option maxRecDepth 100000 in
set_option maxHeartbeats 4000000 in
theorem slow_run (n₀ b k cap : Nat) (hn : n₀ ≤ b) (hkb : k ≠ b) (c2 c3 : Value) (w : World) (hn' : n₀ ≤ w.heap.size) (hb : w.heap[b]? = some (.cells #[.int .u32 0, .int .i32 0, c2, c3, .slice (some ⟨k, 0, none⟩) 6 cap] 46 (0, 0)))
    (hk : Old w k) :
    Calls Tryd.prog 16 #[.pointer (some ⟨b, 0, none⟩), .func (.func 13) #[.pointer (some ⟨b, 0, none⟩)] #[]] w fun e w' => e = .returned (.tuple #[]) ∧ ∃ n, St n w' 3 ∧ b < n ∧
      w'.heap[b]? = some (.cells #[.int .u32 1, .int .i32 0, c2, .iface 74 (.pointer (some ⟨n + 1, 0, none⟩)), .slice none 0 0] 46 (0, 0)) ∧ Below n₀ w w' := by
  have hb1 := blk_put hb 1 (.int .i32 1) rfl
  have x0 := (blk_cell hb1 0).trans rfl
  have hl := run_call_load (P := Tryd.prog) Tryd.func25 (by kernel_rfl) (by kernel_rfl) (by kernel_rfl) .u32 (by kernel_rfl) (w := w.setCell ⟨b, 1, none⟩ (.int .i32 1)) (a := ⟨b, 0, none⟩) (x := 0) x0
  have hnot : ∀ (x : Bool) (w : World), (Op.unary .not (.bool x)).run Tryd.prog w = .ok (.bool (!x)) w := fun _ _ => rfl
  have hk1 := hk.set_b hkb 1 (.int .i32 1)
  go_enter_defers Tryd.func16, Tryd.ntmps16
  go_wp2_with (first | (go_at_call 26; refine (lock_free ⟨b, 1, none⟩ _ ((blk_cell hb 1).trans rfl) (blk_frozen hb 1)).mono ?_; rintro e w' ⟨rfl, rfl⟩) | (go_at_call 13; refine (once_f n₀ b k cap hn _ _ c2 c3 _ (by simpa using hn') hb1 hk1).mono ?_; rintro e w' ⟨rfl, n, hA, hab, hB, hL⟩) | (go_at_call 15; go_in))
  refine leaves_cons (f := 28) (args := #[.pointer (some ⟨b, 0, none⟩), .bool true]) (by simp) (by simp [go_sem]) ?_
  refine (store_deferred ⟨b, 0, none⟩ (.int .u32 0) .returning _ ((blk_cell hB 0).trans rfl) (blk_frozen hB 0)).mono ?_
  rintro e u' w'' ⟨rfl, rfl, rfl⟩
  have hB2 := blk_put (blk_drew hB) 0 (.int .u32 1) rfl
  refine leaves_cons (f := 27) (args := #[.pointer (some ⟨b, 1, none⟩)]) (by simp [settle]) (by simp [go_sem]) ?_
  refine (unlock_deferred ⟨b, 1, none⟩ _ _ ((blk_cell hB2 1).trans rfl) (blk_frozen hB2 1)).mono ?_
  rintro e u' w'' ⟨rfl, rfl, rfl⟩
  have hB3 := blk_put hB2 1 (.int .i32 0) rfl
  have hA3 := ((hA.drew).set_b hab 0 (.int .u32 1)).set_b hab 1 (.int .i32 0)
  have hL3 := ((((Below.refl n₀ w).setCell (p := ⟨b, 1, none⟩) hn (.int .i32 1)).trans hL).drew.setCell (p := ⟨b, 0, none⟩) hn (.int .u32 1)).setCell (p := ⟨b, 1, none⟩) hn (.int .i32 0)
  clear hB hB2 hA hL
  generalize ((w'.drew.setCell ⟨b, 0, none⟩ (.int .u32 1)).setCell ⟨b, 1, none⟩ (.int .i32 0)) = wE at hB3 hA3 hL3 ⊢
  simp only [Leaves, settle, results, Tryd.results16]
  exact ⟨.tuple #[], by simp [go_sem], rfl, n, hA3, hab, hB3, hL3⟩
set_option maxRecDepth 100000 in
set_option maxHeartbeats 4000000 in
theorem do_run (n₀ b k cap : Nat) (hn : n₀ ≤ b) (hkb : k ≠ b) (c2 c3 : Value) (w : World) (hn' : n₀ ≤ w.heap.size) (hb : w.heap[b]? = some (.cells #[.int .u32 0, .int .i32 0, c2, c3, .slice (some ⟨k, 0, none⟩) 6 cap] 46 (0, 0)))
    (hk : Old w k) :
    Calls Tryd.prog 12 #[.pointer (some ⟨b, 0, none⟩), .func (.func 13) #[.pointer (some ⟨b, 0, none⟩)] #[]] w fun e w' => e = .returned (.tuple #[]) ∧ ∃ n, St n w' 3 ∧ b < n ∧
      w'.heap[b]? = some (.cells #[.int .u32 1, .int .i32 0, c2, .iface 74 (.pointer (some ⟨n + 1, 0, none⟩)), .slice none 0 0] 46 (0, 0)) ∧ Below n₀ w w' := by
  have x0 := (blk_cell hb 0).trans rfl
  have hl := run_call_load (P := Tryd.prog) Tryd.func25 (by kernel_rfl) (by kernel_rfl) (by kernel_rfl) .u32 (by kernel_rfl) (w := w) (a := ⟨b, 0, none⟩) (x := 0) x0
  have hnot : ∀ (x : Bool) (w : World), (Op.unary .not (.bool x)).run Tryd.prog w = .ok (.bool (!x)) w := fun _ _ => rfl
  go_enter Tryd.func12, Tryd.ntmps12
  go_wp2_with (first | (go_at_call 16; refine (slow_run n₀ b k cap hn hkb c2 c3 w hn' hb hk).mono ?_; rintro e w' ⟨rfl, hE⟩) | (go_at_call 15; go_in))
  go_end0
  exact ⟨rfl, hE⟩
theorem heap2 (w : World) (o1 o2 : Obj) : ((w.alloc o1).alloc o2).heap[w.heap.size + 1]? = some o2 := by
  have := blk_new (w.alloc o1) o2
  rwa [World.size_alloc] at this
theorem cell1 (w : World) (cs : Array Value) (t : TypeId) (o2 : Obj) (j : Nat) : ((w.alloc (.cells cs t)).alloc o2).cell? ⟨w.heap.size, j, none⟩ = cs[j]? := blk_cell (blk_alloc (blk_new w (.cells cs t)) o2) j
set_option maxRecDepth 100000 in
set_option maxHeartbeats 4000000 in
theorem new_run (w : World) (k0 : Nat) (hk : Old w k0) :
    Calls Tryd.prog 8 #[.slice (some ⟨k0, 0, none⟩) 6 6] w fun e w' => ∃ b k cap, e = .returned (.pointer (some ⟨b, 0, none⟩)) ∧ w.heap.size ≤ b ∧ k ≠ b ∧ w'.heap[b]? = some (.cells #[.int .u32 0, .int .i32 0, .int .u32 0, .nilIface, .slice (some ⟨k, 0, none⟩) 6 cap] 46 (0, 0)) ∧
      Old w' k ∧ Below w.heap.size w w' := by
  have q0 := hk.a0
  have q1 := hk.a1
  have q2 := hk.a2
  have q3 := hk.a3
  have q4 := hk.a4
  have q5 := hk.a5
  go_enter Tryd.func8, Tryd.ntmps8
  go_wp2
  go_ret
  refine ⟨w.heap.size + 1, w.heap.size, _, rfl, by omega, by omega, heap2 w _ _, ⟨(cell1 w _ _ _ 0).trans ?_, (cell1 w _ _ _ 1).trans ?_, (cell1 w _ _ _ 2).trans ?_, (cell1 w _ _ _ 3).trans ?_, (cell1 w _ _ _ 4).trans ?_, (cell1 w _ _ _ 5).trans ?_⟩, (below_alloc (below_alloc (Below.refl _ _) _) _).drew⟩
  all_goals (rw [Array.getElem?_append_left (by simp)]; rfl)
end Go.Proofs.YtgdecglakknmpaaDoor.Rp
