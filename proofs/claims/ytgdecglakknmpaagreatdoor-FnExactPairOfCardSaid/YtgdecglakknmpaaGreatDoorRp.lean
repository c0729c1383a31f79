/- The byte replacer of package strings, made once: its table and its loop, by hand. No condition. -/
import Derived.Test.YtgdecglakknmpaaGreatDoorProg
import Derived.Test.YtgdecglakknmpaaGreatDoorWWords
import Derived.Test.YtgdecglakknmpaaGreatDoorWLast
import Derived.Test.YtgdecglakknmpaaGreatDoorWMore
import Derived.WalkKit
import Derived.KernelRfl
import Derived.Below
import Derived.Defers
import Derived.Laws.Pointers
import Derived.Laws.LoneSync
import Derived.RegionTactic
import Derived.RegionCalls
import Derived.LoopTactic
import Derived.Deep.WholeRow
import Derived.Laws.IdiomStrings
import Derived.Lib.ConvBytes
import Derived.Laws.Cover3
namespace Go.Proofs.YtgdecglakknmpaaGreatDoor.Rp
open Go.RowKit Go.Proofs.YtgdecglakknmpaaGreatDoorW.PrintWords Go.Proofs.YtgdecglakknmpaaGreatDoorW.PrintLast Go.Proofs.YtgdecglakknmpaaGreatDoorW.PrintMore
set_option linter.unusedVariables false
set_option linter.unusedSimpArgs false
theorem i68 (h : 0 < (⟨#[68]⟩ : ByteArray).size) : (⟨#[68]⟩ : ByteArray)[0]'h = 68 := rfl
theorem i85 (h : 0 < (⟨#[85]⟩ : ByteArray).size) : (⟨#[85]⟩ : ByteArray)[0]'h = 85 := rfl
attribute [local go_sem] i68 i85
/-- The table when m of its 256 places are laid. -/
def tab (m : Nat) : Array Value := (Array.range 256).map fun j => if j < m then .int .u8 (j : Int) else .int .u8 0
theorem tab_zero : tab 0 = Tryz.zeroCells84 := by kernel_rfl
theorem tab_at (m : Nat) (h : m < 256) : (tab m)[m]? = some (.int .u8 0) := by
  unfold tab
  rw [Array.getElem?_map, Array.getElem?_range, if_pos h]
  simp
theorem tab_set (m : Nat) (h : m < 256) : (tab m).setIfInBounds m (.int .u8 (m : Int)) = tab (m + 1) := by
  unfold tab
  apply Array.ext
  · simp
  · intro i h1 h2
    have hi : i < 256 := by simpa using h2
    rw [Array.getElem_setIfInBounds (by simpa using hi)]
    simp only [Array.getElem_map, Array.getElem_range]
    by_cases e : m = i
    · subst e; simp
    · rw [if_neg e]
      by_cases hlt : i < m
      · rw [if_pos hlt, if_pos (by omega)]
      · rw [if_neg hlt, if_neg (by omega)]
/-- The table: each byte itself, but U for D and D for U. -/
def fin : Array Value := ((tab 256).setIfInBounds 68 (.int .u8 85)).setIfInBounds 85 (.int .u8 68)
set_option maxRecDepth 100000 in
set_option maxHeartbeats 4000000 in
theorem build_run (b k cap : Nat) (c0 c1 c2 c3 : Value) (w : World) (hb : w.heap[b]? = some (.cells #[c0, c1, c2, c3, .slice (some ⟨k, 0, none⟩) 4 cap] 59 (0, 0)))
    (h0 : w.cell? ⟨k, 0, none⟩ = some (.string ⟨#[85]⟩)) (h1 : w.cell? ⟨k, 1, none⟩ = some (.string ⟨#[68]⟩)) (h2 : w.cell? ⟨k, 2, none⟩ = some (.string ⟨#[68]⟩)) (h3 : w.cell? ⟨k, 3, none⟩ = some (.string ⟨#[85]⟩)) :
    Calls Tryz.prog 46 #[.pointer (some ⟨b, 0, none⟩)] w fun e w' => ∃ a, e = .returned (.iface 85 (.pointer (some ⟨a, 0, none⟩))) ∧ w'.heap[a]? = some (.cells fin 84 (0, 0)) ∧ w.heap.size ≤ a ∧ Below w.heap.size w w' := by
  have hst := fun W : World => run_storeCells_new (P := Tryz.prog) W 84 Tryz.zeroCells84 Tryz.zeroCells84 (by kernel_rfl) rfl (by kernel_rfl)
  have hr := blk_cell hb 4
  simp at hr
  go_enter Tryz.func46, Tryz.ntmps46
  go_wp2
  go_loopw [5, 4] (fun i t wr => ∃ m : Nat, (m = 0 ∨ m = 1 ∨ m = 2) ∧ i = .int .i64 (2 * m) ∧ t = .bool true ∧ wr = w) (fun i _ _ => (4 - intOf i).toNat)
  case atStart => exact ⟨0, .inl rfl, rfl, rfl, rfl⟩
  case round =>
    obtain ⟨m, hm, rfl, rfl, rfl⟩ := hrel
    rcases hm with rfl | rfl | rfl
    · go_wp2
      go_roundw
      case rel => exact ⟨1, .inr (.inl rfl), by first | rfl | simp, by first | rfl | trivial, by first | rfl | trivial⟩
      case measure => simp [intOf]
    · go_wp2
      go_roundw
      case rel => exact ⟨2, .inr (.inr rfl), by first | rfl | simp, by first | rfl | trivial, by first | rfl | trivial⟩
      case measure => simp [intOf]
    · clear hb hr
      rename World => w0
      go_wp2
      go_loopw [61] (fun i W => ∃ m : Nat, m ≤ 256 ∧ i = .int .i64 m ∧ W.heap[w0.heap.size]? = some (.cells (tab m) 84 (0, 0)) ∧ Below w0.heap.size w0 W) (fun i _ => (256 - intOf i).toNat)
      case atStart => exact ⟨0, by omega, rfl, by rw [tab_zero]; exact blk_new _ _, below_alloc (Below.refl _ _) _⟩
      case round =>
        rename World => W
        obtain ⟨m, hm, rfl, hB, hL⟩ := hrel
        by_cases hlt : m < 256
        · have hc : W.cell? ⟨w0.heap.size, m, none⟩ = some (.int .u8 0) := (blk_cell hB m).trans (tab_at m hlt)
          have hf : W.frozen? ⟨w0.heap.size, m, none⟩ = false := blk_frozen hB m
          have hi : (m : Int) < 256 := by omega
          have hi0 : (0 : Int) ≤ (m : Int) := by omega
          have hw : IntKind.u8.wrap (m : Int) = (m : Int) := by simp [IntKind.wrap, IntKind.bits, IntKind.signed]; omega
          go_wp2
          go_roundw
          case rel => exact ⟨m + 1, by omega, by simp, by rw [← tab_set m hlt]; exact blk_set hB m _, below_set hL (Nat.le_refl _)⟩
          case measure => simp [intOf]; omega
        · obtain rfl : m = 256 := by omega
          go_wp2
          go_loopw [8] (fun i W' => ((i = .int .i64 2 ∧ W'.heap[w0.heap.size]? = some (.cells (tab 256) 84 (0, 0))) ∨ (i = .int .i64 0 ∧ W'.heap[w0.heap.size]? = some (.cells ((tab 256).setIfInBounds 68 (.int .u8 85)) 84 (0, 0))) ∨ (i = .int .i64 (-2) ∧ W'.heap[w0.heap.size]? = some (.cells fin 84 (0, 0)))) ∧ Below w0.heap.size w0 W') (fun i _ => (2 + intOf i).toNat)
          case atStart => exact ⟨.inl ⟨by first | rfl | simp, hB⟩, hL⟩
          case round =>
            rename World => V
            obtain ⟨hcase, hM⟩ := hrel
            have g0 := pw_cell_below hM h0
            have g1 := pw_cell_below hM h1
            have g2 := pw_cell_below hM h2
            have g3 := pw_cell_below hM h3
            clear h0 h1 h2 h3 hB hL
            rcases hcase with ⟨rfl, hC⟩ | ⟨rfl, hC⟩ | ⟨rfl, hC⟩
            · have hc : V.cell? ⟨w0.heap.size, 68, none⟩ = some (.int .u8 68) := (blk_cell hC 68).trans (by kernel_rfl)
              have hf : V.frozen? ⟨w0.heap.size, 68, none⟩ = false := blk_frozen hC 68
              go_wp2
              go_roundw
              case rel => exact ⟨.inr (.inl ⟨by first | rfl | simp, blk_set hC 68 _⟩), below_set hM (Nat.le_refl _)⟩
              case measure => simp [intOf]
            · have hc : V.cell? ⟨w0.heap.size, 85, none⟩ = some (.int .u8 85) := (blk_cell hC 85).trans (by kernel_rfl)
              have hf : V.frozen? ⟨w0.heap.size, 85, none⟩ = false := blk_frozen hC 85
              go_wp2
              go_roundw
              case rel => exact ⟨.inr (.inr ⟨by first | rfl | simp, blk_set hC 85 _⟩), below_set hM (Nat.le_refl _)⟩
              case measure => simp [intOf]
            · go_wp2
              go_ret
              exact ⟨w0.heap.size, rfl, hC, Nat.le_refl _, hM⟩
set_option maxRecDepth 100000 in
set_option maxHeartbeats 4000000 in
/-- The function that runs once: the table is made, the pairs are let go. -/
theorem once_f (n₀ b k cap : Nat) (hn : n₀ ≤ b) (c0 c1 c2 c3 : Value) (w : World) (hn' : n₀ ≤ w.heap.size) (hb : w.heap[b]? = some (.cells #[c0, c1, c2, c3, .slice (some ⟨k, 0, none⟩) 4 cap] 59 (0, 0)))
    (h0 : w.cell? ⟨k, 0, none⟩ = some (.string ⟨#[85]⟩)) (h1 : w.cell? ⟨k, 1, none⟩ = some (.string ⟨#[68]⟩)) (h2 : w.cell? ⟨k, 2, none⟩ = some (.string ⟨#[68]⟩)) (h3 : w.cell? ⟨k, 3, none⟩ = some (.string ⟨#[85]⟩)) :
    Calls Tryz.prog 36 #[.pointer (some ⟨b, 0, none⟩)] w fun e w' => e = .returned (.tuple #[]) ∧ ∃ a, w'.heap[a]? = some (.cells fin 84 (0, 0)) ∧ a ≠ b ∧
      w'.heap[b]? = some (.cells #[c0, c1, c2, .iface 85 (.pointer (some ⟨a, 0, none⟩)), .slice none 0 0] 59 (0, 0)) ∧ Below n₀ w w' := by
  have hlt := blk_lt hb
  go_enter Tryz.func36, Tryz.ntmps36
  go_wp2_with (go_at_call 46; refine (build_run b k cap c0 c1 c2 c3 w hb h0 h1 h2 h3).mono ?_; rintro e w' ⟨a, rfl, hA, hle, hB⟩; have hb' := blk_below hb hB; have x3 := (blk_cell hb' 3).trans rfl; have y3 := blk_frozen hb' 3; have x4 := ((blk_cell (blk_set hb' 3 (.iface 85 (.pointer (some ⟨a, 0, none⟩)))) 4).trans rfl); have y4 := blk_frozen (blk_set hb' 3 (.iface 85 (.pointer (some ⟨a, 0, none⟩)))) 4)
  go_end0
  exact ⟨rfl, a, blk_far (blk_far hA (by show a ≠ b; omega) _) (by show a ≠ b; omega) _, by omega, blk_put (blk_put hb' 3 _ rfl) 4 _ rfl, (((hB.mono hn').setCell (p := ⟨b, 3, none⟩) hn _).setCell (p := ⟨b, 4, none⟩) hn _)⟩

/-! sync.Once, one goroutine: the parts of its slow road, each a contract of its own (turned from the guide's example Lazy) -/
theorem disable (w : World) : (callFunc 70 #[]).run Tryz.prog w = .ok (.value (.tuple #[])) w := run_call_mark0 Tryz.func70 (by kernel_rfl) (by kernel_rfl) (by kernel_rfl) .disable (by kernel_rfl) w
theorem enable (w : World) : (callFunc 72 #[]).run Tryz.prog w = .ok (.value (.tuple #[])) w := run_call_mark0 Tryz.func72 (by kernel_rfl) (by kernel_rfl) (by kernel_rfl) .enable (by kernel_rfl) w
theorem acquire (a : Addr) (w : World) : (callFunc 73 #[.pointer (some a)]).run Tryz.prog w = .ok (.value (.tuple #[])) w := run_call_marked Tryz.func73 (by kernel_rfl) (by kernel_rfl) (by kernel_rfl) .acquire (by kernel_rfl) a w
theorem releaseMerge (a : Addr) (w : World) : (callFunc 75 #[.pointer (some a)]).run Tryz.prog w = .ok (.value (.tuple #[])) w := run_call_marked Tryz.func75 (by kernel_rfl) (by kernel_rfl) (by kernel_rfl) .releaseMerge (by kernel_rfl) a w
set_option maxRecDepth 100000 in
set_option maxHeartbeats 4000000 in
theorem store_deferred (a : Addr) (x : Value) (u : FrameMode) (w : World) (hc : w.cell? a = some x) (hz : w.frozen? a = false) :
    CallsD Tryz.prog 54 #[.pointer (some a), .bool true] u w fun e u' w' => u' = u ∧ (e = .returned (.tuple #[]) ∧ w' = w.drew.setCell a (.int .u32 1)) := by
  have hc' : w.drew.cell? a = some x := by go_simp
  have hz' : w.drew.frozen? a = false := by go_simp
  have hst := run_call_store (P := Tryz.prog) Tryz.func62 (by kernel_rfl) (by kernel_rfl) (by kernel_rfl) (by kernel_rfl) (k := .u32) (y := 1) hc' hz'
  go_enter_d Tryz.func54, Tryz.ntmps54
  go_wp2
  go_region_calls
  all_goals (go_end0; exact ⟨rfl, rfl⟩)
set_option maxRecDepth 100000 in
set_option maxHeartbeats 4000000 in
theorem unlock_deferred (a : Addr) (u : FrameMode) (w : World) (hc : w.cell? a = some (.int .i32 1)) (hz : w.frozen? a = false) :
    CallsD Tryz.prog 53 #[.pointer (some a)] u w fun e u' w' => u' = u ∧ (e = .returned (.tuple #[]) ∧ w' = w.setCell a (.int .i32 0)) := by
  have hd := disable
  have he := enable
  have hr := releaseMerge
  have hadd := run_call_add (P := Tryz.prog) Tryz.func76 (by kernel_rfl) (by kernel_rfl) (by kernel_rfl) .i32 (by kernel_rfl) (y := -1) (s := 0) hc hz (by simp [go_sem]; rfl)
  have hcv := run_convert_to_unsafe (P := Tryz.prog) (src := 113) (dst := 117) Tryz.underlying113 Tryz.underlying117 (by kernel_rfl) hc
  go_enter_d Tryz.func53, Tryz.ntmps53
  go_wp2
  go_end0
  go_wp2
  go_end0
  exact ⟨rfl, rfl⟩
set_option maxRecDepth 100000 in
set_option maxHeartbeats 4000000 in
theorem lock_free (a : Addr) (w : World) (hc : w.cell? a = some (.int .i32 0)) (hz : w.frozen? a = false) :
    Calls Tryz.prog 52 #[.pointer (some a)] w fun e w' => e = .returned (.tuple #[]) ∧ w' = w.setCell a (.int .i32 1) := by
  have hd := disable
  have he := enable
  have ha := acquire
  have hcas := run_call_cas_hit (P := Tryz.prog) Tryz.func71 (by kernel_rfl) (by kernel_rfl) (by kernel_rfl) .i32 (by kernel_rfl) (y := 1) hc hz
  have hc' : (w.setCell a (.int .i32 1)).cell? a = some (.int .i32 1) := World.cell?_setCell_same w a _ hc
  have hcv := run_convert_to_unsafe (P := Tryz.prog) (src := 113) (dst := 117) Tryz.underlying113 Tryz.underlying117 (by kernel_rfl) hc'
  go_enter Tryz.func52, Tryz.ntmps52
  go_wp2
  first | go_end0 | (simp only [Exit.inBlock, Exit.then]; refine bodyPost_ret (results_none rfl _ _ _) rfl ?_) | refine bodyPost_ret (results_none rfl _ _ _) rfl ?_
  go_wp2
  go_end0
  exact ⟨rfl, rfl⟩
set_option maxRecDepth 100000 in
set_option maxHeartbeats 4000000 in
theorem slow_run (n₀ b k cap : Nat) (hn : n₀ ≤ b) (hkb : k ≠ b) (c2 c3 : Value) (w : World) (hn' : n₀ ≤ w.heap.size) (hb : w.heap[b]? = some (.cells #[.int .u32 0, .int .i32 0, c2, c3, .slice (some ⟨k, 0, none⟩) 4 cap] 59 (0, 0)))
    (h0 : w.cell? ⟨k, 0, none⟩ = some (.string ⟨#[85]⟩)) (h1 : w.cell? ⟨k, 1, none⟩ = some (.string ⟨#[68]⟩)) (h2 : w.cell? ⟨k, 2, none⟩ = some (.string ⟨#[68]⟩)) (h3 : w.cell? ⟨k, 3, none⟩ = some (.string ⟨#[85]⟩)) :
    Calls Tryz.prog 45 #[.pointer (some ⟨b, 0, none⟩), .func (.func 36) #[.pointer (some ⟨b, 0, none⟩)] #[]] w fun e w' => e = .returned (.tuple #[]) ∧ ∃ a, w'.heap[a]? = some (.cells fin 84 (0, 0)) ∧ a ≠ b ∧
      w'.heap[b]? = some (.cells #[.int .u32 1, .int .i32 0, c2, .iface 85 (.pointer (some ⟨a, 0, none⟩)), .slice none 0 0] 59 (0, 0)) ∧ Below n₀ w w' := by
  have hb1 := blk_put hb 1 (.int .i32 1) rfl
  have x0 := (blk_cell hb1 0).trans rfl
  have hl := run_call_load (P := Tryz.prog) Tryz.func51 (by kernel_rfl) (by kernel_rfl) (by kernel_rfl) .u32 (by kernel_rfl) (w := w.setCell ⟨b, 1, none⟩ (.int .i32 1)) (a := ⟨b, 0, none⟩) (x := 0) x0
  have hnot : ∀ (x : Bool) (w : World), (Op.unary .not (.bool x)).run Tryz.prog w = .ok (.bool (!x)) w := fun _ _ => rfl
  have far : ∀ (j : Nat) (v : Value), w.cell? ⟨k, j, none⟩ = some v → (w.setCell ⟨b, 1, none⟩ (.int .i32 1)).cell? ⟨k, j, none⟩ = some v := fun j v h => (World.cell?_setCell_other _ ⟨b, 1, none⟩ ⟨k, j, none⟩ _ (by intro e; cases e; exact hkb rfl)).trans h
  go_enter_defers Tryz.func45, Tryz.ntmps45
  go_wp2_with (first | (go_at_call 52; refine (lock_free ⟨b, 1, none⟩ _ ((blk_cell hb 1).trans rfl) (blk_frozen hb 1)).mono ?_; rintro e w' ⟨rfl, rfl⟩) | (go_at_call 36; refine (once_f n₀ b k cap hn _ _ c2 c3 _ (by simpa using hn') hb1 (far _ _ h0) (far _ _ h1) (far _ _ h2) (far _ _ h3)).mono ?_; rintro e w' ⟨rfl, a, hA, hab, hB, hL⟩) | (go_at_call 44; go_in))
  refine leaves_cons (f := 54) (args := #[.pointer (some ⟨b, 0, none⟩), .bool true]) (by simp) (by simp [go_sem]) ?_
  refine (store_deferred ⟨b, 0, none⟩ (.int .u32 0) .returning _ ((blk_cell hB 0).trans rfl) (blk_frozen hB 0)).mono ?_
  rintro e u' w'' ⟨rfl, rfl, rfl⟩
  have hB2 := blk_put (blk_drew hB) 0 (.int .u32 1) rfl
  refine leaves_cons (f := 53) (args := #[.pointer (some ⟨b, 1, none⟩)]) (by simp [settle]) (by simp [go_sem]) ?_
  refine (unlock_deferred ⟨b, 1, none⟩ _ _ ((blk_cell hB2 1).trans rfl) (blk_frozen hB2 1)).mono ?_
  rintro e u' w'' ⟨rfl, rfl, rfl⟩
  have hB3 := blk_put hB2 1 (.int .i32 0) rfl
  have hA3 := blk_far (blk_far (blk_drew hA) (p := ⟨b, 0, none⟩) hab (.int .u32 1)) (p := ⟨b, 1, none⟩) hab (.int .i32 0)
  have hL3 := ((((Below.refl n₀ w).setCell (p := ⟨b, 1, none⟩) hn (.int .i32 1)).trans hL).drew.setCell (p := ⟨b, 0, none⟩) hn (.int .u32 1)).setCell (p := ⟨b, 1, none⟩) hn (.int .i32 0)
  clear hB hB2 hA hL
  generalize ((w'.drew.setCell ⟨b, 0, none⟩ (.int .u32 1)).setCell ⟨b, 1, none⟩ (.int .i32 0)) = wE at hB3 hA3 hL3 ⊢
  simp only [Leaves, settle, results, Tryz.results45]
  exact ⟨.tuple #[], by simp [go_sem], rfl, a, hA3, hab, hB3, hL3⟩
set_option maxRecDepth 100000 in
set_option maxHeartbeats 4000000 in
theorem do_run (n₀ b k cap : Nat) (hn : n₀ ≤ b) (hkb : k ≠ b) (c2 c3 : Value) (w : World) (hn' : n₀ ≤ w.heap.size) (hb : w.heap[b]? = some (.cells #[.int .u32 0, .int .i32 0, c2, c3, .slice (some ⟨k, 0, none⟩) 4 cap] 59 (0, 0)))
    (h0 : w.cell? ⟨k, 0, none⟩ = some (.string ⟨#[85]⟩)) (h1 : w.cell? ⟨k, 1, none⟩ = some (.string ⟨#[68]⟩)) (h2 : w.cell? ⟨k, 2, none⟩ = some (.string ⟨#[68]⟩)) (h3 : w.cell? ⟨k, 3, none⟩ = some (.string ⟨#[85]⟩)) :
    Calls Tryz.prog 35 #[.pointer (some ⟨b, 0, none⟩), .func (.func 36) #[.pointer (some ⟨b, 0, none⟩)] #[]] w fun e w' => e = .returned (.tuple #[]) ∧ ∃ a, w'.heap[a]? = some (.cells fin 84 (0, 0)) ∧ a ≠ b ∧
      w'.heap[b]? = some (.cells #[.int .u32 1, .int .i32 0, c2, .iface 85 (.pointer (some ⟨a, 0, none⟩)), .slice none 0 0] 59 (0, 0)) ∧ Below n₀ w w' := by
  have x0 := (blk_cell hb 0).trans rfl
  have hl := run_call_load (P := Tryz.prog) Tryz.func51 (by kernel_rfl) (by kernel_rfl) (by kernel_rfl) .u32 (by kernel_rfl) (w := w) (a := ⟨b, 0, none⟩) (x := 0) x0
  have hnot : ∀ (x : Bool) (w : World), (Op.unary .not (.bool x)).run Tryz.prog w = .ok (.bool (!x)) w := fun _ _ => rfl
  go_enter Tryz.func35, Tryz.ntmps35
  go_wp2_with (first | (go_at_call 45; refine (slow_run n₀ b k cap hn hkb c2 c3 w hn' hb h0 h1 h2 h3).mono ?_; rintro e w' ⟨rfl, hE⟩) | (go_at_call 44; go_in))
  go_end0
  exact ⟨rfl, hE⟩
theorem heap2 (w : World) (o1 o2 : Obj) : ((w.alloc o1).alloc o2).heap[w.heap.size + 1]? = some o2 := by
  have := blk_new (w.alloc o1) o2
  rwa [World.size_alloc] at this
theorem cell1 (w : World) (cs : Array Value) (t : TypeId) (o2 : Obj) (j : Nat) : ((w.alloc (.cells cs t)).alloc o2).cell? ⟨w.heap.size, j, none⟩ = cs[j]? := blk_cell (blk_alloc (blk_new w (.cells cs t)) o2) j
set_option maxRecDepth 100000 in
set_option maxHeartbeats 4000000 in
theorem new_run (w : World) (k0 : Nat) (h0 : w.cell? ⟨k0, 0, none⟩ = some (.string ⟨#[85]⟩)) (h1 : w.cell? ⟨k0, 1, none⟩ = some (.string ⟨#[68]⟩)) (h2 : w.cell? ⟨k0, 2, none⟩ = some (.string ⟨#[68]⟩)) (h3 : w.cell? ⟨k0, 3, none⟩ = some (.string ⟨#[85]⟩)) :
    Calls Tryz.prog 27 #[.slice (some ⟨k0, 0, none⟩) 4 4] w fun e w' => ∃ b k cap, e = .returned (.pointer (some ⟨b, 0, none⟩)) ∧ w.heap.size ≤ b ∧ k ≠ b ∧ w'.heap[b]? = some (.cells #[.int .u32 0, .int .i32 0, .int .u32 0, .nilIface, .slice (some ⟨k, 0, none⟩) 4 cap] 59 (0, 0)) ∧
      w'.cell? ⟨k, 0, none⟩ = some (.string ⟨#[85]⟩) ∧ w'.cell? ⟨k, 1, none⟩ = some (.string ⟨#[68]⟩) ∧ w'.cell? ⟨k, 2, none⟩ = some (.string ⟨#[68]⟩) ∧ w'.cell? ⟨k, 3, none⟩ = some (.string ⟨#[85]⟩) ∧ Below w.heap.size w w' := by
  go_enter Tryz.func27, Tryz.ntmps27
  go_wp2
  go_ret
  refine ⟨w.heap.size + 1, w.heap.size, _, rfl, by omega, by omega, heap2 w _ _, (cell1 w _ _ _ 0).trans ?_, (cell1 w _ _ _ 1).trans ?_, (cell1 w _ _ _ 2).trans ?_, (cell1 w _ _ _ 3).trans ?_, (below_alloc (below_alloc (Below.refl _ _) _) _).drew⟩
  all_goals (rw [Array.getElem?_append_left (by simp)]; rfl)
def turnB (c : UInt8) : UInt8 := if c = 85 then 68 else if c = 68 then 85 else c
/-- A block that holds bytes, none of them frozen. -/
def Buf (W : World) (g : Nat) (xs : List UInt8) : Prop := ∀ j (hj : j < xs.length), W.cell? ⟨g, j, none⟩ = some (.int .u8 ((xs[j]).toNat : Int)) ∧ W.frozen? ⟨g, j, none⟩ = false
theorem Buf.set {W : World} {g : Nat} {xs : List UInt8} (h : Buf W g xs) (m : Nat) (hm : m < xs.length) (d : UInt8) : Buf (W.setCell ⟨g, m, none⟩ (.int .u8 (d.toNat : Int))) g (xs.set m d) := by
  intro j hj
  have hj' : j < xs.length := by simpa using hj
  refine ⟨?_, by rw [World.frozen?_setCell]; exact (h j hj').2⟩
  by_cases e : m = j
  · subst e
    rw [List.getElem_set_self]
    exact World.cell?_setCell_same' _ _ _ (by rw [(h m hm).1]; rfl)
  · rw [List.getElem_set_ne e, World.cell?_setCell_other _ ⟨g, m, none⟩ ⟨g, j, none⟩ _ (by intro q; cases q; exact e rfl)]
    exact (h j hj').1
theorem buf_new (W : World) (e : TypeId) (s : ByteArray) : Buf (Lib.bytesWorld W e s) W.heap.size s.data.toList := by
  intro j hj
  have hj' : j < s.size := by simpa using hj
  have hc := Lib.bytesWorld_cell W e s j hj'
  refine ⟨by rw [hc, List.getD_eq_getElem?_getD, List.getElem?_eq_getElem hj]; rfl, ?_⟩
  have hn := Lib.bytesWorld_at_new W e s
  have : j < (Lib.bytesCells W e s).size := by simp [Lib.bytesCells]; omega
  simp [World.frozen?, hn]
  omega
/-- The bytes when m of them are turned. -/
def mid (f : UInt8 → UInt8) (s : ByteArray) (m : Nat) : List UInt8 := (s.data.toList.take m).map f ++ s.data.toList.drop m
theorem mid_length (f : UInt8 → UInt8) (s : ByteArray) (m : Nat) (h : m ≤ s.size) : (mid f s m).length = s.size := by
  have : s.data.toList.length = s.size := by simp
  simp [mid]; omega
theorem mid_at (f : UInt8 → UInt8) (s : ByteArray) (m : Nat) (h : m < s.size) : (mid f s m).set m (f s[m]) = mid f s (m + 1) := by
  have hl : s.data.toList.length = s.size := by simp
  unfold mid
  rw [List.set_append_right _ _ (by simp; omega), List.drop_eq_getElem_cons (by omega), List.take_succ_eq_append_getElem (by omega)]
  simp only [List.length_map, List.length_take, List.map_append, List.map_cons, List.map_nil, List.append_assoc, List.cons_append, List.nil_append]
  rw [show m - min m s.data.toList.length = 0 by omega]
  rfl
theorem mid_same (f : UInt8 → UInt8) (s : ByteArray) (m : Nat) (h : m < s.size) (ht : f s[m] = s[m]) : mid f s (m + 1) = mid f s m := by
  have hl : s.data.toList.length = s.size := by simp
  unfold mid
  rw [List.drop_eq_getElem_cons (i := m) (by omega), List.take_succ_eq_append_getElem (by omega)]
  simp only [List.map_append, List.map_cons, List.map_nil, List.append_assoc, List.cons_append, List.nil_append]
  have e : s.data.toList[m]'(by omega) = s[m] := rfl
  rw [e, ht]
theorem mid_zero (f : UInt8 → UInt8) (s : ByteArray) : mid f s 0 = s.data.toList := by simp [mid]
theorem mid_end (f : UInt8 → UInt8) (s : ByteArray) : (⟨(mid f s s.size).toArray⟩ : ByteArray) = ⟨s.data.map f⟩ := by
  have hl : s.data.toList.length = s.size := by simp
  congr 1
  unfold mid
  rw [List.take_of_length_le (by omega), List.drop_of_length_le (by omega), List.append_nil]
  apply Array.ext'
  simp
theorem fin_at (c : UInt8) : fin[c.toNat]? = some (.int .u8 ((turnB c).toNat : Int)) := by
  have hc : c.toNat < 256 := c.toNat_lt
  unfold fin turnB
  have ht : (tab 256)[c.toNat]? = some (.int .u8 (c.toNat : Int)) := by
    unfold tab
    rw [Array.getElem?_map, Array.getElem?_range, if_pos hc]
    simp [hc]
  have hz : (tab 256).size = 256 := by simp [tab]
  rw [Array.getElem?_setIfInBounds, Array.getElem?_setIfInBounds]
  by_cases e1 : c = 85
  · subst e1
    rw [if_pos rfl, if_pos (show (85 : Nat) = UInt8.toNat 85 from rfl), Array.size_setIfInBounds, hz]
    rfl
  · have n1 : ¬ 85 = c.toNat := fun e => e1 (UInt8.toNat_inj.1 e.symm)
    rw [if_neg n1, if_neg e1]
    by_cases e2 : c = 68
    · subst e2
      rw [if_pos rfl, if_pos (show (68 : Nat) = UInt8.toNat 68 from rfl), hz]
      rfl
    · have n2 : ¬ 68 = c.toNat := fun e => e2 (UInt8.toNat_inj.1 e.symm)
      rw [if_neg n2, if_neg e2]
      exact ht
set_option maxRecDepth 100000 in
set_option maxHeartbeats 4000000 in
theorem bytes_run (w : World) (a : Nat) (s : ByteArray) (hs : s.size ≤ 1000) (hA : w.heap[a]? = some (.cells fin 84 (0, 0))) :
    Calls Tryz.prog 119 #[.pointer (some ⟨a, 0, none⟩), .string s] w fun e w' => e = .returned (.string ⟨s.data.map turnB⟩) ∧ Below w.heap.size w w' := by
  have hn1 : ∀ W : World, (binOp .eql 36 (.slice none 0 0) (.slice none 0 0)).run Tryz.prog W = .ok (.bool true) W := fun W => by simp [binOp, run_equal_slice_nil W 36 5 none 0 0 Tryz.underlying36]
  have hn2 : ∀ (W : World) (q : Addr) (n c : Nat), (binOp .eql 36 (.slice (some q) n c) (.slice none 0 0)).run Tryz.prog W = .ok (.bool false) W := fun W q n c => by simp [binOp, run_equal_slice_nil W 36 5 (some q) n c Tryz.underlying36]
  have hkb : ∀ W : World, (convert 9 36 (.string s)).run Tryz.prog W = .ok (.slice (some ⟨W.heap.size, 0, none⟩) s.size (grownCap W s.size 0 5)) (Lib.bytesWorld W 5 s) := fun W => print_bytes 9 36 5 Tryz.underlying9 Tryz.underlying36 Tryz.underlying5 s W
  have hlt0 := blk_lt hA
  go_enter Tryz.func119, Tryz.ntmps119
  go_wp2
  go_loopw [5, 6] (fun bu i W => ∃ m : Nat, m ≤ s.size ∧ i = .int .i64 m ∧ Below w.heap.size w W ∧ ((bu = .slice none 0 0 ∧ mid turnB s m = s.data.toList) ∨ (∃ g cap, bu = .slice (some ⟨g, 0, none⟩) s.size cap ∧ w.heap.size ≤ g ∧ Buf W g (mid turnB s m)))) (fun _ i _ => ((s.size : Int) - intOf i).toNat)
  case atStart => exact ⟨0, by omega, rfl, Below.refl _ _, .inl ⟨rfl, mid_zero turnB s⟩⟩
  case round =>
    rename World => W
    obtain ⟨m, hm, rfl, hL, hcase⟩ := hrel
    have hA' := blk_below hA hL
    by_cases hlt : m < s.size
    · have hi : (m : Int) < (s.size : Int) := by omega
      have hi0 : (0 : Int) ≤ (m : Int) := by omega
      have hat := mid_at turnB s m hlt
      have hsame := mid_same turnB s m hlt
      obtain ⟨c, hc⟩ : ∃ c : UInt8, s[m] = c := ⟨_, rfl⟩
      rw [hc] at hat hsame
      have hx : W.cell? ⟨a, c.toNat, none⟩ = some (.int .u8 ((turnB c).toNat : Int)) := (blk_cell hA' c.toNat).trans (fin_at c)
      have h256 : (c.toNat : Int) < 256 := by have := c.toNat_lt; omega
      have h0 : (0 : Int) ≤ (c.toNat : Int) := by omega
      obtain ⟨d, hd⟩ : ∃ d : UInt8, turnB c = d := ⟨_, rfl⟩
      rw [hd] at hx hat hsame
      have HAT := Aside0.mk hat
      have HSAME := Aside0.mk hsame
      clear hat hsame hd
      by_cases ht : d = c
      · have htest : (((d.toNat : Nat) : Int) != ((c.toNat : Nat) : Int)) = false := by rw [ht]; simp
        have HT := Aside0.mk ht
        clear ht
        rcases hcase with ⟨rfl, hz⟩ | ⟨g, cap, rfl, hg, hbuf⟩
        · have HZ := Aside0.mk hz
          clear hz
          go_wp2
          go_roundw
          case rel => exact ⟨m + 1, by omega, by simp, hL, .inl ⟨rfl, by rw [HSAME.out HT.out]; exact HZ.out⟩⟩
          case measure => simp [intOf]; omega
        · have HB := Aside0.mk hbuf
          clear hbuf
          go_wp2
          go_roundw
          case rel => exact ⟨m + 1, by omega, by simp, hL, .inr ⟨g, cap, rfl, hg, by rw [HSAME.out HT.out]; exact HB.out⟩⟩
          case measure => simp [intOf]; omega
      · have htest : (((d.toNat : Nat) : Int) != ((c.toNat : Nat) : Int)) = true := by
          rw [bne_iff_ne]; intro e; exact ht (UInt8.toNat_inj.1 (by omega))
        clear ht
        rcases hcase with ⟨rfl, hz⟩ | ⟨g, cap, rfl, hg, hbuf⟩
        · have hN := buf_new W 5 s
          have hml : m < s.data.toList.length := by simpa using hlt
          have n1 := (hN m hml).1
          have n2 := (hN m hml).2
          have hx2 := (Lib.bytesWorld_old W 5 s ⟨a, c.toNat, none⟩ (by show a < _; have := hL.size; omega)).trans hx
          have HZ := Aside0.mk hz
          have HN := Aside0.mk hN
          clear hz hN
          go_wp2
          go_roundw
          case rel => exact ⟨m + 1, by omega, by simp, (bytes_below hL hL.size 5 s).setCell (by show w.heap.size ≤ W.heap.size; exact hL.size) _, .inr ⟨W.heap.size, _, rfl, hL.size, by rw [← HAT.out, HZ.out]; exact HN.out.set m hml d⟩⟩
          case measure => simp [intOf]; omega
        · have hml : m < (mid turnB s m).length := by rw [mid_length turnB s m hm]; exact hlt
          have n1 := (hbuf m hml).1
          have n2 := (hbuf m hml).2
          have HB := Aside0.mk hbuf
          clear hbuf
          go_wp2
          go_roundw
          case rel => exact ⟨m + 1, by omega, by simp, hL.setCell (by exact hg) _, .inr ⟨g, cap, rfl, hg, by rw [← HAT.out]; exact HB.out.set m hml d⟩⟩
          case measure => simp [intOf]; omega
    · obtain rfl : m = s.size := by omega
      rcases hcase with ⟨rfl, hz⟩ | ⟨g, cap, rfl, hg, hbuf⟩
      · go_wp2
        go_ret
        exact ⟨by show Ending.returned (Value.string s) = _; rw [← mid_end turnB, hz], hL⟩
      · have hcv := run_convert_bytes_back (P := Tryz.prog) W 36 9 5 ⟨g, 0, none⟩ cap (mid turnB s s.size) Tryz.underlying36 Tryz.underlying5 Tryz.underlying9 (fun j hj => by
          have e3 : (⟨g, 0, none⟩ : Addr).add j = ⟨g, j, none⟩ := by cases j <;> simp [Addr.add]
          rw [e3]; exact (hbuf j hj).1)
        rw [mid_length turnB s _ (Nat.le_refl _), mid_end turnB] at hcv
        go_wp2
        go_ret
        exact ⟨rfl, hL⟩
end Go.Proofs.YtgdecglakknmpaaGreatDoor.Rp
