/- The byte-to-text replacer of package strings (U, D, F), made once, by hand. No condition. -/
import Derived.Test.YtgdecglakknmpaaDoorProg
import Derived.Test.YtgdecglakknmpaaDoorWWords
import Derived.Test.YtgdecglakknmpaaDoorWLast
import Derived.Test.YtgdecglakknmpaaDoorWMore
import Derived.WalkKit
import Derived.KernelRfl
import Derived.Below
import Derived.Defers
import Derived.Laws.Pointers
import Derived.Laws.LoneSync
import Derived.RegionTactic
import Derived.RegionCalls
import Derived.LoopTactic
import Derived.Deep.WholeRow
import Derived.Laws.IdiomStrings
import Derived.Lib.ConvBytes
import Derived.Laws.Cover3
namespace Go.Proofs.YtgdecglakknmpaaDoor.Rp
open Go.RowKit Go.Proofs.YtgdecglakknmpaaDoorW.PrintWords Go.Proofs.YtgdecglakknmpaaDoorW.PrintLast Go.Proofs.YtgdecglakknmpaaDoorW.PrintMore
set_option linter.unusedVariables false
set_option linter.unusedSimpArgs false
theorem i68 (h : 0 < (⟨#[68]⟩ : ByteArray).size) : (⟨#[68]⟩ : ByteArray)[0]'h = 68 := rfl
theorem i85 (h : 0 < (⟨#[85]⟩ : ByteArray).size) : (⟨#[85]⟩ : ByteArray)[0]'h = 85 := rfl
theorem i70 (h : 0 < (⟨#[70]⟩ : ByteArray).size) : (⟨#[70]⟩ : ByteArray)[0]'h = 70 := rfl
attribute [local go_sem] i68 i85 i70
/-- What the world holds of the pairs that were handed in. -/
structure Old (W : World) (k : Nat) : Prop where
  a0 : W.cell? ⟨k, 0, none⟩ = some (.string ⟨#[85]⟩)
  a1 : W.cell? ⟨k, 1, none⟩ = some (.string ⟨#[85, 85]⟩)
  a2 : W.cell? ⟨k, 2, none⟩ = some (.string ⟨#[68]⟩)
  a3 : W.cell? ⟨k, 3, none⟩ = some (.string ⟨#[68, 68]⟩)
  a4 : W.cell? ⟨k, 4, none⟩ = some (.string ⟨#[70]⟩)
  a5 : W.cell? ⟨k, 5, none⟩ = some (.string ⟨#[85, 68]⟩)
theorem Old.below {w W : World} {k : Nat} (h : Old w k) (hb : Below w.heap.size w W) : Old W k := ⟨pw_cell_below hb h.a0, pw_cell_below hb h.a1, pw_cell_below hb h.a2, pw_cell_below hb h.a3, pw_cell_below hb h.a4, pw_cell_below hb h.a5⟩
/-- The replacer's cells: no replacements, and the list of the bytes that are replaced. -/
def zc (A : Array Value) (v : Value) : Array Value := A.setIfInBounds 256 v
set_option maxRecDepth 100000 in
theorem run_zc (w0 : World) (o : Obj) (n l c : Nat) :
    (storeCells ⟨w0.heap.size + 1, 0, none⟩ (Tryd.zeroCells73.toList.set 256 (.slice (some ⟨n, 0, none⟩) l c)) 0).run Tryd.prog ((w0.alloc o).alloc (.cells Tryd.zeroCells73 73)) = .ok () ((w0.alloc o).alloc (.cells (zc Tryd.zeroCells73 (.slice (some ⟨n, 0, none⟩) l c)) 73)) := by
  have h := run_storeCells_new (P := Tryd.prog) (w0.alloc o) 73 Tryd.zeroCells73 (zc Tryd.zeroCells73 (.slice (some ⟨n, 0, none⟩) l c)) (by kernel_rfl) (by simp [zc]) (by kernel_rfl)
  rw [World.size_alloc] at h
  rw [← h]
  congr 2
theorem zero_at (j : Nat) (h : j < 256) : Tryd.zeroCells73[j]? = some (.slice none 0 0) := by
  have h1 : Tryd.zeroCells73 = Array.replicate 257 (.slice none 0 0) := by kernel_rfl
  rw [h1, Array.getElem?_replicate, if_pos (by omega)]
theorem zero_size : Tryd.zeroCells73.size = 257 := by kernel_rfl
theorem zc_nil (v : Value) (j : Nat) (h : j < 256) : (zc Tryd.zeroCells73 v)[j]? = some (.slice none 0 0) := by
  unfold zc
  rw [Array.getElem?_setIfInBounds, if_neg (by omega)]
  exact zero_at j h
theorem zc_top (v : Value) : (zc Tryd.zeroCells73 v)[256]? = some v := by
  unfold zc
  rw [Array.getElem?_setIfInBounds, if_pos rfl, if_pos (by rw [zero_size]; omega)]
theorem one_byte (W : World) (c : UInt8) (n : Int) (h : n = (c.toNat : Int)) : (convert 70 9 (.slice (some ⟨W.heap.size, 0, none⟩) 1 1)).run Tryd.prog (W.alloc (.cells #[.int .u8 n] 5)) = .ok (.string ⟨#[c]⟩) (W.alloc (.cells #[.int .u8 n] 5)) :=
  run_convert_bytes_back (P := Tryd.prog) _ 70 9 5 ⟨W.heap.size, 0, none⟩ 1 [c] Tryd.underlying70 Tryd.underlying5 Tryd.underlying9 (fun j hj => by
    obtain rfl : j = 0 := by simpa using hj
    exact (blk_cell (blk_new W _) 0).trans (by rw [h]; rfl))
def K2 (V W : World) (n : Nat) : Prop := V.heap.size ≤ W.heap.size ∧ ∀ i, i < V.heap.size → i ≠ n → i ≠ n + 1 → W.heap[i]? = V.heap[i]?
/-- What stands for one byte: nothing yet, or two bytes of its own. -/
def Rep (W : World) (n : Nat) (cs : Array Value) (c : Nat) (x y : Int) (p : Prop) : Prop :=
  (¬ p → cs[c]? = some (.slice none 0 0)) ∧ (p → ∃ g q, cs[c]? = some (.slice (some ⟨g, 0, none⟩) 2 q) ∧ n + 1 < g ∧ g < W.heap.size ∧ W.cell? ⟨g, 0, none⟩ = some (.int .u8 x) ∧ W.cell? ⟨g, 1, none⟩ = some (.int .u8 y))
theorem K2.cell {V W : World} {n g j : Nat} {v : Value} (h : K2 V W n) (hg : n + 1 < g) (hl : g < V.heap.size) (hc : V.cell? ⟨g, j, none⟩ = some v) : W.cell? ⟨g, j, none⟩ = some v := by
  have := h.2 g hl (by omega) (by omega)
  simpa [World.cell?, this] using hc
theorem Rep.keep {V W : World} {n : Nat} {cs cs' : Array Value} {c : Nat} {x y : Int} {p p' : Prop} (h : Rep V n cs c x y p) (hk : K2 V W n) (he : cs'[c]? = cs[c]?) (hp : p ↔ p') : Rep W n cs' c x y p' := by
  refine ⟨fun hn => he.trans (h.1 fun q => hn (hp.1 q)), fun hq => ?_⟩
  obtain ⟨g, q, h1, h2, h3, h4, h5⟩ := h.2 (hp.2 hq)
  exact ⟨g, q, he.trans h1, h2, Nat.lt_of_lt_of_le h3 hk.1, hk.cell h2 h3 h4, hk.cell h2 h3 h5⟩
/-- The replacer when m of its three bytes are laid: F, then D, then U. -/
def St (n : Nat) (W : World) (m : Nat) : Prop := ∃ cs ts : Array Value, W.heap[n + 1]? = some (.cells cs 73 (0, 0)) ∧ W.heap[n]? = some (.cells ts 9 (0, 0)) ∧ ts.size = 3 ∧ cs.size = 257 ∧ cs[256]? = some (.slice (some ⟨n, 0, none⟩) m 3) ∧
  Rep W n cs 70 85 68 (1 ≤ m) ∧ Rep W n cs 68 68 68 (2 ≤ m) ∧ Rep W n cs 85 85 85 (3 ≤ m)
theorem bytes2 (W : World) (e : TypeId) (x y : UInt8) : (Lib.bytesWorld W e ⟨#[x, y]⟩).cell? ⟨W.heap.size, 0, none⟩ = some (.int .u8 (x.toNat : Int)) ∧ (Lib.bytesWorld W e ⟨#[x, y]⟩).cell? ⟨W.heap.size, 1, none⟩ = some (.int .u8 (y.toNat : Int)) :=
  ⟨Lib.bytesWorld_cell W e ⟨#[x, y]⟩ 0 (by show 0 < 2; omega), Lib.bytesWorld_cell W e ⟨#[x, y]⟩ 1 (by show 1 < 2; omega)⟩
set_option maxRecDepth 100000 in
set_option maxHeartbeats 4000000 in
theorem build_run (b k cap : Nat) (c0 c1 c2 c3 : Value) (w : World) (hb : w.heap[b]? = some (.cells #[c0, c1, c2, c3, .slice (some ⟨k, 0, none⟩) 6 cap] 46 (0, 0))) (hk : Old w k) :
    Calls Tryd.prog 17 #[.pointer (some ⟨b, 0, none⟩)] w fun e w' => e = .returned (.iface 74 (.pointer (some ⟨w.heap.size + 1, 0, none⟩))) ∧ St w.heap.size w' 3 ∧ Below w.heap.size w w' := by
  have hst := run_zc
  have hs70 := fun W : World => one_byte W 70 70 rfl
  have hs68 := fun W : World => one_byte W 68 68 rfl
  have hs85 := fun W : World => one_byte W 85 85 rfl
  have hkb : ∀ (s : ByteArray) (W : World), (convert 9 70 (.string s)).run Tryd.prog W = .ok (.slice (some ⟨W.heap.size, 0, none⟩) s.size (grownCap W s.size 0 5)) (Lib.bytesWorld W 5 s) := fun s W => print_bytes 9 70 5 Tryd.underlying9 Tryd.underlying70 Tryd.underlying5 s W
  have hn1 : ∀ W : World, (binOp .eql 70 (.slice none 0 0) (.slice none 0 0)).run Tryd.prog W = .ok (.bool true) W := fun W => by simp [binOp, run_equal_slice_nil W 70 5 none 0 0 Tryd.underlying70]
  have hmk : ∀ w : World, (Instr.makeSlice 30 (.int .i64 0) (.int .i64 3)).run Tryd.prog w = .ok (.slice (some ⟨w.heap.size, 0, none⟩) 0 3) (w.alloc (.cells #[.string ⟨#[]⟩, .string ⟨#[]⟩, .string ⟨#[]⟩] 9)) := fun _ => by kernel_rfl
  have hr := blk_cell hb 4
  simp at hr
  have q0 := hk.a0
  have q1 := hk.a1
  have q2 := hk.a2
  have q3 := hk.a3
  have q4 := hk.a4
  have q5 := hk.a5
  go_enter Tryd.func17, Tryd.ntmps17
  go_wp2
  go_loopw [5, 4] (fun i t wr => ∃ m : Nat, (m = 0 ∧ t = .bool true ∨ m = 1 ∧ t = .bool false ∨ m = 2 ∧ t = .bool false ∨ m = 3 ∧ t = .bool false) ∧ i = .int .i64 (2 * m) ∧ wr = w) (fun i _ _ => (6 - intOf i).toNat)
  case atStart => exact ⟨0, .inl ⟨rfl, rfl⟩, rfl, rfl⟩
  case round =>
    obtain ⟨m, hm, rfl, rfl⟩ := hrel
    rcases hm with ⟨rfl, rfl⟩ | ⟨rfl, rfl⟩ | ⟨rfl, rfl⟩ | ⟨rfl, rfl⟩
    · go_wp2
      go_roundw
      case rel => exact ⟨1, .inr (.inl ⟨rfl, by first | rfl | trivial⟩), by first | rfl | simp, by first | rfl | trivial⟩
      case measure => simp [intOf]
    · go_wp2
      go_roundw
      case rel => exact ⟨2, .inr (.inr (.inl ⟨rfl, by first | rfl | trivial⟩)), by first | rfl | simp, by first | rfl | trivial⟩
      case measure => simp [intOf]
    · go_wp2
      go_roundw
      case rel => exact ⟨3, .inr (.inr (.inr ⟨rfl, by first | rfl | trivial⟩)), by first | rfl | simp, by first | rfl | trivial⟩
      case measure => simp [intOf]
    · clear hb hr q0 q1 q2 q3 q4 q5
      rename World => w0
      go_wp2
      go_loopw [12] (fun i W => ∃ m : Nat, (m = 0 ∨ m = 1 ∨ m = 2 ∨ m = 3) ∧ i = .int .i64 (4 - 2 * (m : Int)) ∧ St w0.heap.size W m ∧ Below w0.heap.size w0 W) (fun i _ => (2 + intOf i).toNat)
      case atStart =>
        refine ⟨0, .inl rfl, by first | rfl | simp, ⟨_, _, (by have := blk_new (w0.alloc (.cells #[.string ⟨#[]⟩, .string ⟨#[]⟩, .string ⟨#[]⟩] 9)) (.cells (zc Tryd.zeroCells73 (.slice (some ⟨w0.heap.size, 0, none⟩) 0 3)) 73); rwa [World.size_alloc] at this), blk_alloc (blk_new w0 _) _, rfl, by unfold zc; rw [Array.size_setIfInBounds]; exact zero_size, zc_top _, ?_, ?_, ?_⟩, below_alloc (below_alloc (Below.refl _ _) _) _⟩
        · exact ⟨fun _ => zc_nil _ 70 (by omega), fun h => absurd h (by omega)⟩
        · exact ⟨fun _ => zc_nil _ 68 (by omega), fun h => absurd h (by omega)⟩
        · exact ⟨fun _ => zc_nil _ 85 (by omega), fun h => absurd h (by omega)⟩
      case round =>
        rename World => V
        obtain ⟨m, hm, rfl, ⟨cs, ts, hC, hT, hts, hcs, h256, r70, r68, r85⟩, hM⟩ := hrel
        have o := hk.below hM
        rcases hm with rfl | rfl | rfl | rfl
        · have g4 := o.a4
          have g5 := o.a5
          obtain ⟨tv, htv⟩ : ∃ tv, ts[0]? = some tv := ⟨_, Array.getElem?_eq_getElem (by omega)⟩
          have hC1 := blk_alloc (blk_alloc hC (.cells #[.int .u8 70] 5)) (.cells #[.string ⟨#[70]⟩] 9)
          have hT1 := blk_alloc (blk_alloc hT (.cells #[.int .u8 70] 5)) (.cells #[.string ⟨#[70]⟩] 9)
          have lC := (blk_cell hC 70).trans (r70.1 (by omega))
          have l256 := (blk_cell hC 256).trans h256
          have x1 := (blk_cell hT1 0).trans htv
          have x2 := blk_frozen hT1 0
          have hC2 := blk_far hC1 (p := ⟨w0.heap.size, 0, none⟩) (by simp) (.string ⟨#[70]⟩)
          have x3 := (blk_cell hC2 256).trans h256
          have x4 := blk_frozen hC2 256
          have hC3 := blk_set hC2 256 (.slice (some ⟨w0.heap.size, 0, none⟩) 1 3)
          have hT3 := blk_far (blk_set hT1 0 (.string ⟨#[70]⟩)) (p := ⟨w0.heap.size + 1, 256, none⟩) (by simp) (.slice (some ⟨w0.heap.size, 0, none⟩) 1 3)
          have hM3 := below_set (j := 256) (v := .slice (some ⟨w0.heap.size, 0, none⟩) 1 3) (below_set (j := 0) (v := .string ⟨#[70]⟩) (below_alloc (below_alloc hM (.cells #[.int .u8 70] 5)) (.cells #[.string ⟨#[70]⟩] 9)) (Nat.le_refl _)) (Nat.le_succ w0.heap.size)
          have hK3 : K2 V ((((V.alloc (.cells #[.int .u8 70] 5)).alloc (.cells #[.string ⟨#[70]⟩] 9)).setCell ⟨w0.heap.size, 0, none⟩ (.string ⟨#[70]⟩)).setCell ⟨w0.heap.size + 1, 256, none⟩ (.slice (some ⟨w0.heap.size, 0, none⟩) 1 3)) w0.heap.size :=
            ⟨by simp; omega, fun i hi h1 h2 => ((Below.heap_setCell _ ⟨w0.heap.size + 1, 256, none⟩ _ i h2).trans (Below.heap_setCell _ ⟨w0.heap.size, 0, none⟩ _ i h1)).trans ((Below.heap_alloc _ _ i (by simp; omega)).trans (Below.heap_alloc _ _ i hi))⟩
          go_upto_region 34 with (fail)
          obtain ⟨W3, hW3⟩ : ∃ W3, W3 = ((((V.alloc (.cells #[.int .u8 70] 5)).alloc (.cells #[.string ⟨#[70]⟩] 9)).setCell ⟨w0.heap.size, 0, none⟩ (.string ⟨#[70]⟩)).setCell ⟨w0.heap.size + 1, 256, none⟩ (.slice (some ⟨w0.heap.size, 0, none⟩) 1 3)) := ⟨_, rfl⟩
          rw [← hW3] at hC3 hT3 hM3 hK3
          rw [← hW3]
          clear hW3 hC1 hT1 lC l256 x1 x2 hC2 x3 x4
          have hC4 := (Lib.bytesWorld_at_old W3 5 ⟨#[85, 68]⟩ _ (blk_lt hC3)).trans hC3
          have hT4 := (Lib.bytesWorld_at_old W3 5 ⟨#[85, 68]⟩ _ (blk_lt hT3)).trans hT3
          have y1 := (blk_cell hC4 70).trans ((Array.getElem?_setIfInBounds_ne (by omega)).trans (r70.1 (by omega)))
          have y2 := blk_frozen hC4 70
          have hK4 : K2 V ((Lib.bytesWorld W3 5 ⟨#[85, 68]⟩).setCell ⟨w0.heap.size + 1, 70, none⟩ (.slice (some ⟨W3.heap.size, 0, none⟩) 2 (grownCap W3 2 0 5))) w0.heap.size :=
            ⟨by have := hK3.1; simp [Lib.bytesWorld_size]; omega, fun i hi h1 h2 => (Below.heap_setCell _ ⟨w0.heap.size + 1, 70, none⟩ _ i h2).trans ((Lib.bytesWorld_at_old W3 5 _ i (by have := hK3.1; omega)).trans (hK3.2 i hi h1 h2))⟩
          have hV2 : w0.heap.size + 1 < V.heap.size := blk_lt hC
          have hlt3 := hK3.1
          have hb2 := bytes2 W3 5 85 68
          have RR := And.intro r70 (And.intro r68 r85)
          have R7 := Aside0.mk RR
          have HB2 := Aside0.mk hb2
          clear r70 r68 r85 RR hb2
          go_wp2
          go_roundw
          case rel =>
            refine ⟨1, by omega, by first | rfl | simp, ⟨_, _, blk_set hC4 70 _, blk_far hT4 (p := ⟨w0.heap.size + 1, 70, none⟩) (by simp) _, by simpa using hts, by simpa using hcs, ?_, ?_, ?_, ?_⟩, (bytes_below hM3 hM3.size 5 ⟨#[85, 68]⟩).setCell (p := ⟨w0.heap.size + 1, 70, none⟩) (Nat.le_succ w0.heap.size) _⟩
            · rw [Array.getElem?_setIfInBounds_ne (by omega), Array.getElem?_setIfInBounds, if_pos rfl, if_pos (by omega)]
            · refine ⟨fun h => absurd h (by omega), fun _ => ⟨W3.heap.size, grownCap W3 2 0 5, ?_, by omega, by simp [Lib.bytesWorld_size], ?_, ?_⟩⟩
              · rw [Array.getElem?_setIfInBounds, if_pos rfl, if_pos (by simp; omega)]
              · exact (World.cell?_setCell_other _ ⟨w0.heap.size + 1, 70, none⟩ ⟨W3.heap.size, 0, none⟩ _ (by intro e; injection e with e; omega)).trans HB2.out.1
              · exact (World.cell?_setCell_other _ ⟨w0.heap.size + 1, 70, none⟩ ⟨W3.heap.size, 1, none⟩ _ (by intro e; injection e with e; omega)).trans HB2.out.2
            · exact R7.out.2.1.keep hK4 ((Array.getElem?_setIfInBounds_ne (by omega)).trans (Array.getElem?_setIfInBounds_ne (by omega))) (by omega)
            · exact R7.out.2.2.keep hK4 ((Array.getElem?_setIfInBounds_ne (by omega)).trans (Array.getElem?_setIfInBounds_ne (by omega))) (by omega)
          case measure => simp [intOf]
        · have g4 := o.a2
          have g5 := o.a3
          obtain ⟨tv, htv⟩ : ∃ tv, ts[1]? = some tv := ⟨_, Array.getElem?_eq_getElem (by omega)⟩
          have hC1 := blk_alloc (blk_alloc hC (.cells #[.int .u8 68] 5)) (.cells #[.string ⟨#[68]⟩] 9)
          have hT1 := blk_alloc (blk_alloc hT (.cells #[.int .u8 68] 5)) (.cells #[.string ⟨#[68]⟩] 9)
          have lC := (blk_cell hC 68).trans (r68.1 (by omega))
          have l256 := (blk_cell hC 256).trans h256
          have x1 := (blk_cell hT1 1).trans htv
          have x2 := blk_frozen hT1 1
          have hC2 := blk_far hC1 (p := ⟨w0.heap.size, 1, none⟩) (by simp) (.string ⟨#[68]⟩)
          have x3 := (blk_cell hC2 256).trans h256
          have x4 := blk_frozen hC2 256
          have hC3 := blk_set hC2 256 (.slice (some ⟨w0.heap.size, 0, none⟩) 2 3)
          have hT3 := blk_far (blk_set hT1 1 (.string ⟨#[68]⟩)) (p := ⟨w0.heap.size + 1, 256, none⟩) (by simp) (.slice (some ⟨w0.heap.size, 0, none⟩) 2 3)
          have hM3 := below_set (j := 256) (v := .slice (some ⟨w0.heap.size, 0, none⟩) 2 3) (below_set (j := 1) (v := .string ⟨#[68]⟩) (below_alloc (below_alloc hM (.cells #[.int .u8 68] 5)) (.cells #[.string ⟨#[68]⟩] 9)) (Nat.le_refl _)) (Nat.le_succ w0.heap.size)
          have hK3 : K2 V ((((V.alloc (.cells #[.int .u8 68] 5)).alloc (.cells #[.string ⟨#[68]⟩] 9)).setCell ⟨w0.heap.size, 1, none⟩ (.string ⟨#[68]⟩)).setCell ⟨w0.heap.size + 1, 256, none⟩ (.slice (some ⟨w0.heap.size, 0, none⟩) 2 3)) w0.heap.size :=
            ⟨by simp; omega, fun i hi h1 h2 => ((Below.heap_setCell _ ⟨w0.heap.size + 1, 256, none⟩ _ i h2).trans (Below.heap_setCell _ ⟨w0.heap.size, 1, none⟩ _ i h1)).trans ((Below.heap_alloc _ _ i (by simp; omega)).trans (Below.heap_alloc _ _ i hi))⟩
          go_upto_region 34 with (fail)
          obtain ⟨W3, hW3⟩ : ∃ W3, W3 = ((((V.alloc (.cells #[.int .u8 68] 5)).alloc (.cells #[.string ⟨#[68]⟩] 9)).setCell ⟨w0.heap.size, 1, none⟩ (.string ⟨#[68]⟩)).setCell ⟨w0.heap.size + 1, 256, none⟩ (.slice (some ⟨w0.heap.size, 0, none⟩) 2 3)) := ⟨_, rfl⟩
          rw [← hW3] at hC3 hT3 hM3 hK3
          rw [← hW3]
          clear hW3 hC1 hT1 lC l256 x1 x2 hC2 x3 x4
          have hC4 := (Lib.bytesWorld_at_old W3 5 ⟨#[68, 68]⟩ _ (blk_lt hC3)).trans hC3
          have hT4 := (Lib.bytesWorld_at_old W3 5 ⟨#[68, 68]⟩ _ (blk_lt hT3)).trans hT3
          have y1 := (blk_cell hC4 68).trans ((Array.getElem?_setIfInBounds_ne (by omega)).trans (r68.1 (by omega)))
          have y2 := blk_frozen hC4 68
          have hK4 : K2 V ((Lib.bytesWorld W3 5 ⟨#[68, 68]⟩).setCell ⟨w0.heap.size + 1, 68, none⟩ (.slice (some ⟨W3.heap.size, 0, none⟩) 2 (grownCap W3 2 0 5))) w0.heap.size :=
            ⟨by have := hK3.1; simp [Lib.bytesWorld_size]; omega, fun i hi h1 h2 => (Below.heap_setCell _ ⟨w0.heap.size + 1, 68, none⟩ _ i h2).trans ((Lib.bytesWorld_at_old W3 5 _ i (by have := hK3.1; omega)).trans (hK3.2 i hi h1 h2))⟩
          have hV2 : w0.heap.size + 1 < V.heap.size := blk_lt hC
          have hlt3 := hK3.1
          have hb2 := bytes2 W3 5 68 68
          have RR := And.intro r70 (And.intro r68 r85)
          have R7 := Aside0.mk RR
          have HB2 := Aside0.mk hb2
          clear r70 r68 r85 RR hb2
          go_wp2
          go_roundw
          case rel =>
            refine ⟨2, by omega, by first | rfl | simp, ⟨_, _, blk_set hC4 68 _, blk_far hT4 (p := ⟨w0.heap.size + 1, 68, none⟩) (by simp) _, by simpa using hts, by simpa using hcs, ?_, ?_, ?_, ?_⟩, (bytes_below hM3 hM3.size 5 ⟨#[68, 68]⟩).setCell (p := ⟨w0.heap.size + 1, 68, none⟩) (Nat.le_succ w0.heap.size) _⟩
            · rw [Array.getElem?_setIfInBounds_ne (by omega), Array.getElem?_setIfInBounds, if_pos rfl, if_pos (by omega)]
            · exact R7.out.1.keep hK4 ((Array.getElem?_setIfInBounds_ne (by omega)).trans (Array.getElem?_setIfInBounds_ne (by omega))) (by omega)
            · refine ⟨fun h => absurd h (by omega), fun _ => ⟨W3.heap.size, grownCap W3 2 0 5, ?_, by omega, by simp [Lib.bytesWorld_size], ?_, ?_⟩⟩
              · rw [Array.getElem?_setIfInBounds, if_pos rfl, if_pos (by simp; omega)]
              · exact (World.cell?_setCell_other _ ⟨w0.heap.size + 1, 68, none⟩ ⟨W3.heap.size, 0, none⟩ _ (by intro e; injection e with e; omega)).trans HB2.out.1
              · exact (World.cell?_setCell_other _ ⟨w0.heap.size + 1, 68, none⟩ ⟨W3.heap.size, 1, none⟩ _ (by intro e; injection e with e; omega)).trans HB2.out.2
            · exact R7.out.2.2.keep hK4 ((Array.getElem?_setIfInBounds_ne (by omega)).trans (Array.getElem?_setIfInBounds_ne (by omega))) (by omega)
          case measure => simp [intOf]
        · have g4 := o.a0
          have g5 := o.a1
          obtain ⟨tv, htv⟩ : ∃ tv, ts[2]? = some tv := ⟨_, Array.getElem?_eq_getElem (by omega)⟩
          have hC1 := blk_alloc (blk_alloc hC (.cells #[.int .u8 85] 5)) (.cells #[.string ⟨#[85]⟩] 9)
          have hT1 := blk_alloc (blk_alloc hT (.cells #[.int .u8 85] 5)) (.cells #[.string ⟨#[85]⟩] 9)
          have lC := (blk_cell hC 85).trans (r85.1 (by omega))
          have l256 := (blk_cell hC 256).trans h256
          have x1 := (blk_cell hT1 2).trans htv
          have x2 := blk_frozen hT1 2
          have hC2 := blk_far hC1 (p := ⟨w0.heap.size, 2, none⟩) (by simp) (.string ⟨#[85]⟩)
          have x3 := (blk_cell hC2 256).trans h256
          have x4 := blk_frozen hC2 256
          have hC3 := blk_set hC2 256 (.slice (some ⟨w0.heap.size, 0, none⟩) 3 3)
          have hT3 := blk_far (blk_set hT1 2 (.string ⟨#[85]⟩)) (p := ⟨w0.heap.size + 1, 256, none⟩) (by simp) (.slice (some ⟨w0.heap.size, 0, none⟩) 3 3)
          have hM3 := below_set (j := 256) (v := .slice (some ⟨w0.heap.size, 0, none⟩) 3 3) (below_set (j := 2) (v := .string ⟨#[85]⟩) (below_alloc (below_alloc hM (.cells #[.int .u8 85] 5)) (.cells #[.string ⟨#[85]⟩] 9)) (Nat.le_refl _)) (Nat.le_succ w0.heap.size)
          have hK3 : K2 V ((((V.alloc (.cells #[.int .u8 85] 5)).alloc (.cells #[.string ⟨#[85]⟩] 9)).setCell ⟨w0.heap.size, 2, none⟩ (.string ⟨#[85]⟩)).setCell ⟨w0.heap.size + 1, 256, none⟩ (.slice (some ⟨w0.heap.size, 0, none⟩) 3 3)) w0.heap.size :=
            ⟨by simp; omega, fun i hi h1 h2 => ((Below.heap_setCell _ ⟨w0.heap.size + 1, 256, none⟩ _ i h2).trans (Below.heap_setCell _ ⟨w0.heap.size, 2, none⟩ _ i h1)).trans ((Below.heap_alloc _ _ i (by simp; omega)).trans (Below.heap_alloc _ _ i hi))⟩
          go_upto_region 34 with (fail)
          obtain ⟨W3, hW3⟩ : ∃ W3, W3 = ((((V.alloc (.cells #[.int .u8 85] 5)).alloc (.cells #[.string ⟨#[85]⟩] 9)).setCell ⟨w0.heap.size, 2, none⟩ (.string ⟨#[85]⟩)).setCell ⟨w0.heap.size + 1, 256, none⟩ (.slice (some ⟨w0.heap.size, 0, none⟩) 3 3)) := ⟨_, rfl⟩
          rw [← hW3] at hC3 hT3 hM3 hK3
          rw [← hW3]
          clear hW3 hC1 hT1 lC l256 x1 x2 hC2 x3 x4
          have hC4 := (Lib.bytesWorld_at_old W3 5 ⟨#[85, 85]⟩ _ (blk_lt hC3)).trans hC3
          have hT4 := (Lib.bytesWorld_at_old W3 5 ⟨#[85, 85]⟩ _ (blk_lt hT3)).trans hT3
          have y1 := (blk_cell hC4 85).trans ((Array.getElem?_setIfInBounds_ne (by omega)).trans (r85.1 (by omega)))
          have y2 := blk_frozen hC4 85
          have hK4 : K2 V ((Lib.bytesWorld W3 5 ⟨#[85, 85]⟩).setCell ⟨w0.heap.size + 1, 85, none⟩ (.slice (some ⟨W3.heap.size, 0, none⟩) 2 (grownCap W3 2 0 5))) w0.heap.size :=
            ⟨by have := hK3.1; simp [Lib.bytesWorld_size]; omega, fun i hi h1 h2 => (Below.heap_setCell _ ⟨w0.heap.size + 1, 85, none⟩ _ i h2).trans ((Lib.bytesWorld_at_old W3 5 _ i (by have := hK3.1; omega)).trans (hK3.2 i hi h1 h2))⟩
          have hV2 : w0.heap.size + 1 < V.heap.size := blk_lt hC
          have hlt3 := hK3.1
          have hb2 := bytes2 W3 5 85 85
          have RR := And.intro r70 (And.intro r68 r85)
          have R7 := Aside0.mk RR
          have HB2 := Aside0.mk hb2
          clear r70 r68 r85 RR hb2
          go_wp2
          go_roundw
          case rel =>
            refine ⟨3, by omega, by first | rfl | simp, ⟨_, _, blk_set hC4 85 _, blk_far hT4 (p := ⟨w0.heap.size + 1, 85, none⟩) (by simp) _, by simpa using hts, by simpa using hcs, ?_, ?_, ?_, ?_⟩, (bytes_below hM3 hM3.size 5 ⟨#[85, 85]⟩).setCell (p := ⟨w0.heap.size + 1, 85, none⟩) (Nat.le_succ w0.heap.size) _⟩
            · rw [Array.getElem?_setIfInBounds_ne (by omega), Array.getElem?_setIfInBounds, if_pos rfl, if_pos (by omega)]
            · exact R7.out.1.keep hK4 ((Array.getElem?_setIfInBounds_ne (by omega)).trans (Array.getElem?_setIfInBounds_ne (by omega))) (by omega)
            · exact R7.out.2.1.keep hK4 ((Array.getElem?_setIfInBounds_ne (by omega)).trans (Array.getElem?_setIfInBounds_ne (by omega))) (by omega)
            · refine ⟨fun h => absurd h (by omega), fun _ => ⟨W3.heap.size, grownCap W3 2 0 5, ?_, by omega, by simp [Lib.bytesWorld_size], ?_, ?_⟩⟩
              · rw [Array.getElem?_setIfInBounds, if_pos rfl, if_pos (by simp; omega)]
              · exact (World.cell?_setCell_other _ ⟨w0.heap.size + 1, 85, none⟩ ⟨W3.heap.size, 0, none⟩ _ (by intro e; injection e with e; omega)).trans HB2.out.1
              · exact (World.cell?_setCell_other _ ⟨w0.heap.size + 1, 85, none⟩ ⟨W3.heap.size, 1, none⟩ _ (by intro e; injection e with e; omega)).trans HB2.out.2
          case measure => simp [intOf]
        · go_wp2
          go_ret
          exact ⟨rfl, ⟨cs, ts, hC, hT, hts, hcs, h256, r70, r68, r85⟩, hM⟩
end Go.Proofs.YtgdecglakknmpaaDoor.Rp
