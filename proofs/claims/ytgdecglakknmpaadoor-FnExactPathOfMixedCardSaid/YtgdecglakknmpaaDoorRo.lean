/- The byte-to-text replacer's own loop: each of the three bytes becomes two. No condition. -/
import Derived.Test.YtgdecglakknmpaaDoorRn
import Derived.Laws.IdiomCopy
import Derived.BigRegion
import Derived.BigQuiet
import Derived.Deep.QuietTactic
namespace Go.Proofs.YtgdecglakknmpaaDoor.Rp
open Go.RowKit Go.Proofs.YtgdecglakknmpaaDoorW.PrintWords Go.Proofs.YtgdecglakknmpaaDoorW.PrintLast Go.Proofs.YtgdecglakknmpaaDoorW.PrintMore
set_option linter.unusedVariables false
set_option linter.unusedSimpArgs false
/-- What one byte becomes. -/
def two1 (c : UInt8) : UInt8 := if c = 68 then 68 else 85
def two2 (c : UInt8) : UInt8 := if c = 85 then 85 else 68
def okB (c : UInt8) : Prop := c = 85 ∨ c = 68 ∨ c = 70
theorem st_at {n : Nat} {w : World} (h : St n w 3) (c : UInt8) (hc : okB c) : ∃ g q, w.cell? ⟨n + 1, c.toNat, none⟩ = some (.slice (some ⟨g, 0, none⟩) 2 q) ∧ w.cell? ⟨g, 0, none⟩ = some (.int .u8 ((two1 c).toNat : Int)) ∧ w.cell? ⟨g, 1, none⟩ = some (.int .u8 ((two2 c).toNat : Int)) := by
  obtain ⟨cs, ts, hC, hT, hts, hcs, h256, r70, r68, r85⟩ := h
  rcases hc with rfl | rfl | rfl
  · obtain ⟨g, q, h1, _, _, h4, h5⟩ := r85.2 (by omega)
    exact ⟨g, q, (blk_cell hC 85).trans h1, h4, h5⟩
  · obtain ⟨g, q, h1, _, _, h4, h5⟩ := r68.2 (by omega)
    exact ⟨g, q, (blk_cell hC 68).trans h1, h4, h5⟩
  · obtain ⟨g, q, h1, _, _, h4, h5⟩ := r70.2 (by omega)
    exact ⟨g, q, (blk_cell hC 70).trans h1, h4, h5⟩
def exp (s : ByteArray) (m : Nat) : List UInt8 := (s.data.toList.take m).flatMap fun c => [two1 c, two2 c]
theorem exp_length (s : ByteArray) (m : Nat) (h : m ≤ s.size) : (exp s m).length = 2 * m := by
  have hl : s.data.toList.length = s.size := by simp
  unfold exp
  rw [List.length_flatMap]
  simp only [List.length_cons, List.length_nil, Nat.reduceAdd, List.map_const', List.sum_replicate_nat, List.length_take]
  omega
theorem exp_succ (s : ByteArray) (m : Nat) (h : m < s.size) : exp s (m + 1) = exp s m ++ [two1 s[m], two2 s[m]] := by
  have hl : s.data.toList.length = s.size := by simp
  unfold exp
  rw [List.take_succ_eq_append_getElem (by omega), List.flatMap_append]
  rfl
theorem make_run (n : Nat) (h0 : 0 < n) (h : n ≤ 12) (W : World) : (Instr.makeSlice 70 (.int .i64 ((n : Int) + (n : Int))) (.int .i64 ((n : Int) + (n : Int)))).run Tryd.prog W = .ok (.slice (some ⟨W.heap.size, 0, none⟩) (2 * n) (2 * n)) (W.alloc (.cells (Array.replicate (2 * n) (.int .u8 0)) 5)) := by
  obtain rfl | rfl | rfl | rfl | rfl | rfl | rfl | rfl | rfl | rfl | rfl | rfl : n = 1 ∨ n = 2 ∨ n = 3 ∨ n = 4 ∨ n = 5 ∨ n = 6 ∨ n = 7 ∨ n = 8 ∨ n = 9 ∨ n = 10 ∨ n = 11 ∨ n = 12 := by omega
  all_goals kernel_rfl
theorem exp_step (s : ByteArray) (m : Nat) (cs : Array Value) (x y : UInt8) (hcs : cs.size = 2 * s.size) (hlt : m < s.size) (hl : (exp s m).length = 2 * m) (hx : exp s (m + 1) = exp s m ++ [x, y])
    (hE : ∀ q (hq : q < (exp s m).length), cs[q]? = some (.int .u8 (((exp s m)[q]).toNat : Int))) :
    ∀ q (hq : q < (exp s (m + 1)).length), ((cs.setIfInBounds (2 * m) (.int .u8 (x.toNat : Int))).setIfInBounds (2 * m + 1) (.int .u8 (y.toNat : Int)))[q]? = some (.int .u8 (((exp s (m + 1))[q]).toNat : Int)) := by
  rw [hx]
  intro q hq
  have hq' : q < 2 * m + 2 := by rw [List.length_append, hl] at hq; exact hq
  rw [Array.getElem?_setIfInBounds, Array.getElem?_setIfInBounds]
  by_cases e1 : 2 * m + 1 = q
  · rw [if_pos e1, if_pos (by simp; omega)]
    subst e1
    rw [List.getElem_append_right (by omega)]
    simp only [hl, show 2 * m + 1 - 2 * m = 1 by omega]
    rfl
  · rw [if_neg e1]
    by_cases e2 : 2 * m = q
    · rw [if_pos e2, if_pos (by omega)]
      subst e2
      rw [List.getElem_append_right (by omega)]
      simp only [hl, Nat.sub_self]
      rfl
    · rw [if_neg e2, hE q (by omega), List.getElem_append_left (by omega)]
set_option maxRecDepth 100000 in
set_option maxHeartbeats 4000000 in
theorem bs_run (w : World) (n : Nat) (s : ByteArray) (hs : s.size ≤ 12) (hok : ∀ m (h : m < s.size), okB s[m]) (hS : St n w 3) :
    Calls Tryd.prog 99 #[.pointer (some ⟨n + 1, 0, none⟩), .string s] w fun e w' => e = .returned (.string ⟨(exp s s.size).toArray⟩) ∧ Below w.heap.size w w' := by
  have hnq : ∀ (W : World) (q : Addr) (n c : Nat), (binOp .neq 70 (.slice (some q) n c) (.slice none 0 0)).run Tryd.prog W = .ok (.bool true) W := fun W q n c => run_neq_slice_nil W 70 5 (some q) n c Tryd.underlying70
  have hnot : ∀ (x : Bool) (w : World), (Op.unary .not (.bool x)).run Tryd.prog w = .ok (.bool (!x)) w := fun _ _ => rfl
  have h24 : (s.size : Int) < 24 := by omega
  obtain ⟨cs, ts, hC, hT, hts, hcs, h256, -⟩ := id hS
  have l256 := (blk_cell hC 256).trans h256
  clear hC hT hts hcs h256
  go_enter Tryd.func99, Tryd.ntmps99
  go_wp2
  go_loopw [5, 6, 10] (fun z a i W => ∃ m : Nat, m ≤ s.size ∧ i = .int .i64 m ∧ z = .int .i64 ((s.size : Int) + (m : Int)) ∧ a = .bool (decide (0 < m)) ∧ W = w) (fun _ _ i _ => ((s.size : Int) - intOf i).toNat)
  case atStart => exact ⟨0, by omega, rfl, by first | rfl | simp, rfl, rfl⟩
  case round =>
    obtain ⟨m, hm, rfl, rfl, rfl, rfl⟩ := hrel
    rename World => w
    by_cases hlt : m < s.size
    · have hi : (m : Int) < (s.size : Int) := by omega
      have hi0 : (0 : Int) ≤ (m : Int) := by omega
      have hc0 := hok m hlt
      obtain ⟨c, hc⟩ : ∃ c : UInt8, s[m] = c := ⟨_, rfl⟩
      rw [hc] at hc0
      obtain ⟨g, q, x1, x2, x3⟩ := st_at hS c hc0
      have HS := Aside0.mk hS
      have HO := Aside0.mk hok
      clear hS hc0 hok
      have h256' : (c.toNat : Int) < 256 := by have := c.toNat_lt; omega
      have h0 : (0 : Int) ≤ (c.toNat : Int) := by omega
      go_wp2
      go_roundw
      case rel => exact ⟨m + 1, by omega, by simp, by first | (simp; done) | (simp; omega), by first | rfl | (simp; done), by first | rfl | trivial⟩
      case measure => simp [intOf]; omega
    · obtain rfl : m = s.size := by omega
      by_cases hz : s.size = 0
      · have hd : decide (0 < s.size) = false := by rw [hz]; rfl
        rw [hd]
        have HZ := Aside0.mk hz
        clear hz
        go_wp2
        go_ret
        refine ⟨?_, Below.refl _ _⟩
        show Ending.returned (Value.string s) = _
        congr 2
        have e1 : s.data = #[] := Array.eq_empty_of_size_eq_zero HZ.out
        have : exp s s.size = [] := by unfold exp; rw [e1]; simp
        rw [this]
        cases s
        cases e1
        rfl
      · have hd : decide (0 < s.size) = true := decide_eq_true (by omega)
        rw [hd]
        have hmk := make_run s.size (by omega) hs
        clear l256
        go_wp2
        go_loopw [13, 14] (fun j i W => ∃ m : Nat, m ≤ s.size ∧ i = .int .i64 m ∧ j = .int .i64 (2 * (m : Int)) ∧ Below w.heap.size w W ∧ ∃ cs : Array Value, W.heap[w.heap.size]? = some (.cells cs 5 (0, 0)) ∧ cs.size = 2 * s.size ∧ ∀ q (hq : q < (exp s m).length), cs[q]? = some (.int .u8 (((exp s m)[q]).toNat : Int))) (fun _ i _ => ((s.size : Int) - intOf i).toNat)
        case atStart => exact ⟨0, by omega, rfl, rfl, below_alloc (Below.refl _ _) _, _, blk_new _ _, by simp, fun q hq => absurd hq (by simp [exp])⟩
        case round =>
          rename World => W
          obtain ⟨m, hm, rfl, rfl, hL, cs, hC, hcs, hE⟩ := hrel
          by_cases hlt : m < s.size
          · have hi : (m : Int) < (s.size : Int) := by omega
            have hi0 : (0 : Int) ≤ (m : Int) := by omega
            have hc0 := hok m hlt
            have hsucc := exp_succ s m hlt
            have hel := exp_length s m hm
            obtain ⟨c, hc⟩ : ∃ c : UInt8, s[m] = c := ⟨_, rfl⟩
            rw [hc] at hc0 hsucc
            obtain ⟨g, q, x1, x2, x3⟩ := st_at hS c hc0
            replace x1 := pw_cell_below hL x1
            replace x2 := pw_cell_below hL x2
            replace x3 := pw_cell_below hL x3
            have h256' : (c.toNat : Int) < 256 := by have := c.toNat_lt; omega
            have h0 : (0 : Int) ≤ (c.toNat : Int) := by omega
            have HS := Aside0.mk hS
            have HO := Aside0.mk hok
            have HC := Aside0.mk hC
            have HE := Aside0.mk hE
            have HX := Aside0.mk hsucc
            have HL := Aside0.mk hel
            clear hS hc0 hok hC hE hsucc hel
            go_wp2
            have hb1 : (2 * (m : Int)) ≤ (2 * s.size : Nat) := by omega
            have hb0 : (0 : Int) ≤ 2 * (m : Int) := by omega
            have hbt : (2 * (m : Int)).toNat = 2 * m := by omega
            have hd : W.drew.heap[w.heap.size]? = some (.cells cs 5 (0, 0)) := HC.out
            have hcp := run_copy_cells (P := Tryd.prog) W.drew 70 70 3 5 w.heap.size (2 * m) (2 * s.size - 2 * m) (2 * s.size - 2 * m) ⟨g, 0, none⟩ 2 q [.int .u8 ((two1 c).toNat : Int), .int .u8 ((two2 c).toNat : Int)] Tryd.underlying70 (by kernel_rfl) (by rw [show Nat.min 2 (2 * s.size - 2 * m) = 2 by simp only [Nat.min_def]; rw [if_pos (by omega)]]; rfl)
              (fun j v hj => by
                match j, hj with
                | 0, hj => cases hj; exact x2
                | 1, hj => cases hj; exact x3)
              (fun j hj => by
                have hj' : j < 2 := hj
                rw [blk_cell hd (2 * m + j), Array.getElem?_eq_getElem (by omega)]; rfl)
              (fun j hj => blk_frozen hd (2 * m + j)) (fun v hv => by
                rcases List.mem_cons.1 hv with rfl | hv
                · rfl
                · rcases List.mem_cons.1 hv with rfl | hv
                  · rfl
                  · cases hv)
            clear hd
            go_region
            go_wp2
            go_roundw
            case rel =>
              have hd : W.drew.heap[w.heap.size]? = some (.cells cs 5 (0, 0)) := HC.out
              refine ⟨m + 1, by omega, by simp, by first | rfl | (simp; done) | (simp; omega), ((below_drew hL).setCell (p := ⟨w.heap.size, 2 * m, none⟩) (Nat.le_refl _) _).setCell (p := ⟨w.heap.size, 2 * m + 1, none⟩) (Nat.le_refl _) _, _, blk_set (blk_set hd (2 * m) _) (2 * m + 1) _, by simpa using hcs, exp_step s m cs _ _ hcs hlt HL.out HX.out HE.out⟩
            case measure => simp [intOf]; omega
          · obtain rfl : m = s.size := by omega
            have hcv := run_convert_bytes_back (P := Tryd.prog) W 70 9 5 ⟨w.heap.size, 0, none⟩ (2 * s.size) (exp s s.size) Tryd.underlying70 Tryd.underlying5 Tryd.underlying9 (fun j hj => by
              have e3 : (⟨w.heap.size, 0, none⟩ : Addr).add j = ⟨w.heap.size, j, none⟩ := by cases j <;> simp [Addr.add]
              rw [e3]; exact (blk_cell hC j).trans (hE j hj))
            rw [exp_length s _ (Nat.le_refl _)] at hcv
            go_wp2
            go_ret
            exact ⟨rfl, hL⟩
end Go.Proofs.YtgdecglakknmpaaDoor.Rp
