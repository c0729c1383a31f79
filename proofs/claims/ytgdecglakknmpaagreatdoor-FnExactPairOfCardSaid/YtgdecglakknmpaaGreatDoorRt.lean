/- strings.Replacer that exchanges two bytes, and 'turned' over it. No condition. -/
import Derived.Test.YtgdecglakknmpaaGreatDoorRr
namespace Go.Proofs.YtgdecglakknmpaaGreatDoor.Rp
open Go.RowKit Go.Proofs.YtgdecglakknmpaaGreatDoorW.PrintWords Go.Proofs.YtgdecglakknmpaaGreatDoorW.PrintLast Go.Proofs.YtgdecglakknmpaaGreatDoorW.PrintMore
set_option linter.unusedVariables false
set_option linter.unusedSimpArgs false
set_option maxRecDepth 100000 in
set_option maxHeartbeats 4000000 in
theorem turned_run (w : World) (s : ByteArray) (hs : s.size ≤ 1000) :
    Calls Tryz.prog 17 #[.string s] w fun e w' => e = .returned (.string ⟨s.data.map turnB⟩) ∧ Below w.heap.size w w' := by
  go_enter Tryz.func17, Tryz.ntmps17
  go_wp2_with (first | (go_at_call 27; refine (new_run _ w.heap.size ((blk_cell (blk_new w _) 0).trans rfl) ((blk_cell (blk_new w _) 1).trans rfl) ((blk_cell (blk_new w _) 2).trans rfl) ((blk_cell (blk_new w _) 3).trans rfl)).mono ?_; rintro e w1 ⟨b, k, cap, rfl, hbn, hkb, hB, k0, k1, k2, k3, hL⟩; rw [World.size_alloc] at hbn) | (go_at_call 28; refine (replace_run w.heap.size b k cap (by omega) hkb _ _ w1 (by have := hL.size; simp at this; omega) s hs hB k0 k1 k2 k3).mono ?_; rintro e w2 ⟨rfl, hL2⟩))
  go_ret
  exact ⟨rfl, ((below_alloc (Below.refl _ w) _).trans (hL.mono (by simp))).trans hL2⟩
theorem mid_self (f : UInt8 → UInt8) (s : ByteArray) (m : Nat) (h : m < s.size) (h' : m < (mid f s m).length) : (mid f s m)[m] = s[m] := by
  have hl : s.data.toList.length = s.size := by simp
  have e : (mid f s m)[m]? = some s[m] := by
    unfold mid
    rw [List.getElem?_append_right (by simp; omega), List.length_map, List.length_take, List.getElem?_drop, show m + (m - min m s.data.toList.length) = m by omega, List.getElem?_eq_getElem (by omega)]
    rfl
  rw [List.getElem?_eq_getElem h'] at e
  exact Option.some.inj e
theorem ne85 (c : UInt8) (h : ¬ c = 85) : (((c.toNat : Nat) : Int) == 85) = false := by
  rw [beq_eq_false_iff_ne]
  intro e
  apply h
  apply UInt8.toNat_inj.1
  have : c.toNat = 85 := by omega
  rw [this]; rfl
def turnP (c : UInt8) : UInt8 := if c = 85 then 68 else 85
set_option maxRecDepth 100000 in
set_option maxHeartbeats 4000000 in
theorem pa_run (w : World) (s : ByteArray) (hs : s.size ≤ 1000) :
    Calls Tryz.prog 15 #[.string s] w fun e w' => e = .returned (.string ⟨s.data.map turnP⟩) ∧ Below w.heap.size w w' := by
  have hkb : ∀ W : World, (convert 9 36 (.string s)).run Tryz.prog W = .ok (.slice (some ⟨W.heap.size, 0, none⟩) s.size (grownCap W s.size 0 5)) (Lib.bytesWorld W 5 s) := fun W => print_bytes 9 36 5 Tryz.underlying9 Tryz.underlying36 Tryz.underlying5 s W
  have hbuf0 := buf_new w 5 s
  rw [← mid_zero turnP s] at hbuf0
  go_enter Tryz.func15, Tryz.ntmps15
  go_wp2
  go_loopw [10] (fun i W => ∃ m : Nat, m ≤ s.size ∧ i = .int .i64 m ∧ Below w.heap.size w W ∧ Buf W w.heap.size (mid turnP s m)) (fun i _ => ((s.size : Int) - intOf i).toNat)
  case atStart => exact ⟨0, by omega, rfl, bytes_below (Below.refl _ w) (Nat.le_refl _) 5 s, hbuf0⟩
  case round =>
    rename World => W
    obtain ⟨m, hm, rfl, hL, hbuf⟩ := hrel
    by_cases hlt : m < s.size
    · have hi : (m : Int) < (s.size : Int) := by omega
      have hi0 : (0 : Int) ≤ (m : Int) := by omega
      have hat := mid_at turnP s m hlt
      have hml : m < (mid turnP s m).length := by rw [mid_length turnP s m hm]; exact hlt
      have hself : (mid turnP s m)[m] = s[m] := mid_self turnP s m hlt hml
      have n1 := (hbuf m hml).1
      have n2 := (hbuf m hml).2
      rw [hself] at n1
      obtain ⟨c, hc⟩ : ∃ c : UInt8, s[m] = c := ⟨_, rfl⟩
      rw [hc] at n1 hat
      have HAT := Aside0.mk hat
      have HB := Aside0.mk hbuf
      clear hat hbuf hself
      by_cases ht : c = 85
      · have htest : (((c.toNat : Nat) : Int) == 85) = true := by rw [ht]; rfl
        have HT := Aside0.mk ht
        clear ht
        go_wp2
        go_roundw
        case rel => exact ⟨m + 1, by omega, by simp, hL.setCell (p := ⟨w.heap.size, m, none⟩) (Nat.le_refl _) _, by have := HB.out.set m hml 68; rw [show turnP c = 68 by unfold turnP; rw [if_pos HT.out]] at HAT; rw [← HAT.out]; exact this⟩
        case measure => simp [intOf]; omega
      · have htest : (((c.toNat : Nat) : Int) == 85) = false := ne85 c ht
        have HT := Aside0.mk ht
        clear ht
        go_wp2
        go_roundw
        case rel => exact ⟨m + 1, by omega, by simp, hL.setCell (p := ⟨w.heap.size, m, none⟩) (Nat.le_refl _) _, by have := HB.out.set m hml 85; rw [show turnP c = 85 by unfold turnP; rw [if_neg HT.out]] at HAT; rw [← HAT.out]; exact this⟩
        case measure => simp [intOf]; omega
    · obtain rfl : m = s.size := by omega
      have hcv := fun cap => run_convert_bytes_back (P := Tryz.prog) W 36 9 5 ⟨w.heap.size, 0, none⟩ cap (mid turnP s s.size) Tryz.underlying36 Tryz.underlying5 Tryz.underlying9 (fun j hj => by
        have e3 : (⟨w.heap.size, 0, none⟩ : Addr).add j = ⟨w.heap.size, j, none⟩ := by cases j <;> simp [Addr.add]
        rw [e3]; exact (hbuf j hj).1)
      rw [mid_length turnP s _ (Nat.le_refl _), mid_end turnP] at hcv
      go_wp2
      go_ret
      exact ⟨rfl, hL⟩
end Go.Proofs.YtgdecglakknmpaaGreatDoor.Rp
