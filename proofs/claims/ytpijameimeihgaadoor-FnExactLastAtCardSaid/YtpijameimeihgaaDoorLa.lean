/- LastAt over slices.Backward: the last place at which a list of heights has a height. No condition but the contracts of what LastAt calls. -/
import Derived.Test.YtpijameimeihgaaDoorBk
import Derived.Test.YtpijameimeihgaaDoorWMore
namespace Go.Proofs.YtpijameimeihgaaDoor.Bk
open Go.RowKit Go.Shelf Go.Proofs.YtpijameimeihgaaDoorW.PrintWords Go.Proofs.YtpijameimeihgaaDoorW.PrintLast Go.Proofs.YtpijameimeihgaaDoorW.PrintMore
attribute [local go_sem] Oper.semAt_some
/-- The last place below n that holds h. -/
def lastBelow (hs : List Int) (h : Int) : Nat → Int × Bool
  | 0 => (0, false)
  | n + 1 => if hs[n]?.getD 0 = h then ((n : Int), true) else lastBelow hs h n
theorem last_hit (hs : List Int) (h : Int) (k : Nat) (hk : k < hs.length) (hno : ∀ x ∈ upto hs k, ¬ x.2 = h) (hy : hs[hs.length - 1 - k]?.getD 0 = h) : lastBelow hs h hs.length = (((hs.length - 1 - k : Nat) : Int), true) := by
  have key : ∀ j, j ≤ k → lastBelow hs h hs.length = lastBelow hs h (hs.length - j) := by
    intro j
    induction j with
    | zero => intro _; rfl
    | succ j ih =>
      intro hj
      rw [ih (by omega)]
      have e : hs.length - j = (hs.length - 1 - j) + 1 := by omega
      have := hno (hs.length - 1 - j, hs[hs.length - 1 - j]?.getD 0) (by simp only [upto, List.mem_map, List.mem_range]; exact ⟨j, by omega, rfl⟩)
      rw [e, lastBelow, if_neg this]
      congr 1; omega
  rw [key k (Nat.le_refl _)]
  have e : hs.length - k = (hs.length - 1 - k) + 1 := by omega
  rw [e, lastBelow, if_pos hy]
theorem last_miss (hs : List Int) (h : Int) (hno : ∀ x ∈ upto hs hs.length, ¬ x.2 = h) : lastBelow hs h hs.length = (0, false) := by
  have key : ∀ n, n ≤ hs.length → lastBelow hs h n = (0, false) := by
    intro n
    induction n with
    | zero => intro _; rfl
    | succ n ih =>
      intro hn
      have := hno (n, hs[n]?.getD 0) (by simp only [upto, List.mem_map, List.mem_range]; exact ⟨hs.length - 1 - n, by omega, by rw [show hs.length - 1 - (hs.length - 1 - n) = n by omega]⟩)
      rw [lastBelow, if_neg this]
      exact ih (by omega)
  exact key _ (Nat.le_refl _)
theorem ints_of_R {w : World} {base : Nat} {ok : Nat → Prop} {v : Value} {hs : List Int} (h : Kd.R (Kd.int .i64) 3 w base ok v hs) (hne : 0 < hs.length) : Ints w.heap.size w v hs := by
  have hlt := Kd.R_lt h
  obtain ⟨inner, ho⟩ := Kd.R_own h
  obtain ⟨A, c, rfl, hc, hC⟩ := Kd.R_reads h
  rcases ho.2 with ⟨h1, h2⟩ | ⟨g, cap, cur, h1, hg, hh, r⟩
  · have : hs.length = 0 := by simpa using h2
    omega
  · injection h1 with h1 h2 h3
    subst h1
    refine ⟨g, 0, c, rfl, hlt g (by simp [Value.ownBlock]), fun j hj => ?_⟩
    obtain ⟨ad, e1, e2⟩ := Kd.at_int hC (j : Int) (by omega) (by omega)
    injection e1 with e1
    subst e1
    have e3 : (⟨g, 0, none⟩ : Addr).add ((j : Int).toNat) = ⟨g, 0 + j, none⟩ := by cases j <;> simp [Addr.add]
    rw [e3] at e2
    simpa [rd] using e2
set_option maxRecDepth 100000 in
set_option maxHeartbeats 4000000 in
theorem last_in (hs : List Int) (a0 : ByteArray) (a1 : Int) (w : World) (hreach : hs.length * 8 ≤ 140737488351232) (hne : 0 < hs.length)
    (hP : ∀ W, Calls Tryd.prog 24 #[.string a0] W fun e W' => e = .returned (.bool true) ∧ Below W.heap.size W W')
    (hQ : ∀ W, Calls Tryd.prog 29 #[.int .i64 a1] W fun e W' => e = .returned (.bool true) ∧ Drawn0 W W')
    (hH : ∀ W, Calls Tryd.prog 33 #[.string a0] W fun e W' => ∃ v, e = .returned v ∧ Kd.R (Kd.int .i64) 3 W' W.heap.size (fun _ => True) v hs ∧ Below W.heap.size W W') :
    Calls Tryd.prog 14 #[.string a0, .int .i64 a1] w fun e w' => e = .returned (.tuple #[.int .i64 (lastBelow hs a1 hs.length).1, .bool (lastBelow hs a1 hs.length).2]) ∧ Below w.heap.size w w' := by
  refine (callsIn_wide (n := 3)).1 ?_
  have h1 : 1 ≤ 3 := by omega
  have hro : Fence.wide.round = none := rfl
  refine callsIn_of_wp_marks Tryd.func14 rfl trivial ?_ hro
  simp only [Tryd.ntmps14, List.size_toArray, List.length_cons, List.length_nil, Nat.reduceAdd, Nat.reduceSub, Array.replicate_succ, Array.replicate_zero, List.push_toArray, List.append_toArray, List.nil_append, List.cons_append]
  obtain ⟨wA, hA⟩ : ∃ wA, ((w.alloc (Obj.cells #[Value.int IntKind.i64 a1] 3)).alloc (Obj.cells #[Value.int IntKind.i64 0] 3)).alloc (Obj.cells #[Value.bool false] 4) = wA := ⟨_, rfl⟩
  have hAs : wA.heap.size = w.heap.size + 3 := by rw [← hA]; simp
  have x3 := Boxed.new w 3 (.int .i64 a1)
  have x4 := Boxed.new (w.alloc (Obj.cells #[Value.int IntKind.i64 a1] 3)) 3 (.int .i64 0)
  have x5 := Boxed.new ((w.alloc (Obj.cells #[Value.int IntKind.i64 a1] 3)).alloc (Obj.cells #[Value.int IntKind.i64 0] 3)) 4 (.bool false)
  have y3 := (x3.alloc (.cells #[Value.int IntKind.i64 0] 3)).alloc (.cells #[Value.bool false] 4)
  have y4 := x4.alloc (.cells #[Value.bool false] 4)
  rw [World.size_alloc] at y4
  rw [World.size_alloc, World.size_alloc] at x5
  rw [hA] at y3 y4 x5
  have hB0 : Below w.heap.size w wA := by rw [← hA]; exact (((Below.refl _ w).alloc (Nat.le_refl _) _).alloc (by simp) _).alloc (by simp; omega) _
  clear x3 x4
  gi_wp2_with (first | (refine ⟨trivial, ?_⟩; gi_at_call 24; (try rw [hA]); refine (callsIn_wide.2 (hP _)).mono ?_; rintro e w1 ⟨rfl, hb1⟩; have z3 := (hb1.cell (p := ⟨w.heap.size, 0, none⟩) (by show w.heap.size < _; omega)).trans y3.cell) | (refine ⟨trivial, ?_⟩; gi_at_call 29; refine (callsIn_wide.2 (hQ _)).mono ?_; rintro e w2 ⟨rfl, hd2⟩; have hb2 : Below w1.heap.size w1 w2 := (by obtain ⟨nd, rfl⟩ := hd2; exact pw_below_drewN (Below.refl _ _) nd); clear hd2) | (refine ⟨trivial, ?_⟩; gi_at_call 33; refine (callsIn_wide.2 (hH _)).mono ?_; rintro e w3 ⟨v, rfl, hR, hb3⟩; obtain ⟨b, off, cap, rfl, hbb, hcs⟩ := ints_of_R hR hne; clear hR) | (refine ⟨trivial, ?_⟩; gi_at_call 32; refine (back_in Fence.wide 2 trivial hro _ _ _ _).mono ?_; rintro e w4 ⟨rfl, rfl⟩))
  have s1 := hb1.size
  have s2 := hb2.size
  have s3 := hb3.size
  have hAll : Below wA.heap.size wA w3 := (hb1.trans (hb2.mono s1)).trans (hb3.mono (by omega))
  have bN := Boxed.new w3 35 (.slice (some ⟨b, off, none⟩) hs.length cap)
  have hB4 : Below w.heap.size w (w3.alloc (.cells #[.slice (some ⟨b, off, none⟩) hs.length cap] 35)) := (hB0.trans (hAll.mono (by omega))).alloc (by omega) _
  have c3 : (w3.alloc (.cells #[.slice (some ⟨b, off, none⟩) hs.length cap] 35)).cell? ⟨w.heap.size, 0, none⟩ = some (.int .i64 a1) := (World.cell?_alloc_past _ _ _ (by show w.heap.size < _; omega)).trans ((hAll.cell (p := ⟨w.heap.size, 0, none⟩) (by show w.heap.size < _; omega)).trans y3.cell)
  have c4 : (w3.alloc (.cells #[.slice (some ⟨b, off, none⟩) hs.length cap] 35)).cell? ⟨w.heap.size + 1, 0, none⟩ = some (.int .i64 0) := (World.cell?_alloc_past _ _ _ (by show w.heap.size + 1 < _; omega)).trans ((hAll.cell (p := ⟨w.heap.size + 1, 0, none⟩) (by show w.heap.size + 1 < _; omega)).trans y4.cell)
  have c5 : (w3.alloc (.cells #[.slice (some ⟨b, off, none⟩) hs.length cap] 35)).cell? ⟨w.heap.size + 1 + 1, 0, none⟩ = some (.bool false) := (World.cell?_alloc_past _ _ _ (by show w.heap.size + 1 + 1 < _; omega)).trans ((hAll.cell (p := ⟨w.heap.size + 1 + 1, 0, none⟩) (by show w.heap.size + 1 + 1 < _; omega)).trans x5.cell)
  have f4 : (w3.alloc (.cells #[.slice (some ⟨b, off, none⟩) hs.length cap] 35)).frozen? ⟨w.heap.size + 1, 0, none⟩ = false := (World.frozen?_alloc_past _ _ _ (by show w.heap.size + 1 < _; omega)).trans ((hAll.frozen (p := ⟨w.heap.size + 1, 0, none⟩) (by show w.heap.size + 1 < _; omega)).trans y4.frozen)
  have f5 : (w3.alloc (.cells #[.slice (some ⟨b, off, none⟩) hs.length cap] 35)).frozen? ⟨w.heap.size + 1 + 1, 0, none⟩ = false := (World.frozen?_alloc_past _ _ _ (by show w.heap.size + 1 + 1 < _; omega)).trans ((hAll.frozen (p := ⟨w.heap.size + 1 + 1, 0, none⟩) (by show w.heap.size + 1 + 1 < _; omega)).trans x5.frozen)
  have hcs4 : Ints (w3.heap.size + 1) (w3.alloc (.cells #[.slice (some ⟨b, off, none⟩) hs.length cap] 35)) (.slice (some ⟨b, off, none⟩) hs.length cap) hs := ⟨b, off, cap, rfl, by omega, fun j hj => (World.cell?_alloc_past _ _ _ hbb).trans (hcs j hj)⟩
  refine wpIn_rangeFunc_ownG hro h1 (gf := 43) (lb := #[.pointer (some ⟨w3.heap.size, 0, none⟩)]) rfl trivial (enters_of Tryd.func43 (by kernel_rfl) rfl)
    (back_stops Fence.wide 2 trivial hro (by omega) w3.heap.size (w3.heap.size + 1) _ hs hreach _ (by omega) (by simp) bN.cell hcs4) belowK_t (belowK_b (by simp)) (Below.refl _ _) (fun _ => rfl)
    (fun pre W => ((∀ x ∈ pre, ¬ x.2 = a1) ∧ W.cell? ⟨w.heap.size, 0, none⟩ = some (.int .i64 a1) ∧ (W.cell? ⟨w.heap.size + 1, 0, none⟩ = some (.int .i64 0) ∧ W.frozen? ⟨w.heap.size + 1, 0, none⟩ = false) ∧ (W.cell? ⟨w.heap.size + 1 + 1, 0, none⟩ = some (.bool false) ∧ W.frozen? ⟨w.heap.size + 1 + 1, 0, none⟩ = false)) ∧ Below w.heap.size w W)
    (fun c pre W => (c = .ret ∧ ∃ ini last, pre = ini ++ [last] ∧ (∀ x ∈ ini, ¬ x.2 = a1) ∧ last.2 = a1 ∧ W.cell? ⟨w.heap.size + 1, 0, none⟩ = some (.int .i64 (last.1 : Int)) ∧ W.cell? ⟨w.heap.size + 1 + 1, 0, none⟩ = some (.bool true)) ∧ Below w.heap.size w W)
    (OwnFrom.and (Own.from (fun s A B row hs hg hr => ⟨hs.1, cell_kept hs.2.1 hg hr, ⟨cell_kept hs.2.2.1.1 hg hr, (frozen_kept hs.2.2.1.1 hg hr).trans hs.2.2.1.2⟩, ⟨cell_kept hs.2.2.2.1 hg hr, (frozen_kept hs.2.2.2.1 hg hr).trans hs.2.2.2.2⟩⟩) _) (ownFrom_below (Nat.le_refl _) (by simp; omega)))
    (fun c => OwnFrom.and (Own.from (fun s A B row hs hg hr => by obtain ⟨hc, ini, last, e1, e2, e3, e4, e5⟩ := hs; exact ⟨hc, ini, last, e1, e2, e3, cell_kept e4 hg hr, cell_kept e5 hg hr⟩) _) (ownFrom_below (Nat.le_refl _) (by simp; omega)))
    ⟨⟨by simp, c3, ⟨c4, f4⟩, ⟨c5, f5⟩⟩, hB4⟩
    (fun x => { tmps := #[.string a0, .int .i64 a1, undef, .pointer (some ⟨w.heap.size, 0, none⟩), .pointer (some ⟨w.heap.size + 1, 0, none⟩), .pointer (some ⟨w.heap.size + 1 + 1, 0, none⟩), .int .i64 (x.1 : Int), .int .i64 x.2, .string a0, .bool true, .bool false, .bool false, .int .i64 a1, .bool true, .bool false, .bool false, .string a0, .slice (some ⟨b, off, none⟩) hs.length cap, .func (.func 43) #[] #[.pointer (some ⟨w3.heap.size, 0, none⟩)], .int .i64 (x.1 : Int), .int .i64 x.2, undef, undef, undef, undef], defers := [] }) ?assign ?body ?done ?stop
  case assign =>
    intro l x W K hK
    gi_wp2
    exact hK
  case body =>
    rintro l pre x W ⟨⟨hp, hc3, ⟨hc4, hf4⟩, ⟨hc5, hf5⟩⟩, hB⟩ _
    gi_wp2
    · have hx : (x.2 == a1) = true := by assumption
      refine ⟨((KeepsOthers.setCell _ _ _).trans (KeepsOthers.setCell _ _ _)).from _, ⟨rfl, pre, x, rfl, hp, by simpa using hx, ?_, ?_⟩, (hB.setCell (p := ⟨w.heap.size + 1, 0, none⟩) (by show w.heap.size ≤ w.heap.size + 1; omega) _).setCell (p := ⟨w.heap.size + 1 + 1, 0, none⟩) (by show w.heap.size ≤ w.heap.size + 1 + 1; omega) _⟩
      · exact (World.cell?_setCell_other _ ⟨w.heap.size + 1 + 1, 0, none⟩ ⟨w.heap.size + 1, 0, none⟩ _ (by simp)).trans (World.cell?_setCell_same' _ _ _ (by rw [hc4]; rfl))
      · exact World.cell?_setCell_same' _ _ _ (by rw [World.cell?_setCell_other _ ⟨w.heap.size + 1, 0, none⟩ ⟨w.heap.size + 1 + 1, 0, none⟩ _ (by simp), hc5]; rfl)
    · have hx : (x.2 == a1) = false := by assumption
      exact ⟨KeepsFrom.refl _ _, Below.refl _ _, ⟨fun p hp' => (List.mem_append.1 hp').elim (hp p) (fun e => by simp at e; subst e; simpa using hx), hc3, ⟨hc4, hf4⟩, ⟨hc5, hf5⟩⟩, hB⟩
  case done =>
    rintro D ys W hD rfl ⟨⟨hne', hc3, ⟨hc4, hf4⟩, ⟨hc5, hf5⟩⟩, hB⟩ hK
    gi_wp2
    have hK' := ((KeepsOthers.setCell W ⟨w.heap.size + 1, 0, none⟩ (.int .i64 0)).trans (KeepsOthers.setCell _ ⟨w.heap.size + 1 + 1, 0, none⟩ (.bool false))).same D _ hK rfl
    refine ⟨by simp, .inl ⟨_, _, rfl, run_takeDeferred hK', ?_⟩⟩
    have d4 := cell_kept ((World.cell?_setCell_other (W.setCell ⟨w.heap.size + 1, 0, none⟩ (.int .i64 0)) ⟨w.heap.size + 1 + 1, 0, none⟩ ⟨w.heap.size + 1, 0, none⟩ (.bool false) (by simp)).trans (World.cell?_setCell_same' W ⟨w.heap.size + 1, 0, none⟩ (.int .i64 0) (by rw [hc4]; rfl))) (grownBy_putObj' _ D (.deferred none)) (fun r e => by cases e; exact ⟨_, hK', rfl⟩)
    have d5 := cell_kept (World.cell?_setCell_same' (W.setCell ⟨w.heap.size + 1, 0, none⟩ (.int .i64 0)) ⟨w.heap.size + 1 + 1, 0, none⟩ (.bool false) (by rw [World.cell?_setCell_other _ ⟨w.heap.size + 1, 0, none⟩ ⟨w.heap.size + 1 + 1, 0, none⟩ _ (by simp), hc5]; rfl)) (grownBy_putObj' _ D (.deferred none)) (fun r e => by cases e; exact ⟨_, hK', rfl⟩)
    refine ⟨.tuple #[.int .i64 0, .bool false], ?_, ⟨by rw [last_miss hs a1 hne'], ((hB.setCell (p := ⟨w.heap.size + 1, 0, none⟩) (by show w.heap.size ≤ w.heap.size + 1; omega) _).setCell (p := ⟨w.heap.size + 1 + 1, 0, none⟩) (by show w.heap.size ≤ w.heap.size + 1 + 1; omega) _).trans (belowK_b (w := w) (Nat.le_refl _) _ D _ _ (by simp at hD; omega) hK' rfl rfl)⟩⟩
    simp [results, Tryd.f14, go_sem, d4, d5]
  case stop =>
    rintro D c pre W hD ⟨k, hk, rfl⟩ ⟨⟨rfl, ini, last, e1, e2, e3, hc4, hc5⟩, hB⟩ hK
    gi_wp2
    refine ⟨by simp, .inl ⟨_, _, rfl, run_takeDeferred hK, ?_⟩⟩
    have d4 := cell_kept hc4 (grownBy_putObj' _ D (.deferred none)) (fun r e => by cases e; exact ⟨_, hK, rfl⟩)
    have d5 := cell_kept hc5 (grownBy_putObj' _ D (.deferred none)) (fun r e => by cases e; exact ⟨_, hK, rfl⟩)
    obtain ⟨k', rfl⟩ : ∃ k', k = k' + 1 := by
      cases k with
      | zero => simp [upto] at e1
      | succ k' => exact ⟨k', rfl⟩
    rw [upto_succ] at e1
    obtain ⟨rfl, e5⟩ := List.append_inj' e1 rfl
    obtain rfl : (hs.length - 1 - k', hs[hs.length - 1 - k']?.getD 0) = last := by simpa using e5
    refine ⟨.tuple #[.int .i64 ((hs.length - 1 - k' : Nat) : Int), .bool true], ?_, ⟨by rw [last_hit hs a1 k' (by omega) e2 e3], hB.trans (belowK_b (w := w) (Nat.le_refl _) W D _ _ (by simp at hD; omega) hK rfl rfl)⟩⟩
    simp [results, Tryd.f14, go_sem, d4, d5]

set_option maxRecDepth 100000 in
set_option maxHeartbeats 4000000 in
/-- .. where the text is no path, or the number no height: no answer is told. -/
theorem last_no (p q : Bool) (hpq : p = false ∨ q = false) (a0 : ByteArray) (a1 : Int) (w : World)
    (hP : ∀ W, Calls Tryd.prog 24 #[.string a0] W fun e W' => e = .returned (.bool p) ∧ Below W.heap.size W W')
    (hQ : ∀ W, p = true → Calls Tryd.prog 29 #[.int .i64 a1] W fun e W' => e = .returned (.bool q) ∧ Drawn0 W W') :
    Calls Tryd.prog 14 #[.string a0, .int .i64 a1] w fun e w' => e = .returned (.tuple #[.int .i64 0, .bool false]) ∧ Below w.heap.size w w' := by
  refine (callsIn_wide (n := 3)).1 ?_
  have h1 : 1 ≤ 3 := by omega
  have hro : Fence.wide.round = none := rfl
  refine callsIn_of_wp_marks Tryd.func14 rfl trivial ?_ hro
  simp only [Tryd.ntmps14, List.size_toArray, List.length_cons, List.length_nil, Nat.reduceAdd, Nat.reduceSub, Array.replicate_succ, Array.replicate_zero, List.push_toArray, List.append_toArray, List.nil_append, List.cons_append]
  obtain ⟨wA, hA⟩ : ∃ wA, ((w.alloc (Obj.cells #[Value.int IntKind.i64 a1] 3)).alloc (Obj.cells #[Value.int IntKind.i64 0] 3)).alloc (Obj.cells #[Value.bool false] 4) = wA := ⟨_, rfl⟩
  have hAs : wA.heap.size = w.heap.size + 3 := by rw [← hA]; simp
  have x3 := Boxed.new w 3 (.int .i64 a1)
  have x4 := Boxed.new (w.alloc (Obj.cells #[Value.int IntKind.i64 a1] 3)) 3 (.int .i64 0)
  have x5 := Boxed.new ((w.alloc (Obj.cells #[Value.int IntKind.i64 a1] 3)).alloc (Obj.cells #[Value.int IntKind.i64 0] 3)) 4 (.bool false)
  have y3 := (x3.alloc (.cells #[Value.int IntKind.i64 0] 3)).alloc (.cells #[Value.bool false] 4)
  have y4 := x4.alloc (.cells #[Value.bool false] 4)
  rw [World.size_alloc] at y4
  rw [World.size_alloc, World.size_alloc] at x5
  rw [hA] at y3 y4 x5
  have hB0 : Below w.heap.size w wA := by rw [← hA]; exact (((Below.refl _ w).alloc (Nat.le_refl _) _).alloc (by simp) _).alloc (by simp; omega) _
  clear x3 x4
  cases p with
  | false =>
    gi_wp2_with (first | (refine ⟨trivial, ?_⟩; gi_at_call 24; (try rw [hA]); refine (callsIn_wide.2 (hP _)).mono ?_; rintro e w1 ⟨rfl, hb1⟩; have z3 := (hb1.cell (p := ⟨w.heap.size, 0, none⟩) (by show w.heap.size < _; omega)).trans y3.cell; have z4 := (hb1.cell (p := ⟨w.heap.size + 1, 0, none⟩) (by show w.heap.size + 1 < _; omega)).trans y4.cell; have z5 := (hb1.cell (p := ⟨w.heap.size + 1 + 1, 0, none⟩) (by show w.heap.size + 1 + 1 < _; omega)).trans x5.cell; have g4 := (hb1.frozen (p := ⟨w.heap.size + 1, 0, none⟩) (by show w.heap.size + 1 < _; omega)).trans y4.frozen; have g5 := (hb1.frozen (p := ⟨w.heap.size + 1 + 1, 0, none⟩) (by show w.heap.size + 1 + 1 < _; omega)).trans x5.frozen) | (refine ⟨trivial, ?_⟩))
    have e4 := (World.cell?_setCell_other (w1.setCell ⟨w.heap.size + 1, 0, none⟩ (.int .i64 0)) ⟨w.heap.size + 1 + 1, 0, none⟩ ⟨w.heap.size + 1, 0, none⟩ (.bool false) (by simp)).trans (World.cell?_setCell_same' w1 ⟨w.heap.size + 1, 0, none⟩ (.int .i64 0) (by rw [z4]; rfl))
    have e5 := World.cell?_setCell_same' (w1.setCell ⟨w.heap.size + 1, 0, none⟩ (.int .i64 0)) ⟨w.heap.size + 1 + 1, 0, none⟩ (.bool false) (by rw [World.cell?_setCell_other _ ⟨w.heap.size + 1, 0, none⟩ ⟨w.heap.size + 1 + 1, 0, none⟩ _ (by simp), z5]; rfl)
    refine ⟨.tuple #[.int .i64 0, .bool false], ?_, rfl, ((hB0.trans (hb1.mono (by omega))).setCell (p := ⟨w.heap.size + 1, 0, none⟩) (by show w.heap.size ≤ w.heap.size + 1; omega) _).setCell (p := ⟨w.heap.size + 1 + 1, 0, none⟩) (by show w.heap.size ≤ w.heap.size + 1 + 1; omega) _⟩
    simp [results, Tryd.f14, go_sem, e4, e5]
  | true =>
    obtain rfl : q = false := by simpa using hpq
    gi_wp2_with (first | (refine ⟨trivial, ?_⟩; gi_at_call 24; (try rw [hA]); refine (callsIn_wide.2 (hP _)).mono ?_; rintro e w1 ⟨rfl, hb1⟩; have z3 := (hb1.cell (p := ⟨w.heap.size, 0, none⟩) (by show w.heap.size < _; omega)).trans y3.cell; have z4 := (hb1.cell (p := ⟨w.heap.size + 1, 0, none⟩) (by show w.heap.size + 1 < _; omega)).trans y4.cell; have z5 := (hb1.cell (p := ⟨w.heap.size + 1 + 1, 0, none⟩) (by show w.heap.size + 1 + 1 < _; omega)).trans x5.cell; have g4 := (hb1.frozen (p := ⟨w.heap.size + 1, 0, none⟩) (by show w.heap.size + 1 < _; omega)).trans y4.frozen; have g5 := (hb1.frozen (p := ⟨w.heap.size + 1 + 1, 0, none⟩) (by show w.heap.size + 1 + 1 < _; omega)).trans x5.frozen) | (refine ⟨trivial, ?_⟩; gi_at_call 29; refine (callsIn_wide.2 (hQ _ (by trivial))).mono ?_; rintro e w2 ⟨rfl, hd2⟩; have hb2 : Below w1.heap.size w1 w2 := (by obtain ⟨nd, rfl⟩ := hd2; exact pw_below_drewN (Below.refl _ _) nd); have sz1 := hb1.size; replace z4 := (hb2.cell (p := ⟨w.heap.size + 1, 0, none⟩) (by show w.heap.size + 1 < _; omega)).trans z4; replace z5 := (hb2.cell (p := ⟨w.heap.size + 1 + 1, 0, none⟩) (by show w.heap.size + 1 + 1 < _; omega)).trans z5; replace g4 := (hb2.frozen (p := ⟨w.heap.size + 1, 0, none⟩) (by show w.heap.size + 1 < _; omega)).trans g4; replace g5 := (hb2.frozen (p := ⟨w.heap.size + 1 + 1, 0, none⟩) (by show w.heap.size + 1 + 1 < _; omega)).trans g5; replace hb1 := hb1.trans (hb2.mono sz1)))
    have e4 := (World.cell?_setCell_other (w2.setCell ⟨w.heap.size + 1, 0, none⟩ (.int .i64 0)) ⟨w.heap.size + 1 + 1, 0, none⟩ ⟨w.heap.size + 1, 0, none⟩ (.bool false) (by simp)).trans (World.cell?_setCell_same' w2 ⟨w.heap.size + 1, 0, none⟩ (.int .i64 0) (by rw [z4]; rfl))
    have e5 := World.cell?_setCell_same' (w2.setCell ⟨w.heap.size + 1, 0, none⟩ (.int .i64 0)) ⟨w.heap.size + 1 + 1, 0, none⟩ (.bool false) (by rw [World.cell?_setCell_other _ ⟨w.heap.size + 1, 0, none⟩ ⟨w.heap.size + 1 + 1, 0, none⟩ _ (by simp), z5]; rfl)
    refine ⟨.tuple #[.int .i64 0, .bool false], ?_, rfl, ((hB0.trans (hb1.mono (by omega))).setCell (p := ⟨w.heap.size + 1, 0, none⟩) (by show w.heap.size ≤ w.heap.size + 1; omega) _).setCell (p := ⟨w.heap.size + 1 + 1, 0, none⟩) (by show w.heap.size ≤ w.heap.size + 1 + 1; omega) _⟩
    simp [results, Tryd.f14, go_sem, e4, e5]
end Go.Proofs.YtpijameimeihgaaDoor.Bk
