/- The functions that 'FnExactAllPairsApart' runs, each as a function over numbers and lists, with the proof that the Go text comes to its answers. No condition. -/
import Derived.Test.YthlbbngmgioamaaOFnExactAllPairsApartx0
namespace Go.Proofs.Ythlbbngmgioamaa.OFnExactAllPairsApart
open Go.Proofs.Ythlbbngmgioamaa.Stub
open Go.RowKit Go.Proofs.YthlbbngmgioamaaW.PrintWords Go.Proofs.YthlbbngmgioamaaW.PrintLast Go.Proofs.YthlbbngmgioamaaW.PrintMore
attribute [local go_sem] max2_int min2_int max_two min_two max_three min_three max_four min_four   -- for this text's walks alone
set_option linter.unusedVariables false
set_option linter.unusedSimpArgs false

/-! ### laws_markText: function 29 -/
theorem Zri {p : Prop} (h : p := by first | rfl | (simp [errW_none, errW_some] <;> rfl) | (simp [*, errW_none, errW_some] <;> rfl)) : p := h
theorem Zbi {p : Prop} (h : p := by repeat (first | (with_reducible first | exact HB.out | apply below_alloc | apply pw_below_drewN | apply below_drew1) | exact HB.out)) : p := h
theorem y1i {α : Type} (l : List α) (i : Nat) (a : α) : l.toArray.setIfInBounds i a = (l.set i a).toArray := List.setIfInBounds_toArray l i a
theorem y2i {α : Type} {x : α} {xs : List α} {b : α} : (x :: xs).set 0 b = b :: xs := List.set_cons_zero
theorem y3i {α : Type} {x : α} {xs : List α} {n : Nat} {b : α} : (x :: xs).set (n + 1) b = x :: xs.set n b := List.set_cons_succ
theorem Aiq {p : Prop} (h : p) : Aside0 p := Aside0.mk h
theorem Zi1 {p : Prop} (h : p := by (try simp only [List.map_toArray, List.map_cons, List.map_nil]); first | done | rfl | (simp only [List.length_drop, List.length_take]; rfl)) : p := h
theorem Zi2 {p : Prop} (h : p := by repeat (first | (with_reducible first | exact HB.out | apply below_alloc | apply pw_below_drewN | apply below_drew1) | exact HB.out)) : p := h
theorem Zi3 {p : Prop} (h : p := by first | rfl | (simp; done) | (simp [*]; done) | (simp only [i64_w]; done)) : p := h
theorem Zi4 {p : Prop} (h : p := by first | (with_reducible assumption) | assumption) : p := h
def laws_markText.l0 : Nat → Int → ByteArray → Option (ByteArray)
  | 0, _, _ => none
  | k + 1, x0, x3 => if x0 > 0 then ((some (([(wrap64 (48 + (Int.tmod x0 10))) % 256] : List Int) : List Int)).bind fun y305 => (if (strOfNums y305).size + x3.size ≤ 9223372036854775807 then (laws_markText.l0 k (wrap64 (Int.tdiv x0 10)) ((strOfNums y305) ++ x3)) else (none))) else (if 1 + x3.size ≤ 9223372036854775807 then (some ((⟨#[109]⟩ : ByteArray) ++ x3)) else (none))
def laws_markText.f (k : Nat) (a0 : Int) : Option (ByteArray) := if a0 ≤ 0 then (some (⟨#[109, 48]⟩ : ByteArray)) else (laws_markText.l0 k a0 (⟨#[]⟩ : ByteArray))
theorem laws_markText.mono_l : ∀ k, (∀ y0 y1, LeO (laws_markText.l0 k y0 y1) (laws_markText.l0 (k + 1) y0 y1))
  | 0 => fun _ _ r h => by simp [laws_markText.l0] at h
  | k + 1 => by
    have ih0 := laws_markText.mono_l k
    · intro y0 y1
      unfold laws_markText.l0
      repeat' first
      | (with_reducible exact ih0 _ _)
      | (with_reducible exact LeO.refl _)
      | (with_reducible exact LeO.none _)
      | (with_reducible refine LeO.ite ?_ ?_)
      | (with_reducible refine LeO.bind ?_ (fun _ => ?_))
      | exact ih0 _ _
      | exact LeO.none _
      | refine LeO.ite ?_ ?_
      | refine LeO.bind ?_ (fun _ => ?_)
theorem laws_markText.mono : ∀ a0 k, LeO (laws_markText.f k a0) (laws_markText.f (k + 1) a0) := by
  intro a0 k
  have ih0 := laws_markText.mono_l k
  unfold laws_markText.f
  repeat' first
      | (with_reducible exact ih0 _ _)
      | (with_reducible exact LeO.refl _)
      | (with_reducible exact LeO.none _)
      | (with_reducible refine LeO.ite ?_ ?_)
      | (with_reducible refine LeO.bind ?_ (fun _ => ?_))
      | exact ih0 _ _
      | exact LeO.none _
      | refine LeO.ite ?_ ?_
      | refine LeO.bind ?_ (fun _ => ?_)
set_option maxHeartbeats 8000000 in
set_option maxRecDepth 100000 in
theorem laws_markText.calls (k : Nat) (a0 : Int) (r : ByteArray) (w : World) (h : laws_markText.f k a0 = some r) :
    Calls Try.prog 29 #[.int .i64 a0] w fun e w' => e = .returned (.string r) ∧ Below w.heap.size w w' := by
 have HB := Aiq (Below.refl w.heap.size w)
 have H : (if a0 ≤ 0 then (some (⟨#[109, 48]⟩ : ByteArray)) else (laws_markText.l0 k a0 (⟨#[]⟩ : ByteArray))) = some r := h
 clear h
 by_cases c2 : a0 ≤ 0
 ·
  rw [if_pos c2] at H
  have c2b0 : decide (a0 ≤ 0) = true := decide_eq_true c2
  clear c2
  obtain rfl := Option.some.inj H
  go_enter Try.func29, Try.ntmps29
  go_wp2
  go_ret
  exact ⟨Zri, Zbi⟩
 ·
  rw [if_neg c2] at H
  have c2b0 : decide (a0 ≤ 0) = false := decide_eq_false c2
  clear c2
  have H' := Aiq H
  clear H
  go_enter Try.func29, Try.ntmps29
  go_wp2
  go_loopg [0, 3] k (fun kq v0 v3 w' => ∃ (x0_1 : Int) (x3_1 : ByteArray), v0 = .int .i64 x0_1 ∧ v3 = .string x3_1 ∧ Aside0 (laws_markText.l0 kq x0_1 x3_1 = some r) ∧ Aside0 (kq ≤ k) ∧ Aside0 (Below w.heap.size w w'))
  case atStart => exact ⟨(a0), ((⟨#[]⟩ : ByteArray)), Zi3, Zi3, H', ⟨Nat.le_refl _⟩, ⟨Zbi⟩⟩
  case round =>
   clear H'
   try clear c2
   try clear c2b0
   try clear p2
   obtain ⟨x0_1, x3_1, rfl, rfl, HA, HK1, HB⟩ := hrel
   cases gk with
   | zero => exact absurd HA.out (by simp [laws_markText.l0])
   | succ k1 =>
    have H := HA.out
    clear HA
    simp only [laws_markText.l0] at H
    by_cases c3 : x0_1 > 0
    ·
     rw [if_pos c3] at H
     have c3b0 : decide (0 < x0_1) = true := decide_eq_true c3
     clear c3
     obtain ⟨y305, hy305⟩ : ∃ y_ : List Int, y_ = (([(wrap64 (48 + (Int.tmod x0_1 10))) % 256] : List Int)) := ⟨_, rfl⟩
     replace H : (if (strOfNums y305).size + x3_1.size ≤ 9223372036854775807 then (laws_markText.l0 k1 (wrap64 (Int.tdiv x0_1 10)) ((strOfNums y305) ++ x3_1)) else (none)) = some r := by first | (rw [hy305]; with_reducible exact H) | (have H2_ := (Option.bind_some _ _).symm.trans H; rw [hy305]; with_reducible exact H2_) | (have H2_ := (Option.bind_some _ _).symm.trans H; with_reducible exact H2_) | with_reducible exact H | (rw [hy305]; exact H) | exact H
     have Ny305 := Aiq hy305
     clear hy305
     by_cases c4 : (strOfNums y305).size + x3_1.size ≤ 9223372036854775807
     ·
      rw [if_pos c4] at H
      have c4b0 := eq_true c4
      have c4b1 : decide ((strOfNums y305).size + x3_1.size ≤ 9223372036854775807) = true := decide_eq_true c4
      try have c4b2 : (9223372036854775807 < (strOfNums y305).size + x3_1.size) = False := eq_false (Nat.not_lt.2 c4)
      have H' := Aiq H
      clear H
      go_wp2_with (first | ((with_reducible refine gate_dst (N := 12) rfl ?_); refine Kd.R_lit (Kd.int .u8) _ 5 ?hg (N := 12) ?hd (xs := ([(wrap64 (48 + (Int.tmod x0_1 10))) % 256] : List Int)) (inner := [.int .u8 ((wrap64 (48 + (Int.tmod x0_1 10))) % 256)]) (ok := fun _ => True) (okp := fun _ => True) ?hr ?hp (fun _ hk => hk) trivial (Below.refl _ _) (Nat.le_refl _) (by simp) ?_; (case hd => rfl); (case hg => rfl); (case hr => first | (go_simp; done) | (go_simp; rfl)); (case hp => exact (Reps.one (show Kd.M (Kd.int .u8) _ _ _ ((wrap64 (48 + (Int.tmod x0_1 10))) % 256) [.int .u8 ((wrap64 (48 + (Int.tmod x0_1 10))) % 256)] from rfl) (Reps.none _ _))); intro v306 w5 ho6 hb hg_ hnew_; clear hg_ hnew_; (first | rw [← Ny305.out] at ho6 | (simp only [Int.reduceToNat] at ho6; rw [← Ny305.out] at ho6)); have n0_ := Aiq (Kd.R_lower ho6 (below_size Zi2)); have n1_ := Aiq (below_step Zi2 hb); clear HB; have HO307 := n0_; have HB := n1_; clear n0_ n1_; clear hb ho6; have hcv7 := own_string (P := Try.prog) Try.underlying59 Try.underlying5 Try.underlying9 (Kd.own_of_R HO307.out)))
      go_roundg k1
      case measure => have := HK1.out; omega
      case rel => exact ⟨(wrap64 (Int.tdiv x0_1 10)), ((strOfNums y305) ++ x3_1), Zi3, Zi3, H', ⟨by have := HK1.out; omega⟩, ⟨Zbi⟩⟩
     ·
      rw [if_neg c4] at H
      exact absurd H (by simp)
    ·
     rw [if_neg c3] at H
     have c3b0 : decide (0 < x0_1) = false := decide_eq_false c3
     clear c3
     by_cases c8 : 1 + x3_1.size ≤ 9223372036854775807
     ·
      rw [if_pos c8] at H
      have c8b0 := eq_true c8
      have c8b1 : decide (1 + x3_1.size ≤ 9223372036854775807) = true := decide_eq_true c8
      try have c8b2 : (9223372036854775807 < 1 + x3_1.size) = False := eq_false (Nat.not_lt.2 c8)
      obtain rfl := Option.some.inj H
      go_wp2
      go_ret
      exact ⟨Zri, Zbi⟩
     ·
      rw [if_neg c8] at H
      exact absurd H (by simp)

/-! ### laws_markWayS: function 17 -/
theorem wayCells {W : World} {base : Nat} {ok : Nat → Prop} {g n cap : Nat} {xs : List S37} (h : Kd.R k37 37 W base ok (.slice (some ⟨g, 0, none⟩) n cap) xs) (i : Nat) (hi : i < n) (x : S37) (hx : xs[i]? = some x) :
    W.cell? ⟨g, i * 3, none⟩ = some (.int .i64 x.f0.f0) ∧ W.cell? ⟨g, i * 3 + 1, none⟩ = some (.int .i64 x.f0.f1) ∧ W.cell? ⟨g, i * 3 + 2, none⟩ = some (.string x.f1) ∧ W.frozen? ⟨g, i * 3, none⟩ = false ∧ W.frozen? ⟨g, i * 3 + 1, none⟩ = false ∧ W.frozen? ⟨g, i * 3 + 2, none⟩ = false := by
  obtain ⟨c, hcl, hM, hcc, hfr⟩ := Kd.R_elem h z37 (i : Int) (by omega) (by omega)
  rw [Int.toNat_natCast, List.getD_eq_getElem?_getD, hx] at hM
  obtain rfl := k37_openM hM
  exact ⟨hcc 0 _ rfl, hcc 1 _ rfl, hcc 2 _ rfl, hfr 0, hfr 1, hfr 2⟩
theorem wayPut {W : World} {base : Nat} {ok : Nat → Prop} {g n cap : Nat} {xs : List S37} (h : Kd.R k37 37 W base ok (.slice (some ⟨g, 0, none⟩) n cap) xs) (i : Nat) (hi : i < n) (x : S37) (hx : xs[i]? = some x) :
    (∀ m : Int, Kd.R k37 37 (W.setCell ⟨g, i * 3, none⟩ (.int .i64 m)) base ok (.slice (some ⟨g, 0, none⟩) n cap) (xs.set i ⟨⟨m, x.f0.f1⟩, x.f1⟩) ∧ W.grownBy (W.setCell ⟨g, i * 3, none⟩ (.int .i64 m)) (some g)) ∧
    (∀ m : Int, Kd.R k37 37 (W.setCell ⟨g, i * 3 + 1, none⟩ (.int .i64 m)) base ok (.slice (some ⟨g, 0, none⟩) n cap) (xs.set i ⟨⟨x.f0.f0, m⟩, x.f1⟩) ∧ W.grownBy (W.setCell ⟨g, i * 3 + 1, none⟩ (.int .i64 m)) (some g)) ∧
    (∀ s : ByteArray, Kd.R k37 37 (W.setCell ⟨g, i * 3 + 2, none⟩ (.string s)) base ok (.slice (some ⟨g, 0, none⟩) n cap) (xs.set i ⟨x.f0, s⟩) ∧ W.grownBy (W.setCell ⟨g, i * 3 + 2, none⟩ (.string s)) (some g)) := by
  obtain ⟨c, hcl, hM, hcc, hfr⟩ := Kd.R_elem h z37 (i : Int) (by omega) (by omega)
  rw [Int.toNat_natCast, List.getD_eq_getElem?_getD, hx] at hM
  obtain rfl := k37_openM hM
  refine ⟨fun m => ?_, fun m => ?_, fun s => ?_⟩
  · exact Kd.R_seg h (i : Int) (by omega) (by omega) (seg := [.int .i64 m]) (j := 0) hcl hcc (show 1 ≤ 3 by decide) (x' := (⟨⟨m, x.f0.f1⟩, x.f1⟩ : S37)) (k37_mkM _ _ _ (⟨⟨m, x.f0.f1⟩, x.f1⟩ : S37)) (fun _ hk => hk)
  · exact Kd.R_seg h (i : Int) (by omega) (by omega) (seg := [.int .i64 m]) (j := 1) hcl hcc (show 1 + 1 ≤ 3 by decide) (x' := (⟨⟨x.f0.f0, m⟩, x.f1⟩ : S37)) (k37_mkM _ _ _ (⟨⟨x.f0.f0, m⟩, x.f1⟩ : S37)) (fun _ hk => hk)
  · exact Kd.R_seg h (i : Int) (by omega) (by omega) (seg := [.string s]) (j := 2) hcl hcc (show 2 + 1 ≤ 3 by decide) (x' := (⟨x.f0, s⟩ : S37)) (k37_mkM _ _ _ (⟨x.f0, s⟩ : S37)) (fun _ hk => hk)
/-- The marks of one way. -/
def markW (x : S37) (m : Int) (t : ByteArray) : S37 := ⟨⟨m, wrap64 (m + 1)⟩, t⟩
def laws_markWayS.l0 : Nat → List S37 → Int → Int → Option (Int × List S37)
  | 0, _, _, _ => none
  | k + 1, x0, x1, x5 => if x5 < (x0.length : Int) then (if 0 ≤ x5 then ((laws_markText.f k (wrap64 (wrap64 (x1 + 1) + 1))).bind fun t => laws_markWayS.l0 k (x0.set (x5 : Int).toNat (⟨⟨x1, wrap64 (x1 + 1)⟩, t⟩ : S37)) (wrap64 (wrap64 (wrap64 (x1 + 1) + 1) + 1)) (wrap64 (x5 + 1))) else none) else some (x1, x0)
def laws_markWayS.f (k : Nat) (l0 : List S37) (a1 : Int) : Option (Int × List S37) := laws_markWayS.l0 k l0 a1 0
theorem laws_markWayS.mono_l : ∀ k, ∀ y0 y1 y2, LeO (laws_markWayS.l0 k y0 y1 y2) (laws_markWayS.l0 (k + 1) y0 y1 y2)
  | 0 => fun _ _ _ r h => by simp [laws_markWayS.l0] at h
  | k + 1 => by
    intro y0 y1 y2
    unfold laws_markWayS.l0
    exact LeO.ite (LeO.ite (LeO.bind (laws_markText.mono _ _) (fun _ => laws_markWayS.mono_l k _ _ _)) (LeO.none _)) (LeO.refl _)
theorem laws_markWayS.mono : ∀ a0 a1 k, LeO (laws_markWayS.f k a0 a1) (laws_markWayS.f (k + 1) a0 a1) := fun a0 a1 k => laws_markWayS.mono_l k a0 a1 0
set_option maxHeartbeats 8000000 in
set_option maxRecDepth 100000 in
theorem laws_markWayS.calls (k : Nat) (P0_ : Nat → Prop) (u9000_ : Value) (l0 : List (S37)) (a1 : Int) (r1 : Int) (r2 : List (S37)) (w0 w : World) (hB : Below w0.heap.size w0 w) (ho0 : Kd.R k37 37 w w0.heap.size P0_ u9000_ l0) (h : laws_markWayS.f k l0 a1 = some (r1, r2)) :
    Calls Try.prog 17 #[u9000_, .int .i64 a1] w fun e w' => e = .returned (.int .i64 r1) ∧ Kd.R k37 37 w' w0.heap.size (fun k_ => (P0_ k_ ∨ w.heap.size ≤ k_)) u9000_ r2 ∧ Below w0.heap.size w0 w' ∧ Kept w w' (fun k_ => P0_ k_) := by
 have hu1 := Try.underlying37
 have hu2 := Try.underlying27
 have HO0 := Aiq (show Kd.R k37 37 w w0.heap.size (fun k_ => (P0_ k_ ∨ w.heap.size ≤ k_)) u9000_ l0 from Kd.R_mono ho0 (fun k_ hk => (.inl hk)))
 have HK := Aiq (Kept.refl w (fun k_ => P0_ k_))
 have HW0 := Aiq hB.size
 have HB := Aiq hB
 clear hB ho0
 have H' := Aiq (show laws_markWayS.l0 k l0 a1 0 = some (r1, r2) from h)
 clear h
 go_enter Try.func17, Try.ntmps17
 go_wp2
 go_loopg [1, 5] k (fun kq v1 v5 w' => ∃ (x0_1 : List (S37)) (x1_1 : Int) (x5_1 : Int), v1 = .int .i64 x1_1 ∧ v5 = .int .i64 x5_1 ∧ Aside0 (laws_markWayS.l0 kq x0_1 x1_1 x5_1 = some (r1, r2)) ∧ Aside0 (kq ≤ k) ∧ Aside0 (Kd.R k37 37 w' w0.heap.size (fun k_ => (P0_ k_ ∨ w.heap.size ≤ k_)) u9000_ x0_1) ∧ Aside0 (Kept w w' (fun k_ => P0_ k_)) ∧ Aside0 (Below w0.heap.size w0 w') ∧ Aside0 (w.heap.size ≤ w'.heap.size))
 case atStart => exact ⟨l0, a1, 0, rfl, rfl, H', ⟨Nat.le_refl _⟩, HO0, HK, HB, ⟨Nat.le_refl _⟩⟩
 case round =>
  clear H'
  obtain ⟨x0_1, x1_1, x5_1, rfl, rfl, HA, HK1, HO_0, HK, HB, HZ⟩ := hrel
  cases gk with
  | zero => exact absurd HA.out (by simp [laws_markWayS.l0])
  | succ k1 =>
   have H := HA.out
   clear HA
   rw [laws_markWayS.l0] at H
   by_cases c3 : x5_1 < (x0_1.length : Int)
   ·
    rw [if_pos c3] at H
    by_cases c4 : 0 ≤ x5_1
    ·
     rw [if_pos c4] at H
     obtain ⟨t, ht, H⟩ := Option.bind_eq_some_iff.mp H
     have HT := Aiq ht
     have H' := Aiq H
     clear H ht
     obtain ⟨i, rfl⟩ : ∃ i : Nat, x5_1 = i := ⟨x5_1.toNat, by omega⟩
     have hi : i < x0_1.length := by omega
     obtain ⟨Ao7, co7, eo7⟩ := Kd.R_slice HO_0.out
     subst eo7
     obtain ⟨go5, co5, eo5, g5, gl5, cl5, HG5⟩ := Kd.R_form HO_0.out (by omega)
     (first | cases eo5 | (injection eo5 with ea_ en_ ec_; (first | subst ea_ | (injection ea_ with ea_; subst ea_)); subst ec_; clear en_))
     have GB5 := Aiq g5
     have GG5 := Aiq HG5
     clear g5 gl5 HG5
     have HMgo5 := Aiq (show (P0_ go5 ∨ w.heap.size ≤ go5) from (HO_0.out.1 _ rfl))
     obtain ⟨x, hxi⟩ : ∃ x, x0_1[i]? = some x := ⟨_, List.getElem?_eq_getElem hi⟩
     obtain ⟨hc0, hc1, hc2, hf0, hf1, hf2⟩ := wayCells HO_0.out i hi x hxi
     have c3b0 : decide ((i : Int) < (x0_1.length : Int)) = true := decide_eq_true c3
     clear c3 c4
     have HI := Aiq hi
     go_wp2_with (first | ((with_reducible refine gate_store (t := 3) (p := 17) rfl ?_); refine store_event (t := 3) (p := 17) (v := ?vo17) (w1 := (wr.setCell ⟨go5, i * 3, none⟩ (.int .i64 x1_1))) ?hg ?ho ?hn ?hr ?_; (case ho => rfl); (case hg => rfl); (case hn => rfl); (case hr => first | (go_simp; done) | (go_simp; rfl)); intro w9 hw; have n0_ := Aiq (show Kd.R k37 37 w9 w0.heap.size (fun k_ => (P0_ k_ ∨ w.heap.size ≤ k_)) (.slice (some ⟨go5, 0, none⟩) x0_1.length co7) (x0_1.set i (⟨⟨x1_1, x.f0.f1⟩, x.f1⟩ : S37)) from by rw [hw]; exact ((wayPut HO_0.out i hi x hxi).1 x1_1).1); have n1_ := Aiq (show Below w0.heap.size w0 w9 from by rw [hw]; exact below_set HB.out GB5.out); have n2_ := Aiq (Kept.of_grown (S := (fun k_ => P0_ k_)) (show wr.grownBy w9 (some go5) from by rw [hw]; exact ((wayPut HO_0.out i hi x hxi).1 x1_1).2) HK.out (fun k_ e_ => by cases e_; exact HMgo5.out)); clear HO_0 HB HK hw; have HO_0 := n0_; have HB := n1_; have HK := n2_; clear n0_ n1_ n2_; clear hc0 hc1 hc2 hf0 hf1 hf2; obtain ⟨hc0, hc1, hc2, hf0, hf1, hf2⟩ := wayCells HO_0.out i hi (⟨⟨x1_1, x.f0.f1⟩, x.f1⟩ : S37) (by rw [List.getElem?_set_self hi])) | ((with_reducible refine gate_store (t := 3) (p := 25) rfl ?_); refine store_event (t := 3) (p := 25) (v := ?vo25) (w1 := (w9.setCell ⟨go5, i * 3 + 1, none⟩ (.int .i64 (wrap64 (x1_1 + 1))))) ?hg ?ho ?hn ?hr ?_; (case ho => rfl); (case hg => rfl); (case hn => rfl); (case hr => first | (go_simp; done) | (go_simp; rfl)); intro w10 hw; have q_ : Kd.R k37 37 (w9.setCell ⟨go5, i * 3 + 1, none⟩ (.int .i64 (wrap64 (x1_1 + 1)))) w0.heap.size (fun k_ => (P0_ k_ ∨ w.heap.size ≤ k_)) (.slice (some ⟨go5, 0, none⟩) x0_1.length co7) (x0_1.set i (⟨⟨x1_1, wrap64 (x1_1 + 1)⟩, x.f1⟩ : S37)) ∧ w9.grownBy (w9.setCell ⟨go5, i * 3 + 1, none⟩ (.int .i64 (wrap64 (x1_1 + 1)))) (some go5) := (by have q_ := ((wayPut HO_0.out i hi (⟨⟨x1_1, x.f0.f1⟩, x.f1⟩ : S37) (by rw [List.getElem?_set_self hi])).2.1 (wrap64 (x1_1 + 1))); rw [List.set_set] at q_; exact q_); have n0_ := Aiq (show Kd.R k37 37 w10 w0.heap.size (fun k_ => (P0_ k_ ∨ w.heap.size ≤ k_)) (.slice (some ⟨go5, 0, none⟩) x0_1.length co7) (x0_1.set i (⟨⟨x1_1, wrap64 (x1_1 + 1)⟩, x.f1⟩ : S37)) from by rw [hw]; exact q_.1); have n1_ := Aiq (show Below w0.heap.size w0 w10 from by rw [hw]; exact below_set HB.out GB5.out); have n2_ := Aiq (Kept.of_grown (S := (fun k_ => P0_ k_)) (show w9.grownBy w10 (some go5) from by rw [hw]; exact q_.2) HK.out (fun k_ e_ => by cases e_; exact HMgo5.out)); clear HO_0 HB HK hw q_; have HO_0 := n0_; have HB := n1_; have HK := n2_; clear n0_ n1_ n2_; clear hc0 hc1 hc2 hf0 hf1 hf2; obtain ⟨hc0, hc1, hc2, hf0, hf1, hf2⟩ := wayCells HO_0.out i hi (⟨⟨x1_1, wrap64 (x1_1 + 1)⟩, x.f1⟩ : S37) (by rw [List.getElem?_set_self hi])) | (go_at_call 29; (with_reducible refine (laws_markText.calls k1 (wrap64 (wrap64 (x1_1 + 1) + 1)) t _ HT.out).mono ?_); rintro e w11 ⟨rfl, hb⟩; have n0_ := Aiq (Kd.R_below HO_0.out hb); have n1_ := Aiq (below_step HB.out hb); have n2_ := Aiq (Kept.below HK.out hb); clear HO_0 HB HK hb; have HO_0 := n0_; have HB := n1_; have HK := n2_; clear n0_ n1_ n2_; clear hc0 hc1 hc2 hf0 hf1 hf2; obtain ⟨hc0, hc1, hc2, hf0, hf1, hf2⟩ := wayCells HO_0.out i hi (⟨⟨x1_1, wrap64 (x1_1 + 1)⟩, x.f1⟩ : S37) (by rw [List.getElem?_set_self hi])) | ((with_reducible refine gate_store (t := 9) (p := 33) rfl ?_); refine store_event (t := 9) (p := 33) (v := ?vo33) (w1 := (w11.setCell ⟨go5, i * 3 + 2, none⟩ (.string t))) ?hg ?ho ?hn ?hr ?_; (case ho => rfl); (case hg => rfl); (case hn => rfl); (case hr => first | (go_simp; done) | (go_simp; rfl)); intro w12 hw; have q_ : Kd.R k37 37 (w11.setCell ⟨go5, i * 3 + 2, none⟩ (.string t)) w0.heap.size (fun k_ => (P0_ k_ ∨ w.heap.size ≤ k_)) (.slice (some ⟨go5, 0, none⟩) x0_1.length co7) (x0_1.set i (⟨⟨x1_1, wrap64 (x1_1 + 1)⟩, t⟩ : S37)) ∧ w11.grownBy (w11.setCell ⟨go5, i * 3 + 2, none⟩ (.string t)) (some go5) := (by have q_ := ((wayPut HO_0.out i hi (⟨⟨x1_1, wrap64 (x1_1 + 1)⟩, x.f1⟩ : S37) (by rw [List.getElem?_set_self hi])).2.2 t); rw [List.set_set] at q_; exact q_); have n0_ := Aiq (show Kd.R k37 37 w12 w0.heap.size (fun k_ => (P0_ k_ ∨ w.heap.size ≤ k_)) (.slice (some ⟨go5, 0, none⟩) x0_1.length co7) (x0_1.set i (⟨⟨x1_1, wrap64 (x1_1 + 1)⟩, t⟩ : S37)) from by rw [hw]; exact q_.1); have n1_ := Aiq (show Below w0.heap.size w0 w12 from by rw [hw]; exact below_set HB.out GB5.out); have n2_ := Aiq (Kept.of_grown (S := (fun k_ => P0_ k_)) (show w11.grownBy w12 (some go5) from by rw [hw]; exact q_.2) HK.out (fun k_ e_ => by cases e_; exact HMgo5.out)); clear HO_0 HB HK hw q_; have HO_0 := n0_; have HB := n1_; have HK := n2_; clear n0_ n1_ n2_; skip))
     go_roundg k1
     case measure => have := HK1.out; omega
     case rel => exact ⟨(x0_1.set i (⟨⟨x1_1, wrap64 (x1_1 + 1)⟩, t⟩ : S37)), _, _, rfl, rfl, H', ⟨by have := HK1.out; omega⟩, HO_0, HK, HB, ⟨HK.out.1⟩⟩
    ·
     rw [if_neg c4] at H; cases H
   ·
    rw [if_neg c3] at H
    have c3b0 : decide (x5_1 < (x0_1.length : Int)) = false := decide_eq_false c3
    clear c3
    obtain ⟨rfl, rfl⟩ := Prod.mk.inj (Option.some.inj H)
    obtain ⟨Ao12, co12, eo12⟩ := Kd.R_slice HO_0.out
    subst eo12
    go_wp2
    go_ret
    exact ⟨rfl, HO_0.out, HB.out, HK.out⟩


/-! ### laws_markWaySS: function 8 -/

/-! ### laws_markWaySS: function 8 -/
def laws_markWaySS.l0 : Nat → List (List S37) → Int → Int → Option (Int × List (List S37))
  | 0, _, _, _ => none
  | k + 1, x0, x1, x5 => if x5 < (x0.length : Int) then (if 0 ≤ x5 then ((laws_markWayS.f k (x0.getD x5.toNat []) x1).bind fun t => laws_markWaySS.l0 k (x0.set (x5 : Int).toNat t.2) t.1 (wrap64 (x5 + 1))) else none) else some (x1, x0)
def laws_markWaySS.f (k : Nat) (l0 : List (List S37)) (a1 : Int) : Option (Int × List (List S37)) := laws_markWaySS.l0 k l0 a1 0
theorem laws_markWaySS.mono_l : ∀ k, ∀ y0 y1 y2, LeO (laws_markWaySS.l0 k y0 y1 y2) (laws_markWaySS.l0 (k + 1) y0 y1 y2)
  | 0 => fun _ _ _ r h => by simp [laws_markWaySS.l0] at h
  | k + 1 => by
    intro y0 y1 y2
    unfold laws_markWaySS.l0
    exact LeO.ite (LeO.ite (LeO.bind (laws_markWayS.mono _ _ _) (fun _ => laws_markWaySS.mono_l k _ _ _)) (LeO.none _)) (LeO.refl _)
theorem laws_markWaySS.mono : ∀ a0 a1 k, LeO (laws_markWaySS.f k a0 a1) (laws_markWaySS.f (k + 1) a0 a1) := fun a0 a1 k => laws_markWaySS.mono_l k a0 a1 0
set_option maxHeartbeats 8000000 in
set_option maxRecDepth 100000 in
theorem laws_markWaySS.calls (k : Nat) (P0_ : Nat → Prop) (u9000_ : Value) (l0 : List (List S37)) (a1 : Int) (r1 : Int) (r2 : List (List S37)) (w0 w : World) (hB : Below w0.heap.size w0 w) (ho0 : Kd.S (Kd.slice 37 k37) 33 w w0.heap.size P0_ u9000_ l0) (h : laws_markWaySS.f k l0 a1 = some (r1, r2)) :
    Calls Try.prog 8 #[u9000_, .int .i64 a1] w fun e w' => e = .returned (.int .i64 r1) ∧ Kd.S (Kd.slice 37 k37) 33 w' w0.heap.size (fun k_ => (P0_ k_ ∨ w.heap.size ≤ k_)) u9000_ r2 ∧ Below w0.heap.size w0 w' ∧ Kept w w' (fun k_ => P0_ k_) := by
 have HO0 := Aiq (show Kd.S (Kd.slice 37 k37) 33 w w0.heap.size (fun k_ => (P0_ k_ ∨ w.heap.size ≤ k_)) u9000_ l0 from Kd.S_mono ho0 (fun k_ hk => (.inl hk)))
 have HK := Aiq (Kept.refl w (fun k_ => P0_ k_))
 have HB := Aiq hB
 clear hB ho0
 have H' := Aiq (show laws_markWaySS.l0 k l0 a1 0 = some (r1, r2) from h)
 clear h
 go_enter Try.func8, Try.ntmps8
 go_wp2
 go_loopg [1, 5] k (fun kq v1 v5 w' => ∃ (x0_1 : List (List S37)) (x1_1 : Int) (x5_1 : Int), v1 = .int .i64 x1_1 ∧ v5 = .int .i64 x5_1 ∧ Aside0 (laws_markWaySS.l0 kq x0_1 x1_1 x5_1 = some (r1, r2)) ∧ Aside0 (kq ≤ k) ∧ Aside0 (Kd.S (Kd.slice 37 k37) 33 w' w0.heap.size (fun k_ => (P0_ k_ ∨ w.heap.size ≤ k_)) u9000_ x0_1) ∧ Aside0 (Kept w w' (fun k_ => P0_ k_)) ∧ Aside0 (Below w0.heap.size w0 w'))
 case atStart => exact ⟨l0, a1, 0, rfl, rfl, H', ⟨Nat.le_refl _⟩, HO0, HK, HB⟩
 case round =>
  clear H'
  obtain ⟨x0_1, x1_1, x5_1, rfl, rfl, HA, HK1, HO_0, HK, HB⟩ := hrel
  cases gk with
  | zero => exact absurd HA.out (by simp [laws_markWaySS.l0])
  | succ k1 =>
   have H := HA.out
   clear HA
   rw [laws_markWaySS.l0] at H
   by_cases c3 : x5_1 < (x0_1.length : Int)
   ·
    rw [if_pos c3] at H
    by_cases c4 : 0 ≤ x5_1
    ·
     rw [if_pos c4] at H
     obtain ⟨⟨t1, t2⟩, ht, H⟩ := Option.bind_eq_some_iff.mp H
     have HT := Aiq ht
     have H' := Aiq (show laws_markWaySS.l0 k1 (x0_1.set (x5_1 : Int).toNat t2) t1 (wrap64 (x5_1 + 1)) = some (r1, r2) from H)
     clear H ht
     obtain ⟨i, rfl⟩ : ∃ i : Nat, x5_1 = i := ⟨x5_1.toNat, by omega⟩
     have hi : i < x0_1.length := by omega
     obtain ⟨x, hxi⟩ : ∃ x, x0_1[i]? = some x := ⟨_, List.getElem?_eq_getElem hi⟩
     have hgd : x0_1.getD ((i : Int)).toNat ([] : List S37) = x := by rw [Int.toNat_natCast, List.getD_eq_getElem?_getD, hxi]; rfl
     have HT2 := HT.out
     rw [hgd] at HT2
     clear HT
     have HT := Aiq HT2
     clear HT2
     obtain ⟨Ao7, co7, eo7⟩ := Kd.S_slice HO_0.out
     subst eo7
     obtain ⟨go5, co5, eo5, g5, gl5, cl5, HG5⟩ := Kd.S_form HO_0.out (by omega)
     (first | cases eo5 | (injection eo5 with ea_ en_ ec_; (first | subst ea_ | (injection ea_ with ea_; subst ea_)); subst ec_; clear en_))
     clear g5 gl5 HG5
     obtain ⟨oki, ce, hcl, hM, hcc, hok, hH⟩ := Kd.S_lend HO_0.out [] (i : Int) (by omega) (by omega)
     rw [hgd] at hM
     obtain ⟨ve, rfl, hR⟩ := hM
     have hc := hcc 0 _ rfl
     rw [Nat.add_zero, show (Kd.slice 37 k37).sz = 1 from rfl, Nat.mul_one, Int.toNat_natCast] at hc
     obtain ⟨Ae, cpe, rfl⟩ := Kd.R_slice hR
     have HR := Aiq hR
     have HH := Aiq hH
     have HQ := Aiq hok
     clear hR hH hok hcc hcl hgd hxi
     have c3b0 : decide ((i : Int) < (x0_1.length : Int)) = true := decide_eq_true c3
     clear c3 c4
     have HI := Aiq hi
     go_wp2_with (first | (go_at_call 17; (with_reducible refine (laws_markWayS.calls k1 oki _ x x1_1 t1 t2 w0 _ HB.out HR.out HT.out).mono ?_); rintro e w11 ⟨rfl, hy, hb, hkp⟩; have n0_ := Aiq (show Kd.S (Kd.slice 37 k37) 33 w11 w0.heap.size (fun k_ => (P0_ k_ ∨ w.heap.size ≤ k_)) (.slice (some ⟨go5, 0, none⟩) x0_1.length co7) (x0_1.set ((i : Int)).toNat t2) from Kd.H_back (Kd.H_kept (Kd.H_widen HH.out) hkp (fun k_ _ hn_ hs_ => hn_ (.inl hs_))) (⟨_, rfl, hy⟩ : (Kd.slice 37 k37).M w11 w0.heap.size _ t2 _) (fun k_ hk_ => hk_.elim .inl (fun h2_ => .inr ⟨.inr (Nat.le_trans HK.out.1 h2_), h2_⟩))); have n1_ := Aiq hb; have n2_ := Aiq (Kept.then_ HK.out hkp (fun k_ hk_ => (HQ.out k_ hk_).1)); clear HO_0 HB HK hy hb hkp HR HH hc; have HO_0 := n0_; have HB := n1_; have HK := n2_; clear n0_ n1_ n2_))
     go_roundg k1
     case measure => have := HK1.out; omega
     case rel => exact ⟨(x0_1.set ((i : Int)).toNat t2), _, _, rfl, rfl, H', ⟨by have := HK1.out; omega⟩, (show Aside0 (Kd.S (Kd.slice 37 k37) 33 _ w0.heap.size (fun k_ => (P0_ k_ ∨ w.heap.size ≤ k_)) (.slice (some ⟨go5, 0, none⟩) x0_1.length co7) (x0_1.set ((i : Int)).toNat t2)) from HO_0), HK, HB⟩
    ·
     rw [if_neg c4] at H; cases H
   ·
    rw [if_neg c3] at H
    have c3b0 : decide (x5_1 < (x0_1.length : Int)) = false := decide_eq_false c3
    clear c3
    obtain ⟨rfl, rfl⟩ := Prod.mk.inj (Option.some.inj H)
    obtain ⟨Ao12, co12, eo12⟩ := Kd.S_slice HO_0.out
    subst eo12
    go_wp2
    go_ret
    exact ⟨rfl, HO_0.out, HB.out, HK.out⟩



/-! ### laws_heldWayS: function 18 -/
def laws_heldWayS.l0 : Nat → List (S37) → Int → Int → Option (Int)
  | 0, _, _, _ => none
  | k + 1, x0, x1, x5 => if x5 < (x0.length : Int) then (if 0 ≤ x5 then (if ((rd_T37 x0 x5).f0.f0) = x1 then (if ((rd_T37 x0 x5).f0.f1) = (wrap64 (x1 + 1)) then ((laws_markText.f k (wrap64 ((wrap64 (x1 + 1)) + 1))).bind fun t311 => (if ((rd_T37 x0 x5).f1).toList = t311.toList then (laws_heldWayS.l0 k x0 (wrap64 ((wrap64 ((wrap64 (x1 + 1)) + 1)) + 1)) (wrap64 (x5 + 1))) else (some (-1)))) else (some (-1))) else (some (-1))) else (none)) else (some x1)
def laws_heldWayS.f (k : Nat) (l0 : List (S37)) (a1 : Int) : Option (Int) := laws_heldWayS.l0 k l0 a1 0
theorem laws_heldWayS.mono_l : ∀ k, (∀ y0 y1 y2, LeO (laws_heldWayS.l0 k y0 y1 y2) (laws_heldWayS.l0 (k + 1) y0 y1 y2))
  | 0 => fun _ _ _ r h => by simp [laws_heldWayS.l0] at h
  | k + 1 => by
    have ih0 := laws_heldWayS.mono_l k
    · intro y0 y1 y2
      unfold laws_heldWayS.l0
      repeat' first
      | (with_reducible exact ih0 _ _ _)
      | (with_reducible exact laws_markText.mono _ _)
      | (with_reducible exact LeO.refl _)
      | (with_reducible exact LeO.none _)
      | (with_reducible refine LeO.ite ?_ ?_)
      | (with_reducible refine LeO.bind ?_ (fun _ => ?_))
      | exact ih0 _ _ _
      | exact laws_markText.mono _ _
      | exact LeO.none _
      | refine LeO.ite ?_ ?_
      | refine LeO.bind ?_ (fun _ => ?_)
theorem laws_heldWayS.mono : ∀ a0 a1 k, LeO (laws_heldWayS.f k a0 a1) (laws_heldWayS.f (k + 1) a0 a1) := by
  intro a0 a1 k
  have ih0 := laws_heldWayS.mono_l k
  unfold laws_heldWayS.f
  repeat' first
      | (with_reducible exact ih0 _ _ _)
      | (with_reducible exact laws_markText.mono _ _)
      | (with_reducible exact LeO.refl _)
      | (with_reducible exact LeO.none _)
      | (with_reducible refine LeO.ite ?_ ?_)
      | (with_reducible refine LeO.bind ?_ (fun _ => ?_))
      | exact ih0 _ _ _
      | exact laws_markText.mono _ _
      | exact LeO.none _
      | refine LeO.ite ?_ ?_
      | refine LeO.bind ?_ (fun _ => ?_)
def laws_heldWayS.T10 : Bool × List (List Nat × List Nat) := (true, [([], []), ([], []), ([0, 1], [0, 1]), ([2], [2]), ([3], [3]), ([], []), ([5], [5]), ([4, 6], [4, 6])])
def laws_heldWayS.B10 : List Nat := [0, 0, 3, 7, 15, 0, 32, 127]
theorem laws_heldWayS.tab10 : rtab .any (opsOf Try.f18 10) = laws_heldWayS.T10 := by kernel_rfl
theorem laws_heldWayS.bits10 : waitsOk laws_heldWayS.T10.2 laws_heldWayS.B10 = true := by kernel_rfl
set_option maxHeartbeats 8000000 in
set_option maxRecDepth 100000 in
theorem laws_heldWayS.calls (k : Nat) (A0 : Option Addr) (c0 : Nat) (l0 : List (S37)) (a1 : Int) (r : Int) (w : World) (hr0 : Kd.C k37 w A0 l0.length l0) (hc0 : l0.length ≤ c0) (h : laws_heldWayS.f k l0 a1 = some r) :
    Calls Try.prog 18 #[.slice A0 l0.length c0, .int .i64 a1] w fun e w' => e = .returned (.int .i64 r) ∧ Below w.heap.size w w' := by
 have HR0 := Aiq hr0
 have HC0 := Aiq hc0
 clear hr0 hc0
 have HB := Aiq (Below.refl w.heap.size w)
 have H : (laws_heldWayS.l0 k l0 a1 0) = some r := h
 clear h
 have H' := Aiq H
 clear H
 go_enter Try.func18, Try.ntmps18
 go_wp2
 go_loopg [1, 5] k (fun kq v1 v5 w' => ∃ (x1_1 : Int) (x5_1 : Int), v1 = .int .i64 x1_1 ∧ v5 = .int .i64 x5_1 ∧ Aside0 (laws_heldWayS.l0 kq l0 x1_1 x5_1 = some r) ∧ Aside0 (kq ≤ k) ∧ Aside0 (Below w.heap.size w w'))
 case atStart => exact ⟨(a1), (0), Zi3, Zi3, H', ⟨Nat.le_refl _⟩, ⟨Zbi⟩⟩
 case round =>
  clear H'
  try clear c1
  try clear p2
  obtain ⟨x1_1, x5_1, rfl, rfl, HA, HK1, HB⟩ := hrel
  cases gk with
  | zero => exact absurd HA.out (by simp [laws_heldWayS.l0])
  | succ k1 =>
   have H := HA.out
   clear HA
   simp only [laws_heldWayS.l0] at H
   by_cases c3 : x5_1 < (l0.length : Int)
   ·
    rw [if_pos c3] at H
    have c3b0 : decide (x5_1 < (l0.length : Int)) = true := decide_eq_true c3
    clear c3
    by_cases c4 : 0 ≤ x5_1
    ·
     rw [if_pos c4] at H
     have c4b0 : decide (0 ≤ x5_1) = true := decide_eq_true c4
     clear c4
     by_cases c5 : ((rd_T37 l0 x5_1).f0.f0) = x1_1
     ·
      rw [if_pos c5] at H
      have c5b0 : (((rd_T37 l0 x5_1).f0.f0) == x1_1) = true := beq_iff_eq.mpr c5
      have c5b1 : (((rd_T37 l0 x5_1).f0.f0) != x1_1) = false := bne_eq_false_iff_eq.mpr c5
      clear c5
      by_cases c6 : ((rd_T37 l0 x5_1).f0.f1) = (wrap64 (x1_1 + 1))
      ·
       rw [if_pos c6] at H
       have c6b0 : (((rd_T37 l0 x5_1).f0.f1) == (wrap64 (x1_1 + 1))) = true := beq_iff_eq.mpr c6
       have c6b1 : (((rd_T37 l0 x5_1).f0.f1) != (wrap64 (x1_1 + 1))) = false := bne_eq_false_iff_eq.mpr c6
       clear c6
       replace H := Option.bind_eq_some_iff.mp H
       obtain ⟨t311, A70, H⟩ := H
       replace H : (if ((rd_T37 l0 x5_1).f1).toList = t311.toList then (laws_heldWayS.l0 k1 l0 (wrap64 ((wrap64 ((wrap64 (x1_1 + 1)) + 1)) + 1)) (wrap64 (x5_1 + 1))) else (some (-1))) = some r := H
       have A7 := Aiq A70
       clear A70
       by_cases c8 : ((rd_T37 l0 x5_1).f1).toList = t311.toList
       ·
        rw [if_pos c8] at H
        have c8b0 : (((rd_T37 l0 x5_1).f1).toList == t311.toList) = true := beq_iff_eq.mpr c8
        have c8b1 : (((rd_T37 l0 x5_1).f1).toList != t311.toList) = false := bne_eq_false_iff_eq.mpr c8
        clear c8
        have H' := Aiq H
        clear H
        have p308 : 0 ≤ (x5_1 : Int) := of_decide_eq_true Zi4
        have q308 : x5_1 < (l0.length : Int) := of_decide_eq_true Zi4
        obtain ⟨ad308, e308, hx308_0, hx308_1, hx308_2⟩ := at_T37 HR0.out x5_1 p308 q308
        cases e308
        replace hx308_0 := (HB.out.cell (World.block_lt_of_cell? w _ hx308_0)).trans hx308_0
        replace hx308_1 := (HB.out.cell (World.block_lt_of_cell? w _ hx308_1)).trans hx308_1
        replace hx308_2 := (HB.out.cell (World.block_lt_of_cell? w _ hx308_2)).trans hx308_2
        replace p308 := eq_true p308
        replace q308 := eq_true q308
        have p309 : 0 ≤ (x5_1 : Int) := of_decide_eq_true Zi4
        have q309 : x5_1 < (l0.length : Int) := of_decide_eq_true Zi4
        obtain ⟨ad309, e309, hx309_0, hx309_1, hx309_2⟩ := at_T37 HR0.out x5_1 p309 q309
        obtain rfl : ad308 = ad309 := (by injection e309)
        replace hx309_0 := (HB.out.cell (World.block_lt_of_cell? w _ hx309_0)).trans hx309_0
        replace hx309_1 := (HB.out.cell (World.block_lt_of_cell? w _ hx309_1)).trans hx309_1
        replace hx309_2 := (HB.out.cell (World.block_lt_of_cell? w _ hx309_2)).trans hx309_2
        replace p309 := eq_true p309
        replace q309 := eq_true q309
        try go_wp2
        have n0_ := Aiq (below_drew1 HB.out)
        clear HB
        have HB := n0_
        clear n0_
        have p310 : 0 ≤ (x5_1 : Int) := of_decide_eq_true Zi4
        have q310 : x5_1 < (l0.length : Int) := of_decide_eq_true Zi4
        obtain ⟨ad310, e310, hx310_0, hx310_1, hx310_2⟩ := at_T37 HR0.out x5_1 p310 q310
        have hw310_2 := hx310_2
        have hw310_1 := hx310_1
        have hw310_0 := hx310_0
        obtain rfl : ad308 = ad310 := (by injection e310)
        replace hx310_0 := (HB.out.cell (World.block_lt_of_cell? w _ hx310_0)).trans hx310_0
        replace hx310_1 := (HB.out.cell (World.block_lt_of_cell? w _ hx310_1)).trans hx310_1
        replace hx310_2 := (HB.out.cell (World.block_lt_of_cell? w _ hx310_2)).trans hx310_2
        replace p310 := eq_true p310
        replace q310 := eq_true q310
        refine start_ (n := 8) (S := fun w' => w'.cell? (ad308.add ((x5_1).toNat * 3)) = some (.int .i64 ((rd_T37 l0 x5_1).f0.f0)) ∧ w'.cell? ⟨(ad308.add ((x5_1).toNat * 3)).block, (ad308.add ((x5_1).toNat * 3)).off + 1, none⟩ = some (.int .i64 ((rd_T37 l0 x5_1).f0.f1)) ∧ w'.cell? ⟨(ad308.add ((x5_1).toNat * 3)).block, (ad308.add ((x5_1).toNat * 3)).off + 2, none⟩ = some (.string ((rd_T37 l0 x5_1).f1))) (ds := []) #[false, false, false, false, false, false, false, false] (by kernel_rfl) rfl rfl ⟨((HB.out.cell (World.block_lt_of_cell? w _ hw310_0)).trans hw310_0), ((HB.out.cell (World.block_lt_of_cell? w _ hw310_1)).trans hw310_1), ((HB.out.cell (World.block_lt_of_cell? w _ hw310_2)).trans hw310_2)⟩ (fun hHeld => ?_); refine with_tabW laws_heldWayS.tab10 laws_heldWayS.bits10 (fun HT_ HW_ => ?_)
        generalize wr.drew = w9 at HB hx310_0 hx310_1 hx310_2 hHeld ⊢
        refine pure_ (i := 0) (N := some 32) (v := ?_) (a' := ?_) #[true, false, false, false, false, false, false, false] rfl rfl (any_of HT_.out (by kernel_rfl)) (fun _ _ _ h => h) (Or.inl ⟨by rfl, ?_⟩) ?_ ?_
        rotate_left
        ·
         intro w'
         go_simp
         with_reducible rfl
        rotate_left
        ·
         simp only [Act.put, y1i, y2i, y3i, i64_w, i32_w]
         rfl
        refine pure_ (i := 1) (N := some 33) (v := ?_) (a' := ?_) #[true, true, false, false, false, false, false, false] rfl rfl (any_of HT_.out (by kernel_rfl)) (fun _ _ _ h => h) (Or.inl ⟨by rfl, ?_⟩) ?_ ?_
        rotate_left
        ·
         intro w'
         go_simp
         with_reducible rfl
        rotate_left
        ·
         simp only [Act.put, y1i, y2i, y3i, i64_w, i32_w]
         rfl
        refine pure_ (i := 2) (N := some 34) (v := ?_) (a' := ?_) #[true, true, true, false, false, false, false, false] rfl rfl (any_of HT_.out (by kernel_rfl)) (fun _ _ _ h => h) (Or.inl ⟨by rfl, ?_⟩) ?_ ?_
        rotate_left
        ·
         intro w'
         go_simp
         with_reducible rfl
        rotate_left
        ·
         simp only [Act.put, y1i, y2i, y3i, i64_w, i32_w]
         rfl
        refine pure_ (i := 3) (N := some 35) (v := ?_) (a' := ?_) #[true, true, true, true, false, false, false, false] rfl rfl (any_of HT_.out (by kernel_rfl)) (fun _ _ _ h => h) (Or.inl ⟨by rfl, ?_⟩) ?_ ?_
        rotate_left
        ·
         intro w'
         go_simp
         with_reducible rfl
        rotate_left
        ·
         simp only [Act.put, y1i, y2i, y3i, i64_w, i32_w]
         rfl
        refine pure_ (i := 5) (N := some 37) (v := ?_) (a' := ?_) #[true, true, true, true, false, true, false, false] rfl rfl (any_of HT_.out (by kernel_rfl)) (fun _ _ _ h => h) (Or.inl ⟨by rfl, ?_⟩) ?_ ?_
        rotate_left
        ·
         intro w'
         go_simp
         with_reducible rfl
        rotate_left
        ·
         simp only [Act.put, y1i, y2i, y3i, i64_w, i32_w]
         rfl
        refine take_ (i := 4) (N := some 36) (v := ?_) (a' := ?_) #[true, true, true, true, true, true, false, false] rfl rfl (take_ofW HT_.out HW_.out (by kernel_rfl)) (fun _ _ _ h => h) (Or.inl ⟨by rfl, ?_⟩) hHeld ?_ ?_
        rotate_left
        ·
         rintro w' ⟨s0, s1, s2⟩
         go_simp
         with_reducible rfl
        rotate_left
        ·
         simp only [Act.put, y1i, y2i, y3i, i64_w, i32_w]
         rfl
        refine one_ (i := 6) (N := some 38) #[true, true, true, true, true, true, true, false] rfl rfl (one_of HT_.out (by kernel_rfl)) (by decide) (fun K hK => ?_)
        refine goes_ Try.func29 (by kernel_rfl) rfl #[.int .i64 (wrap64 ((wrap64 (x1_1 + 1)) + 1))] (by rfl) rfl rfl Zi1 ?_
        with_reducible refine (laws_markText.calls k1 (wrap64 ((wrap64 (x1_1 + 1)) + 1)) t311 _ A7.out).mono ?_
        rintro e w10 ⟨rfl, hb⟩
        refine ⟨_, rfl, ?_⟩
        have n0_ := Aiq (below_step Zi2 hb)
        clear HB
        have HB := n0_
        clear n0_
        (try clear hb)
        refine hK.out _ _ ⟨((HB.out.cell (World.block_lt_of_cell? w _ hw310_0)).trans hw310_0), ((HB.out.cell (World.block_lt_of_cell? w _ hw310_1)).trans hw310_1), ((HB.out.cell (World.block_lt_of_cell? w _ hw310_2)).trans hw310_2)⟩ (fun hHeld => ?_)
        clear hK K
        refine norm_ (a' := ?_) ?_ ?_
        rotate_left
        ·
         show Act.put _ (some 38) _ = _
         simp only [Act.put, y1i, y2i, y3i, i64_w, i32_w]
         rfl
        refine pure_ (i := 7) (N := some 39) (v := ?_) (a' := ?_) #[true, true, true, true, true, true, true, true] rfl rfl (any_of HT_.out (by kernel_rfl)) (fun _ _ _ h => h) (Or.inl ⟨by rfl, ?_⟩) ?_ ?_
        rotate_left
        ·
         intro w'
         go_simp
         with_reducible rfl
        rotate_left
        ·
         simp only [Act.put, y1i, y2i, y3i, i64_w, i32_w]
         rfl
        refine done_ (done_of HT_.out (by kernel_rfl)) ?_
        try go_wp2
        go_roundg k1
        case measure => have := HK1.out; omega
        case rel => exact ⟨(wrap64 ((wrap64 ((wrap64 (x1_1 + 1)) + 1)) + 1)), (wrap64 (x5_1 + 1)), Zi3, Zi3, H', ⟨by have := HK1.out; omega⟩, ⟨Zbi⟩⟩
       ·
        rw [if_neg c8] at H
        have c8b0 : (((rd_T37 l0 x5_1).f1).toList == t311.toList) = false := beq_eq_false_iff_ne.mpr c8
        have c8b1 : (((rd_T37 l0 x5_1).f1).toList != t311.toList) = true := bne_iff_ne.mpr c8
        obtain rfl := Option.some.inj H
        have p308 : 0 ≤ (x5_1 : Int) := of_decide_eq_true Zi4
        have q308 : x5_1 < (l0.length : Int) := of_decide_eq_true Zi4
        obtain ⟨ad308, e308, hx308_0, hx308_1, hx308_2⟩ := at_T37 HR0.out x5_1 p308 q308
        cases e308
        replace hx308_0 := (HB.out.cell (World.block_lt_of_cell? w _ hx308_0)).trans hx308_0
        replace hx308_1 := (HB.out.cell (World.block_lt_of_cell? w _ hx308_1)).trans hx308_1
        replace hx308_2 := (HB.out.cell (World.block_lt_of_cell? w _ hx308_2)).trans hx308_2
        replace p308 := eq_true p308
        replace q308 := eq_true q308
        have p309 : 0 ≤ (x5_1 : Int) := of_decide_eq_true Zi4
        have q309 : x5_1 < (l0.length : Int) := of_decide_eq_true Zi4
        obtain ⟨ad309, e309, hx309_0, hx309_1, hx309_2⟩ := at_T37 HR0.out x5_1 p309 q309
        obtain rfl : ad308 = ad309 := (by injection e309)
        replace hx309_0 := (HB.out.cell (World.block_lt_of_cell? w _ hx309_0)).trans hx309_0
        replace hx309_1 := (HB.out.cell (World.block_lt_of_cell? w _ hx309_1)).trans hx309_1
        replace hx309_2 := (HB.out.cell (World.block_lt_of_cell? w _ hx309_2)).trans hx309_2
        replace p309 := eq_true p309
        replace q309 := eq_true q309
        try go_wp2
        have n0_ := Aiq (below_drew1 HB.out)
        clear HB
        have HB := n0_
        clear n0_
        have p310 : 0 ≤ (x5_1 : Int) := of_decide_eq_true Zi4
        have q310 : x5_1 < (l0.length : Int) := of_decide_eq_true Zi4
        obtain ⟨ad310, e310, hx310_0, hx310_1, hx310_2⟩ := at_T37 HR0.out x5_1 p310 q310
        have hw310_2 := hx310_2
        have hw310_1 := hx310_1
        have hw310_0 := hx310_0
        obtain rfl : ad308 = ad310 := (by injection e310)
        replace hx310_0 := (HB.out.cell (World.block_lt_of_cell? w _ hx310_0)).trans hx310_0
        replace hx310_1 := (HB.out.cell (World.block_lt_of_cell? w _ hx310_1)).trans hx310_1
        replace hx310_2 := (HB.out.cell (World.block_lt_of_cell? w _ hx310_2)).trans hx310_2
        replace p310 := eq_true p310
        replace q310 := eq_true q310
        refine start_ (n := 8) (S := fun w' => w'.cell? (ad308.add ((x5_1).toNat * 3)) = some (.int .i64 ((rd_T37 l0 x5_1).f0.f0)) ∧ w'.cell? ⟨(ad308.add ((x5_1).toNat * 3)).block, (ad308.add ((x5_1).toNat * 3)).off + 1, none⟩ = some (.int .i64 ((rd_T37 l0 x5_1).f0.f1)) ∧ w'.cell? ⟨(ad308.add ((x5_1).toNat * 3)).block, (ad308.add ((x5_1).toNat * 3)).off + 2, none⟩ = some (.string ((rd_T37 l0 x5_1).f1))) (ds := []) #[false, false, false, false, false, false, false, false] (by kernel_rfl) rfl rfl ⟨((HB.out.cell (World.block_lt_of_cell? w _ hw310_0)).trans hw310_0), ((HB.out.cell (World.block_lt_of_cell? w _ hw310_1)).trans hw310_1), ((HB.out.cell (World.block_lt_of_cell? w _ hw310_2)).trans hw310_2)⟩ (fun hHeld => ?_); refine with_tabW laws_heldWayS.tab10 laws_heldWayS.bits10 (fun HT_ HW_ => ?_)
        generalize wr.drew = w11 at HB hx310_0 hx310_1 hx310_2 hHeld ⊢
        refine pure_ (i := 0) (N := some 32) (v := ?_) (a' := ?_) #[true, false, false, false, false, false, false, false] rfl rfl (any_of HT_.out (by kernel_rfl)) (fun _ _ _ h => h) (Or.inl ⟨by rfl, ?_⟩) ?_ ?_
        rotate_left
        ·
         intro w'
         go_simp
         with_reducible rfl
        rotate_left
        ·
         simp only [Act.put, y1i, y2i, y3i, i64_w, i32_w]
         rfl
        refine pure_ (i := 1) (N := some 33) (v := ?_) (a' := ?_) #[true, true, false, false, false, false, false, false] rfl rfl (any_of HT_.out (by kernel_rfl)) (fun _ _ _ h => h) (Or.inl ⟨by rfl, ?_⟩) ?_ ?_
        rotate_left
        ·
         intro w'
         go_simp
         with_reducible rfl
        rotate_left
        ·
         simp only [Act.put, y1i, y2i, y3i, i64_w, i32_w]
         rfl
        refine pure_ (i := 2) (N := some 34) (v := ?_) (a' := ?_) #[true, true, true, false, false, false, false, false] rfl rfl (any_of HT_.out (by kernel_rfl)) (fun _ _ _ h => h) (Or.inl ⟨by rfl, ?_⟩) ?_ ?_
        rotate_left
        ·
         intro w'
         go_simp
         with_reducible rfl
        rotate_left
        ·
         simp only [Act.put, y1i, y2i, y3i, i64_w, i32_w]
         rfl
        refine pure_ (i := 3) (N := some 35) (v := ?_) (a' := ?_) #[true, true, true, true, false, false, false, false] rfl rfl (any_of HT_.out (by kernel_rfl)) (fun _ _ _ h => h) (Or.inl ⟨by rfl, ?_⟩) ?_ ?_
        rotate_left
        ·
         intro w'
         go_simp
         with_reducible rfl
        rotate_left
        ·
         simp only [Act.put, y1i, y2i, y3i, i64_w, i32_w]
         rfl
        refine pure_ (i := 5) (N := some 37) (v := ?_) (a' := ?_) #[true, true, true, true, false, true, false, false] rfl rfl (any_of HT_.out (by kernel_rfl)) (fun _ _ _ h => h) (Or.inl ⟨by rfl, ?_⟩) ?_ ?_
        rotate_left
        ·
         intro w'
         go_simp
         with_reducible rfl
        rotate_left
        ·
         simp only [Act.put, y1i, y2i, y3i, i64_w, i32_w]
         rfl
        refine take_ (i := 4) (N := some 36) (v := ?_) (a' := ?_) #[true, true, true, true, true, true, false, false] rfl rfl (take_ofW HT_.out HW_.out (by kernel_rfl)) (fun _ _ _ h => h) (Or.inl ⟨by rfl, ?_⟩) hHeld ?_ ?_
        rotate_left
        ·
         rintro w' ⟨s0, s1, s2⟩
         go_simp
         with_reducible rfl
        rotate_left
        ·
         simp only [Act.put, y1i, y2i, y3i, i64_w, i32_w]
         rfl
        refine one_ (i := 6) (N := some 38) #[true, true, true, true, true, true, true, false] rfl rfl (one_of HT_.out (by kernel_rfl)) (by decide) (fun K hK => ?_)
        refine goes_ Try.func29 (by kernel_rfl) rfl #[.int .i64 (wrap64 ((wrap64 (x1_1 + 1)) + 1))] (by rfl) rfl rfl Zi1 ?_
        with_reducible refine (laws_markText.calls k1 (wrap64 ((wrap64 (x1_1 + 1)) + 1)) t311 _ A7.out).mono ?_
        rintro e w12 ⟨rfl, hb⟩
        refine ⟨_, rfl, ?_⟩
        have n0_ := Aiq (below_step Zi2 hb)
        clear HB
        have HB := n0_
        clear n0_
        (try clear hb)
        refine hK.out _ _ ⟨((HB.out.cell (World.block_lt_of_cell? w _ hw310_0)).trans hw310_0), ((HB.out.cell (World.block_lt_of_cell? w _ hw310_1)).trans hw310_1), ((HB.out.cell (World.block_lt_of_cell? w _ hw310_2)).trans hw310_2)⟩ (fun hHeld => ?_)
        clear hK K
        refine norm_ (a' := ?_) ?_ ?_
        rotate_left
        ·
         show Act.put _ (some 38) _ = _
         simp only [Act.put, y1i, y2i, y3i, i64_w, i32_w]
         rfl
        refine pure_ (i := 7) (N := some 39) (v := ?_) (a' := ?_) #[true, true, true, true, true, true, true, true] rfl rfl (any_of HT_.out (by kernel_rfl)) (fun _ _ _ h => h) (Or.inl ⟨by rfl, ?_⟩) ?_ ?_
        rotate_left
        ·
         intro w'
         go_simp
         with_reducible rfl
        rotate_left
        ·
         simp only [Act.put, y1i, y2i, y3i, i64_w, i32_w]
         rfl
        refine done_ (done_of HT_.out (by kernel_rfl)) ?_
        try go_wp2
        go_ret
        exact ⟨Zri, Zbi⟩
      ·
       rw [if_neg c6] at H
       have c6b0 : (((rd_T37 l0 x5_1).f0.f1) == (wrap64 (x1_1 + 1))) = false := beq_eq_false_iff_ne.mpr c6
       have c6b1 : (((rd_T37 l0 x5_1).f0.f1) != (wrap64 (x1_1 + 1))) = true := bne_iff_ne.mpr c6
       obtain rfl := Option.some.inj H
       have p308 : 0 ≤ (x5_1 : Int) := of_decide_eq_true Zi4
       have q308 : x5_1 < (l0.length : Int) := of_decide_eq_true Zi4
       obtain ⟨ad308, e308, hx308_0, hx308_1, hx308_2⟩ := at_T37 HR0.out x5_1 p308 q308
       cases e308
       replace hx308_0 := (HB.out.cell (World.block_lt_of_cell? w _ hx308_0)).trans hx308_0
       replace hx308_1 := (HB.out.cell (World.block_lt_of_cell? w _ hx308_1)).trans hx308_1
       replace hx308_2 := (HB.out.cell (World.block_lt_of_cell? w _ hx308_2)).trans hx308_2
       replace p308 := eq_true p308
       replace q308 := eq_true q308
       have p309 : 0 ≤ (x5_1 : Int) := of_decide_eq_true Zi4
       have q309 : x5_1 < (l0.length : Int) := of_decide_eq_true Zi4
       obtain ⟨ad309, e309, hx309_0, hx309_1, hx309_2⟩ := at_T37 HR0.out x5_1 p309 q309
       obtain rfl : ad308 = ad309 := (by injection e309)
       replace hx309_0 := (HB.out.cell (World.block_lt_of_cell? w _ hx309_0)).trans hx309_0
       replace hx309_1 := (HB.out.cell (World.block_lt_of_cell? w _ hx309_1)).trans hx309_1
       replace hx309_2 := (HB.out.cell (World.block_lt_of_cell? w _ hx309_2)).trans hx309_2
       replace p309 := eq_true p309
       replace q309 := eq_true q309
       go_wp2
       go_ret
       exact ⟨Zri, Zbi⟩
     ·
      rw [if_neg c5] at H
      have c5b0 : (((rd_T37 l0 x5_1).f0.f0) == x1_1) = false := beq_eq_false_iff_ne.mpr c5
      have c5b1 : (((rd_T37 l0 x5_1).f0.f0) != x1_1) = true := bne_iff_ne.mpr c5
      obtain rfl := Option.some.inj H
      have p308 : 0 ≤ (x5_1 : Int) := of_decide_eq_true Zi4
      have q308 : x5_1 < (l0.length : Int) := of_decide_eq_true Zi4
      obtain ⟨ad308, e308, hx308_0, hx308_1, hx308_2⟩ := at_T37 HR0.out x5_1 p308 q308
      cases e308
      replace hx308_0 := (HB.out.cell (World.block_lt_of_cell? w _ hx308_0)).trans hx308_0
      replace hx308_1 := (HB.out.cell (World.block_lt_of_cell? w _ hx308_1)).trans hx308_1
      replace hx308_2 := (HB.out.cell (World.block_lt_of_cell? w _ hx308_2)).trans hx308_2
      replace p308 := eq_true p308
      replace q308 := eq_true q308
      go_wp2
      go_ret
      exact ⟨Zri, Zbi⟩
    ·
     rw [if_neg c4] at H
     exact absurd H (by simp)
   ·
    rw [if_neg c3] at H
    have c3b0 : decide (x5_1 < (l0.length : Int)) = false := decide_eq_false c3
    clear c3
    obtain rfl := Option.some.inj H
    go_wp2
    go_ret
    exact ⟨Zri, Zbi⟩

/-! ### laws_heldWaySS: function 9 -/
def laws_heldWaySS.l0 : Nat → List (List (S37)) → Int → Int → Option (Int)
  | 0, _, _, _ => none
  | k + 1, x0, x1, x5 => if x5 < (x0.length : Int) then (if 0 ≤ x5 then ((laws_heldWayS.f k (rd_L4 x0 x5) x1).bind fun t313 => (if t313 < 0 then (some (-1)) else (laws_heldWaySS.l0 k x0 t313 (wrap64 (x5 + 1))))) else (none)) else (some x1)
def laws_heldWaySS.f (k : Nat) (l0 : List (List (S37))) (a1 : Int) : Option (Int) := laws_heldWaySS.l0 k l0 a1 0
theorem laws_heldWaySS.mono_l : ∀ k, (∀ y0 y1 y2, LeO (laws_heldWaySS.l0 k y0 y1 y2) (laws_heldWaySS.l0 (k + 1) y0 y1 y2))
  | 0 => fun _ _ _ r h => by simp [laws_heldWaySS.l0] at h
  | k + 1 => by
    have ih0 := laws_heldWaySS.mono_l k
    · intro y0 y1 y2
      unfold laws_heldWaySS.l0
      repeat' first
      | (with_reducible exact ih0 _ _ _)
      | (with_reducible exact laws_heldWayS.mono _ _ _)
      | (with_reducible exact LeO.refl _)
      | (with_reducible exact LeO.none _)
      | (with_reducible refine LeO.ite ?_ ?_)
      | (with_reducible refine LeO.bind ?_ (fun _ => ?_))
      | exact ih0 _ _ _
      | exact laws_heldWayS.mono _ _ _
      | exact LeO.none _
      | refine LeO.ite ?_ ?_
      | refine LeO.bind ?_ (fun _ => ?_)
theorem laws_heldWaySS.mono : ∀ a0 a1 k, LeO (laws_heldWaySS.f k a0 a1) (laws_heldWaySS.f (k + 1) a0 a1) := by
  intro a0 a1 k
  have ih0 := laws_heldWaySS.mono_l k
  unfold laws_heldWaySS.f
  repeat' first
      | (with_reducible exact ih0 _ _ _)
      | (with_reducible exact laws_heldWayS.mono _ _ _)
      | (with_reducible exact LeO.refl _)
      | (with_reducible exact LeO.none _)
      | (with_reducible refine LeO.ite ?_ ?_)
      | (with_reducible refine LeO.bind ?_ (fun _ => ?_))
      | exact ih0 _ _ _
      | exact laws_heldWayS.mono _ _ _
      | exact LeO.none _
      | refine LeO.ite ?_ ?_
      | refine LeO.bind ?_ (fun _ => ?_)
set_option maxHeartbeats 8000000 in
set_option maxRecDepth 100000 in
theorem laws_heldWaySS.calls (k : Nat) (A0 : Option Addr) (c0 : Nat) (l0 : List (List (S37))) (a1 : Int) (r : Int) (w : World) (hr0 : Kd.C (Kd.slice 37 k37) w A0 l0.length l0) (hc0 : l0.length ≤ c0) (h : laws_heldWaySS.f k l0 a1 = some r) :
    Calls Try.prog 9 #[.slice A0 l0.length c0, .int .i64 a1] w fun e w' => e = .returned (.int .i64 r) ∧ Below w.heap.size w w' := by
 have HR0 := Aiq hr0
 have HC0 := Aiq hc0
 clear hr0 hc0
 have HB := Aiq (Below.refl w.heap.size w)
 have H : (laws_heldWaySS.l0 k l0 a1 0) = some r := h
 clear h
 have H' := Aiq H
 clear H
 go_enter Try.func9, Try.ntmps9
 go_wp2
 go_loopg [1, 5] k (fun kq v1 v5 w' => ∃ (x1_1 : Int) (x5_1 : Int), v1 = .int .i64 x1_1 ∧ v5 = .int .i64 x5_1 ∧ Aside0 (laws_heldWaySS.l0 kq l0 x1_1 x5_1 = some r) ∧ Aside0 (kq ≤ k) ∧ Aside0 (Below w.heap.size w w'))
 case atStart => exact ⟨(a1), (0), Zi3, Zi3, H', ⟨Nat.le_refl _⟩, ⟨Zbi⟩⟩
 case round =>
  clear H'
  try clear p2
  obtain ⟨x1_1, x5_1, rfl, rfl, HA, HK1, HB⟩ := hrel
  cases gk with
  | zero => exact absurd HA.out (by simp [laws_heldWaySS.l0])
  | succ k1 =>
   have H := HA.out
   clear HA
   simp only [laws_heldWaySS.l0] at H
   by_cases c3 : x5_1 < (l0.length : Int)
   ·
    rw [if_pos c3] at H
    have c3b0 : decide (x5_1 < (l0.length : Int)) = true := decide_eq_true c3
    clear c3
    by_cases c4 : 0 ≤ x5_1
    ·
     rw [if_pos c4] at H
     have c4b0 : decide (0 ≤ x5_1) = true := decide_eq_true c4
     clear c4
     replace H := Option.bind_eq_some_iff.mp H
     obtain ⟨t313, A50, H⟩ := H
     replace H : (if t313 < 0 then (some (-1)) else (laws_heldWaySS.l0 k1 l0 t313 (wrap64 (x5_1 + 1)))) = some r := H
     have A5 := Aiq A50
     clear A50
     by_cases c6 : t313 < 0
     ·
      rw [if_pos c6] at H
      have c6b0 : decide (t313 < 0) = true := decide_eq_true c6
      clear c6
      obtain rfl := Option.some.inj H
      have p312 : 0 ≤ (x5_1 : Int) := of_decide_eq_true Zi4
      have q312 : x5_1 < (l0.length : Int) := of_decide_eq_true Zi4
      obtain ⟨ad312, A312_0, c312_0, e312, hx312_0, hl312_0, hi312_0⟩ := at_L4 HR0.out x5_1 p312 q312
      cases e312
      replace hx312_0 := (HB.out.cell (World.block_lt_of_cell? w _ hx312_0)).trans hx312_0
      have HR312_0 := Aiq hi312_0
      have HC312_0 := Aiq hl312_0
      clear hi312_0 hl312_0
      replace p312 := eq_true p312
      replace q312 := eq_true q312
      go_wp2_with (first | ((with_reducible refine gate_callee (f := 18) rfl ?_); refine goesL_ (some 17) rfl rfl Try.func18 (by kernel_rfl) rfl #[.slice A312_0 (rd_L4 l0 x5_1).length c312_0, .int .i64 x1_1] rfl Zi1 ?_; (with_reducible refine (laws_heldWayS.calls k1 _ _ (rd_L4 l0 x5_1) x1_1 t313 _ ?side1 ?side2 A5.out).mono ?_); (case side1 => repeat (first | exact (Kd.C_below HR312_0.out HB.out) | (with_reducible refine Kd.C_alloc ?_ _) | (with_reducible refine Kd.C_drewN ?_ _) | (with_reducible refine Kd.C_drew ?_))); (case side2 => exact HC312_0.out); rintro e w7 ⟨rfl, hb⟩; refine ⟨_, rfl, ?_⟩; have n0_ := Aiq (below_step Zi2 hb); clear HB; have HB := n0_; clear n0_; (try clear hb)))
      go_ret
      exact ⟨Zri, Zbi⟩
     ·
      rw [if_neg c6] at H
      have c6b0 : decide (t313 < 0) = false := decide_eq_false c6
      clear c6
      have H' := Aiq H
      clear H
      have p312 : 0 ≤ (x5_1 : Int) := of_decide_eq_true Zi4
      have q312 : x5_1 < (l0.length : Int) := of_decide_eq_true Zi4
      obtain ⟨ad312, A312_0, c312_0, e312, hx312_0, hl312_0, hi312_0⟩ := at_L4 HR0.out x5_1 p312 q312
      cases e312
      replace hx312_0 := (HB.out.cell (World.block_lt_of_cell? w _ hx312_0)).trans hx312_0
      have HR312_0 := Aiq hi312_0
      have HC312_0 := Aiq hl312_0
      clear hi312_0 hl312_0
      replace p312 := eq_true p312
      replace q312 := eq_true q312
      go_wp2_with (first | ((with_reducible refine gate_callee (f := 18) rfl ?_); refine goesL_ (some 17) rfl rfl Try.func18 (by kernel_rfl) rfl #[.slice A312_0 (rd_L4 l0 x5_1).length c312_0, .int .i64 x1_1] rfl Zi1 ?_; (with_reducible refine (laws_heldWayS.calls k1 _ _ (rd_L4 l0 x5_1) x1_1 t313 _ ?side1 ?side2 A5.out).mono ?_); (case side1 => repeat (first | exact (Kd.C_below HR312_0.out HB.out) | (with_reducible refine Kd.C_alloc ?_ _) | (with_reducible refine Kd.C_drewN ?_ _) | (with_reducible refine Kd.C_drew ?_))); (case side2 => exact HC312_0.out); rintro e w8 ⟨rfl, hb⟩; refine ⟨_, rfl, ?_⟩; have n0_ := Aiq (below_step Zi2 hb); clear HB; have HB := n0_; clear n0_; (try clear hb)))
      go_roundg k1
      case measure => have := HK1.out; omega
      case rel => exact ⟨(t313), (wrap64 (x5_1 + 1)), Zi3, Zi3, H', ⟨by have := HK1.out; omega⟩, ⟨Zbi⟩⟩
    ·
     rw [if_neg c4] at H
     exact absurd H (by simp)
   ·
    rw [if_neg c3] at H
    have c3b0 : decide (x5_1 < (l0.length : Int)) = false := decide_eq_false c3
    clear c3
    obtain rfl := Option.some.inj H
    go_wp2
    go_ret
    exact ⟨Zri, Zbi⟩

end Go.Proofs.Ythlbbngmgioamaa.OFnExactAllPairsApart
