/- The program's count of ways between walls, a closure that calls itself over a map of what is known: it answers as the plain function. No condition. -/
import Derived.Test.YtoglhflnfkmkcaaCb0
import Derived.Test.YtoglhflnfkmkcaaWTab
import Derived.LoopTactic
import Derived.Maps.OwnSet
import Derived.Maps.Views
import Derived.WideKeyPair
import Derived.DeepKeys4
import Derived.Laws.EntriesVeiled
namespace Go.Proofs.Ytoglhflnfkmkcaa.Cb
open Go.Maps Go.WideMaps Go.RowKit Go.Proofs.YtoglhflnfkmkcaaW.PrintWords Go.Proofs.YtoglhflnfkmkcaaW.PrintLast Go.Proofs.Ytoglhflnfkmkcaa.Stub Go.Proofs.YtoglhflnfkmkcaaW.PrintMore
set_option linter.unusedVariables false
set_option linter.unusedSimpArgs false
theorem arr : ArrKey Try.prog 61 3 2 := ⟨Try.underlying61, by kernel_rfl, by kernel_rfl, by kernel_rfl⟩
theorem law : Keyed Try.prog 61 := Keyed.of_law (deep_law_laid (by kernel_rfl) (m := 2) (by omega) (of_decide_eq_true (by kernel_rfl)) (by kernel_rfl) (by rw [Try.underlying61]))
theorem zeroE (w : World) : (zeroValue 3).run Try.prog w = .ok (.int .i64 0) w := by kernel_rfl
theorem hsz : ∃ m, Try.prog.types.size = m + 1 := ⟨Try.prog.types.size - 1, by have : 0 < Try.prog.types.size := of_decide_eq_true (by kernel_rfl); omega⟩
def kl (u d : Int) : Lit := .string (keyBytes [.int .i64 u, .int .i64 d])
theorem hkey {u d : Int} (hu : (Lit.int .i64 u).wf = true) (hd : (Lit.int .i64 d).wf = true) : keyOf Try.prog 61 (.agg #[.int .i64 u, .int .i64 d]) = some (kl u d) := keyOf_pair arr Try.underlying3 hsz hu hd
theorem kl_inj {u d u' d' : Int} (hu : (Lit.int .i64 u).wf = true) (hd : (Lit.int .i64 d).wf = true) (hu' : (Lit.int .i64 u').wf = true) (hd' : (Lit.int .i64 d').wf = true) (e : kl u d = kl u' d') : u = u' ∧ d = d' := by
  have h1 := hkey hu hd
  rw [e] at h1
  have := law.inj h1 (hkey hu' hd')
  simp at this
  exact this
theorem betw_det {a b c e : Int} {k k' : Nat} {u d x y : Int} (h : betw a b c e k u d = some x) (h' : betw a b c e k' u d = some y) : x = y := by
  have up : ∀ (n m : Nat) (z : Int), betw a b c e n u d = some z → betw a b c e (n + m) u d = some z := by
    intro n m z hz
    induction m with
    | zero => exact hz
    | succ m ih => exact betw_mono a b c e (n + m) u d z ih
  have h1 := up k k' x h
  have h2 := up k' k y h'
  rw [Nat.add_comm] at h2
  rw [h1] at h2
  exact Option.some.inj h2
/-- What the map holds has been reckoned. -/
def Good (a b c e : Int) (D : DataW Unit) : Prop := ∀ u d : Int, (Lit.int .i64 u).wf = true → (Lit.int .i64 d).wf = true → Maps.has D (kl u d) = true → ∃ (x : Int) (k : Nat), D.atKey (kl u d) (.lit (.int .i64 0)) = .lit (.int .i64 x) ∧ betw a b c e k u d = some x
theorem good_put {a b c e : Int} {D : DataW Unit} (hD : IsMap D) (h : Good a b c e D) {u d v : Int} {k : Nat} (hu : (Lit.int .i64 u).wf = true) (hd : (Lit.int .i64 d).wf = true) (hv : betw a b c e k u d = some v) : Good a b c e (D.put (kl u d) (.lit (.int .i64 v))) := by
  intro u' d' hu' hd' hh
  by_cases g : kl u' d' = kl u d
  · obtain ⟨rfl, rfl⟩ := kl_inj hu' hd' hu hd g
    exact ⟨v, k, atKey_put_same hD (law.key (hkey hu hd)) _ _, hv⟩
  · rw [has_put_other g] at hh
    obtain ⟨x, k', h1, h2⟩ := h u' d' hu' hd' hh
    exact ⟨x, k', (atKey_put_other g _ _).trans h1, h2⟩
def ptr (b : Nat) : Value := .pointer (some ⟨b, 0, none⟩)
def fnv (b0 b1 b2 b3 bk bl : Nat) : Value := .func (.func 46) #[] #[ptr b0, ptr b1, ptr b2, ptr b3, ptr bk, ptr bl]
structure Inv (W : World) (ups downs low high : Int) (b0 b1 b2 b3 bk bl M : Nat) : Prop where
  c0 : W.cell? ⟨b0, 0, none⟩ = some (.int .i64 ups)
  c1 : W.cell? ⟨b1, 0, none⟩ = some (.int .i64 downs)
  c2 : W.cell? ⟨b2, 0, none⟩ = some (.int .i64 low)
  c3 : W.cell? ⟨b3, 0, none⟩ = some (.int .i64 high)
  ck : W.cell? ⟨bk, 0, none⟩ = some (.map (some M))
  cl : W.cell? ⟨bl, 0, none⟩ = some (fnv b0 b1 b2 b3 bk bl)
  n0 : b0 ≠ M
  n1 : b1 ≠ M
  n2 : b2 ≠ M
  n3 : b3 ≠ M
  nk : bk ≠ M
  nl : bl ≠ M
theorem cell_grown {W W' : World} {b M o : Nat} {v : Value} (h : W.cell? ⟨b, o, none⟩ = some v) (hg : W.grownBy W' (some M)) (hn : b ≠ M) : W'.cell? ⟨b, o, none⟩ = some v := by
  have hb : b < W.heap.size := World.block_lt_of_cell? W _ h
  have := hg.block b hb (by intro e; exact hn (Option.some.inj e))
  unfold World.cell? at h ⊢
  simp only at h ⊢
  rw [this]
  exact h
theorem Inv.grown {W W' : World} {ups downs low high : Int} {b0 b1 b2 b3 bk bl M : Nat} (h : Inv W ups downs low high b0 b1 b2 b3 bk bl M) (hg : W.grownBy W' (some M)) : Inv W' ups downs low high b0 b1 b2 b3 bk bl M :=
  ⟨cell_grown h.c0 hg h.n0, cell_grown h.c1 hg h.n1, cell_grown h.c2 hg h.n2, cell_grown h.c3 hg h.n3, cell_grown h.ck hg h.nk, cell_grown h.cl hg h.nl, h.n0, h.n1, h.n2, h.n3, h.nk, h.nl⟩

theorem inB_ (a0 a1 a2 : Int) (w : World) : Calls Try.prog 30 #[.int .i64 a0, .int .i64 a1, .int .i64 a2] w fun e w' => e = .returned (.bool (decide (a1 ≤ a0) && decide (a0 ≤ a2))) ∧ w' = w := by
  by_cases h1 : a1 ≤ a0
  · have h1' : decide (a1 ≤ a0) = true := decide_eq_true h1
    rw [h1']
    go_enter Try.func30, Try.ntmps30
    go_wp2
    go_ret
    exact ⟨by simp, rfl⟩
  · have h1' : decide (a1 ≤ a0) = false := decide_eq_false h1
    rw [h1']
    go_enter Try.func30, Try.ntmps30
    go_wp2
    go_ret
    exact ⟨by simp, rfl⟩
/-- The result of a call of the closure: the answer, the map reckoned further, all else as it was. -/
def Res (ups downs low high : Int) (M n : Nat) (v : Int) (W : World) (e : Ending) (W' : World) : Prop :=
  e = .returned (.int .i64 v) ∧ W.grownBy W' (some M) ∧ ∃ D' : DataW Unit, W'.ownsMap Try.prog 61 (plainElem Try.prog 3) M n D' ∧ Good ups downs low high D'
theorem w64 {n : Int} (h0 : -9223372036854775808 ≤ n) (h1 : n ≤ 9223372036854775807) : wrap64 n = n := by unfold wrap64; omega
/-- How many entries the map takes at most. -/
def pc : Nat → Nat
  | 0 => 1
  | m + 1 => 2 * pc m + 1
theorem pc_succ (m : Nat) : pc (m + 1) = 2 * pc m + 1 := rfl
theorem grown_drew (w : World) (r : Option Nat) : w.grownBy w.drew r := ⟨rfl, rfl, rfl, Nat.le_refl _, fun _ _ _ => rfl⟩
theorem cell_new0 (w : World) (x y : Value) (t : TypeId) : (w.alloc (.cells #[x, y] t)).cell? ⟨w.heap.size, 0, none⟩ = some x := by
  unfold World.cell?
  rw [(MapKept.heap_alloc w _).1]; rfl
theorem cell_new1 (w : World) (x y : Value) (t : TypeId) : (w.alloc (.cells #[x, y] t)).cell? ⟨w.heap.size, 1, none⟩ = some y := by
  unfold World.cell?
  rw [(MapKept.heap_alloc w _).1]; rfl
theorem wf41 {n : Int} (h0 : 0 ≤ n) (h1 : n ≤ 41) : (Lit.int .i64 n).wf = true := by
  unfold Lit.wf
  rw [Bool.and_eq_true]
  exact ⟨decide_eq_true (by show (-9223372036854775808 : Int) ≤ n; omega), decide_eq_true (by show n ≤ (9223372036854775807 : Int); omega)⟩
theorem hideW {P : Program} {c : Code} {Q : Exit → Act → World → Prop} {a : Act} {w : World} (S : World → Prop) (hS : S w) (h : ∀ w', S w' → c.wp P Q a w') : c.wp P Q a w := h w hS
theorem goesF_ {P : Program} {ops : Array Oper} {Q : Exit → Act → World → Prop} {oi : Oper} {N : Option Tmp} {a : Act} {w : World} {K : Act → World → Prop} {f : FuncId} {fn : Func} {lb : Array Value} {s : Tmp} {as_ : Array Operand} {ts : Array TypeId} (hf : P.funcs[f]? = some fn) (hname : (fn.name == "runtime.NumGoroutine") = false) (hb : fn.body.isSome = true) (args : Array Value)
    (hw : Region.wanted oi (yielded ops a.tmps) = true) (hN : oi.dst = N) (hop : oi.op = .call { callee := .value (.tmp s), args := as_, argTypes := ts }) (hv : a.eval (.tmp s) = .func (.func f) #[] lb) (hargs : as_.map a.eval ++ lb = args)
    (h : Calls P f args w fun e w' => ∃ v, e = .returned v ∧ K (a.put N v) w') : if Region.wanted oi (yielded ops a.tmps) = true then Oper.wp P oi a w K Q else K (a.put N undef) w := by
  refine call_ f args hw hN ?_ h
  have he := enters_ hf hname hb args w
  unfold execOp
  simp [hop, resolve, Deferred.ofValue, invoke, hv, hargs, he]
def T8 : Bool × List (List Nat × List Nat) := (true, [([], []), ([], []), ([1], [1]), ([], []), ([0, 2, 3], [0, 2, 3]), ([], []), ([], []), ([], []), ([7], [7]), ([5, 6, 8, 4], [5, 6, 8]), ([4, 9], [4, 9]), ([10, 9, 0, 1, 2, 3, 4, 5, 6, 7, 8, 9, 10], [10])])
def B8 : List Nat := [0, 0, 2, 0, 15, 0, 0, 0, 128, 511, 1023, 2047]
theorem tab8 : rtab .any (opsOf Try.f46 8) = T8 := by kernel_rfl
theorem bits8 : waitsOk T8.2 B8 = true := by kernel_rfl
/-- The closure answers for all that is at most so many steps away from the end. -/
def Left (ups downs low high : Int) (b0 b1 b2 b3 bk bl M m : Nat) : Prop := ∀ (u d v : Int) (k : Nat) (W : World) (n : Nat) (D : DataW Unit),
    0 ≤ u → u ≤ 41 → 0 ≤ d → d ≤ 41 → (u ≤ ups → d ≤ downs → (ups - u) + (downs - d) ≤ m) → betw ups downs low high k u d = some v → Inv W ups downs low high b0 b1 b2 b3 bk bl M →
    W.ownsMap Try.prog 61 (plainElem Try.prog 3) M n D → Good ups downs low high D → n + pc m ≤ 35184372088832 →
    Calls Try.prog 46 #[.int .i64 u, .int .i64 d, ptr b0, ptr b1, ptr b2, ptr b3, ptr bk, ptr bl] W fun e W' => Res ups downs low high M (n + pc m) v W e W'
set_option maxRecDepth 100000 in
set_option maxHeartbeats 4000000 in
theorem left_step (ups downs low high : Int) (b0 b1 b2 b3 bk bl M : Nat) (hU : 0 ≤ ups ∧ ups ≤ 40) (hDn : 0 ≤ downs ∧ downs ≤ 40) (hL : -40 ≤ low ∧ low ≤ 0) (hH : 0 ≤ high ∧ high ≤ 40) (m : Nat) (ih : ∀ m', m = m' + 1 → Left ups downs low high b0 b1 b2 b3 bk bl M m') : Left ups downs low high b0 b1 b2 b3 bk bl M m := by
  intro u d v k W n D hu0 hu1 hd0 hd1 hst hv hI hown hG hn
  cases k with
  | zero => cases hv
  | succ k =>
    have hi0 := hI.c0
    have hi1 := hI.c1
    have hi2 := hI.c2
    have hi3 := hI.c3
    have hik := hI.ck
    have hil := hI.cl
    have IH := Aside0.mk ih
    have HI := Aside0.mk hI
    have HO := Aside0.mk hown
    have HG := Aside0.mk hG
    have HV0 := Aside0.mk hv
    clear ih hI hown hG
    rw [betw, show wrap64 (u - d) = u - d from w64 (by omega) (by omega), show wrap64 (u + 1) = u + 1 from w64 (by omega) (by omega), show wrap64 (d + 1) = d + 1 from w64 (by omega) (by omega)] at hv
    by_cases c1 : ups < u
    · rw [if_pos c1] at hv
      obtain rfl := Option.some.inj hv
      have c1b : decide (ups < u) = true := decide_eq_true c1
      unfold ptr
      go_enter Try.func46, Try.ntmps46
      go_wp2
      go_ret
      exact ⟨rfl, World.grownBy.refl _ _, D, HO.out.mono (Nat.le_add_right _ _), HG.out⟩
    rw [if_neg c1] at hv
    have c1b : decide (ups < u) = false := decide_eq_false c1
    by_cases c2 : downs < d
    · rw [if_pos c2] at hv
      obtain rfl := Option.some.inj hv
      have c2b : decide (downs < d) = true := decide_eq_true c2
      unfold ptr
      go_enter Try.func46, Try.ntmps46
      go_wp2
      go_ret
      exact ⟨rfl, World.grownBy.refl _ _, D, HO.out.mono (Nat.le_add_right _ _), HG.out⟩
    rw [if_neg c2] at hv
    have c2b : decide (downs < d) = false := decide_eq_false c2
    by_cases c3 : low ≤ u - d ∧ u - d ≤ high
    · rw [if_pos c3] at hv
      have c3b : decide (low ≤ u - d) = true := decide_eq_true c3.1
      have c3c : decide (u - d ≤ high) = true := decide_eq_true c3.2
      by_cases c7 : u = ups ∧ d = downs
      · have c4a : (u == ups) = true := by simp [c7.1]
        have c5a : (d == downs) = true := by simp [c7.2]
        rw [if_pos c7] at hv
        obtain rfl := Option.some.inj hv
        clear c7 c3
        unfold ptr
        go_enter Try.func46, Try.ntmps46
        go_wp2_with (first | (go_at_call 30; refine (inB_ _ _ _ _).mono ?_; rintro e w' ⟨rfl, rfl⟩))
        go_ret
        exact ⟨rfl, World.grownBy.refl _ _, D, HO.out.mono (Nat.le_add_right _ _), HG.out⟩
      · rw [if_neg c7] at hv
        have HV := Aside0.mk hv
        have C7 := Aside0.mk c7
        clear hv c7 c3
        unfold ptr
        go_enter Try.func46, Try.ntmps46
        go_upto_region 3 with (first | (go_at_call 30; refine (inB_ _ _ _ _).mono ?_; rintro e w' ⟨rfl, hw'⟩; subst hw'))
        go_cut [38] from 31 to 38 (fun v38 wc => v38 = .bool false ∧ w' = wc)
        case first =>
          by_cases c4 : u = ups
          · have c4a : (u == ups) = true := by simp [c4]
            have c5a : (d == downs) = false := by have := C7.out; simp; intro h; exact this ⟨c4, h⟩
            clear c4
            go_wp2
            go_meet
            case rel => exact ⟨rfl, rfl⟩
          · have c4a : (u == ups) = false := by simp [c4]
            clear c4
            go_wp2
            go_meet
            case rel => exact ⟨rfl, rfl⟩
        case rest =>
          obtain ⟨rfl, rfl⟩ := hcut
          go_upto_region 6 with (fail)
          refine hideW (fun wx => Inv wx ups downs low high b0 b1 b2 b3 bk bl M ∧ wx.ownsMap Try.prog 61 (plainElem Try.prog 3) M n D ∧ w'.grownBy wx (some M) ∧ wx.cell? ⟨w'.heap.size, 0, none⟩ = some (.int .i64 u) ∧ wx.cell? ⟨w'.heap.size, 1, none⟩ = some (.int .i64 d) ∧ w'.heap.size ≠ M)
            ⟨HI.out.grown (World.grownBy_alloc _ _ _), HO.out.alloc _, World.grownBy_alloc _ _ _, cell_new0 _ _ _ _, cell_new1 _ _ _ _, Nat.ne_of_gt HO.out.lt⟩ ?_
          clear hi0 hi1 hi2 hi3 hik hil HI HO
          rintro wx ⟨hIx, hOx, hgx, hq0, hq1, hBM⟩
          generalize w'.heap.size = B at hq0 hq1 hBM ⊢
          have hik := hIx.ck
          have HIx := Aside0.mk hIx
          have HOx := Aside0.mk hOx
          have HGX := Aside0.mk hgx
          clear hIx hOx hgx
          have hwu := wf41 hu0 hu1
          have hwd := wf41 hd0 hd1
          go_upto_region 7 with (first | (at_lookup; refine wpList_lookup_own_ok_int _ rfl _ _ 60 rfl 61 3 .i64 law Try.underlying60 Try.underlying3 (zeroE _) M n D rfl HOx.out _ _ rfl (hkey hwu hwd) ?_; intro c hat hwc))
          by_cases has : Maps.has D (kl u d) = true
          · rw [has]
            obtain ⟨x, k', e1, e2⟩ := HG.out u d hwu hwd has
            rw [hat] at e1
            injection e1 with e1
            injection e1 with _ e1
            subst e1
            obtain rfl := betw_det HV0.out e2
            clear hat has
            go_wp2
            go_ret
            exact ⟨rfl, HGX.out, D, HOx.out.mono (Nat.le_add_right _ _), HG.out⟩
          have has' : Maps.has D (kl u d) = false := by simpa using has
          rw [has']
          clear has has' hat
          obtain ⟨x1, h1, H⟩ := Option.bind_eq_some_iff.mp HV.out
          obtain ⟨x2, h2, H⟩ := Option.bind_eq_some_iff.mp H
          have hv2 := Aside0.mk (Option.some.inj H)
          replace h1 := Aside0.mk h1
          replace h2 := Aside0.mk h2
          clear H HV
          have hm0 : m ≠ 0 := by
            intro e; subst e
            have h := hst (Int.not_lt.mp (of_decide_eq_false c1b)) (Int.not_lt.mp (of_decide_eq_false c2b))
            have p := Int.not_lt.mp (of_decide_eq_false c1b)
            have q := Int.not_lt.mp (of_decide_eq_false c2b)
            exact C7.out ⟨by omega, by omega⟩
          obtain ⟨m', hm'⟩ : ∃ m', m = m' + 1 := ⟨m - 1, by omega⟩
          have hus : u ≤ ups := Int.not_lt.mp (of_decide_eq_false c1b)
          have hds : d ≤ downs := Int.not_lt.mp (of_decide_eq_false c2b)
          have hstm : (ups - u) + (downs - d) ≤ ((m' + 1 : Nat) : Int) := by rw [← hm']; exact hst hus hds
          have HM := Aside0.mk hm'
          have HN := Aside0.mk hn
          clear hm' hm0 hst hn
          have hil := HIx.out.cl
          go_upto_region 8 with (fail)
          refine start_ (n := 12) (S := fun w_ => w_.cell? ⟨bl, 0, none⟩ = some (fnv b0 b1 b2 b3 bk bl)) (ds := []) #[false, false, false, false, false, false, false, false, false, false, false, false] (by kernel_rfl) rfl rfl hil (fun hHeld => ?_); refine with_tabW tab8 bits8 (fun HT_ HW_ => ?_)
          have HId : Aside0 (Inv wx.drew ups downs low high b0 b1 b2 b3 bk bl M) := Aside0.mk ⟨HIx.out.c0, HIx.out.c1, HIx.out.c2, HIx.out.c3, HIx.out.ck, HIx.out.cl, HIx.out.n0, HIx.out.n1, HIx.out.n2, HIx.out.n3, HIx.out.nk, HIx.out.nl⟩
          have HOd := Aside0.mk HOx.out.drew
          have HGd := Aside0.mk (HGX.out.trans (grown_drew wx _))
          have hr0 : wx.drew.cell? ⟨B, 0, none⟩ = some (.int .i64 u) := hq0
          have hr1 : wx.drew.cell? ⟨B, 1, none⟩ = some (.int .i64 d) := hq1
          clear hq0 hq1 hik hil HIx HOx HGX
          generalize wx.drew = wd at HId HOd HGd hr0 hr1 hHeld ⊢
          refine take_ (i := 0) (N := some 50) (v := ?_) (a' := ?_) #[true, false, false, false, false, false, false, false, false, false, false, false] rfl rfl (take_ofW HT_.out HW_.out (by kernel_rfl)) (fun _ _ _ h => h) (Or.inl ⟨by rfl, ?_⟩) hHeld ?_ ?_
          rotate_left
          · intro w_ s0
            go_simp
            with_reducible rfl
          rotate_left
          · simp only [Act.put, List.setIfInBounds_toArray, List.set_cons_zero, List.set_cons_succ, i64_w, i32_w]
            rfl
          refine pure_ (i := 1) (N := some 51) (v := ?_) (a' := ?_) #[true, true, false, false, false, false, false, false, false, false, false, false] rfl rfl (any_of HT_.out (by kernel_rfl)) (fun _ _ _ h => h) (Or.inl ⟨by rfl, ?_⟩) ?_ ?_
          rotate_left
          · intro w_
            go_simp
            with_reducible rfl
          rotate_left
          · simp only [Act.put, List.setIfInBounds_toArray, List.set_cons_zero, List.set_cons_succ, i64_w, i32_w]
            rfl
          refine pure_ (i := 2) (N := some 52) (v := ?_) (a' := ?_) #[true, true, true, false, false, false, false, false, false, false, false, false] rfl rfl (any_of HT_.out (by kernel_rfl)) (fun _ _ _ h => h) (Or.inl ⟨by rfl, ?_⟩) ?_ ?_
          rotate_left
          · intro w_
            go_simp
            with_reducible rfl
          rotate_left
          · simp only [Act.put, List.setIfInBounds_toArray, List.set_cons_zero, List.set_cons_succ, i64_w, i32_w]
            rfl
          refine pure_ (i := 3) (N := some 53) (v := ?_) (a' := ?_) #[true, true, true, true, false, false, false, false, false, false, false, false] rfl rfl (any_of HT_.out (by kernel_rfl)) (fun _ _ _ h => h) (Or.inl ⟨by rfl, ?_⟩) ?_ ?_
          rotate_left
          · intro w_
            go_simp
            with_reducible rfl
          rotate_left
          · simp only [Act.put, List.setIfInBounds_toArray, List.set_cons_zero, List.set_cons_succ, i64_w, i32_w]
            rfl
          refine take_ (i := 5) (N := some 55) (v := ?_) (a' := ?_) #[true, true, true, true, false, true, false, false, false, false, false, false] rfl rfl (take_ofW HT_.out HW_.out (by kernel_rfl)) (fun _ _ _ h => h) (Or.inl ⟨by rfl, ?_⟩) hHeld ?_ ?_
          rotate_left
          · intro w_ s0
            go_simp
            with_reducible rfl
          rotate_left
          · simp only [Act.put, List.setIfInBounds_toArray, List.set_cons_zero, List.set_cons_succ, i64_w, i32_w]
            rfl
          refine pure_ (i := 6) (N := some 56) (v := ?_) (a' := ?_) #[true, true, true, true, false, true, true, false, false, false, false, false] rfl rfl (any_of HT_.out (by kernel_rfl)) (fun _ _ _ h => h) (Or.inl ⟨by rfl, ?_⟩) ?_ ?_
          rotate_left
          · intro w_
            go_simp
            with_reducible rfl
          rotate_left
          · simp only [Act.put, List.setIfInBounds_toArray, List.set_cons_zero, List.set_cons_succ, i64_w, i32_w]
            rfl
          refine pure_ (i := 7) (N := some 57) (v := ?_) (a' := ?_) #[true, true, true, true, false, true, true, true, false, false, false, false] rfl rfl (any_of HT_.out (by kernel_rfl)) (fun _ _ _ h => h) (Or.inl ⟨by rfl, ?_⟩) ?_ ?_
          rotate_left
          · intro w_
            go_simp
            with_reducible rfl
          rotate_left
          · simp only [Act.put, List.setIfInBounds_toArray, List.set_cons_zero, List.set_cons_succ, i64_w, i32_w]
            rfl
          refine pure_ (i := 8) (N := some 58) (v := ?_) (a' := ?_) #[true, true, true, true, false, true, true, true, true, false, false, false] rfl rfl (any_of HT_.out (by kernel_rfl)) (fun _ _ _ h => h) (Or.inl ⟨by rfl, ?_⟩) ?_ ?_
          rotate_left
          · intro w_
            go_simp
            with_reducible rfl
          rotate_left
          · simp only [Act.put, List.setIfInBounds_toArray, List.set_cons_zero, List.set_cons_succ, i64_w, i32_w]
            rfl
          refine one_ (i := 4) (N := some 54) #[true, true, true, true, true, true, true, true, true, false, false, false] rfl rfl (one_of HT_.out (by kernel_rfl)) (by decide) (fun K hK => ?_)
          refine goesF_ (lb := #[ptr b0, ptr b1, ptr b2, ptr b3, ptr bk, ptr bl]) Try.func46 (by kernel_rfl) rfl #[.int .i64 (wrap64 (u + 1)), .int .i64 d, ptr b0, ptr b1, ptr b2, ptr b3, ptr bk, ptr bl] (by rfl) rfl rfl (by rfl) (by (try simp only [List.map_toArray, List.map_cons, List.map_nil, List.append_toArray, List.cons_append, List.nil_append]); first | done | rfl) ?_
          rw [show wrap64 (u + 1) = u + 1 from w64 (by omega) (by omega)]
          refine (IH.out m' HM.out (u + 1) d x1 k wd n D (by omega) (by omega) hd0 hd1 (fun _ _ => by omega) h1.out HId.out HOd.out HG.out (by have hn := HN.out; rw [HM.out, pc_succ] at hn; omega)).mono ?_
          rintro e w2 ⟨rfl, hg2, D2, HO2, HG2⟩
          refine ⟨_, rfl, ?_⟩
          have HI2 := HId.out.grown hg2
          refine hK.out _ _ HI2.cl (fun hHeld => ?_)
          clear hK K
          refine norm_ (a' := ?_) ?_ ?_
          rotate_left
          · show Act.put _ (some 54) _ = _
            simp only [Act.put, List.setIfInBounds_toArray, List.set_cons_zero, List.set_cons_succ, i64_w, i32_w]
            rfl
          refine one_ (i := 9) (N := some 59) #[true, true, true, true, true, true, true, true, true, true, false, false] rfl rfl (one_of HT_.out (by kernel_rfl)) (by decide) (fun K hK => ?_)
          refine goesF_ (lb := #[ptr b0, ptr b1, ptr b2, ptr b3, ptr bk, ptr bl]) Try.func46 (by kernel_rfl) rfl #[.int .i64 u, .int .i64 (wrap64 (d + 1)), ptr b0, ptr b1, ptr b2, ptr b3, ptr bk, ptr bl] (by rfl) rfl rfl (by rfl) (by (try simp only [List.map_toArray, List.map_cons, List.map_nil, List.append_toArray, List.cons_append, List.nil_append]); first | done | rfl) ?_
          rw [show wrap64 (d + 1) = d + 1 from w64 (by omega) (by omega)]
          refine (IH.out m' HM.out u (d + 1) x2 k w2 (n + pc m') D2 hu0 hu1 (by omega) (by omega) (fun _ _ => by omega) h2.out HI2 HO2 HG2 (by have hn := HN.out; rw [HM.out, pc_succ] at hn; omega)).mono ?_
          rintro e w3 ⟨rfl, hg3, D3, HO3, HG3⟩
          refine ⟨_, rfl, ?_⟩
          have HI3 := HI2.grown hg3
          refine hK.out _ _ HI3.cl (fun hHeld => ?_)
          clear hK K
          refine norm_ (a' := ?_) ?_ ?_
          rotate_left
          · show Act.put _ (some 59) _ = _
            simp only [Act.put, List.setIfInBounds_toArray, List.set_cons_zero, List.set_cons_succ, i64_w, i32_w]
            rfl
          refine pure_ (i := 10) (N := some 60) (v := ?_) (a' := ?_) #[true, true, true, true, true, true, true, true, true, true, true, false] rfl rfl (any_of HT_.out (by kernel_rfl)) (fun _ _ _ h => h) (Or.inl ⟨by rfl, ?_⟩) ?_ ?_
          rotate_left
          · intro w_
            go_simp
            with_reducible rfl
          rotate_left
          · simp only [Act.put, List.setIfInBounds_toArray, List.set_cons_zero, List.set_cons_succ, i64_w, i32_w]
            rfl
          refine pure_ (i := 11) (N := some 12) (v := ?_) (a' := ?_) #[true, true, true, true, true, true, true, true, true, true, true, true] rfl rfl (any_of HT_.out (by kernel_rfl)) (fun _ _ _ h => h) (Or.inl ⟨by rfl, ?_⟩) ?_ ?_
          rotate_left
          · intro w_
            go_simp
            with_reducible rfl
          rotate_left
          · simp only [Act.put, List.setIfInBounds_toArray, List.set_cons_zero, List.set_cons_succ, i64_w, i32_w]
            rfl
          refine done_ (done_of HT_.out (by kernel_rfl)) ?_
          have hik := HI3.ck
          have hr0 := cell_grown (cell_grown hr0 hg2 hBM) hg3 hBM
          have hr1 := cell_grown (cell_grown hr1 hg2 hBM) hg3 hBM
          have hil := HI3.cl
          go_wp2_with (first | (at_mapUpdate; refine wpList_mapUpdate_own _ rfl _ _ _ 60 rfl 61 3 law Try.underlying60 _ M (n + pc m' + pc m') D3 rfl HO3 (by have hn := HN.out; rw [HM.out, pc_succ] at hn; unfold maxLen; omega) _ _ _ rfl rfl (hkey hwu hwd) _ [] (plainElem_int Try.underlying3 (wrap64_wf _)) ?_; intro w4 hown4 hgrow4))
          go_ret
          refine ⟨by rw [← hv2.out]; rfl, ((HGd.out.trans hg2).trans hg3).trans hgrow4, _, hown4.mono (by rw [HM.out, pc_succ]; omega), ?_⟩
          have hv := HV0.out
          rw [← hv2.out] at hv
          exact good_put (by obtain ⟨_, _, _, _, _, hD⟩ := HO3; exact ⟨_, hD⟩) HG3 hwu hwd hv
    · rw [if_neg c3] at hv
      obtain rfl := Option.some.inj hv
      by_cases c6 : low ≤ u - d
      · have c6a : decide (low ≤ u - d) = true := decide_eq_true c6
        have c6b : decide (u - d ≤ high) = false := decide_eq_false (fun h => c3 ⟨c6, h⟩)
        clear c3 c6
        unfold ptr
        go_enter Try.func46, Try.ntmps46
        go_wp2_with (first | (go_at_call 30; refine (inB_ _ _ _ _).mono ?_; rintro e w' ⟨rfl, rfl⟩))
        go_ret
        exact ⟨rfl, World.grownBy.refl _ _, D, HO.out.mono (Nat.le_add_right _ _), HG.out⟩
      · have c6a : decide (low ≤ u - d) = false := decide_eq_false c6
        clear c3 c6
        unfold ptr
        go_enter Try.func46, Try.ntmps46
        go_wp2_with (first | (go_at_call 30; refine (inB_ _ _ _ _).mono ?_; rintro e w' ⟨rfl, rfl⟩))
        go_ret
        exact ⟨rfl, World.grownBy.refl _ _, D, HO.out.mono (Nat.le_add_right _ _), HG.out⟩

theorem left_all (ups downs low high : Int) (b0 b1 b2 b3 bk bl M : Nat) (hU : 0 ≤ ups ∧ ups ≤ 40) (hDn : 0 ≤ downs ∧ downs ≤ 40) (hL : -40 ≤ low ∧ low ≤ 0) (hH : 0 ≤ high ∧ high ≤ 40) : ∀ m, Left ups downs low high b0 b1 b2 b3 bk bl M m
  | 0 => left_step ups downs low high b0 b1 b2 b3 bk bl M hU hDn hL hH 0 (fun m' h => by omega)
  | m + 1 => left_step ups downs low high b0 b1 b2 b3 bk bl M hU hDn hL hH (m + 1) (fun m' e => (Nat.succ.inj e) ▸ left_all ups downs low high b0 b1 b2 b3 bk bl M hU hDn hL hH m)
theorem between_calls (ups downs low high : Int) (w : World) : Calls Try.prog 36 #[.int .i64 ups, .int .i64 downs, .int .i64 low, .int .i64 high] w fun e w' => ∃ b0 b1 b2 b3 bk bl M, e = .returned (.func (.func 46) #[] #[.pointer (some ⟨b0, 0, none⟩), .pointer (some ⟨b1, 0, none⟩), .pointer (some ⟨b2, 0, none⟩), .pointer (some ⟨b3, 0, none⟩), .pointer (some ⟨bk, 0, none⟩), .pointer (some ⟨bl, 0, none⟩)]) ∧ Inv w' ups downs low high b0 b1 b2 b3 bk bl M ∧
    w'.ownsMap Try.prog 61 (plainElem (H := Unit) Try.prog 3) M 0 (.map []) ∧ Below w.heap.size w w' ∧ w.heap.size ≤ M := by
  have hmm := @run_makeMap Try.prog
  go_enter Try.func36, Try.ntmps36
  go_wp2
  go_ret
  refine ⟨w.heap.size, w.heap.size + 1, w.heap.size + 1 + 1, w.heap.size + 1 + 1 + 1, w.heap.size + 1 + 1 + 1 + 1 + 1, w.heap.size + 1 + 1 + 1 + 1 + 1 + 1, w.heap.size + 1 + 1 + 1 + 1, rfl, ⟨?_, ?_, ?_, ?_, ?_, ?_, ?_, ?_, ?_, ?_, ?_, ?_⟩, ?_, ?_, ?_⟩
  any_goals omega
  · simp [go_sem]
  · simp [go_sem]
  · simp [go_sem]
  · simp [go_sem]
  · simp [go_sem]
  · simp [go_sem, fnv, ptr]
  · rw [show w.heap.size + 1 + 1 + 1 + 1 = ((((w.alloc (Obj.cells #[Value.int IntKind.i64 ups] 3)).alloc (Obj.cells #[Value.int IntKind.i64 downs] 3)).alloc (Obj.cells #[Value.int IntKind.i64 low] 3)).alloc (Obj.cells #[Value.int IntKind.i64 high] 3)).heap.size from by simp]
    exact ((World.ownsMap_made _ Try.prog 61 (plainElem Try.prog 3)).alloc _).alloc _
  · repeat (first | exact Below.refl _ _ | apply below_alloc)
theorem below_grown {w w1 w2 : World} {M : Nat} (h : Below w.heap.size w w1) (hg : w1.grownBy w2 (some M)) (hM : w.heap.size ≤ M) : Below w.heap.size w w2 :=
  ⟨hg.os.trans h.os, hg.tape.trans h.tape, hg.output.trans h.output, Nat.le_trans h.size hg.size, fun i hi => (hg.block i (Nat.lt_of_lt_of_le hi h.size) (by intro e; cases e; omega)).trans (h.block i hi)⟩
theorem steps_calls (a b : Int) (ha : 0 ≤ a ∧ a ≤ 40) (hb : 0 ≤ b ∧ b ≤ 40) (hs : a + b ≤ 40) (w : World) : Calls Try.prog 34 #[.int .i64 a, .int .i64 b] w fun e w' => e = .returned (.bool true) ∧ w' = w := by
  have h1 : decide (0 ≤ a) = true := decide_eq_true ha.1
  have h2 : decide (a ≤ 40) = true := decide_eq_true ha.2
  have h3 : decide (0 ≤ b) = true := decide_eq_true hb.1
  have h4 : decide (b ≤ 40) = true := decide_eq_true hb.2
  have h5 : decide (a + b ≤ 40) = true := decide_eq_true hs
  obtain ⟨a0, a1⟩ := ha
  obtain ⟨b0, b1⟩ := hb
  go_enter Try.func34, Try.ntmps34
  go_wp2_with (first | (go_at_call 30; refine (inB_ _ _ _ _).mono ?_; rintro e w' ⟨rfl, rfl⟩))
  go_ret
  exact ⟨rfl, rfl⟩
theorem walls_calls (a b : Int) (ha : -40 ≤ a ∧ a ≤ 0) (hb : 0 ≤ b ∧ b ≤ 40) (w : World) : Calls Try.prog 35 #[.int .i64 a, .int .i64 b] w fun e w' => e = .returned (.bool true) ∧ w' = w := by
  have h1 : decide (-40 ≤ a) = true := decide_eq_true ha.1
  have h2 : decide (a ≤ 0) = true := decide_eq_true ha.2
  have h3 : decide (0 ≤ b) = true := decide_eq_true hb.1
  have h4 : decide (b ≤ 40) = true := decide_eq_true hb.2
  go_enter Try.func35, Try.ntmps35
  go_wp2_with (first | (go_at_call 30; refine (inB_ _ _ _ _).mono ?_; rintro e w' ⟨rfl, rfl⟩))
  go_ret
  exact ⟨rfl, rfl⟩
theorem calls (k : Nat) (a0 a1 a2 a3 : Int) (r0 : Int) (r1 : Bool) (w : World) (h : impl_CountBetween.f k a0 a1 a2 a3 = some (r0, r1)) :
    Calls Try.prog 20 #[.int .i64 a0, .int .i64 a1, .int .i64 a2, .int .i64 a3] w fun e w' => e = .returned (.tuple #[.int .i64 r0, .bool r1]) ∧ Below w.heap.size w w' := by
  unfold impl_CountBetween.f at h
  by_cases c : 0 ≤ a0 ∧ a0 ≤ 40 ∧ 0 ≤ a1 ∧ a1 ≤ 40 ∧ a0 + a1 ≤ 40 ∧ -40 ≤ a2 ∧ a2 ≤ 0 ∧ 0 ≤ a3 ∧ a3 ≤ 40
  · rw [if_pos c] at h
    obtain ⟨n, hv, h⟩ := Option.bind_eq_some_iff.mp h
    injection h with h
    injection h with h h'
    subst h
    subst h'
    have C := Aside0.mk c
    have HV := Aside0.mk hv
    clear c hv
    go_enter Try.func20, Try.ntmps20
    go_wp2_with (first | (go_at_call 34; refine (steps_calls _ _ (by have := C.out; omega) (by have := C.out; omega) (by have := C.out; omega) _).mono ?_; rintro e w' ⟨rfl, hw⟩; subst hw) | (go_at_call 35; refine (walls_calls _ _ (by have := C.out; omega) (by have := C.out; omega) _).mono ?_; rintro e w' ⟨rfl, hw⟩; subst hw) | (go_at_call 36; refine (between_calls _ _ _ _ _).mono ?_; rintro e w1 ⟨b0, b1, b2, b3, bk, bl, M, rfl, hI, hO, hB, hM⟩; have HI := Aside0.mk hI; have HO := Aside0.mk hO; have HB := Aside0.mk hB; have HM := Aside0.mk hM; clear hI hO hB hM) | (go_at_call 46; refine (left_all a0 a1 a2 a3 b0 b1 b2 b3 bk bl M (by have := C.out; omega) (by have := C.out; omega) (by have := C.out; omega) (by have := C.out; omega) 40 0 0 n k w1 0 (.map []) (by omega) (by omega) (by omega) (by omega) (fun _ _ => by have := C.out; omega) HV.out HI.out HO.out (fun u d _ _ hh => by cases hh) (by decide)).mono ?_; rintro e w2 ⟨rfl, hg, _⟩))
    go_ret2
    exact ⟨rfl, below_grown HB.out hg HM.out⟩
  · rw [if_neg c] at h; cases h
end Go.Proofs.Ytoglhflnfkmkcaa.Cb
