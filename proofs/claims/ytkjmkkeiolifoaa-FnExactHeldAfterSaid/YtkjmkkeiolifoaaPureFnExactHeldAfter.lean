/- The chances to hold each amount behind so many games: told game by game on both sides, alike and without overflow; what is returned is memory of its own. No condition. -/
import Derived.Test.YtkjmkkeiolifoaaQFnExactHeldAfterx8
namespace Go.Proofs.Ytkjmkkeiolifoaa.Pure
open Go.RowKit Go.Proofs.Ytkjmkkeiolifoaa.QFnExactHeldAfter Go.Proofs.YtkjmkkeiolifoaaW.PrintWords Go.Proofs.YtkjmkkeiolifoaaW.PrintLast
set_option linter.unusedVariables false
set_option linter.unusedSimpArgs false
theorem w64 {n : Int} (h0 : -9223372036854775808 ≤ n) (h1 : n ≤ 9223372036854775807) : wrap64 n = n := by unfold wrap64; omega
theorem wf_bd {n : Int} (h : (Lit.int .i64 n).wf = true) : -9223372036854775808 ≤ n ∧ n ≤ 9223372036854775807 := by
  unfold Lit.wf at h
  rw [Bool.and_eq_true] at h
  exact ⟨of_decide_eq_true h.1, of_decide_eq_true h.2⟩

theorem in_eq (a b c : Int) : impl_in.f a b c = some (decide (b ≤ a ∧ a ≤ c)) := by
  unfold impl_in.f
  by_cases h1 : b ≤ a <;> by_cases h2 : a ≤ c <;> simp [h1, h2]
theorem l1In_eq (a b c : Int) : spec_l1In.f a b c = some (decide (b ≤ a ∧ a ≤ c)) := by
  unfold spec_l1In.f
  by_cases h1 : b ≤ a <;> by_cases h2 : a ≤ c <;> simp [h1, h2]

theorem tmod_nat (a b : Nat) : Int.tmod (a : Int) (b : Int) = ((a % b : Nat) : Int) := by
  rw [Int.tmod_eq_emod_of_nonneg (by omega)]; omega
theorem gcd_run : ∀ (n k a b : Nat), b ≤ n → n < k → impl_gcd.l0 k (a : Int) (b : Int) = some ((Nat.gcd a b : Nat) : Int) := by
  intro n
  induction n with
  | zero =>
    intro k a b hb hk
    obtain ⟨k, rfl⟩ : ∃ m, k = m + 1 := ⟨k - 1, by omega⟩
    obtain rfl : b = 0 := by omega
    simp [impl_gcd.l0]
  | succ n ih =>
    intro k a b hb hk
    obtain ⟨k, rfl⟩ : ∃ m, k = m + 1 := ⟨k - 1, by omega⟩
    simp only [impl_gcd.l0]
    by_cases h0 : b = 0
    · subst h0; simp
    · rw [if_neg (by omega), tmod_nat]
      have hlt : a % b < b := Nat.mod_lt _ (by omega)
      rw [ih k b (a % b) (by omega) (by omega)]
      congr 1; congr 1
      rw [Nat.gcd_comm a b, Nat.gcd_rec b a, Nat.gcd_comm]

theorem tmod_nat' (a b : Nat) : Int.tmod (a : Int) (b : Int) = ((a % b : Nat) : Int) := by
  rw [Int.tmod_eq_emod_of_nonneg (by omega)]; omega
theorem ruRatio_l0 : ∀ (n k : Nat) (x0 x1 : Int) (a b : Nat), b ≤ n → n < k → 0 < Nat.gcd a b →
    spec_ruRatio.l0 k x0 x1 (a : Int) (b : Int) = some (wrap64 (Int.tdiv x0 (Nat.gcd a b : Nat)), wrap64 (Int.tdiv x1 (Nat.gcd a b : Nat))) := by
  intro n
  induction n with
  | zero =>
    intro k x0 x1 a b hb hk hg
    obtain ⟨k, rfl⟩ : ∃ m, k = m + 1 := ⟨k - 1, by omega⟩
    obtain rfl : b = 0 := by omega
    simp only [Nat.gcd_zero_right] at hg ⊢
    simp only [spec_ruRatio.l0]
    rw [if_neg (by omega), if_neg (by omega)]
  | succ n ih =>
    intro k x0 x1 a b hb hk hg
    obtain ⟨k, rfl⟩ : ∃ m, k = m + 1 := ⟨k - 1, by omega⟩
    simp only [spec_ruRatio.l0]
    by_cases h0 : b = 0
    · subst h0
      simp only [Nat.gcd_zero_right] at hg ⊢
      rw [if_neg (by omega), if_neg (by omega)]
    · rw [if_pos (by omega), if_neg (by omega), tmod_nat']
      have hlt : a % b < b := Nat.mod_lt _ (by omega)
      have e : Nat.gcd a b = Nat.gcd b (a % b) := by rw [Nat.gcd_comm a b, Nat.gcd_rec b a, Nat.gcd_comm]
      rw [e] at hg ⊢
      exact ih k x0 x1 b (a % b) (by omega) (by omega) hg
theorem tdiv_bd (x : Int) (g : Nat) (h : -9223372036854775807 ≤ x) (h' : x ≤ 9223372036854775807) : wrap64 (Int.tdiv x (g : Int)) = Int.tdiv x (g : Int) := by
  have := Int.natAbs_tdiv_le_natAbs x (g : Int)
  exact w64 (by omega) (by omega)
/-- A fraction in lowest terms, by the reference: num of either sign, den at least 1. -/
theorem ruRatio_run (k : Nat) (num : Int) (den : Nat) (h : -9223372036854775807 ≤ num) (h' : num ≤ 9223372036854775807) (hd : 0 < den) (hd' : (den : Int) ≤ 9223372036854775807) (hk : den < k) :
    spec_ruRatio.f k num (den : Int) = some (Int.tdiv num (Nat.gcd num.natAbs den : Nat), Int.tdiv (den : Int) (Nat.gcd num.natAbs den : Nat)) := by
  unfold spec_ruRatio.f spec_l1Abs.f spec_l1Most.f
  rw [w64 (n := -num) (by omega) (by omega)]
  have e : (if num > -num then some num else some (-num)) = some ((num.natAbs : Nat) : Int) := by
    by_cases hp : num > -num
    · rw [if_pos hp]; congr 1; omega
    · rw [if_neg hp]; congr 1; omega
  rw [e]
  simp only [Option.bind_some]
  rw [ruRatio_l0 den k num (den : Int) num.natAbs den (Nat.le_refl _) hk (Nat.gcd_pos_of_pos_right _ hd), tdiv_bd _ _ h h', tdiv_bd _ _ (by omega) hd']

/-- Of a first number that is at least 1 the fraction is its own lowest terms just where the greatest divisor is 1. -/
theorem lowest_iff (a b : Nat) (hb : 0 < b) : ((Int.tdiv (a : Int) (Nat.gcd a b : Nat) == (a : Int)) && (Int.tdiv (b : Int) (Nat.gcd a b : Nat) == (b : Int))) = decide (((Nat.gcd a b : Nat) : Int) = 1) := by
  have hg : 0 < Nat.gcd a b := Nat.gcd_pos_of_pos_right _ hb
  rw [Int.tdiv_eq_ediv_of_nonneg (by omega), Int.tdiv_eq_ediv_of_nonneg (by omega)]
  generalize Nat.gcd a b = g at hg
  by_cases h : g = 1
  · subst h; simp
  · have h2 : (b : Int) / (g : Int) ≠ (b : Int) := by
      have : b / g < b := Nat.div_lt_self hb (by omega)
      rw [← Int.natCast_ediv]; omega
    have h3 : ¬ ((g : Int) = 1) := by omega
    simp [h2, h3]

def chB (a b : Int) : Bool := decide (2 ≤ b ∧ b ≤ 6 ∧ 1 ≤ a ∧ a < b ∧ Nat.gcd a.natAbs b.natAbs = 1)
theorem chB_bd {a b : Int} (h : chB a b = true) : 2 ≤ b ∧ b ≤ 6 ∧ 1 ≤ a ∧ a < b := by
  have := of_decide_eq_true h
  exact ⟨this.1, this.2.1, this.2.2.1, this.2.2.2.1⟩
theorem spec_ch (a b : Int) : spec_ruIs.f 1000000001 a b = some (chB a b) := by
  unfold spec_ruIs.f chB
  simp only [l1In_eq, Option.bind_some]
  by_cases hb : 2 ≤ b ∧ b ≤ 6
  · rw [if_pos (decide_eq_true hb), w64 (by omega) (by omega)]
    by_cases ha : 1 ≤ a ∧ a ≤ b - 1
    · rw [if_pos (decide_eq_true ha)]
      obtain ⟨n, rfl⟩ : ∃ n : Nat, b = (n : Int) := ⟨b.toNat, by omega⟩
      obtain ⟨m, rfl⟩ : ∃ m : Nat, a = (m : Int) := ⟨a.toNat, by omega⟩
      rw [ruRatio_run 1000000001 (m : Int) n (by omega) (by omega) (by omega) (by omega) (by omega)]
      simp only [Option.bind_some, Int.natAbs_natCast]
      rw [lowest_iff m n (by omega)]
      have : (((Nat.gcd m n : Nat) : Int) = 1) ↔ Nat.gcd m n = 1 := by omega
      congr 1
      simp only [this, decide_eq_decide]
      constructor
      · intro h; exact ⟨by omega, by omega, by omega, by omega, h⟩
      · intro h; exact h.2.2.2.2
    · rw [if_neg (by simpa using ha)]
      congr 1; symm; apply decide_eq_false; omega
  · rw [if_neg (by simpa using hb)]
    congr 1; symm; apply decide_eq_false; omega
theorem impl_ch (a b : Int) : impl_IsChance.f 1000000001 a b = some (chB a b) := by
  unfold impl_IsChance.f impl_isRatio.f impl_gcd.f chB
  simp only [in_eq, Option.bind_some]
  by_cases ha : 0 ≤ a ∧ a ≤ 1000000000
  · rw [if_pos (decide_eq_true ha)]
    by_cases hb : 1 ≤ b ∧ b ≤ 1000000000
    · rw [if_pos (decide_eq_true hb)]
      obtain ⟨n, rfl⟩ : ∃ n : Nat, b = (n : Int) := ⟨b.toNat, by omega⟩
      obtain ⟨m, rfl⟩ : ∃ m : Nat, a = (m : Int) := ⟨a.toNat, by omega⟩
      rw [gcd_run n 1000000001 m n (Nat.le_refl _) (by omega)]
      simp only [Option.bind_some, Int.natAbs_natCast]
      have e : (((Nat.gcd m n : Nat) : Int) == 1) = decide (Nat.gcd m n = 1) := by
        by_cases h : Nat.gcd m n = 1
        · simp [h]
        · have : ¬ (((Nat.gcd m n : Nat) : Int) = 1) := by omega
          simp [h, this]
      rw [e]
      by_cases hg : Nat.gcd m n = 1
      · rw [if_pos (decide_eq_true hg)]
        by_cases h1 : (m : Int) > 0
        · rw [if_pos h1]
          by_cases h2 : (m : Int) < n
          · rw [if_pos h2]
            congr 1
            rw [decide_eq_decide]
            constructor
            · intro h; exact ⟨by omega, by omega, by omega, by omega, hg⟩
            · intro h; exact h.2.1
          · rw [if_neg h2]; congr 1; symm; apply decide_eq_false; omega
        · rw [if_neg h1]; congr 1; symm; apply decide_eq_false; omega
      · rw [if_neg (by simpa using hg)]; congr 1; symm; apply decide_eq_false; exact fun h => hg h.2.2.2.2
    · rw [if_neg (by simpa using hb), Option.bind_some, if_neg (by simp)]; congr 1; symm; apply decide_eq_false; omega
  · rw [if_neg (by simpa using ha), Option.bind_some, if_neg (by simp)]; congr 1; symm; apply decide_eq_false; omega
/-- A look over all that fits: a table over small numbers, used at one place. -/
theorem look1 {p : Nat → Bool} {n : Nat} (h : (List.range n).all p = true) (i : Nat) (hi : i < n) : p i = true := by
  rw [List.all_eq_true] at h
  exact h i (by rw [List.mem_range]; exact hi)

def gmB (i g a b : Int) : Bool := decide ((1 ≤ g ∧ g ≤ 12) ∧ (0 ≤ i ∧ i ≤ g) ∧ chB a b = true)
theorem spec_gm (i g a b : Int) : spec_ruAsked.f 1000000001 i g a b = some (gmB i g a b) := by
  unfold spec_ruAsked.f gmB
  simp only [l1In_eq, Option.bind_some, spec_ch]
  by_cases hg : 1 ≤ g ∧ g ≤ 12
  · rw [if_pos (decide_eq_true hg)]
    by_cases hi : 0 ≤ i ∧ i ≤ g
    · rw [if_pos (decide_eq_true hi)]
      simp [hg, hi]
    · rw [if_neg (by simpa using hi)]; congr 1; symm; apply decide_eq_false; exact fun h => hi h.2.1
  · rw [if_neg (by simpa using hg)]; congr 1; symm; apply decide_eq_false; exact fun h => hg h.1
theorem impl_gm (i g a b : Int) : impl_isGame.f 1000000001 i g a b = some (gmB i g a b) := by
  unfold impl_isGame.f gmB
  simp only [in_eq, Option.bind_some, impl_ch]
  by_cases hg : 1 ≤ g ∧ g ≤ 12
  · rw [if_pos (decide_eq_true hg)]
    by_cases hi : 0 ≤ i ∧ i ≤ g
    · rw [if_pos (decide_eq_true hi)]
      simp [hg, hi]
    · rw [if_neg (by simpa using hi)]; congr 1; symm; apply decide_eq_false; exact fun h => hi h.2.1
  · rw [if_neg (by simpa using hg)]; congr 1; symm; apply decide_eq_false; exact fun h => hg h.1
theorem gm_bd {i g a b : Int} (h : gmB i g a b = true) : (1 ≤ g ∧ g ≤ 12) ∧ (0 ≤ i ∧ i ≤ g) ∧ (2 ≤ b ∧ b ≤ 6 ∧ 1 ≤ a ∧ a < b) := by
  have h := of_decide_eq_true h
  exact ⟨h.1, h.2.1, chB_bd h.2.2⟩

/- sums of lists of whole numbers that are none below 0 -/
theorem rd_mem {L : List Int} {i : Nat} (h : i < L.length) : rd L (i : Int) ∈ L := by
  unfold rd
  rw [Int.toNat_natCast, List.getD_eq_getElem?_getD, List.getElem?_eq_getElem h]
  exact List.getElem_mem h
theorem sum_nn : ∀ {L : List Int}, (∀ x ∈ L, 0 ≤ x) → 0 ≤ L.sum
  | [], _ => by simp
  | x :: L, h => by
    rw [List.sum_cons]
    have h1 := h x (by simp)
    have h2 := sum_nn (L := L) (fun y hy => h y (by simp [hy]))
    omega
theorem mem_le_sum : ∀ {L : List Int}, (∀ x ∈ L, 0 ≤ x) → ∀ x ∈ L, x ≤ L.sum
  | [], _, _, hx => by simp at hx
  | y :: L, h, x, hx => by
    rw [List.sum_cons]
    have h1 := h y (by simp)
    have h2 := sum_nn (L := L) (fun z hz => h z (by simp [hz]))
    rcases List.mem_cons.1 hx with rfl | hx
    · omega
    · have := mem_le_sum (L := L) (fun z hz => h z (by simp [hz])) x hx
      omega
theorem sum_set : ∀ (L : List Int) (i : Nat) (v : Int), i < L.length → (L.set i v).sum = L.sum - rd L (i : Int) + v
  | [], i, v, h => by simp at h
  | x :: L, 0, v, h => by simp [rd]; omega
  | x :: L, i + 1, v, h => by
    have ih := sum_set L i v (by simpa using h)
    rw [List.set_cons_succ, List.sum_cons, List.sum_cons, ih]
    have : rd (x :: L) ((i + 1 : Nat) : Int) = rd L (i : Int) := by unfold rd; simp only [Int.toNat_natCast, List.getD_cons_succ]
    rw [this]; omega
theorem nn_set {L : List Int} {i : Nat} {v : Int} (h : ∀ x ∈ L, 0 ≤ x) (hv : 0 ≤ v) : ∀ x ∈ L.set i v, 0 ≤ x := by
  intro x hx
  rcases List.mem_or_eq_of_mem_set hx with h' | rfl
  · exact h x h'
  · exact hv
theorem sum_drop {L : List Int} {h : Nat} (hl : h < L.length) : (L.drop h).sum = rd L (h : Int) + (L.drop (h + 1)).sum := by
  rw [List.drop_eq_getElem_cons hl, List.sum_cons]
  unfold rd
  rw [Int.toNat_natCast, List.getD_eq_getElem?_getD, List.getElem?_eq_getElem hl]
  rfl
theorem nn_drop {L : List Int} {h : Nat} (hn : ∀ x ∈ L, 0 ≤ x) : ∀ x ∈ L.drop h, 0 ≤ x := fun x hx => hn x (List.mem_of_mem_drop hx)
theorem nn_rep (n : Nat) : ∀ x ∈ List.replicate n (0 : Int), 0 ≤ x := by intro x hx; rw [List.mem_replicate] at hx; omega
theorem sum_rep (n : Nat) : (List.replicate n (0 : Int)).sum = 0 := by induction n with | zero => rfl | succ n ih => rw [List.replicate_succ, List.sum_cons, ih]; rfl

theorem rd_set_ne {L : List Int} {i j : Nat} {v : Int} (h : i ≠ j) : rd (L.set i v) (j : Int) = rd L (j : Int) := by
  unfold rd
  rw [Int.toNat_natCast, List.getD_eq_getElem?_getD, List.getD_eq_getElem?_getD, List.getElem?_set_ne h]
theorem wnext (h : Nat) (hh : h ≤ 1000) : wrap64 ((h : Int) + 1) = ((h + 1 : Nat) : Int) := by rw [w64 (by omega) (by omega)]; omega
theorem wprev (h : Nat) (h1 : 1 ≤ h) (hh : h ≤ 1000) : wrap64 ((h : Int) - 1) = ((h - 1 : Nat) : Int) := by rw [w64 (by omega) (by omega)]; omega
theorem put_eq {r p s q T : Int} (h0 : 0 ≤ r) (h1 : r ≤ s) (hp : 0 ≤ p) (hq : 0 ≤ q) (hs : s + (p + q) = T) (hT : T ≤ 1000000000000000) : wrap64 (r + wrap64 p) = r + p := by
  rw [w64 (n := p) (by omega) (by omega), w64 (by omega) (by omega)]
/-- One game: from place h on; what is spread stays the same in sum. -/
theorem game_round {g : Nat} (hg : 1 ≤ g) (hg' : g ≤ 12) {a b : Int} (ha : 1 ≤ a) (hab : a < b) (hb : b ≤ 6) {T : Int} (hT : T ≤ 1000000000000000) :
    ∀ (d h : Nat) (N now : List Int), h + d = g + 1 → N.length = g + 1 → now.length = g + 1 → (∀ x ∈ N, 0 ≤ x) → (∀ x ∈ now, 0 ≤ x) → N.sum + b * (now.drop h).sum = T →
    ∃ N' : List Int, N'.length = g + 1 ∧ (∀ x ∈ N', 0 ≤ x) ∧ N'.sum = T ∧
      (∀ (k : Nat) (x3 : Int), spec_ruHeld.l1 (k + d + 1) (g : Int) x3 N now ((g + 1 : Nat) : Int) (h : Int) a b = spec_ruHeld.l0 k (g : Int) (wrap64 (x3 - 1)) N' a b) ∧
      (∀ (k : Nat) (m j : Int), impl_held.l1 (k + d + 1) (g : Int) N m j now ((g + 1 : Nat) : Int) (h : Int) a b = impl_held.l0 k (g : Int) N' m (wrap64 (j + 1)) a b) := by
  intro d
  induction d with
  | zero =>
    intro h N now hd hN hnow nN nnow hs
    refine ⟨N, hN, nN, ?_, ?_, ?_⟩
    · have : now.drop h = [] := List.drop_of_length_le (by omega)
      rw [this] at hs; simpa using hs
    · intro k x3
      rw [show k + 0 + 1 = k + 1 from rfl]
      simp only [spec_ruHeld.l1]
      rw [if_neg (by omega)]
    · intro k m j
      rw [show k + 0 + 1 = k + 1 from rfl]
      simp only [impl_held.l1]
      rw [if_neg (by omega)]
  | succ d ih =>
    intro h N now hd hN hnow nN nnow hs
    have hlt : h < g + 1 := by omega
    have hx0 : 0 ≤ rd now (h : Int) := nnow _ (rd_mem (by omega))
    have hsd := sum_drop (L := now) (h := h) (by omega)
    have hr0 := sum_nn (nn_drop (h := h + 1) nnow)
    have hN0 := sum_nn nN
    generalize hxe : rd now (h : Int) = x at hx0 hsd
    have hbx : 0 ≤ b * x := Int.mul_nonneg (by omega) hx0
    have hbr : 0 ≤ b * (now.drop (h + 1)).sum := Int.mul_nonneg (by omega) hr0
    rw [hsd, Int.mul_add] at hs
    have hax : 0 ≤ a * x := Int.mul_nonneg (by omega) hx0
    have hcx : 0 ≤ (b - a) * x := Int.mul_nonneg (by omega) hx0
    have hsum : a * x + (b - a) * x = b * x := by rw [← Int.add_mul]; congr 1; omega
    by_cases hedge : h = 0 ∨ h = g
    · have hm := mem_le_sum nN _ (rd_mem (L := N) (i := h) (by omega))
      have hn := nN _ (rd_mem (L := N) (i := h) (by omega))
      obtain ⟨N', h1, h2, h3, h4, h5⟩ := ih (h + 1) (N.set h (rd N (h : Int) + b * x)) now (by omega) (by simpa using hN) hnow (nn_set nN (by omega)) nnow
        (by rw [sum_set _ _ _ (by omega)]; omega)
      refine ⟨N', h1, h2, h3, fun k x3 => ?_, fun k m j => ?_⟩
      · rw [← h4 k x3, show k + (d + 1) + 1 = (k + d + 1) + 1 from rfl]
        rw [spec_ruHeld.l1.eq_2]
        rw [if_pos (by omega), if_pos (by omega), if_pos (by omega)]
        rcases hedge with h0 | h0
        · rw [if_pos (by omega), if_pos (by omega), hxe, Int.mul_comm x b, put_eq hn hm hbx hbr hs hT, wnext h (by omega), Int.toNat_natCast]
        · rw [if_neg (by omega), if_pos (by omega), if_pos (by omega), hxe, Int.mul_comm x b, put_eq hn hm hbx hbr hs hT, wnext h (by omega), Int.toNat_natCast]
      · rw [← h5 k m j, show k + (d + 1) + 1 = (k + d + 1) + 1 from rfl]
        rw [impl_held.l1.eq_2]
        rw [if_pos (by omega), if_pos (by omega), if_pos (by omega)]
        rcases hedge with h0 | h0
        · rw [if_pos (by omega), if_pos (by omega), hxe, Int.mul_comm x b, put_eq hn hm hbx hbr hs hT, wnext h (by omega), Int.toNat_natCast]
        · rw [if_neg (by omega), if_pos (by omega), if_pos (by omega), hxe, Int.mul_comm x b, put_eq hn hm hbx hbr hs hT, wnext h (by omega), Int.toNat_natCast]
    · have hm1 := mem_le_sum nN _ (rd_mem (L := N) (i := h + 1) (by omega))
      have hn1 := nN _ (rd_mem (L := N) (i := h + 1) (by omega))
      have hm2 := mem_le_sum nN _ (rd_mem (L := N) (i := h - 1) (by omega))
      have hn2 := nN _ (rd_mem (L := N) (i := h - 1) (by omega))
      have er : rd (N.set (h + 1) (rd N ((h + 1 : Nat) : Int) + a * x)) ((h - 1 : Nat) : Int) = rd N ((h - 1 : Nat) : Int) := rd_set_ne (by omega)
      obtain ⟨N', h1, h2, h3, h4, h5⟩ := ih (h + 1) ((N.set (h + 1) (rd N ((h + 1 : Nat) : Int) + a * x)).set (h - 1) (rd N ((h - 1 : Nat) : Int) + (b - a) * x)) now (by omega) (by simpa using hN) hnow
        (nn_set (nn_set nN (by omega)) (by omega)) nnow
        (by rw [sum_set _ _ _ (by rw [List.length_set]; omega), er, sum_set _ _ _ (by omega)]; omega)
      refine ⟨N', h1, h2, h3, fun k x3 => ?_, fun k m j => ?_⟩
      · rw [← h4 k x3, show k + (d + 1) + 1 = (k + d + 1) + 1 from rfl]
        rw [spec_ruHeld.l1.eq_2]
        rw [if_pos (by omega), if_pos (by omega), if_pos (by omega), if_neg (by omega), if_neg (by omega), wnext h (by omega), wprev h (by omega) (by omega), w64 (n := b - a) (by omega) (by omega), if_pos (by omega), if_pos (by omega), hxe, Int.mul_comm x a, put_eq (q := (b - a) * x + b * (now.drop (h + 1)).sum) hn1 hm1 hax (by omega) (by rw [← Int.add_assoc (a * x), hsum]; exact hs) hT]
        simp only [Option.bind_some]
        rw [if_pos (by omega), if_pos (by omega), Int.toNat_natCast, Int.toNat_natCast, er, Int.mul_comm x (b - a), put_eq (q := a * x + b * (now.drop (h + 1)).sum) hn2 hm2 hcx (by omega) (by rw [← Int.add_assoc ((b - a) * x), Int.add_comm ((b - a) * x) (a * x), hsum]; exact hs) hT]
      · rw [← h5 k m j, show k + (d + 1) + 1 = (k + d + 1) + 1 from rfl]
        rw [impl_held.l1.eq_2]
        rw [if_pos (by omega), if_pos (by omega), if_pos (by omega), if_neg (by omega), if_neg (by omega), wnext h (by omega), wprev h (by omega) (by omega), w64 (n := b - a) (by omega) (by omega), if_pos (by omega), if_pos (by omega), hxe, Int.mul_comm x a, put_eq (q := (b - a) * x + b * (now.drop (h + 1)).sum) hn1 hm1 hax (by omega) (by rw [← Int.add_assoc (a * x), hsum]; exact hs) hT]
        simp only [Option.bind_some]
        rw [if_pos (by omega), if_pos (by omega), Int.toNat_natCast, Int.toNat_natCast, er, Int.mul_comm x (b - a), put_eq (q := a * x + b * (now.drop (h + 1)).sum) hn2 hm2 hcx (by omega) (by rw [← Int.add_assoc ((b - a) * x), Int.add_comm ((b - a) * x) (a * x), hsum]; exact hs) hT]
theorem pow_bd {b : Int} (hb : 2 ≤ b) (hb' : b ≤ 6) {n : Nat} (hn : n ≤ 18) : 1 ≤ b ^ n ∧ b ^ n ≤ 101559956668416 := by
  have h : (List.range 19).all (fun n => decide (1 ≤ (2 : Int) ^ n ∧ (2 : Int) ^ n ≤ 101559956668416) && decide (1 ≤ (3 : Int) ^ n ∧ (3 : Int) ^ n ≤ 101559956668416) && decide (1 ≤ (4 : Int) ^ n ∧ (4 : Int) ^ n ≤ 101559956668416)
    && decide (1 ≤ (5 : Int) ^ n ∧ (5 : Int) ^ n ≤ 101559956668416) && decide (1 ≤ (6 : Int) ^ n ∧ (6 : Int) ^ n ≤ 101559956668416)) = true := by decide +kernel
  rw [List.all_eq_true] at h
  have h := h n (by rw [List.mem_range]; omega)
  simp only [Bool.and_eq_true, decide_eq_true_eq] at h
  rcases (by omega : b = 2 ∨ b = 3 ∨ b = 4 ∨ b = 5 ∨ b = 6) with rfl | rfl | rfl | rfl | rfl
  · exact h.1.1.1.1
  · exact h.1.1.1.2
  · exact h.1.1.2
  · exact h.1.2
  · exact h.2
theorem games_run {g : Nat} (hg : 1 ≤ g) (hg' : g ≤ 12) {a b : Int} (ha : 1 ≤ a) (hab : a < b) (hb : b ≤ 6) {n : Nat} (hn : n ≤ 18) :
    ∀ (m : Nat) (now : List Int), m ≤ n → now.length = g + 1 → (∀ x ∈ now, 0 ≤ x) → now.sum = b ^ (n - m) →
    ∃ L : List Int, L.length = g + 1 ∧ (∀ x ∈ L, 0 ≤ x) ∧ L.sum = b ^ n ∧
      (∀ k, spec_ruHeld.l0 (k + m * (g + 3) + 1) (g : Int) (m : Int) now a b = some L) ∧
      (∀ k, impl_held.l0 (k + m * (g + 3) + 1) (g : Int) now (n : Int) ((n - m : Nat) : Int) a b = some L) := by
  intro m
  induction m with
  | zero =>
    intro now hm hl hnn hs
    refine ⟨now, hl, hnn, by simpa using hs, fun k => ?_, fun k => ?_⟩
    · simp only [spec_ruHeld.l0]; rw [if_neg (by omega)]
    · simp only [impl_held.l0]; rw [if_neg (by omega)]
  | succ m ih =>
    intro now hm hl hnn hs
    have hp := pow_bd (b := b) (by omega) hb (n := n - m) (by omega)
    have e : b ^ (n - m) = b * now.sum := by rw [hs, show n - m = (n - (m + 1)) + 1 by omega, Int.pow_succ, Int.mul_comm]
    obtain ⟨N', h1, h2, h3, h4, h5⟩ := game_round hg hg' ha hab hb (T := b ^ (n - m)) (by omega) (g + 1) 0 (List.replicate (g + 1) 0) now (by omega) (by simp) hl (nn_rep _) hnn (by rw [sum_rep, List.drop_zero, e]; omega)
    obtain ⟨L, l1, l2, l3, l4, l5⟩ := ih N' (by omega) h1 h2 h3
    refine ⟨L, l1, l2, l3, fun k => ?_, fun k => ?_⟩
    · have hk : k + (m + 1) * (g + 3) + 1 = ((k + m * (g + 3) + 1) + (g + 1) + 1) + 1 := by rw [Nat.add_mul]; omega
      rw [hk]
      rw [spec_ruHeld.l0.eq_2]
      rw [if_pos (by omega), wnext g (by omega), if_pos (by omega), if_pos (by omega), Int.toNat_natCast, hl]
      have := h4 (k + m * (g + 3) + 1) ((m + 1 : Nat) : Int)
      rw [show ((0 : Nat) : Int) = 0 from rfl] at this
      rw [this, show wrap64 (((m + 1 : Nat) : Int) - 1) = (m : Int) by rw [w64 (by omega) (by omega)]; omega]
      exact l4 k
    · have hk : k + (m + 1) * (g + 3) + 1 = ((k + m * (g + 3) + 1) + (g + 1) + 1) + 1 := by rw [Nat.add_mul]; omega
      rw [hk]
      rw [impl_held.l0.eq_2]
      rw [if_pos (by omega), wnext g (by omega), if_pos (by omega), if_pos (by omega), Int.toNat_natCast, hl]
      have := h5 (k + m * (g + 3) + 1) (n : Int) ((n - (m + 1) : Nat) : Int)
      rw [show ((0 : Nat) : Int) = 0 from rfl] at this
      rw [this, show wrap64 (((n - (m + 1) : Nat) : Int) + 1) = ((n - m : Nat) : Int) by rw [w64 (by omega) (by omega)]; omega]
      exact l5 k
theorem held_run {i g : Nat} (hg : 1 ≤ g) (hg' : g ≤ 12) (hi : i ≤ g) {a b : Int} (ha : 1 ≤ a) (hab : a < b) (hb : b ≤ 6) {n : Nat} (hn : n ≤ 18) :
    ∃ L : List Int, L.length = g + 1 ∧ (∀ x ∈ L, 0 ≤ x) ∧ L.sum = b ^ n ∧ (∀ k, 1000 ≤ k → spec_ruHeld.f k (i : Int) (g : Int) a b (n : Int) = some L) ∧ (∀ k, 1000 ≤ k → impl_held.f k (i : Int) (g : Int) a b (n : Int) = some L) := by
  obtain ⟨L, h1, h2, h3, h4, h5⟩ := games_run hg hg' ha hab hb hn n ((List.replicate (g + 1) 0).set i 1) (Nat.le_refl _) (by simp) (nn_set (nn_rep _) (by omega))
    (by rw [sum_set _ _ _ (by simp; omega), sum_rep]; unfold rd; rw [Int.toNat_natCast, List.getD_eq_getElem?_getD, List.getElem?_replicate_of_lt (by omega)]; simp)
  have hf : n * (g + 3) + 1 ≤ 1000 := by
    have := Nat.mul_le_mul hn (show g + 3 ≤ 15 by omega)
    omega
  refine ⟨L, h1, h2, h3, fun k hk => ?_, fun k hk => ?_⟩
  · unfold spec_ruHeld.f
    rw [wnext g (by omega), if_pos (by omega), if_pos (by omega)]
    simp only [Option.bind_some, Int.toNat_natCast, List.length_replicate]
    rw [if_pos (by omega), if_pos (by omega)]
    have := h4 (k - (n * (g + 3) + 1))
    rw [show k - (n * (g + 3) + 1) + n * (g + 3) + 1 = k by omega] at this
    exact this
  · unfold impl_held.f
    rw [wnext g (by omega), if_pos (by omega), if_pos (by omega)]
    simp only [Option.bind_some, Int.toNat_natCast, List.length_replicate]
    rw [if_pos (by omega), if_pos (by omega)]
    have := h5 (k - (n * (g + 3) + 1))
    rw [show k - (n * (g + 3) + 1) + n * (g + 3) + 1 = k by omega, Nat.sub_self] at this
    exact this

theorem mx_abs (a : Int) : mx a (-a) = ((a.natAbs : Nat) : Int) := by
  unfold mx
  by_cases h : a < -a
  · rw [if_pos h]; omega
  · rw [if_neg h]; omega
/-- A fraction in lowest terms, by the program: num of either sign, den at least 1. -/
theorem ratio_run (k : Nat) (num : Int) (den : Nat) (h : -9223372036854775807 ≤ num) (h' : num ≤ 9223372036854775807) (hd : 0 < den) (hd' : (den : Int) ≤ 9223372036854775807) (hk : den < k) :
    impl_ratio.f k num (den : Int) = some (Int.tdiv num (Nat.gcd num.natAbs den : Nat), Int.tdiv (den : Int) (Nat.gcd num.natAbs den : Nat)) := by
  unfold impl_ratio.f impl_gcd.f
  have hg := Nat.gcd_pos_of_pos_right num.natAbs hd
  rw [w64 (n := -num) (by omega) (by omega), w64 (n := -(den : Int)) (by omega) (by omega), mx_abs, mx_abs, Int.natAbs_natCast, gcd_run den k num.natAbs den (Nat.le_refl _) hk]
  simp only [Option.bind_some]
  rw [if_neg (by omega), if_neg (by omega), tdiv_bd _ _ h h', tdiv_bd _ _ (by omega) hd']

def prB (i g a b n : Int) : Bool := gmB i g a b && decide (0 ≤ n ∧ n ≤ 18)
theorem spec_pr (i g a b n : Int) {k : Nat} (hk : 1000000001 ≤ k) : spec_ruTimes.f k i g a b n = some (prB i g a b n) := by
  unfold spec_ruTimes.f prB
  rw [at_rounds (spec_ruAsked.mono i g a b) hk (spec_gm i g a b)]
  simp only [l1In_eq, Option.bind_some]
  cases gmB i g a b <;> simp
theorem impl_pr (i g a b n : Int) {k : Nat} (hk : 1000000001 ≤ k) : impl_isPart.f k i g a b n = some (prB i g a b n) := by
  unfold impl_isPart.f prB
  rw [at_rounds (impl_isGame.mono i g a b) hk (impl_gm i g a b)]
  simp only [in_eq, Option.bind_some]
  cases gmB i g a b <;> simp
theorem pr_bd {i g a b n : Int} (h : prB i g a b n = true) : ((1 ≤ g ∧ g ≤ 12) ∧ (0 ≤ i ∧ i ≤ g) ∧ (2 ≤ b ∧ b ≤ 6 ∧ 1 ≤ a ∧ a < b)) ∧ (0 ≤ n ∧ n ≤ 18) := by
  unfold prB at h
  rw [Bool.and_eq_true] at h
  exact ⟨gm_bd h.1, of_decide_eq_true h.2⟩
set_option maxRecDepth 100000 in
theorem pow_tab : (List.range 5).all (fun b => (List.range 19).all fun n => (spec_ruPower.f 60 ((b : Int) + 2) (n : Int) == some (((b : Int) + 2) ^ n)) && (impl_power.f 60 ((b : Int) + 2) (n : Int) == some (((b : Int) + 2) ^ n))) = true := by decide +kernel
theorem pow_run {b : Int} {n : Nat} (hb : 2 ≤ b) (hb' : b ≤ 6) (hn : n ≤ 18) {k : Nat} (hk : 60 ≤ k) : spec_ruPower.f k b (n : Int) = some (b ^ n) ∧ impl_power.f k b (n : Int) = some (b ^ n) := by
  have t := look1 (look1 pow_tab (b - 2).toNat (by omega)) n (by omega)
  rw [show (((b - 2).toNat : Int) + 2) = b by omega, Bool.and_eq_true] at t
  exact ⟨at_rounds (spec_ruPower.mono b n) hk (eq_of_beq t.1), at_rounds (impl_power.mono b n) hk (eq_of_beq t.2)⟩
/-- What both make of a part of all ways: the same fraction. -/
theorem same_ratio {x : Int} {b : Int} {n : Nat} (hb : 2 ≤ b) (hb' : b ≤ 6) (hn : n ≤ 18) (hx : 0 ≤ x) (hx' : x ≤ b ^ n) {k : Nat} (hk : 1000000000000000 ≤ k) :
    ∃ r, spec_ruRatio.f k x (b ^ n) = some r ∧ impl_ratio.f k x (b ^ n) = some r := by
  have hp := pow_bd hb hb' hn
  obtain ⟨m, hm⟩ : ∃ m : Nat, b ^ n = (m : Int) := ⟨(b ^ n).toNat, by omega⟩
  rw [hm] at hp hx' ⊢
  exact ⟨_, ruRatio_run k x m (by omega) (by omega) (by omega) (by omega) (by omega), ratio_run k x m (by omega) (by omega) (by omega) (by omega) (by omega)⟩

/- lists of ratios: marked, told anew, compared with themselves -/
theorem w1 (n : Nat) (h : n ≤ 100000) : wrap64 ((n : Int) + 1) = ((n + 1 : Nat) : Int) := by rw [w64 (by omega) (by omega)]; omega
theorem eqR_self (L : List (S24)) (hl : L.length ≤ 1000) : ∀ (d i k : Nat), i + d = L.length → d < k → laws_eqRatioS.l0 k L L (i : Int) = some true := by
  intro d
  induction d with
  | zero =>
    intro i k hd hk
    obtain ⟨k, rfl⟩ : ∃ m, k = m + 1 := ⟨k - 1, by omega⟩
    rw [laws_eqRatioS.l0.eq_2, if_neg (by omega)]
  | succ d ih =>
    intro i k hd hk
    obtain ⟨k, rfl⟩ : ∃ m, k = m + 1 := ⟨k - 1, by omega⟩
    rw [laws_eqRatioS.l0.eq_2, if_pos (by omega), if_pos (by omega), if_pos (by omega)]
    unfold laws_eqRatio.f
    rw [if_pos rfl, if_pos rfl, Option.bind_some, if_pos rfl, w1 i (by omega)]
    exact ih (i + 1) k (by omega) (by omega)
theorem eqR_run (L : List (S24)) (hl : L.length ≤ 1000) {k : Nat} (hk : 1000 < k) : laws_eqRatioS.f k L L = some true := by
  unfold laws_eqRatioS.f
  rw [if_pos rfl]
  have := eqR_self L hl L.length 0 k (by omega) (by omega)
  exact this
theorem rd24_get {L : List (S24)} {i : Nat} (h : i < L.length) : rd_T24 L (i : Int) = L[i] := by
  unfold rd_T24
  rw [Int.toNat_natCast, List.getD_eq_getElem?_getD, List.getElem?_eq_getElem h]; rfl
def mk24 (m i : Nat) : S24 := ⟨((m + 2 * i : Nat) : Int), ((m + 2 * i + 1 : Nat) : Int)⟩
theorem markR_run (m : Nat) (hm : m ≤ 1000) : ∀ (d i k : Nat) (L : List (S24)), i + d = L.length → L.length ≤ 1000 → d < k →
    ∃ L', laws_markRatioS.l0 k L ((m + 2 * i : Nat) : Int) (i : Int) = some (((m + 2 * L.length : Nat) : Int), L') ∧ L'.length = L.length ∧ (∀ j, j < i → L'[j]? = L[j]?) ∧ (∀ j, i ≤ j → j < L.length → L'[j]? = some (mk24 m j)) := by
  intro d
  induction d with
  | zero =>
    intro i k L hd hl hk
    obtain ⟨k, rfl⟩ : ∃ m, k = m + 1 := ⟨k - 1, by omega⟩
    refine ⟨L, ?_, rfl, fun _ _ => rfl, fun j h1 h2 => by omega⟩
    rw [laws_markRatioS.l0.eq_2, if_neg (by omega), show i = L.length by omega]
  | succ d ih =>
    intro i k L hd hl hk
    obtain ⟨k, rfl⟩ : ∃ m, k = m + 1 := ⟨k - 1, by omega⟩
    obtain ⟨L', h1, h2, h3, h4⟩ := ih (i + 1) k ((L.set i ⟨((m + 2 * i : Nat) : Int), (rd_T24 L (i : Int)).f1⟩).set i (mk24 m i)) (by simp; omega) (by simpa using hl) (by omega)
    refine ⟨L', ?_, by simpa using h2, fun j hj => ?_, fun j hj hj' => ?_⟩
    · rw [laws_markRatioS.l0.eq_2, if_pos (by omega), if_pos (by omega), Option.bind_some, Int.toNat_natCast, w1 (m + 2 * i) (by omega), w1 (m + 2 * i + 1) (by omega), w1 i (by omega), rd24_get (L := L.set i _) (by simp; omega)]
      simp only [List.getElem_set_self]
      rw [show m + 2 * i + 1 + 1 = m + 2 * (i + 1) by omega]
      rw [show (L.set i ⟨((m + 2 * i : Nat) : Int), (rd_T24 L (i : Int)).f1⟩).set i (⟨((m + 2 * i : Nat) : Int), ((m + 2 * i + 1 : Nat) : Int)⟩ : S24) = (L.set i ⟨((m + 2 * i : Nat) : Int), (rd_T24 L (i : Int)).f1⟩).set i (mk24 m i) from rfl, h1]
      simp
    · rw [h3 j (by omega)]
      rw [List.getElem?_set_ne (by omega), List.getElem?_set_ne (by omega)]
    · by_cases e : j = i
      · subst e
        rw [h3 j (by omega), List.getElem?_set_self (by simp; omega)]
      · exact h4 j (by omega) (by simpa using hj')
theorem heldR_run (m : Nat) (hm : m ≤ 1000) (L : List (S24)) (hl : L.length ≤ 1000) (hL : ∀ j, j < L.length → L[j]? = some (mk24 m j)) : ∀ (d i k : Nat), i + d = L.length → d < k →
    laws_heldRatioS.l0 k L ((m + 2 * i : Nat) : Int) (i : Int) = some ((m + 2 * L.length : Nat) : Int) := by
  intro d
  induction d with
  | zero =>
    intro i k hd hk
    obtain ⟨k, rfl⟩ : ∃ m, k = m + 1 := ⟨k - 1, by omega⟩
    rw [laws_heldRatioS.l0.eq_2, if_neg (by omega), show i = L.length by omega]
  | succ d ih =>
    intro i k hd hk
    obtain ⟨k, rfl⟩ : ∃ m, k = m + 1 := ⟨k - 1, by omega⟩
    have e : rd_T24 L (i : Int) = mk24 m i := by
      rw [rd24_get (by omega)]
      have := hL i (by omega)
      rw [List.getElem?_eq_getElem (by omega)] at this
      exact Option.some.inj this
    rw [laws_heldRatioS.l0.eq_2, if_pos (by omega), if_pos (by omega), e, w1 (m + 2 * i) (by omega), if_pos (show (mk24 m i).f0 = ((m + 2 * i : Nat) : Int) from rfl), if_pos (show (mk24 m i).f1 = ((m + 2 * i + 1 : Nat) : Int) from rfl), w1 (m + 2 * i + 1) (by omega), w1 i (by omega), show m + 2 * i + 1 + 1 = m + 2 * (i + 1) by omega]
    exact ih (i + 1) k (by omega) (by omega)
/-- Marked from 1 on, and read: the same number. -/
theorem marksR (L : List (S24)) (hl : L.length ≤ 1000) {k : Nat} (hk : 1000 < k) : ∃ (L' : List (S24)) (n : Int), laws_markRatioS.f k L 1 = some (n, L') ∧ (0 ≤ n) ∧ (∀ k', 1000 < k' → laws_heldRatioS.f k' L' 1 = some n) := by
  obtain ⟨L', h1, h2, h3, h4⟩ := markR_run 1 (by omega) L.length 0 k L (by omega) hl (by omega)
  refine ⟨L', ((1 + 2 * L.length : Nat) : Int), h1, by omega, fun k' hk' => ?_⟩
  have := heldR_run 1 (by omega) L' (by omega) (fun j hj => h4 j (by omega) (by omega)) L'.length 0 k' (by omega) (by omega)
  rw [h2] at this
  exact this

theorem lists_run {b : Int} {n : Nat} (hb : 2 ≤ b) (hb' : b ≤ 6) (hn : n ≤ 18) {L : List Int} (hL : ∀ x ∈ L, 0 ≤ x) (hs : L.sum = b ^ n) (hl : L.length ≤ 1000) (a : Int) (K : Nat) (hK : 1000000000000000 ≤ K) :
    ∀ (d i : Nat) (out : List (S24)), i + d = L.length → out.length = i →
      ∃ R : List (S24), R.length = L.length ∧ spec_HeldAfter.l0 (K + d + 1) (n : Int) out L ((L.length : Nat) : Int) (i : Int) a b = some (R, true) ∧ impl_HeldAfter.l0 (K + d + 1) (n : Int) out L ((L.length : Nat) : Int) (i : Int) a b = some (R, true) := by
  intro d
  induction d with
  | zero =>
    intro i out hd ho
    refine ⟨out, by omega, ?_, ?_⟩
    · rw [show K + 0 + 1 = K + 1 from rfl, spec_HeldAfter.l0.eq_2, if_neg (by omega)]
    · rw [show K + 0 + 1 = K + 1 from rfl, impl_HeldAfter.l0.eq_2, if_neg (by omega)]
  | succ d ih =>
    intro i out hd ho
    have hx := rd_mem (L := L) (i := i) (by omega)
    obtain ⟨r, hr, hr'⟩ := same_ratio hb hb' (n := n) hn (hL _ hx) (hs ▸ mem_le_sum hL _ hx) (k := K + d + 1) (by omega)
    have hp := pow_run (n := n) hb hb' hn (k := K + d + 1) (by omega)
    obtain ⟨R, h1, h2, h3⟩ := ih (i + 1) (out ++ [(⟨r.1, r.2⟩ : S24)]) (by omega) (by simp; omega)
    refine ⟨R, h1, ?_, ?_⟩
    · rw [show K + (d + 1) + 1 = (K + d + 1) + 1 from rfl, spec_HeldAfter.l0.eq_2, if_pos (by omega), if_pos (by omega), if_pos (by omega), hp.1, Option.bind_some, hr, Option.bind_some, if_pos (by omega), wnext i (by omega)]
      exact h2
    · rw [show K + (d + 1) + 1 = (K + d + 1) + 1 from rfl, impl_HeldAfter.l0.eq_2, if_pos (by omega), if_pos (by omega), if_pos (by omega), hp.2, Option.bind_some, hr', Option.bind_some, if_pos (by omega), wnext i (by omega)]
      exact h3
theorem both_same (i g a b n : Int) : ∃ (R : List (S24)) (t : Bool) (K : Nat), R.length ≤ 1000 ∧ 2000 ≤ K ∧ (∀ k, K ≤ k → spec_HeldAfter.f k i g a b n = some (R, t)) ∧ (∀ k, K ≤ k → impl_HeldAfter.f k i g a b n = some (R, t)) := by
  obtain ⟨K, hK⟩ : ∃ K : Nat, 1000000000000000 ≤ K := ⟨1000000000000000, Nat.le_refl _⟩
  cases h : prB i g a b n with
  | true =>
    obtain ⟨⟨hg, hi, hb1, hb2, ha1, ha2⟩, hn⟩ := pr_bd h
    obtain ⟨i, rfl⟩ : ∃ m : Nat, i = (m : Int) := ⟨i.toNat, by omega⟩
    obtain ⟨g, rfl⟩ : ∃ m : Nat, g = (m : Int) := ⟨g.toNat, by omega⟩
    obtain ⟨n, rfl⟩ : ∃ m : Nat, n = (m : Int) := ⟨n.toNat, by omega⟩
    obtain ⟨L, h1, h2, h3, h4, h5⟩ := held_run (i := i) (g := g) (by omega) (by omega) (by omega) ha1 ha2 hb2 (n := n) (by omega)
    obtain ⟨R, r1, r2, r3⟩ := lists_run hb1 hb2 (n := n) (by omega) h2 h3 (by omega) a K hK L.length 0 [] (by omega) rfl
    refine ⟨R, true, K + L.length + 1, by omega, by omega, fun k hk => at_rounds (spec_HeldAfter.mono _ _ _ _ _) hk ?_, fun k hk => at_rounds (impl_HeldAfter.mono _ _ _ _ _) hk ?_⟩
    · unfold spec_HeldAfter.f
      rw [spec_pr _ _ _ _ _ (by omega), h, Option.bind_some, if_pos rfl, h4 _ (by omega), Option.bind_some]
      exact r2
    · unfold impl_HeldAfter.f
      rw [impl_pr _ _ _ _ _ (by omega), h, Option.bind_some, if_pos rfl, h5 _ (by omega), Option.bind_some]
      exact r3
  | false =>
    refine ⟨[], false, K, by simp, by omega, fun k hk => ?_, fun k hk => ?_⟩
    · unfold spec_HeldAfter.f
      rw [spec_pr _ _ _ _ _ (by omega), h, Option.bind_some, if_neg (by decide)]
    · unfold impl_HeldAfter.f
      rw [impl_pr _ _ _ _ _ (by omega), h, Option.bind_some, if_neg (by decide)]
theorem FnExactHeldAfter : ∀ (a0 : Int) (a1 : Int) (a2_0 : Int) (a2_1 : Int) (a3 : Int), (Lit.int .i64 a0).wf = true → (Lit.int .i64 a1).wf = true → (Lit.int .i64 a2_0).wf = true → (Lit.int .i64 a2_1).wf = true → (Lit.int .i64 a3).wf = true → ∃ k, laws_FnExactHeldAfter.f k a0 a1 a2_0 a2_1 a3 = some true := by
  intro i g a b n _ _ _ _ _
  obtain ⟨R, t, K, hR, hK, hs, hm⟩ := both_same i g a b n
  obtain ⟨R', m, m1, m2, m3⟩ := marksR R hR (k := K + 1) (by omega)
  refine ⟨K + 2, ?_⟩
  unfold laws_FnExactHeldAfter.f laws_toRatio.f
  rw [Option.bind_some, hs _ (by omega), Option.bind_some, Option.bind_some, hm _ (by omega), Option.bind_some, eqR_run R hR (by omega), Option.bind_some, if_pos rfl, show K + 2 = (K + 1) + 1 from rfl, laws_FnExactHeldAfter.j0.eq_2]
  rw [if_neg (by simp), m1, Option.bind_some, m3 _ (by omega), Option.bind_some, if_neg (by omega), if_pos rfl]
  unfold laws_toRatio.f
  rw [Option.bind_some, hm _ (by omega), Option.bind_some, eqR_run R hR (by omega), Option.bind_some, if_pos rfl, laws_FnExactHeldAfter.j1.eq_2, if_neg (by simp), m3 _ (by omega), Option.bind_some, if_neg (by omega), if_pos rfl]
end Go.Proofs.Ytkjmkkeiolifoaa.Pure
