/- A part of a proof that a law's Go function returns true for every input, laid by this session's program mp.py (which drives the kit's print). Conditions: as each theorem states them. -/
import Derived.Test.YtnjmiodnkjabgaaMCirc
import Derived.Test.YtnjmiodnkjabgaaMCirc2
namespace Go.Proofs.Ytnjmiodnkjabgaa.P
/-! Pairs of tones counted by their distance are the chord's vector. Plain Lean. -/
def distN (n x y : Nat) : Nat := min (x - y) (n - (x - y))
noncomputable def rowc (n c x y i : Nat) : Nat := cnt y (fun y' => c.testBit x && (c.testBit y' && decide (distN n x y' = i + 1)))
noncomputable def totc (n c x i : Nat) : Nat := sumTo (fun x' => rowc n c x' x' i) x
theorem vcnt_succ (n : Nat) (p : Nat → Bool) : cnt (n + 1) p = cnt n p + if p n then 1 else 0 := by
  simp only [cnt_eq]
  rw [List.range_succ, List.countP_append, List.countP_singleton]
theorem vcnt_zero (p : Nat → Bool) : cnt 0 p = 0 := by simp [cnt_eq]
theorem rowc_succ (n c x y i : Nat) : rowc n c x (y + 1) i = rowc n c x y i + if c.testBit x && (c.testBit y && decide (distN n x y = i + 1)) then 1 else 0 := vcnt_succ _ _
theorem rowc_zero (n c x i : Nat) : rowc n c x 0 i = 0 := vcnt_zero _
/-- how often a tone has another one e below it, not around -/
def lowAt (c e x : Nat) : Nat := if decide (e ≤ x) && (c.testBit x && c.testBit (x - e)) then 1 else 0
theorem cnt_at {g : Nat → Bool} {e : Nat} (he : 1 ≤ e) : ∀ (x m : Nat), m ≤ x → cnt m (fun y => g y && decide (x - y = e)) = if decide (e ≤ x) && (decide (x - e < m) && g (x - e)) then 1 else 0 := by
  intro x m
  induction m with
  | zero => intro _; rw [vcnt_zero]; simp
  | succ m ih =>
    intro hm
    rw [vcnt_succ, ih (by omega)]
    by_cases h1 : x - m = e
    · have h2 : x - e = m := by omega
      have h3 : e ≤ x := by omega
      rw [h2]
      simp [h1, h3]
    · by_cases h3 : e ≤ x
      · have h2 : ¬ x - e = m := by omega
        have h4 : (x - e < m + 1) ↔ (x - e < m) := by omega
        simp [h1, h3, h4]
      · simp [h1, h3]
theorem row_one {n c x d : Nat} (hx : x < n) (hd : 1 ≤ d) (h : 2 * d = n) : rowc n c x x (d - 1) = lowAt c d x := by
  have e : rowc n c x x (d - 1) = cnt x (fun y => (c.testBit x && c.testBit y) && decide (x - y = d)) := by
    refine cnt_congr (fun y hy => ?_)
    have : distN n x y = d - 1 + 1 ↔ x - y = d := by unfold distN; omega
    rw [Bool.and_assoc]
    simp only [this]
  rw [e, cnt_at hd x x (Nat.le_refl _)]
  unfold lowAt
  by_cases h3 : d ≤ x
  · have : x - d < x := by omega
    simp [h3, this]
  · simp [h3]
theorem cnt_or {m : Nat} {p q : Nat → Bool} (h : ∀ i, i < m → ¬ (p i = true ∧ q i = true)) : cnt m (fun i => p i || q i) = cnt m p + cnt m q := by
  induction m with
  | zero => simp [vcnt_zero]
  | succ m ih =>
    rw [vcnt_succ, vcnt_succ, vcnt_succ, ih (fun i hi => h i (by omega))]
    have := h m (by omega)
    cases hp : p m <;> cases hq : q m <;> simp [hp, hq] at this ⊢ <;> omega
theorem row_two {n c x d : Nat} (hx : x < n) (hd : 1 ≤ d) (h : 2 * d < n) : rowc n c x x (d - 1) = lowAt c d x + lowAt c (n - d) x := by
  have e : rowc n c x x (d - 1) = cnt x (fun y => ((c.testBit x && c.testBit y) && decide (x - y = d)) || ((c.testBit x && c.testBit y) && decide (x - y = n - d))) := by
    refine cnt_congr (fun y hy => ?_)
    have : distN n x y = d - 1 + 1 ↔ (x - y = d ∨ x - y = n - d) := by unfold distN; omega
    rw [← Bool.and_or_distrib_left, Bool.and_assoc]
    congr 2
    rw [Bool.eq_iff_iff]
    simp only [Bool.or_eq_true, decide_eq_true_eq, this]
  rw [e, cnt_or (fun y hy hh => by simp only [Bool.and_eq_true, decide_eq_true_eq] at hh; omega), cnt_at hd x x (Nat.le_refl _), cnt_at (show 1 ≤ n - d by omega) x x (Nat.le_refl _)]
  unfold lowAt
  have g : ∀ e, 1 ≤ e → (if decide (e ≤ x) && (decide (x - e < x) && (c.testBit x && c.testBit (x - e))) then 1 else 0) = if decide (e ≤ x) && (c.testBit x && c.testBit (x - e)) then 1 else 0 := by
    intro e he
    by_cases h3 : e ≤ x
    · have : x - e < x := by omega
      simp [h3, this]
    · simp [h3]
  rw [g d hd, g (n - d) (by omega)]
theorem common_low {n c d : Nat} (hd : d ≤ n) (hd1 : 1 ≤ d) : common n c c d = sumTo (lowAt c d) n + sumTo (lowAt c (n - d)) n := by
  have h1 : sumTo (lowAt c (n - d)) n = sumTo (fun i => if c.testBit i && c.testBit (i + (n - d)) then 1 else 0) d := by
    have hs := sumTo_add (lowAt c (n - d)) (n - d) d
    rw [show n - d + d = n by omega] at hs
    rw [hs, sumTo_zero (f := lowAt c (n - d)) (n - d) (fun i hi => by unfold lowAt; rw [decide_eq_false (by omega)]; simp), Nat.zero_add]
    refine sumTo_congr d (fun i hi => ?_)
    unfold lowAt
    rw [decide_eq_true (show n - d ≤ n - d + i by omega), show n - d + i - (n - d) = i by omega, Bool.true_and, Bool.and_comm, Nat.add_comm (n - d) i]
  have hs2 := sumTo_add (fun i => if c.testBit i && c.testBit ((i + (n - d)) % n) then 1 else 0) d (n - d)
  rw [show d + (n - d) = n by omega] at hs2
  have hs3 := sumTo_add (lowAt c d) d (n - d)
  rw [show d + (n - d) = n by omega] at hs3
  rw [common_cnt, cnt_sumTo, hs2, h1, hs3, sumTo_zero (f := lowAt c d) d (fun i hi => by unfold lowAt; rw [decide_eq_false (by omega)]; simp), Nat.zero_add, Nat.add_comm]
  congr 1
  · refine sumTo_congr (n - d) (fun i hi => ?_)
    unfold lowAt
    rw [show d + i + (n - d) = i + n by omega, Nat.add_mod_right, Nat.mod_eq_of_lt (by omega), decide_eq_true (show d ≤ d + i by omega), show d + i - d = i by omega, Bool.true_and]
  · refine sumTo_congr d (fun i hi => ?_)
    rw [Nat.mod_eq_of_lt (by omega)]
theorem totc_vec {n c i : Nat} (hi : i < n / 2) : totc n c n i = vecAt n c (i + 1) := by
  have hl := common_low (n := n) (c := c) (d := i + 1) (by omega) (by omega)
  unfold totc vecAt
  by_cases h : 2 * (i + 1) = n
  · rw [if_pos h]
    have e : sumTo (fun x' => rowc n c x' x' i) n = sumTo (lowAt c (i + 1)) n := sumTo_congr n (fun x hx => by
      have := row_one (c := c) hx (show 1 ≤ i + 1 by omega) h
      simpa using this)
    rw [show n - (i + 1) = i + 1 by omega] at hl
    rw [e]; omega
  · rw [if_neg h]
    have e : sumTo (fun x' => rowc n c x' x' i) n = sumTo (fun x => lowAt c (i + 1) x + lowAt c (n - (i + 1)) x) n := sumTo_congr n (fun x hx => by
      have := row_two (c := c) hx (show 1 ≤ i + 1 by omega) (by omega)
      simpa using this)
    rw [e, sumTo_plus, hl]
end Go.Proofs.Ytnjmiodnkjabgaa.P

