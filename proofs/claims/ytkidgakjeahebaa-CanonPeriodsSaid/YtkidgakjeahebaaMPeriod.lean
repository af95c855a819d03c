/- A part of a proof that a law's Go function returns true for every input, laid by this session's program mp.py (which drives the kit's print). Conditions: as each theorem states them. -/
import Derived.Test.YtkidgakjeahebaaMCirc
namespace Go.Proofs.Ytkidgakjeahebaa.P
/-! Periods of a rhythm. Plain Lean. -/
def IsPer (n a d : Nat) : Prop := 1 ≤ d ∧ d ≤ n ∧ n % d = 0 ∧ moveN n a d = a
instance (n a d : Nat) : Decidable (IsPer n a d) := by unfold IsPer; infer_instance
theorem moveN_all {n a : Nat} (ha : a < 2 ^ n) : moveN n a n = a := by
  unfold moveN
  rw [Nat.sub_self, Nat.pow_zero, Nat.div_one]
  refine bits_ext (n := n) (Nat.lt_of_le_of_lt Nat.and_le_right (by have := Nat.two_pow_pos n; omega)) ha (fun i hi => ?_)
  rw [Nat.testBit_and, Nat.testBit_or, Nat.testBit_two_pow_sub_one, ← Nat.shiftLeft_eq, Nat.testBit_shiftLeft]
  simp [hi, Nat.not_le.2 hi]
theorem isPer_all {n a : Nat} (hn : 1 ≤ n) (ha : a < 2 ^ n) : IsPer n a n := ⟨hn, Nat.le_refl _, Nat.mod_self n, moveN_all ha⟩
theorem least_per {n a : Nat} (hn : 1 ≤ n) (ha : a < 2 ^ n) : ∃ p, IsPer n a p ∧ ∀ d, d < p → ¬ IsPer n a d := by
  have go : ∀ m, (∃ p, p ≤ m ∧ IsPer n a p) → ∃ p, IsPer n a p ∧ ∀ d, d < p → ¬ IsPer n a d := by
    intro m
    induction m with
    | zero =>
      rintro ⟨p, hp, h⟩
      exact ⟨p, h, fun d hd => by omega⟩
    | succ m ih =>
      rintro ⟨p, hp, h⟩
      by_cases hq : ∃ q, q ≤ m ∧ IsPer n a q
      · exact ih hq
      · exact ⟨p, h, fun d hd hd2 => hq ⟨d, by omega, hd2⟩⟩
  exact go n ⟨n, Nat.le_refl _, isPer_all hn ha⟩
theorem per_bit {n a d : Nat} (ha : a < 2 ^ n) (h : IsPer n a d) : ∀ (q x : Nat), x + q * d < n → a.testBit (x + q * d) = a.testBit x := by
  obtain ⟨h1, h2, h3, h4⟩ := h
  intro q
  induction q with
  | zero => intro x _; rw [Nat.zero_mul, Nat.add_zero]
  | succ q ih =>
    intro x hx
    rw [Nat.succ_mul] at hx
    rw [← ih x (by omega)]
    rcases Nat.lt_or_ge d n with c | c
    · have h5 := testBit_moveN (i := x + (q + 1) * d) ha c (by rw [Nat.succ_mul]; omega)
      rw [h4] at h5
      rw [h5]
      congr 1
      rw [Nat.succ_mul, show x + (q * d + d) + (n - d) = x + q * d + n by omega, Nat.add_mod_right, Nat.mod_eq_of_lt (by omega)]
    · omega
/-- the beats of one period, gathered -/
def foldTo (a d : Nat) : Nat → Nat
  | 0 => 0
  | x + 1 => if a.testBit x then foldTo a d x ||| 2 ^ (x % d) else foldTo a d x
theorem foldTo_bit {n a d : Nat} (ha : a < 2 ^ n) (h : IsPer n a d) (i : Nat) : ∀ x, x ≤ n → (foldTo a d x).testBit i = (decide (i < d) && (decide (i < x) && a.testBit i)) := by
  have h1 := h.1
  intro x
  induction x with
  | zero => intro _; simp [foldTo]
  | succ x ih =>
    intro hx
    have hi := ih (by omega)
    have hp := per_bit ha h (x / d) (x % d) (by rw [Nat.mul_comm, Nat.mod_add_div]; omega)
    rw [Nat.mul_comm, Nat.mod_add_div] at hp
    have hmd := Nat.mod_lt x (show d > 0 by omega)
    have hml := Nat.mod_le x d
    simp only [foldTo]
    cases hb : a.testBit x with
    | true =>
      rw [if_pos rfl, Nat.testBit_or, hi, Nat.testBit_two_pow]
      rw [hb] at hp
      by_cases e : x % d = i
      · subst e
        rw [← hp]
        simp only [decide_true, Bool.or_true, Bool.and_true]
        rw [decide_eq_true hmd, decide_eq_true (show x % d < x + 1 by omega)]
        rfl
      · rw [decide_eq_false e, Bool.or_false]
        by_cases hid : i < d
        · rw [decide_eq_true hid, Bool.true_and, Bool.true_and]
          have : decide (i < x) = decide (i < x + 1) := by
            rw [decide_eq_decide]
            have : i ≠ x := fun h => e (by rw [← h, Nat.mod_eq_of_lt hid])
            omega
          rw [this]
        · rw [decide_eq_false hid, Bool.false_and, Bool.false_and]
    | false =>
      rw [if_neg (by simp), hi]
      by_cases e : i = x
      · subst e; rw [hb]; simp
      · have : decide (i < x) = decide (i < x + 1) := by rw [decide_eq_decide]; omega
        rw [this]
theorem foldTo_all {n a d : Nat} (ha : a < 2 ^ n) (h : IsPer n a d) : foldTo a d n = a &&& (2 ^ d - 1) := by
  refine Nat.eq_of_testBit_eq (fun i => ?_)
  rw [foldTo_bit ha h i n (Nat.le_refl _), Nat.testBit_and, Nat.testBit_two_pow_sub_one]
  by_cases hi : i < d
  · have := h.2.1
    rw [decide_eq_true hi, decide_eq_true (show i < n by omega)]; simp
  · rw [decide_eq_false hi]; simp
theorem foldTo_lt {n a d : Nat} (hd : 1 ≤ d) (hdn : d ≤ n) : ∀ x, foldTo a d x < 2 ^ n
  | 0 => Nat.two_pow_pos n
  | x + 1 => by
    have h := foldTo_lt (n := n) (a := a) hd hdn x
    simp only [foldTo]
    split
    · exact Nat.or_lt_two_pow h (Nat.pow_lt_pow_right (by omega) (Nat.lt_of_lt_of_le (Nat.mod_lt x (by omega)) hdn))
    · exact h
end Go.Proofs.Ytkidgakjeahebaa.P

