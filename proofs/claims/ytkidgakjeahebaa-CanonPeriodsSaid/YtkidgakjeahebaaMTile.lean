/- A part of a proof that a law's Go function returns true for every input, laid by this session's program mp.py (which drives the kit's print). Conditions: as each theorem states them. -/
import Derived.Test.YtkidgakjeahebaaMCirc
import Derived.Test.YtkidgakjeahebaaMCirc2
namespace Go.Proofs.Ytkidgakjeahebaa.P
/-! Two rhythms on a circle: how often each beat is met. Plain Lean. -/
theorem cnt_zero (p : Nat → Bool) : cnt 0 p = 0 := by simp [cnt_eq]
theorem cnt_succ (n : Nat) (p : Nat → Bool) : cnt (n + 1) p = cnt n p + if p n then 1 else 0 := by
  simp only [cnt_eq]
  rw [List.range_succ, List.countP_append, List.countP_singleton]
theorem cnt_mono (p : Nat → Bool) {m n : Nat} (h : m ≤ n) : cnt m p ≤ cnt n p := by
  induction n with
  | zero => obtain rfl : m = 0 := by omega
            exact Nat.le_refl _
  | succ n ih =>
    rcases Nat.lt_or_ge n m with h1 | h1
    · obtain rfl : m = n + 1 := by omega
      exact Nat.le_refl _
    · rw [cnt_succ]; have := ih h1; omega
theorem cnt_pos {p : Nat → Bool} {n y : Nat} (hy : y < n) (h : p y = true) : 1 ≤ cnt n p := by
  have h1 := cnt_mono p (show y + 1 ≤ n by omega)
  rw [cnt_succ, h, if_pos rfl] at h1
  omega
theorem cnt_two {p : Nat → Bool} {n y z : Nat} (hz : z < n) (hyz : y < z) (h : p y = true) (h' : p z = true) : 2 ≤ cnt n p := by
  have h1 := cnt_mono p (show z + 1 ≤ n by omega)
  have h2 := cnt_pos hyz h
  rw [cnt_succ, h', if_pos rfl] at h1
  omega
/-- of those that are counted there is a first one -/
theorem cnt_first {p : Nat → Bool} : ∀ n, 1 ≤ cnt n p → ∃ y, y < n ∧ p y = true ∧ ∀ z, z < y → p z = false
  | 0, h => by rw [cnt_zero] at h; omega
  | n + 1, h => by
    rcases Nat.lt_or_ge 0 (cnt n p) with h1 | h1
    · obtain ⟨y, hy, h2, h3⟩ := cnt_first n h1
      exact ⟨y, by omega, h2, h3⟩
    · rw [cnt_succ] at h
      refine ⟨n, by omega, ?_, ?_⟩
      · cases hp : p n with
        | true => rfl
        | false => rw [hp] at h; simp at h; omega
      · intro z hz
        cases hp : p z with
        | false => rfl
        | true => have := cnt_pos hz hp; omega
theorem cnt_one {p : Nat → Bool} {n y z : Nat} (h1 : cnt n p = 1) (hy : y < n) (hz : z < n) (h : p y = true) (h' : p z = true) : y = z := by
  rcases Nat.lt_trichotomy y z with c | c | c
  · have := cnt_two hz c h h'; omega
  · exact c
  · have := cnt_two hy c h' h; omega
/-- how many of the first d beats of b bring x -/
noncomputable def cv (n a b d x : Nat) : Nat := cnt d (fun y => b.testBit y && (moveN n a y).testBit x)
theorem cv_succ (n a b d x : Nat) : cv n a b (d + 1) x = cv n a b d x + if b.testBit d && (moveN n a d).testBit x then 1 else 0 := cnt_succ _ _
theorem cv_zero (n a b x : Nat) : cv n a b 0 x = 0 := cnt_zero _
theorem cv_sum {n a b : Nat} (ha : a < 2 ^ n) : sumTo (cv n a b n) n = chSize n a * chSize n b := by
  have h1 : sumTo (cv n a b n) n = sumTo (fun x => sumTo (fun y => if b.testBit y && (moveN n a y).testBit x then 1 else 0) n) n :=
    sumTo_congr n (fun x _ => by unfold cv; rw [cnt_sumTo])
  have h2 : ∀ y, y < n → sumTo (fun x => if b.testBit y && (moveN n a y).testBit x then 1 else 0) n = (if b.testBit y then 1 else 0) * chSize n a := by
    intro y hy
    cases hb : b.testBit y with
    | false => simp only [Bool.false_and, Bool.false_eq_true, if_false, Nat.zero_mul]; exact sumTo_zero n (fun _ _ => rfl)
    | true =>
      simp only [Bool.true_and, if_true, Nat.one_mul]
      rw [← cnt_sumTo, chSize_cnt, ← cnt_shift (n - y) a.testBit]
      exact cnt_congr (fun x hx => testBit_moveN ha hy hx)
  rw [h1, sumTo_swap, sumTo_congr n h2, sumTo_mul, ← cnt_sumTo, ← chSize_cnt, Nat.mul_comm]
def filled (n a b : Nat) : Nat → Nat
  | 0 => 0
  | d + 1 => if b.testBit d then filled n a b d ||| moveN n a d else filled n a b d
theorem filled_lt (n a b : Nat) : ∀ d, filled n a b d < 2 ^ n
  | 0 => Nat.two_pow_pos n
  | d + 1 => by
    have h := filled_lt n a b d
    simp only [filled]
    split
    · exact Nat.or_lt_two_pow h (moveN_lt n a d)
    · exact h
theorem filled_bit (n a b x : Nat) : ∀ d, (filled n a b d).testBit x = decide (1 ≤ cv n a b d x)
  | 0 => by rw [cv_zero]; simp [filled]
  | d + 1 => by
    have h := filled_bit n a b x d
    rw [cv_succ]
    simp only [filled]
    cases hb : b.testBit d with
    | false => simp [h]
    | true =>
      simp only [if_true, Nat.testBit_or, h, Bool.true_and]
      cases hm : (moveN n a d).testBit x with
      | true => simp
      | false => simp
theorem fillsAll_iff {n F : Nat} (hF : F < 2 ^ n) : F = 2 ^ n - 1 ↔ ∀ x, x < n → F.testBit x = true := by
  constructor
  · rintro rfl x hx
    rw [Nat.testBit_two_pow_sub_one]; simp [hx]
  · intro h
    have := Nat.two_pow_pos n
    refine bits_ext (n := n) hF (by omega) (fun i hi => ?_)
    rw [h i hi, Nat.testBit_two_pow_sub_one]; simp [hi]
theorem sumTo_ge {f : Nat → Nat} : ∀ m, (∀ i, i < m → 1 ≤ f i) → m ≤ sumTo f m
  | 0, _ => Nat.zero_le _
  | m + 1, h => by
    have h1 := sumTo_ge m (fun i hi => h i (by omega)); have h2 := h m (by omega)
    simp only [sumTo]; omega
theorem sumTo_tight {f : Nat → Nat} : ∀ m, (∀ i, i < m → 1 ≤ f i) → sumTo f m = m → ∀ i, i < m → f i = 1
  | 0, _, _, i, hi => by omega
  | m + 1, h, hs, i, hi => by
    have h1 := sumTo_ge m (fun i hi => h i (by omega)); have h2 := h m (by omega)
    simp only [sumTo] at hs
    rcases Nat.lt_or_ge i m with c | c
    · exact sumTo_tight m (fun i hi => h i (by omega)) (by omega) i c
    · obtain rfl : i = m := by omega
      omega
theorem sumTo_one {f : Nat → Nat} : ∀ m, (∀ i, i < m → f i = 1) → sumTo f m = m
  | 0, _ => rfl
  | m + 1, h => by simp only [sumTo, sumTo_one m (fun i hi => h i (by omega)), h m (by omega)]
/-- two rhythms fill the circle -/
def Tiled (n a b : Nat) : Prop := ∀ x, x < n → cv n a b n x = 1
noncomputable instance (n a b : Nat) : Decidable (Tiled n a b) := Classical.propDecidable _
theorem tiled_iff {n a b : Nat} (ha : a < 2 ^ n) : (chSize n a * chSize n b = n ∧ filled n a b n = 2 ^ n - 1) ↔ Tiled n a b := by
  rw [fillsAll_iff (filled_lt n a b n), ← cv_sum ha]
  constructor
  · rintro ⟨h1, h2⟩
    refine sumTo_tight n (fun x hx => ?_) h1
    have := h2 x hx
    rw [filled_bit] at this
    simpa using this
  · intro h
    refine ⟨sumTo_one n h, fun x hx => ?_⟩
    rw [filled_bit, h x hx]; rfl
theorem tiled_size {n a b : Nat} (ha : a < 2 ^ n) (h : Tiled n a b) : chSize n a * chSize n b = n := ((tiled_iff ha).2 h).1
theorem filled_apart {n a b d : Nat} (h : ∀ x, x < n → cv n a b d x ≤ 1) (hb : b.testBit d = true) (hf : filled n a b d &&& moveN n a d = 0) : ∀ x, x < n → cv n a b (d + 1) x ≤ 1 := by
  intro x hx
  rw [cv_succ, hb, Bool.true_and]
  have h1 := h x hx
  have h2 : (filled n a b d &&& moveN n a d).testBit x = false := by rw [hf]; simp
  rw [Nat.testBit_and, filled_bit] at h2
  cases hm : (moveN n a d).testBit x with
  | false => simp; omega
  | true =>
    rw [hm, Bool.and_true, decide_eq_false_iff_not] at h2
    simp; omega
theorem filled_meet {n a b d : Nat} (hd : d < n) (hb : b.testBit d = true) (hf : ¬ filled n a b d &&& moveN n a d = 0) : ¬ Tiled n a b := by
  intro ht
  have hl : filled n a b d &&& moveN n a d < 2 ^ n := Nat.lt_of_le_of_lt Nat.and_le_left (filled_lt n a b d)
  refine hf (bits_ext (n := n) hl (Nat.two_pow_pos n) (fun x hx => ?_))
  rw [Nat.zero_testBit]
  cases h2 : (filled n a b d &&& moveN n a d).testBit x with
  | false => rfl
  | true =>
    rw [Nat.testBit_and, filled_bit, Bool.and_eq_true, decide_eq_true_eq] at h2
    have h3 := cnt_mono (fun y => b.testBit y && (moveN n a y).testBit x) (show d + 1 ≤ n by omega)
    have h4 := ht x hx
    have h5 := cv_succ n a b d x
    rw [hb, h2.2] at h5
    simp at h5
    unfold cv at *
    omega
theorem filled_end {n a b : Nat} (h : ∀ x, x < n → cv n a b n x ≤ 1) : filled n a b n = 2 ^ n - 1 ↔ Tiled n a b := by
  rw [fillsAll_iff (filled_lt n a b n)]
  constructor
  · intro h1 x hx
    have := h1 x hx
    rw [filled_bit] at this
    have h2 : 1 ≤ cv n a b n x := by simpa using this
    have := h x hx
    omega
  · intro h1 x hx
    rw [filled_bit, h1 x hx]; rfl
theorem filled_step_not {n a b d : Nat} (h : ∀ x, x < n → cv n a b d x ≤ 1) (hb : ¬ b.testBit d = true) : ∀ x, x < n → cv n a b (d + 1) x ≤ 1 := by
  intro x hx
  rw [cv_succ]
  have := h x hx
  simp only [Bool.not_eq_true] at hb
  rw [hb]; simpa using this
/-- the one entry that brings a beat -/
theorem tiled_enter {n a b x : Nat} (ht : Tiled n a b) (hx : x < n) : ∃ y, y < n ∧ b.testBit y = true ∧ (moveN n a y).testBit x = true ∧ (∀ z, z < y → ¬ (b.testBit z = true ∧ (moveN n a z).testBit x = true)) ∧ ∀ z, z < n → b.testBit z = true → (moveN n a z).testBit x = true → z = y := by
  have h1 : cnt n (fun y => b.testBit y && (moveN n a y).testBit x) = 1 := ht x hx
  obtain ⟨y, hy, hp, hq⟩ := cnt_first n (show 1 ≤ cnt n (fun y => b.testBit y && (moveN n a y).testBit x) by omega)
  have hp' := hp
  simp only [Bool.and_eq_true] at hp'
  refine ⟨y, hy, hp'.1, hp'.2, fun z hz h => ?_, fun z hz h h' => ?_⟩
  · have := hq z hz
    simp only [h.1, h.2, Bool.and_self] at this
    cases this
  · exact cnt_one h1 hz hy (by simp only [h, h', Bool.and_self]) hp
end Go.Proofs.Ytkidgakjeahebaa.P

