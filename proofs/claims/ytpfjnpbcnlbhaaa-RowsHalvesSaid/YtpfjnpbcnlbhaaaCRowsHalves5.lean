/- Proved here: the Go function sackbutlaw05.RowsHalves returns true for every input (its printed form comes to true), whatever its arguments. Conditions: none beyond the row's own reach in memory. -/
import Derived.Test.YtpfjnpbcnlbhaaaRows
import Derived.WalkKit
import Derived.ProofKit
import Derived.OpenShut
import Derived.ShutString
import Derived.ChangeOld
import Derived.Below
import Derived.SizedLaws
import Derived.Test.YtpfjnpbcnlbhaaaWSized
import Derived.Test.YtpfjnpbcnlbhaaaCRowsHalves1
import Derived.Test.YtpfjnpbcnlbhaaaCRowsHalves2
import Derived.Test.YtpfjnpbcnlbhaaaCRowsHalves3
import Derived.Test.YtpfjnpbcnlbhaaaCRowsHalves4
namespace Go.Proofs.Ytpfjnpbcnlbhaaa.P
/-! Two rhythms on a circle: how often each beat is met. Plain Lean. -/
theorem cnt_zero (p : Nat → Bool) : cnt 0 p = 0 := by simp [cnt_eq]
theorem cnt_succ (n : Nat) (p : Nat → Bool) : cnt (n + 1) p = cnt n p + if p n then 1 else 0 := by
  simp only [cnt_eq]
  rw [List.range_succ, List.countP_append, List.countP_singleton]
theorem cnt_mono (p : Nat → Bool) {m n : Nat} (h : m ≤ n) : cnt m p ≤ cnt n p := by
  induction n with
  | zero => obtain rfl : m = 0 := by omega
            exact Nat.le_refl _
  | succ n ih =>
    rcases Nat.lt_or_ge n m with h1 | h1
    · obtain rfl : m = n + 1 := by omega
      exact Nat.le_refl _
    · rw [cnt_succ]; have := ih h1; omega
theorem cnt_pos {p : Nat → Bool} {n y : Nat} (hy : y < n) (h : p y = true) : 1 ≤ cnt n p := by
  have h1 := cnt_mono p (show y + 1 ≤ n by omega)
  rw [cnt_succ, h, if_pos rfl] at h1
  omega
theorem cnt_two {p : Nat → Bool} {n y z : Nat} (hz : z < n) (hyz : y < z) (h : p y = true) (h' : p z = true) : 2 ≤ cnt n p := by
  have h1 := cnt_mono p (show z + 1 ≤ n by omega)
  have h2 := cnt_pos hyz h
  rw [cnt_succ, h', if_pos rfl] at h1
  omega
/-- of those that are counted there is a first one -/
theorem cnt_first {p : Nat → Bool} : ∀ n, 1 ≤ cnt n p → ∃ y, y < n ∧ p y = true ∧ ∀ z, z < y → p z = false
  | 0, h => by rw [cnt_zero] at h; omega
  | n + 1, h => by
    rcases Nat.lt_or_ge 0 (cnt n p) with h1 | h1
    · obtain ⟨y, hy, h2, h3⟩ := cnt_first n h1
      exact ⟨y, by omega, h2, h3⟩
    · rw [cnt_succ] at h
      refine ⟨n, by omega, ?_, ?_⟩
      · cases hp : p n with
        | true => rfl
        | false => rw [hp] at h; simp at h; omega
      · intro z hz
        cases hp : p z with
        | false => rfl
        | true => have := cnt_pos hz hp; omega
theorem cnt_one {p : Nat → Bool} {n y z : Nat} (h1 : cnt n p = 1) (hy : y < n) (hz : z < n) (h : p y = true) (h' : p z = true) : y = z := by
  rcases Nat.lt_trichotomy y z with c | c | c
  · have := cnt_two hz c h h'; omega
  · exact c
  · have := cnt_two hy c h' h; omega
/-- how many of the first d beats of b bring x -/
noncomputable def cv (n a b d x : Nat) : Nat := cnt d (fun y => b.testBit y && (moveN n a y).testBit x)
theorem cv_succ (n a b d x : Nat) : cv n a b (d + 1) x = cv n a b d x + if b.testBit d && (moveN n a d).testBit x then 1 else 0 := cnt_succ _ _
theorem cv_zero (n a b x : Nat) : cv n a b 0 x = 0 := cnt_zero _
theorem cv_sum {n a b : Nat} (ha : a < 2 ^ n) : sumTo (cv n a b n) n = chSize n a * chSize n b := by
  have h1 : sumTo (cv n a b n) n = sumTo (fun x => sumTo (fun y => if b.testBit y && (moveN n a y).testBit x then 1 else 0) n) n :=
    sumTo_congr n (fun x _ => by unfold cv; rw [cnt_sumTo])
  have h2 : ∀ y, y < n → sumTo (fun x => if b.testBit y && (moveN n a y).testBit x then 1 else 0) n = (if b.testBit y then 1 else 0) * chSize n a := by
    intro y hy
    cases hb : b.testBit y with
    | false => simp only [Bool.false_and, Bool.false_eq_true, if_false, Nat.zero_mul]; exact sumTo_zero n (fun _ _ => rfl)
    | true =>
      simp only [Bool.true_and, if_true, Nat.one_mul]
      rw [← cnt_sumTo, chSize_cnt, ← cnt_shift (n - y) a.testBit]
      exact cnt_congr (fun x hx => testBit_moveN ha hy hx)
  rw [h1, sumTo_swap, sumTo_congr n h2, sumTo_mul, ← cnt_sumTo, ← chSize_cnt, Nat.mul_comm]
def filled (n a b : Nat) : Nat → Nat
  | 0 => 0
  | d + 1 => if b.testBit d then filled n a b d ||| moveN n a d else filled n a b d
theorem filled_lt (n a b : Nat) : ∀ d, filled n a b d < 2 ^ n
  | 0 => Nat.two_pow_pos n
  | d + 1 => by
    have h := filled_lt n a b d
    simp only [filled]
    split
    · exact Nat.or_lt_two_pow h (moveN_lt n a d)
    · exact h
theorem filled_bit (n a b x : Nat) : ∀ d, (filled n a b d).testBit x = decide (1 ≤ cv n a b d x)
  | 0 => by rw [cv_zero]; simp [filled]
  | d + 1 => by
    have h := filled_bit n a b x d
    rw [cv_succ]
    simp only [filled]
    cases hb : b.testBit d with
    | false => simp [h]
    | true =>
      simp only [if_true, Nat.testBit_or, h, Bool.true_and]
      cases hm : (moveN n a d).testBit x with
      | true => simp
      | false => simp
theorem fillsAll_iff {n F : Nat} (hF : F < 2 ^ n) : F = 2 ^ n - 1 ↔ ∀ x, x < n → F.testBit x = true := by
  constructor
  · rintro rfl x hx
    rw [Nat.testBit_two_pow_sub_one]; simp [hx]
  · intro h
    have := Nat.two_pow_pos n
    refine bits_ext (n := n) hF (by omega) (fun i hi => ?_)
    rw [h i hi, Nat.testBit_two_pow_sub_one]; simp [hi]
theorem sumTo_ge {f : Nat → Nat} : ∀ m, (∀ i, i < m → 1 ≤ f i) → m ≤ sumTo f m
  | 0, _ => Nat.zero_le _
  | m + 1, h => by
    have h1 := sumTo_ge m (fun i hi => h i (by omega)); have h2 := h m (by omega)
    simp only [sumTo]; omega
theorem sumTo_tight {f : Nat → Nat} : ∀ m, (∀ i, i < m → 1 ≤ f i) → sumTo f m = m → ∀ i, i < m → f i = 1
  | 0, _, _, i, hi => by omega
  | m + 1, h, hs, i, hi => by
    have h1 := sumTo_ge m (fun i hi => h i (by omega)); have h2 := h m (by omega)
    simp only [sumTo] at hs
    rcases Nat.lt_or_ge i m with c | c
    · exact sumTo_tight m (fun i hi => h i (by omega)) (by omega) i c
    · obtain rfl : i = m := by omega
      omega
theorem sumTo_one {f : Nat → Nat} : ∀ m, (∀ i, i < m → f i = 1) → sumTo f m = m
  | 0, _ => rfl
  | m + 1, h => by simp only [sumTo, sumTo_one m (fun i hi => h i (by omega)), h m (by omega)]
/-- two rhythms fill the circle -/
def Tiled (n a b : Nat) : Prop := ∀ x, x < n → cv n a b n x = 1
noncomputable instance (n a b : Nat) : Decidable (Tiled n a b) := Classical.propDecidable _
theorem tiled_iff {n a b : Nat} (ha : a < 2 ^ n) : (chSize n a * chSize n b = n ∧ filled n a b n = 2 ^ n - 1) ↔ Tiled n a b := by
  rw [fillsAll_iff (filled_lt n a b n), ← cv_sum ha]
  constructor
  · rintro ⟨h1, h2⟩
    refine sumTo_tight n (fun x hx => ?_) h1
    have := h2 x hx
    rw [filled_bit] at this
    simpa using this
  · intro h
    refine ⟨sumTo_one n h, fun x hx => ?_⟩
    rw [filled_bit, h x hx]; rfl
theorem tiled_size {n a b : Nat} (ha : a < 2 ^ n) (h : Tiled n a b) : chSize n a * chSize n b = n := ((tiled_iff ha).2 h).1
theorem filled_apart {n a b d : Nat} (h : ∀ x, x < n → cv n a b d x ≤ 1) (hb : b.testBit d = true) (hf : filled n a b d &&& moveN n a d = 0) : ∀ x, x < n → cv n a b (d + 1) x ≤ 1 := by
  intro x hx
  rw [cv_succ, hb, Bool.true_and]
  have h1 := h x hx
  have h2 : (filled n a b d &&& moveN n a d).testBit x = false := by rw [hf]; simp
  rw [Nat.testBit_and, filled_bit] at h2
  cases hm : (moveN n a d).testBit x with
  | false => simp; omega
  | true =>
    rw [hm, Bool.and_true, decide_eq_false_iff_not] at h2
    simp; omega
theorem filled_meet {n a b d : Nat} (hd : d < n) (hb : b.testBit d = true) (hf : ¬ filled n a b d &&& moveN n a d = 0) : ¬ Tiled n a b := by
  intro ht
  have hl : filled n a b d &&& moveN n a d < 2 ^ n := Nat.lt_of_le_of_lt Nat.and_le_left (filled_lt n a b d)
  refine hf (bits_ext (n := n) hl (Nat.two_pow_pos n) (fun x hx => ?_))
  rw [Nat.zero_testBit]
  cases h2 : (filled n a b d &&& moveN n a d).testBit x with
  | false => rfl
  | true =>
    rw [Nat.testBit_and, filled_bit, Bool.and_eq_true, decide_eq_true_eq] at h2
    have h3 := cnt_mono (fun y => b.testBit y && (moveN n a y).testBit x) (show d + 1 ≤ n by omega)
    have h4 := ht x hx
    have h5 := cv_succ n a b d x
    rw [hb, h2.2] at h5
    simp at h5
    unfold cv at *
    omega
theorem filled_end {n a b : Nat} (h : ∀ x, x < n → cv n a b n x ≤ 1) : filled n a b n = 2 ^ n - 1 ↔ Tiled n a b := by
  rw [fillsAll_iff (filled_lt n a b n)]
  constructor
  · intro h1 x hx
    have := h1 x hx
    rw [filled_bit] at this
    have h2 : 1 ≤ cv n a b n x := by simpa using this
    have := h x hx
    omega
  · intro h1 x hx
    rw [filled_bit, h1 x hx]; rfl
theorem filled_step_not {n a b d : Nat} (h : ∀ x, x < n → cv n a b d x ≤ 1) (hb : ¬ b.testBit d = true) : ∀ x, x < n → cv n a b (d + 1) x ≤ 1 := by
  intro x hx
  rw [cv_succ]
  have := h x hx
  simp only [Bool.not_eq_true] at hb
  rw [hb]; simpa using this
/-- the one entry that brings a beat -/
theorem tiled_enter {n a b x : Nat} (ht : Tiled n a b) (hx : x < n) : ∃ y, y < n ∧ b.testBit y = true ∧ (moveN n a y).testBit x = true ∧ (∀ z, z < y → ¬ (b.testBit z = true ∧ (moveN n a z).testBit x = true)) ∧ ∀ z, z < n → b.testBit z = true → (moveN n a z).testBit x = true → z = y := by
  have h1 : cnt n (fun y => b.testBit y && (moveN n a y).testBit x) = 1 := ht x hx
  obtain ⟨y, hy, hp, hq⟩ := cnt_first n (show 1 ≤ cnt n (fun y => b.testBit y && (moveN n a y).testBit x) by omega)
  have hp' := hp
  simp only [Bool.and_eq_true] at hp'
  refine ⟨y, hy, hp'.1, hp'.2, fun z hz h => ?_, fun z hz h h' => ?_⟩
  · have := hq z hz
    simp only [h.1, h.2, Bool.and_self] at this
    cases this
  · exact cnt_one h1 hz hy (by simp only [h, h', Bool.and_self]) hp
end Go.Proofs.Ytpfjnpbcnlbhaaa.P
namespace Go.Proofs.Ytpfjnpbcnlbhaaa.P
/-! All partners of a rhythm by filling the first free beat: what such a search comes to. Plain Lean. -/
theorem cnt_le_of {p q : Nat → Bool} (n : Nat) (h : ∀ i, i < n → p i = true → q i = true) : cnt n p ≤ cnt n q := by
  rw [cnt_eq, cnt_eq]
  refine List.countP_mono_left (fun x hx hp => ?_)
  exact h x (List.mem_range.1 hx) hp
theorem cnt_lt_of {p q : Nat → Bool} : ∀ (n : Nat), (∀ i, i < n → p i = true → q i = true) → ∀ j, j < n → p j = false → q j = true → cnt n p < cnt n q
  | 0, _, j, hj, _, _ => by omega
  | n + 1, h, j, hj, h1, h2 => by
    rw [cnt_succ, cnt_succ]
    by_cases e : j = n
    · subst e
      have := cnt_le_of (p := p) (q := q) j (fun i hi => h i (by omega))
      rw [h1, h2]; simp; omega
    · have := cnt_lt_of n (fun i hi => h i (by omega)) j (by omega) h1 h2
      have h3 := h n (by omega)
      cases hp : p n with
      | false => simp; omega
      | true => rw [h3 hp]; simp; omega
/-- two rhythms fill the circle: each beat is met, by one entry -/
def Fills (n a c : Nat) : Prop := (∀ x, x < n → ∃ y, y < n ∧ c.testBit y = true ∧ (moveN n a y).testBit x = true) ∧
  (∀ x, x < n → ∀ y, y < n → ∀ z, z < n → c.testBit y = true → c.testBit z = true → (moveN n a y).testBit x = true → (moveN n a z).testBit x = true → y = z)
theorem tiled_fills {n a c : Nat} : Tiled n a c ↔ Fills n a c := by
  constructor
  · intro h
    refine ⟨fun x hx => ?_, fun x hx y hy z hz h1 h2 h3 h4 => ?_⟩
    · obtain ⟨y, h1, h2, h3, _⟩ := tiled_enter h hx
      exact ⟨y, h1, h2, h3⟩
    · obtain ⟨w, _, _, _, _, hu⟩ := tiled_enter h hx
      rw [hu y hy h1 h3, hu z hz h2 h4]
  · rintro ⟨h1, h2⟩ x hx
    obtain ⟨y, hy, hc, hm⟩ := h1 x hx
    have h3 : 1 ≤ cv n a c n x := cnt_pos (p := fun y => c.testBit y && (moveN n a y).testBit x) hy (by simp [hc, hm])
    have h4 : cv n a c n x ≤ 1 := by
      have : cv n a c n x ≤ cnt n (fun i => decide (i = y)) := cnt_le_of n (fun i hi hp => by
        simp only [Bool.and_eq_true] at hp
        simpa using h2 x hx i hi y hy hp.1 hc hp.2 hm)
      have h5 : ∀ m, cnt m (fun i => decide (i = y)) ≤ 1 := by
        intro m
        rcases Nat.lt_or_ge (cnt m (fun i => decide (i = y))) 2 with h | h
        · omega
        · exfalso
          induction m with
          | zero => rw [cnt_zero] at h; omega
          | succ m ih =>
            rw [cnt_succ] at h
            by_cases e : m = y
            · subst e
              have : cnt m (fun i => decide (i = m)) = 0 := by
                have e1 := cnt_congr (n := m) (p := fun i => decide (i = m)) (q := fun _ => false) (fun i hi => by simp; omega)
                rw [e1, cnt_eq]; simp
              simp at h; omega
            · simp [e] at h
              exact ih h
      have := h5 n
      omega
    omega
/-- the first beat that is free -/
def lowFree (F : Nat) : Nat → Nat → Nat
  | 0, i => i
  | d + 1, i => if F.testBit i then lowFree F d (i + 1) else i
theorem lowFree_spec {F : Nat} : ∀ (d i : Nat), (∀ j, j < i → F.testBit j = true) → (∃ j, i ≤ j ∧ j < i + d ∧ F.testBit j = false) →
    lowFree F d i < i + d ∧ F.testBit (lowFree F d i) = false ∧ ∀ j, j < lowFree F d i → F.testBit j = true
  | 0, i, _, h => by obtain ⟨j, h1, h2, _⟩ := h; omega
  | d + 1, i, h0, h => by
    simp only [lowFree]
    cases hb : F.testBit i with
    | false => simp only [Bool.false_eq_true, if_false]; exact ⟨by omega, hb, h0⟩
    | true =>
      simp only [if_true]
      have := lowFree_spec d (i + 1) (fun j hj => by
        by_cases e : j = i
        · subst e; exact hb
        · exact h0 j (by omega)) (by
        obtain ⟨j, h1, h2, h3⟩ := h
        refine ⟨j, ?_, by omega, h3⟩
        by_cases e : j = i
        · subst e; rw [hb] at h3; cases h3
        · omega)
      exact ⟨by omega, this.2⟩
def freeAt (n F : Nat) : Nat := lowFree F n 0
theorem freeAt_spec {n F : Nat} (hF : F < 2 ^ n) (h : F ≠ 2 ^ n - 1) : freeAt n F < n ∧ F.testBit (freeAt n F) = false ∧ ∀ j, j < freeAt n F → F.testBit j = true := by
  have := lowFree_spec (F := F) n 0 (fun j hj => by omega) (by
    rcases Classical.em (∃ j, j < n ∧ F.testBit j = false) with ⟨j, h1, h2⟩ | h'
    · exact ⟨j, by omega, by omega, h2⟩
    · exfalso
      refine h ((fillsAll_iff hF).2 (fun x hx => ?_))
      cases hb : F.testBit x with
      | true => rfl
      | false => exact absurd ⟨x, hx, hb⟩ h')
  unfold freeAt
  exact ⟨by omega, this.2⟩
def vis (n a : Nat) (st : Nat → Nat → Option Nat) : Nat → Nat → Nat → List Nat
  | 0, _, _ => []
  | d + 1, b, F => if F = 2 ^ n - 1 then [b] else (List.range n).flatMap fun x =>
      match st (freeAt n F) x with
      | some k => if moveN n a k &&& F = 0 then vis n a st d (b ||| 2 ^ k) (F ||| moveN n a k) else []
      | none => []
/-- what the entries chosen so far fill -/
def Part (n a b F : Nat) : Prop := b < 2 ^ n ∧ F < 2 ^ n ∧ (∀ x, x < n → (F.testBit x = true ↔ ∃ y, y < n ∧ b.testBit y = true ∧ (moveN n a y).testBit x = true)) ∧
  (∀ x, x < n → ∀ y, y < n → ∀ z, z < n → b.testBit y = true → b.testBit z = true → (moveN n a y).testBit x = true → (moveN n a z).testBit x = true → y = z)
/-- the ways in which a free beat can be filled, each once -/
def StepOk (n a : Nat) (st : Nat → Nat → Option Nat) : Prop := (∀ f x k, f < n → x < n → st f x = some k → k < n ∧ (moveN n a k).testBit f = true) ∧
  (∀ f k, f < n → k < n → (moveN n a k).testBit f = true → ∃ x, x < n ∧ st f x = some k) ∧ (∀ f x y k, f < n → x < n → y < n → st f x = some k → st f y = some k → x = y)
theorem moveN_self {n a y : Nat} (ha : a < 2 ^ n) (h0 : a.testBit 0 = true) (hy : y < n) : (moveN n a y).testBit y = true := by
  rw [testBit_moveN ha hy hy]
  have : (y + (n - y)) % n = 0 := by rw [show y + (n - y) = n by omega, Nat.mod_self]
  rw [this]; exact h0
theorem Part.add {n a b F k : Nat} (h : Part n a b F) (hk : k < n) (hm : moveN n a k &&& F = 0) : Part n a (b ||| 2 ^ k) (F ||| moveN n a k) := by
  obtain ⟨hb, hF, h1, h2⟩ := h
  have hp : 2 ^ k < 2 ^ n := Nat.pow_lt_pow_right (by omega) hk
  have hno : ∀ x, x < n → (moveN n a k).testBit x = true → F.testBit x = false := by
    intro x hx hx1
    have : (moveN n a k &&& F).testBit x = false := by rw [hm]; simp
    rw [Nat.testBit_and, hx1, Bool.true_and] at this
    exact this
  refine ⟨Nat.or_lt_two_pow hb hp, Nat.or_lt_two_pow hF (moveN_lt n a k), fun x hx => ?_, fun x hx y hy z hz => ?_⟩
  · rw [Nat.testBit_or, Bool.or_eq_true, h1 x hx]
    constructor
    · rintro (⟨y, h3, h4, h5⟩ | h3)
      · exact ⟨y, h3, by rw [testBit_or_two_pow, h4]; rfl, h5⟩
      · exact ⟨k, hk, by rw [testBit_or_two_pow]; simp, h3⟩
    · rintro ⟨y, h3, h4, h5⟩
      rw [testBit_or_two_pow, Bool.or_eq_true, decide_eq_true_eq] at h4
      rcases h4 with h4 | rfl
      · exact .inl ⟨y, h3, h4, h5⟩
      · exact .inr h5
  · rw [testBit_or_two_pow, testBit_or_two_pow, Bool.or_eq_true, Bool.or_eq_true, decide_eq_true_eq, decide_eq_true_eq]
    rintro (h3 | rfl) (h4 | rfl) h5 h6
    · exact h2 x hx y hy z hz h3 h4 h5 h6
    · exfalso
      have := hno x hx h6
      rw [(h1 x hx).2 ⟨y, hy, h3, h5⟩] at this; cases this
    · exfalso
      have := hno x hx h5
      rw [(h1 x hx).2 ⟨z, hz, h4, h6⟩] at this; cases this
    · rfl
theorem vis_spec {n a : Nat} {st : Nat → Nat → Option Nat} (ha : a < 2 ^ n) (h0 : a.testBit 0 = true) (hst : StepOk n a st) : ∀ (d b F : Nat), Part n a b F → cnt n (fun i => !F.testBit i) < d →
    (vis n a st d b F).Nodup ∧ ∀ c, c ∈ vis n a st d b F ↔ (c < 2 ^ n ∧ Fills n a c ∧ ∀ y, b.testBit y = true → c.testBit y = true)
  | 0, b, F, _, hd => by omega
  | d + 1, b, F, hP, hd => by
    have hP' := hP
    obtain ⟨hb, hF, h1, h2⟩ := hP
    simp only [vis]
    by_cases e : F = 2 ^ n - 1
    · rw [if_pos e]
      have hall := (fillsAll_iff hF).1 e
      refine ⟨by simp, fun c => ?_⟩
      rw [List.mem_singleton]
      constructor
      · rintro rfl
        exact ⟨hb, ⟨fun x hx => (h1 x hx).1 (hall x hx), h2⟩, fun _ h => h⟩
      · rintro ⟨hc, ⟨h3, h4⟩, h5⟩
        refine bits_ext hc hb (fun i hi => ?_)
        cases hbi : b.testBit i with
        | true => exact h5 i hbi
        | false =>
          cases hci : c.testBit i with
          | false => rfl
          | true =>
            exfalso
            obtain ⟨z, hz, hbz, hmz⟩ := (h1 i hi).1 (hall i hi)
            have := h4 i hi i hi z hz hci (h5 z hbz) (moveN_self ha h0 hi) hmz
            subst this
            rw [hbi] at hbz; cases hbz
    · rw [if_neg e]
      obtain ⟨hf, hf0, _⟩ := freeAt_spec hF e
      obtain ⟨s1, s2, s3⟩ := hst
      have ih : ∀ k, k < n → (moveN n a k).testBit (freeAt n F) = true → moveN n a k &&& F = 0 → _ := fun k hk hkf hm =>
        vis_spec ha h0 ⟨s1, s2, s3⟩ d (b ||| 2 ^ k) (F ||| moveN n a k) (hP'.add hk hm) (by
          have := cnt_lt_of (p := fun i => !(F ||| moveN n a k).testBit i) (q := fun i => !F.testBit i) n (fun i _ hp => by
            rw [Nat.testBit_or] at hp; cases hq : F.testBit i <;> simp_all) (freeAt n F) hf (by rw [Nat.testBit_or, hkf]; simp) (by rw [hf0]; rfl)
          omega)
      have hmem : ∀ x c, x < n → (c ∈ (match st (freeAt n F) x with
          | some k => if moveN n a k &&& F = 0 then vis n a st d (b ||| 2 ^ k) (F ||| moveN n a k) else []
          | none => []) ↔ ∃ k, st (freeAt n F) x = some k ∧ moveN n a k &&& F = 0 ∧ c < 2 ^ n ∧ Fills n a c ∧ ∀ y, (b ||| 2 ^ k).testBit y = true → c.testBit y = true) := by
        intro x c hx
        cases hs : st (freeAt n F) x with
        | none => simp
        | some k =>
          obtain ⟨hk, hkf⟩ := s1 _ _ _ hf hx hs
          by_cases hm : moveN n a k &&& F = 0
          · simp only [hm, if_true]
            rw [(ih k hk hkf hm).2 c]
            constructor
            · rintro ⟨h3, h4, h5⟩; exact ⟨k, rfl, hm, h3, h4, h5⟩
            · rintro ⟨k', e', _, h3, h4, h5⟩; cases e'; exact ⟨h3, h4, h5⟩
          · simp only [hm, if_false]
            constructor
            · intro h; cases h
            · rintro ⟨k', e', hm', _⟩; cases e'; exact absurd hm' hm
      constructor
      · refine List.pairwise_flatMap.2 ⟨fun x hx => ?_, ?_⟩
        · rw [List.mem_range] at hx
          cases hs : st (freeAt n F) x with
          | none => exact List.Pairwise.nil
          | some k =>
            obtain ⟨hk, hkf⟩ := s1 _ _ _ hf hx hs
            by_cases hm : moveN n a k &&& F = 0
            · simp only [hm, if_true]; exact (ih k hk hkf hm).1
            · simp only [hm, if_false]; exact List.Pairwise.nil
        · refine List.Pairwise.imp_of_mem (R := fun x y => x < y) ?_ List.pairwise_lt_range
          intro x y hx hy hxy c hc c' hc' hcc
          rw [List.mem_range] at hx hy
          subst hcc
          obtain ⟨k, hs, _, hcl, hfc, hsub⟩ := (hmem x c hx).1 hc
          obtain ⟨k', hs', _, _, _, hsub'⟩ := (hmem y c hy).1 hc'
          obtain ⟨hk, hkf⟩ := s1 _ _ _ hf hx hs
          obtain ⟨hk', hkf'⟩ := s1 _ _ _ hf hy hs'
          have e1 := hsub k (by rw [testBit_or_two_pow]; simp)
          have e2 := hsub' k' (by rw [testBit_or_two_pow]; simp)
          have := hfc.2 _ hf k hk k' hk' e1 e2 hkf hkf'
          subst this
          have := s3 _ _ _ _ hf hx hy hs hs'
          omega
      · intro c
        rw [List.mem_flatMap]
        constructor
        · rintro ⟨x, hx, hc⟩
          rw [List.mem_range] at hx
          obtain ⟨k, _, _, h3, h4, h5⟩ := (hmem x c hx).1 hc
          exact ⟨h3, h4, fun y hy => h5 y (by rw [testBit_or_two_pow, hy]; rfl)⟩
        · rintro ⟨hc, hfc, hsub⟩
          obtain ⟨k, hk, hck, hkf⟩ := hfc.1 _ hf
          obtain ⟨x, hx, hs⟩ := s2 _ k hf hk hkf
          refine ⟨x, List.mem_range.2 hx, (hmem x c hx).2 ⟨k, hs, ?_, hc, hfc, fun y hy => ?_⟩⟩
          · refine bits_ext (n := n) (Nat.lt_of_le_of_lt Nat.and_le_left (moveN_lt n a k)) (Nat.two_pow_pos n) (fun i hi => ?_)
            rw [Nat.zero_testBit, Nat.testBit_and]
            cases hi1 : (moveN n a k).testBit i with
            | false => rfl
            | true =>
              cases hi2 : F.testBit i with
              | false => rfl
              | true =>
                exfalso
                obtain ⟨z, hz, hbz, hmz⟩ := (h1 i hi).1 hi2
                have := hfc.2 i hi k hk z hz hck (hsub z hbz) hi1 hmz
                subst this
                rw [(h1 _ hf).2 ⟨k, hk, hbz, hkf⟩] at hf0; cases hf0
          · rw [testBit_or_two_pow, Bool.or_eq_true, decide_eq_true_eq] at hy
            rcases hy with hy | rfl
            · exact hsub y hy
            · exact hck
theorem moveN_zero {n a : Nat} (hn : 1 ≤ n) (ha : a < 2 ^ n) : moveN n a 0 = a :=
  bits_ext (moveN_lt n a 0) ha (fun i hi => by rw [testBit_moveN ha (by omega) hi]; congr 1; rw [Nat.sub_zero, Nat.add_mod_right, Nat.mod_eq_of_lt hi])
theorem one_bit (y : Nat) : (1 : Nat).testBit y = decide (y = 0) := by
  cases y with
  | zero => rfl
  | succ y => rw [Nat.testBit_succ]; simp
theorem Part.start {n a : Nat} (hn : 1 ≤ n) (ha : a < 2 ^ n) : Part n a 1 a := by
  have h1 := one_bit
  refine ⟨Nat.lt_of_lt_of_le (by decide : 1 < 2 ^ 1) (Nat.pow_le_pow_right (by omega) hn), ha, fun x hx => ?_, fun x hx y hy z hz h2 h3 _ _ => ?_⟩
  · constructor
    · intro h; exact ⟨0, by omega, by rw [h1]; rfl, by rw [moveN_zero hn ha]; exact h⟩
    · rintro ⟨y, hy, h2, h3⟩
      rw [h1, decide_eq_true_eq] at h2
      subst h2
      rw [moveN_zero hn ha] at h3; exact h3
  · rw [h1, decide_eq_true_eq] at h2 h3; omega
/-- the way of the program: the beats of a, in order; the way of the document: the entries, in order -/
def stA (n a f x : Nat) : Option Nat := if a.testBit x then some ((f + (n - x)) % n) else none
def stR (n a f y : Nat) : Option Nat := if (moveN n a y).testBit f then some y else none
theorem sub_mod_two {n f x : Nat} (hf : f < n) (hx : x < n) : (f + (n - (f + (n - x)) % n)) % n = x := by
  rcases Nat.lt_or_ge f x with h | h
  · rw [Nat.mod_eq_of_lt (show f + (n - x) < n by omega), show f + (n - (f + (n - x))) = x by omega, Nat.mod_eq_of_lt hx]
  · have e : (f + (n - x)) % n = f - x := by
      rw [show f + (n - x) = (f - x) + n by omega, Nat.add_mod_right, Nat.mod_eq_of_lt (by omega)]
    rw [e]
    rw [show f + (n - (f - x)) = x + n by omega, Nat.add_mod_right, Nat.mod_eq_of_lt hx]
theorem stepOk_A {n a : Nat} (ha : a < 2 ^ n) : StepOk n a (stA n a) := by
  refine ⟨fun f x k hf hx h => ?_, fun f k hf hk h => ?_, fun f x y k hf hx hy h h' => ?_⟩
  · unfold stA at h
    split at h
    · rename_i hb
      cases h
      have hk : (f + (n - x)) % n < n := Nat.mod_lt _ (by omega)
      refine ⟨hk, ?_⟩
      rw [testBit_moveN ha hk hf, sub_mod_two hf hx]; exact hb
    · cases h
  · rw [testBit_moveN ha hk hf] at h
    refine ⟨(f + (n - k)) % n, Nat.mod_lt _ (by omega), ?_⟩
    unfold stA
    rw [if_pos h, sub_mod_two hf hk]
  · unfold stA at h h'
    split at h
    · split at h'
      · cases h; injection h' with h'
        have := sub_mod_two hf hx; have := sub_mod_two hf hy; rw [h'] at this; omega
      · cases h'
    · cases h
theorem stepOk_R {n a : Nat} : StepOk n a (stR n a) := by
  refine ⟨fun f x k hf hx h => ?_, fun f k hf hk h => ⟨k, hk, by unfold stR; rw [if_pos h]⟩, fun f x y k hf hx hy h h' => ?_⟩
  · unfold stR at h
    split at h
    · rename_i hb; cases h; exact ⟨hx, hb⟩
    · cases h
  · unfold stR at h h'
    split at h
    · split at h'
      · cases h; injection h' with h'; exact h'.symm
      · cases h'
    · cases h
theorem start_cnt {n a : Nat} : cnt n (fun i => !a.testBit i) < n + 1 := by have := cnt_le n (fun i => !a.testBit i); omega
theorem partners_spec {n a : Nat} {st : Nat → Nat → Option Nat} (hn : 1 ≤ n) (ha : a < 2 ^ n) (h0 : a.testBit 0 = true) (hst : StepOk n a st) :
    (vis n a st (n + 1) 1 a).Nodup ∧ ∀ c, c ∈ vis n a st (n + 1) 1 a ↔ (c < 2 ^ n ∧ Tiled n a c ∧ c.testBit 0 = true) := by
  obtain ⟨h1, h2⟩ := vis_spec ha h0 hst (n + 1) 1 a (Part.start hn ha) start_cnt
  refine ⟨h1, fun c => ?_⟩
  rw [h2 c, tiled_fills]
  constructor
  · rintro ⟨h3, h4, h5⟩; exact ⟨h3, h4, h5 0 rfl⟩
  · rintro ⟨h3, h4, h5⟩
    refine ⟨h3, h4, fun y hy => ?_⟩
    rw [one_bit, decide_eq_true_eq] at hy
    subst hy; exact h5
/-- lists without repetition with the same members are equally long -/
theorem nodup_length_le : ∀ (l l' : List Nat), l.Nodup → (∀ c, c ∈ l → c ∈ l') → l.length ≤ l'.length
  | [], _, _, _ => Nat.zero_le _
  | c :: l, l', hd, hs => by
    have h1 := hs c (by simp)
    have hd' := List.nodup_cons.1 hd
    have := nodup_length_le l (l'.erase c) hd'.2 (fun x hx => by
      have hx' := hs x (by simp [hx])
      have hne : x ≠ c := fun e => hd'.1 (e ▸ hx)
      exact (List.mem_erase_of_ne hne).2 hx')
    rw [List.length_erase_of_mem h1] at this
    have hp : 0 < l'.length := List.length_pos_of_mem h1
    simp only [List.length_cons]; omega
end Go.Proofs.Ytpfjnpbcnlbhaaa.P
namespace Go.Proofs.Ytpfjnpbcnlbhaaa.P
open Go.RowKit Go.Proofs.YtpfjnpbcnlbhaaaW.PrintWords Go.Proofs.YtpfjnpbcnlbhaaaW.PrintLast Go.Proofs.YtpfjnpbcnlbhaaaW.PrintMore
attribute [local go_sem] max2_int min2_int max_two min_two max_three min_three max_four min_four   -- for this text's walks alone
set_option linter.unusedVariables false
set_option linter.unusedSimpArgs false

/-! ### rows_Every: function 17 -/
def rows_Every.f (k : Nat) (l0 : List Int) : Option (Bool × Int) := (rows_row_valid.f k l0).bind fun t1001 => (if t1001 = true then ((rows_row_every.f k l0).bind fun t1002 => (some (t1002, 0))) else (some (false, 2)))
theorem rows_Every.mono : ∀ a0 k, LeO (rows_Every.f k a0) (rows_Every.f (k + 1) a0) := by
  intro a0 k
  unfold rows_Every.f
  repeat' first
      | (with_reducible exact rows_row_every.mono _ _)
      | (with_reducible exact rows_row_valid.mono _ _)
      | (with_reducible exact LeO.refl _)
      | (with_reducible exact LeO.none _)
      | (with_reducible refine LeO.ite ?_ ?_)
      | (with_reducible refine LeO.bind ?_ (fun _ => ?_))
      | exact rows_row_every.mono _ _
      | exact rows_row_valid.mono _ _
      | exact LeO.none _
      | refine LeO.ite ?_ ?_
      | refine LeO.bind ?_ (fun _ => ?_)
set_option maxHeartbeats 8000000 in
set_option maxRecDepth 100000 in
theorem rows_Every.calls (k : Nat) (A0 : Option Addr) (c0 : Nat) (l0 : List Int) (r1 : Bool) (r2 : Int) (w : World) (hr0 : Kd.C (Kd.int .i64) w A0 l0.length l0) (hc0 : l0.length ≤ c0) (h : rows_Every.f k l0 = some (r1, r2)) :
    Calls Try.prog 17 #[.slice A0 l0.length c0] w fun e w' => e = .returned (.tuple #[.bool r1, .int .i64 r2]) ∧ Below w.heap.size w w' := by
  have HR0 := Aside0.mk hr0
  have HC0 := Aside0.mk hc0
  clear hr0 hc0
  have HB := Aside0.mk (Below.refl w.heap.size w)
  have H : ((rows_row_valid.f k l0).bind fun t1001 => (if t1001 = true then ((rows_row_every.f k l0).bind fun t1002 => (some (t1002, 0))) else (some (false, 2)))) = some (r1, r2) := h
  clear h
  replace H := Option.bind_eq_some_iff.mp H
  obtain ⟨t1001, A20, H⟩ := H
  replace H : (if t1001 = true then ((rows_row_every.f k l0).bind fun t1002 => (some (t1002, 0))) else (some (false, 2))) = some (r1, r2) := H
  have A2 := Aside0.mk A20
  clear A20
  by_cases c3 : t1001 = true
  · subst c3
    have H1 : ((rows_row_every.f k l0).bind fun t1002 => (some (t1002, 0))) = some (r1, r2) := by rw [if_pos rfl] at H; exact H
    clear H
    have H := H1
    clear H1
    replace H := Option.bind_eq_some_iff.mp H
    obtain ⟨t1002, A40, H⟩ := H
    replace H : (some (t1002, 0)) = some (r1, r2) := H
    have A4 := Aside0.mk A40
    clear A40
    simp only [Option.some.injEq, Prod.mk.injEq] at H
    obtain ⟨rfl, rfl⟩ := H
    go_enter Try.func17, Try.ntmps17
    go_wp2_with (first | ((with_reducible refine gate_callee (f := 46) rfl ?_); refine goesL_ (some 5) rfl rfl Try.func46 (by kernel_rfl) rfl #[.slice A0 l0.length c0] rfl (by (try simp only [List.map_toArray, List.map_cons, List.map_nil]); first | done | rfl | (simp only [List.length_drop, List.length_take]; rfl)) ?_; (with_reducible refine (rows_row_valid.calls k _ _ l0 true _ ?side1 ?side2 A2.out).mono ?_); (case side1 => repeat (first | exact HR0.out | (with_reducible refine Kd.C_alloc ?_ _) | (with_reducible refine Kd.C_drewN ?_ _) | (with_reducible refine Kd.C_drew ?_))); (case side2 => exact HC0.out); rintro e w' ⟨rfl, ⟨nd, rfl⟩⟩; refine ⟨_, rfl, ?_⟩) | ((with_reducible refine gate_callee (f := 48) rfl ?_); refine goesL_ (some 8) rfl rfl Try.func48 (by kernel_rfl) rfl #[.slice A0 l0.length c0] rfl (by (try simp only [List.map_toArray, List.map_cons, List.map_nil]); first | done | rfl | (simp only [List.length_drop, List.length_take]; rfl)) ?_; (with_reducible refine (rows_row_every.calls k _ _ l0 t1002 _ ?side1 ?side2 A4.out).mono ?_); (case side1 => repeat (first | exact HR0.out | (with_reducible refine Kd.C_alloc ?_ _) | (with_reducible refine Kd.C_drewN ?_ _) | (with_reducible refine Kd.C_drew ?_))); (case side2 => exact HC0.out); rintro e w5 ⟨rfl, hb⟩; refine ⟨_, rfl, ?_⟩; have n0_ := Aside0.mk (below_step (by repeat (first | (with_reducible first | exact HB.out | apply below_alloc | apply pw_below_drewN | apply below_drew1) | exact HB.out)) hb); clear HB; have HB := n0_; clear n0_; (try clear hb); (try clear hb2); (try clear hk); (try clear hi)))
    go_ret2
    exact ⟨by first | rfl | (simp [errW_none, errW_some] <;> rfl) | (simp [*, errW_none, errW_some] <;> rfl), by repeat (first | (with_reducible first | exact HB.out | apply below_alloc | apply pw_below_drewN | apply below_drew1) | exact HB.out)⟩
  · replace c3 := Bool.eq_false_iff.mpr c3
    subst c3
    have H1 : (some (false, 2)) = some (r1, r2) := by rw [if_neg (show ¬ (false = true) by decide)] at H; exact H
    clear H
    have H := H1
    clear H1
    simp only [Option.some.injEq, Prod.mk.injEq] at H
    obtain ⟨rfl, rfl⟩ := H
    go_enter Try.func17, Try.ntmps17
    go_wp2_with (first | ((with_reducible refine gate_callee (f := 46) rfl ?_); refine goesL_ (some 5) rfl rfl Try.func46 (by kernel_rfl) rfl #[.slice A0 l0.length c0] rfl (by (try simp only [List.map_toArray, List.map_cons, List.map_nil]); first | done | rfl | (simp only [List.length_drop, List.length_take]; rfl)) ?_; (with_reducible refine (rows_row_valid.calls k _ _ l0 false _ ?side1 ?side2 A2.out).mono ?_); (case side1 => repeat (first | exact HR0.out | (with_reducible refine Kd.C_alloc ?_ _) | (with_reducible refine Kd.C_drewN ?_ _) | (with_reducible refine Kd.C_drew ?_))); (case side2 => exact HC0.out); rintro e w' ⟨rfl, ⟨nd, rfl⟩⟩; refine ⟨_, rfl, ?_⟩))
    go_ret2
    exact ⟨by first | rfl | (simp [errW_none, errW_some] <;> rfl) | (simp [*, errW_none, errW_some] <;> rfl), by repeat (first | (with_reducible first | exact HB.out | apply below_alloc | apply pw_below_drewN | apply below_drew1) | exact HB.out)⟩

end Go.Proofs.Ytpfjnpbcnlbhaaa.P
namespace Go.Proofs.Ytpfjnpbcnlbhaaa.P
open Go.RowKit Go.Proofs.YtpfjnpbcnlbhaaaW.PrintWords Go.Proofs.YtpfjnpbcnlbhaaaW.PrintLast Go.Proofs.YtpfjnpbcnlbhaaaW.PrintMore
attribute [local go_sem] max2_int min2_int max_two min_two max_three min_three max_four min_four   -- for this text's walks alone
set_option linter.unusedVariables false
set_option linter.unusedSimpArgs false

/-! runs over a list that gather a set -/
def validRun (n : Nat) : Nat → List Int → Bool
  | s, [] => decide (s = 2 ^ n - 1)
  | s, x :: xs => if x < 0 then false else if x ≥ n then false else validRun n (s ||| 2 ^ x.toNat) xs
theorem validRun_iff (n : Nat) : ∀ (xs : List Int) (s : Nat), validRun n s xs = decide ((∀ x ∈ xs, 0 ≤ x ∧ x < n) ∧ orAll s (xs.map Int.toNat) = 2 ^ n - 1) := by
  intro xs
  induction xs with
  | nil => intro s; simp [validRun, orAll]
  | cons x xs ih =>
    intro s
    simp only [validRun, List.map_cons, orAll_cons, ih, List.forall_mem_cons]
    by_cases h1 : x < 0
    · simp [h1]; intro h; omega
    · by_cases h2 : x ≥ n
      · simp [h1, h2]; intro _ h; omega
      · simp only [h1, h2, if_false]
        congr 1
        rw [eq_iff_iff]
        constructor
        · rintro ⟨a, b⟩; exact ⟨⟨⟨by omega, by omega⟩, a⟩, b⟩
        · rintro ⟨⟨_, a⟩, b⟩; exact ⟨a, b⟩
theorem nodup_toNat {xs : List Int} (h : ∀ x ∈ xs, 0 ≤ x) : (xs.map Int.toNat).Nodup ↔ xs.Nodup := by
  induction xs with
  | nil => simp
  | cons x xs ih =>
    have h' := ih (fun y hy => h y (List.mem_cons_of_mem _ hy))
    simp only [List.map_cons, List.nodup_cons, h']
    have : x.toNat ∈ xs.map Int.toNat ↔ x ∈ xs := by
      simp only [List.mem_map]
      constructor
      · rintro ⟨y, hy, e⟩
        have := h y (List.mem_cons_of_mem _ hy); have := h x List.mem_cons_self
        obtain rfl : y = x := by omega
        exact hy
      · intro hx; exact ⟨x, hx, rfl⟩
    rw [this]
def partRun (n : Nat) : Nat → List Int → Bool
  | _, [] => true
  | s, x :: xs => if x < 0 then false else if x ≥ n then false else if s.testBit x.toNat then false else partRun n (s ||| 2 ^ x.toNat) xs
theorem partRun_iff (n : Nat) : ∀ (xs : List Int) (s : Nat), partRun n s xs = decide ((∀ x ∈ xs, 0 ≤ x ∧ x < n ∧ s.testBit x.toNat = false) ∧ xs.Nodup) := by
  intro xs
  induction xs with
  | nil => intro s; simp [partRun]
  | cons x xs ih =>
    intro s
    simp only [partRun, ih, List.forall_mem_cons, List.nodup_cons]
    by_cases h1 : x < 0
    · simp [h1]; intro h; omega
    · by_cases h2 : x ≥ n
      · simp [h1, h2]; intro _ h; omega
      · by_cases h3 : s.testBit x.toNat = true
        · simp [h1, h2, h3]
        · rw [if_neg h1, if_neg h2, if_neg h3, decide_eq_decide]
          simp only [testBit_or_two_pow, Bool.or_eq_false_iff, decide_eq_false_iff_not]
          constructor
          · rintro ⟨a, b⟩
            refine ⟨⟨⟨by omega, by omega, by simpa using h3⟩, fun y hy => ⟨(a y hy).1, (a y hy).2.1, (a y hy).2.2.1⟩⟩, fun hx => (a x hx).2.2.2 rfl, b⟩
          · rintro ⟨⟨_, a⟩, b, c⟩
            refine ⟨fun y hy => ⟨(a y hy).1, (a y hy).2.1, (a y hy).2.2, fun e => b ?_⟩, c⟩
            have := (a y hy).1
            obtain rfl : x = y := by omega
            exact hy

end Go.Proofs.Ytpfjnpbcnlbhaaa.P
namespace Go.Proofs.Ytpfjnpbcnlbhaaa.P
open Go.RowKit Go.Proofs.YtpfjnpbcnlbhaaaW.PrintWords Go.Proofs.YtpfjnpbcnlbhaaaW.PrintLast Go.Proofs.YtpfjnpbcnlbhaaaW.PrintMore
attribute [local go_sem] max2_int min2_int max_two min_two max_three min_three max_four min_four   -- for this text's walks alone
set_option linter.unusedVariables false
set_option linter.unusedSimpArgs false

/-! What the functions on rows come to. -/
def IsRow (l : List Int) : Prop := 2 ≤ l.length ∧ l.length ≤ 10 ∧ (∀ x ∈ l, 0 ≤ x ∧ x < l.length) ∧ l.Nodup
instance (l : List Int) : Decidable (IsRow l) := by unfold IsRow; infer_instance
def PartOf (n : Nat) (l : List Int) : Prop := (∀ x ∈ l, 0 ≤ x ∧ x < n) ∧ l.Nodup
instance (n : Nat) (l : List Int) : Decidable (PartOf n l) := by unfold PartOf; infer_instance
def stepsOf (n : Int) : List Int → List Int
  | x :: y :: r => (y - x) % n :: stepsOf n (y :: r)
  | _ => []

theorem rows_mod_f {a n : Int} (hn : 0 < n) (hb : n < 4611686018427387904) : rows_mod.f a n = some (a % n) := by
  unfold rows_mod.f
  rw [if_neg (by omega), tmod_mod hn hb]

/-! a row is valid -/
theorem valid_loop (l : List Int) (hl : l.length ≤ 10) : ∀ (xs pre : List Int) (s : Nat), l = pre ++ xs → s < 2 ^ l.length →
    Ev (fun k => rows_row_valid.l0 k (l.length : Int) (s : Int) l (l.length : Int) (pre.length : Int)) (validRun l.length s xs) := by
  intro xs
  induction xs with
  | nil =>
    intro pre s h0 hs
    refine Ev.succ ?_
    have hsh := shl1_i64 (x := l.length) (by omega)
    have hp := Nat.two_pow_pos l.length
    have hp2 := two_pow_lt63 (x := l.length) (by omega)
    have hw : wrap64 (shl .i64 1 (l.length : Int) - 1) = ((2 ^ l.length - 1 : Nat) : Int) := by
      rw [hsh, wrap_id (by omega) (by have : (2 : Nat) ^ 63 = 9223372036854775808 := by decide
                                      omega)]
      omega
    simp only [rows_row_valid.l0, if_neg (mid_end h0), if_pos (show (0 : Int) ≤ (l.length : Int) by omega), hw]
    have e : ((s : Int) == ((2 ^ l.length - 1 : Nat) : Int)) = decide (s = 2 ^ l.length - 1) := by
      by_cases h : s = 2 ^ l.length - 1
      · simp only [← h]; simp
      · simp only [h, decide_false, beq_eq_false_iff_ne]; omega
    rw [e]
    exact Ev.some _
  | cons x xs ih =>
    intro pre s h0 hs
    refine Ev.succ ?_
    simp only [rows_row_valid.l0, if_pos (mid_lt h0), if_pos (show (0 : Int) ≤ (pre.length : Int) by omega), mid_rd h0, mid_next h0 (by omega), validRun]
    refine Ev.ite (fun e => by simpa [e] using Ev.some false) (fun e => ?_)
    refine Ev.ite (fun e2 => by simpa [e, e2] using Ev.some false) (fun e2 => ?_)
    obtain ⟨m, rfl⟩ := Int.eq_ofNat_of_zero_le (show 0 ≤ x by omega)
    have hp2 := two_pow_lt63 (x := l.length) (by omega)
    have hm2 : 2 ^ m < 2 ^ l.length := Nat.pow_lt_pow_right (by omega) (by omega)
    have hs2 : s ||| 2 ^ m < 2 ^ l.length := Nat.or_lt_two_pow hs hm2
    simp only [if_pos (show (0 : Int) ≤ (m : Int) by omega), shl1_i64 (x := m) (by omega), or_i64 (a := s) (b := 2 ^ m) (by omega) (by omega), if_neg e, if_neg e2, Int.toNat_natCast]
    exact ih (pre ++ [(m : Int)]) (s ||| 2 ^ m) (mid_mv h0) hs2
theorem row_full {l : List Int} (hr : ∀ x ∈ l, 0 ≤ x ∧ x < l.length) : orAll 0 (l.map Int.toNat) = 2 ^ l.length - 1 ↔ l.Nodup := by
  have hr' : ∀ x ∈ l.map Int.toNat, x < l.length := by
    intro x hx
    obtain ⟨y, hy, rfl⟩ := List.mem_map.1 hx
    have := hr y hy
    omega
  rw [orAll_full _ hr', ← nodup_toNat (fun x hx => (hr x hx).1)]
  exact ⟨fun h => nodup_of_full (by simp) h, fun h => full_of_nodup (by simp) hr' h⟩
theorem valid_ev (l : List Int) : Ev (fun k => rows_row_valid.f k l) (decide (IsRow l)) := by
  unfold rows_row_valid.f
  refine Ev.ite (fun e => ?_) (fun e => ?_)
  · refine Ev.succ ?_
    have : ¬ IsRow l := fun h => by have := h.1; omega
    simp only [rows_row_valid.j0, if_true]
    simpa [this] using Ev.some false
  · refine Ev.succ ?_
    simp only [rows_row_valid.j0]
    refine Ev.ite (fun e2 => ?_) (fun e2 => ?_)
    · have e2' : (l.length : Int) > 10 := of_decide_eq_true e2
      have : ¬ IsRow l := fun h => by have := h.2.1; omega
      simpa [this] using Ev.some false
    · have e2' : ¬ (l.length : Int) > 10 := fun h => e2 (decide_eq_true h)
      have hv := valid_loop l (by omega) l [] 0 rfl (Nat.two_pow_pos _)
      have ev : validRun l.length 0 l = decide (IsRow l) := by
        rw [validRun_iff]
        congr 1
        rw [eq_iff_iff]
        unfold IsRow
        constructor
        · rintro ⟨a, b⟩; exact ⟨by omega, by omega, a, (row_full a).1 b⟩
        · rintro ⟨_, _, a, b⟩; exact ⟨a, (row_full a).2 b⟩
      rw [← ev]
      exact hv

/-! the reference's Part and Row -/
theorem Part_loop (l : List Int) (n : Nat) (hn : n ≤ 62) (hl : l.length < 9223372036854775807) : ∀ (xs pre : List Int) (s : Nat), l = pre ++ xs → s < 2 ^ n →
    Ev (fun k => sackbutref05_Part.l0 k (n : Int) (s : Int) l (l.length : Int) (pre.length : Int)) (partRun n s xs) := by
  intro xs
  induction xs with
  | nil =>
    intro pre s h0 hs
    refine Ev.succ ?_
    simp only [sackbutref05_Part.l0, if_neg (mid_end h0)]
    exact Ev.some _
  | cons x xs ih =>
    intro pre s h0 hs
    refine Ev.succ ?_
    simp only [sackbutref05_Part.l0, if_pos (mid_lt h0), if_pos (show (0 : Int) ≤ (pre.length : Int) by omega), mid_rd h0, mid_next h0 hl, partRun]
    refine Ev.ite (fun e => by simpa [e] using Ev.some false) (fun e => ?_)
    refine Ev.ite (fun e2 => by simpa [e, e2] using Ev.some false) (fun e2 => ?_)
    obtain ⟨m, rfl⟩ := Int.eq_ofNat_of_zero_le (show 0 ≤ x by omega)
    have hp2 := two_pow_lt63 (x := n) (by omega)
    have hm2 : 2 ^ m < 2 ^ n := Nat.pow_lt_pow_right (by omega) (by omega)
    have hs2 : s ||| 2 ^ m < 2 ^ n := Nat.or_lt_two_pow hs hm2
    simp only [if_pos (show (0 : Int) ≤ (m : Int) by omega), bit1_i64 (a := s) (x := m) (by omega) (by omega), shl1_i64 (x := m) (by omega), or_i64 (a := s) (b := 2 ^ m) (by omega) (by omega), if_neg e, if_neg e2, Int.toNat_natCast]
    refine Ev.ite (fun e3 => by simpa [e3] using Ev.some false) (fun e3 => ?_)
    simpa [e3] using ih (pre ++ [(m : Int)]) (s ||| 2 ^ m) (mid_mv h0) hs2
theorem Part_ev (l : List Int) (n : Nat) (hn : n ≤ 62) (hl : l.length < 9223372036854775807) : Ev (fun k => sackbutref05_Part.f k l (n : Int)) (decide (PartOf n l)) := by
  have h := Part_loop l n hn hl l [] 0 rfl (Nat.two_pow_pos _)
  rw [partRun_iff] at h
  have e : ((∀ x ∈ l, 0 ≤ x ∧ x < (n : Int) ∧ (0 : Nat).testBit x.toNat = false) ∧ l.Nodup) = PartOf n l := by
    unfold PartOf; simp
  simp only [e] at h
  exact h
theorem Row_ev (l : List Int) : Ev (fun k => sackbutref05_Row.f k l) (decide (IsRow l)) := by
  unfold sackbutref05_Row.f
  refine Ev.ite (fun e => ?_) (fun e => ?_)
  · refine Ev.ite (fun e2 => ?_) (fun e2 => ?_)
    · refine Ev.bind (Part_ev l l.length (by omega) (by omega)) ?_
      have : decide (PartOf l.length l) = decide (IsRow l) := by
        congr 1; rw [eq_iff_iff]; unfold PartOf IsRow
        exact ⟨fun h => ⟨by omega, by omega, h⟩, fun h => h.2.2⟩
      rw [this]; exact Ev.some _
    · have : ¬ IsRow l := fun h => by have := h.2.1; omega
      simpa [this] using Ev.some false
  · have : ¬ IsRow l := fun h => by have := h.1; omega
    simpa [this] using Ev.some false

/-! list -/
theorem list_f (l : List Int) : sackbutlaw05_list.f l = some (l.take 13) := by
  unfold sackbutlaw05_list.f
  rw [mn_eq, if_pos (by omega), if_pos (by omega)]
  have e : (min (l.length : Int) 13).toNat = min l.length 13 := by omega
  have e2 : l.take (min l.length 13) = l.take 13 := by
    rw [Nat.min_comm]; exact (List.take_eq_take_min ..).symm
  rw [e, e2]
  unfold slices_Clone_int_int.f
  rw [if_pos (by rw [List.length_take]; omega)]
  rfl
theorem isRow_take (l : List Int) : IsRow (l.take 13) ↔ IsRow l := by
  rcases Nat.lt_or_ge 13 l.length with h | h
  · constructor
    · intro hr; have := hr.2.1; rw [List.length_take] at this; omega
    · intro hr; have := hr.2.1; omega
  · rw [List.take_of_length_le h]
theorem row_take {l : List Int} (h : IsRow l) : l.take 13 = l := List.take_of_length_le (by have := h.2.1; omega)

/-! steps -/
theorem steps_loop (l : List Int) (n : Nat) (hn : n = l.length) (h1 : 1 ≤ n) (hb : n ≤ 62) (hr : ∀ x ∈ l, 0 ≤ x ∧ x < 4611686018427387904) : ∀ (xs pre : List Int) (p : Int) (acc : List Int), l = pre ++ p :: xs → acc.length = pre.length →
    Ev (fun k => rows_row_steps.l0 k l acc ((pre.length : Int) + 1)) (acc ++ stepsOf n (p :: xs)) := by
  intro xs
  induction xs with
  | nil =>
    intro pre p acc h0 ha
    refine Ev.succ ?_
    have : ¬ ((pre.length : Int) + 1 < (l.length : Int)) := by subst h0; simp
    simp only [rows_row_steps.l0, if_neg this, stepsOf, List.append_nil]
    exact Ev.some _
  | cons x xs ih =>
    intro pre p acc h0 ha
    have hm : l = (pre ++ [p]) ++ x :: xs := mid_mv h0
    have hi : ((pre.length : Int) + 1) = ((pre ++ [p]).length : Int) := by simp
    have hlen : pre.length + 1 < l.length := by rw [h0]; simp
    have hw : wrap64 ((pre.length : Int) + 1 - 1) = (pre.length : Int) := by rw [wrap_id (by omega) (by omega)]; omega
    have hx := hr x (by rw [hm]; simp)
    have hp := hr p (by rw [h0]; simp)
    have hs : wrap64 (x - p) = x - p := wrap_id (by omega) (by omega)
    have hlt : ((pre.length : Int) + 1 < (l.length : Int)) := by omega
    refine Ev.succ ?_
    simp only [rows_row_steps.l0, if_pos hlt, if_pos (show (0 : Int) ≤ (pre.length : Int) + 1 by omega), hw, if_pos (show (0 : Int) ≤ (pre.length : Int) by omega), if_pos (mid_lt h0), mid_rd h0]
    rw [hi]
    simp only [mid_rd hm, hs, rows_mod_f (show (0 : Int) < (l.length : Int) by omega) (show (l.length : Int) < 4611686018427387904 by omega), Option.bind_some, if_pos (show acc.length < 17592186044416 by omega), mid_next hm (by omega)]
    have := ih (pre ++ [p]) x (acc ++ [(x - p) % (l.length : Int)]) hm (by simp [ha])
    have e : ((pre ++ [p] ++ [x]).length : Int) = ((pre ++ [p]).length : Int) + 1 := by simp; omega
    rw [e]
    simpa [stepsOf, hn] using this
theorem steps_ev (l : List Int) (h1 : 1 ≤ l.length) (hb : l.length ≤ 62) (hr : ∀ x ∈ l, 0 ≤ x ∧ x < 4611686018427387904) : Ev (fun k => rows_row_steps.f k l) (stepsOf l.length l) := by
  cases l with
  | nil => simp at h1
  | cons p xs => exact steps_loop (p :: xs) _ rfl h1 hb hr xs [] p [] rfl rfl

theorem refSteps_loop (l : List Int) (n : Nat) (h1 : 1 ≤ n) (hb : n ≤ 62) (hlb : l.length < 17592186044416) (hr : ∀ x ∈ l, 0 ≤ x ∧ x < 4611686018427387904) : ∀ (xs pre : List Int) (p : Int) (acc : List Int), l = pre ++ p :: xs → acc.length = pre.length →
    Ev (fun k => sackbutref05_Steps.l0 k l (n : Int) acc ((pre.length : Int) + 1)) (acc ++ stepsOf n (p :: xs)) := by
  intro xs
  induction xs with
  | nil =>
    intro pre p acc h0 ha
    refine Ev.succ ?_
    have : ¬ ((pre.length : Int) + 1 < (l.length : Int)) := by subst h0; simp
    simp only [sackbutref05_Steps.l0, if_neg this, stepsOf, List.append_nil]
    exact Ev.some _
  | cons x xs ih =>
    intro pre p acc h0 ha
    have hm : l = (pre ++ [p]) ++ x :: xs := mid_mv h0
    have hi : ((pre.length : Int) + 1) = ((pre ++ [p]).length : Int) := by simp
    have hlen : pre.length + 1 < l.length := by rw [h0]; simp
    have hw : wrap64 ((pre.length : Int) + 1 - 1) = (pre.length : Int) := by rw [wrap_id (by omega) (by omega)]; omega
    have hx := hr x (by rw [hm]; simp)
    have hp := hr p (by rw [h0]; simp)
    have hs : wrap64 (x - p) = x - p := wrap_id (by omega) (by omega)
    have hlt : ((pre.length : Int) + 1 < (l.length : Int)) := by omega
    have hmod : sackbutref05_mod.f (x - p) (n : Int) = some ((x - p) % (n : Int)) := by
      unfold sackbutref05_mod.f
      rw [if_neg (by omega), tmod_mod (by omega) (by omega)]
    refine Ev.succ ?_
    simp only [sackbutref05_Steps.l0, if_pos hlt, if_pos (show (0 : Int) ≤ (pre.length : Int) + 1 by omega), hw, if_pos (show (0 : Int) ≤ (pre.length : Int) by omega), if_pos (mid_lt h0), mid_rd h0]
    rw [hi]
    simp only [mid_rd hm, hs, hmod, Option.bind_some, if_pos (show acc.length < 17592186044416 by omega), mid_next hm (by omega)]
    have := ih (pre ++ [p]) x (acc ++ [(x - p) % (n : Int)]) hm (by simp [ha])
    have e : ((pre ++ [p] ++ [x]).length : Int) = ((pre ++ [p]).length : Int) + 1 := by simp; omega
    rw [e]
    simpa [stepsOf] using this
theorem refSteps_ev (l : List Int) (n : Nat) (h1 : 1 ≤ n) (hb : n ≤ 62) (hlb : l.length < 17592186044416) (hr : ∀ x ∈ l, 0 ≤ x ∧ x < 4611686018427387904) : Ev (fun k => sackbutref05_Steps.f k l (n : Int)) (stepsOf n l) := by
  cases l with
  | nil =>
    unfold sackbutref05_Steps.f
    refine Ev.succ ?_
    simp only [sackbutref05_Steps.l0]
    simpa [stepsOf] using Ev.some _
  | cons p xs => exact refSteps_loop (p :: xs) n h1 hb hlb hr xs [] p [] rfl rfl

theorem stepsOf_range {n : Int} (hn : 0 < n) : ∀ (l : List Int), ∀ s ∈ stepsOf n l, 0 ≤ s ∧ s < n
  | x :: y :: r => by
    intro s hs
    rcases List.mem_cons.1 hs with rfl | hs
    · exact ⟨Int.emod_nonneg _ (by omega), Int.emod_lt_of_pos _ hn⟩
    · exact stepsOf_range hn (y :: r) s hs
  | [] => by simp [stepsOf]
  | [x] => by simp [stepsOf]
theorem stepsOf_length (n : Int) : ∀ (l : List Int), (stepsOf n l).length = l.length - 1
  | x :: y :: r => by have := stepsOf_length n (y :: r); simp [stepsOf] at *; omega
  | [] => by simp [stepsOf]
  | [x] => by simp [stepsOf]
/-- the steps of different tones are none of them 0 -/
theorem stepsOf_pos {n : Int} (hn : 0 < n) : ∀ (l : List Int), (∀ x ∈ l, 0 ≤ x ∧ x < n) → l.Nodup → ∀ s ∈ stepsOf n l, 1 ≤ s
  | x :: y :: r => by
    intro hr hd s hs
    rcases List.mem_cons.1 hs with rfl | hs
    · have hx := hr x (by simp); have hy := hr y (by simp)
      have hne : x ≠ y := fun e => by subst e; simp at hd
      have h0 := Int.emod_nonneg (y - x) (show n ≠ 0 by omega)
      rcases Int.lt_or_eq_of_le h0 with h | h
      · omega
      · exfalso
        have := Int.emod_add_mul_ediv (y - x) n
        rw [← h] at this
        have hq : -1 < (y - x) / n ∨ (y - x) / n ≤ -1 := by omega
        have hq2 : (y - x) / n = 0 ∨ 1 ≤ (y - x) / n ∨ (y - x) / n ≤ -1 := by omega
        rcases hq2 with h2 | h2 | h2
        · rw [h2] at this; omega
        · have : n * 1 ≤ n * ((y - x) / n) := Int.mul_le_mul_of_nonneg_left h2 (by omega)
          omega
        · have : n * ((y - x) / n) ≤ n * (-1) := Int.mul_le_mul_of_nonneg_left h2 (by omega)
          omega
    · exact stepsOf_pos hn (y :: r) (fun z hz => hr z (List.mem_cons_of_mem _ hz)) (List.nodup_cons.1 hd).2 s hs
  | [] => by simp [stepsOf]
  | [x] => by simp [stepsOf]

/-! every -/
theorem every_loop (l0 l : List Int) (hl0 : 1 ≤ l0.length ∧ l0.length ≤ 62) (hl : l.length < 9223372036854775807) (hr : ∀ x ∈ l, 0 ≤ x ∧ x < l0.length) : ∀ (xs pre : List Int) (s : Nat), l = pre ++ xs → s < 2 ^ l0.length →
    Ev (fun k => rows_row_every.l0 k l0 (s : Int) l (l.length : Int) (pre.length : Int)) (decide (orAll s (xs.map Int.toNat) = 2 ^ l0.length - 2)) := by
  intro xs
  induction xs with
  | nil =>
    intro pre s h0 hs
    refine Ev.succ ?_
    have hsh := shl1_i64 (x := l0.length) (by omega)
    have hp : 2 ≤ 2 ^ l0.length := Nat.pow_le_pow_right (show 0 < 2 by omega) hl0.1
    have hp2 := two_pow_lt63 (x := l0.length) (by omega)
    have hw : wrap64 (shl .i64 1 (l0.length : Int) - 2) = ((2 ^ l0.length - 2 : Nat) : Int) := by
      rw [hsh, wrap_id (by omega) (by have : (2 : Nat) ^ 63 = 9223372036854775808 := by decide
                                      omega)]
      omega
    simp only [rows_row_every.l0, if_neg (mid_end h0), hw, List.map_nil, orAll_nil]
    have e : ((s : Int) == ((2 ^ l0.length - 2 : Nat) : Int)) = decide (s = 2 ^ l0.length - 2) := by
      by_cases h : s = 2 ^ l0.length - 2
      · simp only [← h]; simp
      · simp only [h, decide_false, beq_eq_false_iff_ne]; omega
    rw [e]
    exact Ev.some _
  | cons x xs ih =>
    intro pre s h0 hs
    refine Ev.succ ?_
    have hx := hr x (by rw [h0]; simp)
    obtain ⟨m, rfl⟩ := Int.eq_ofNat_of_zero_le (show 0 ≤ x by omega)
    have hp2 := two_pow_lt63 (x := l0.length) (by omega)
    have hm2 : 2 ^ m < 2 ^ l0.length := Nat.pow_lt_pow_right (by omega) (by omega)
    have hs2 : s ||| 2 ^ m < 2 ^ l0.length := Nat.or_lt_two_pow hs hm2
    simp only [rows_row_every.l0, if_pos (mid_lt h0), if_pos (show (0 : Int) ≤ (pre.length : Int) by omega), mid_rd h0, mid_next h0 hl, if_pos (show (0 : Int) ≤ (m : Int) by omega), shl1_i64 (x := m) (by omega), or_i64 (a := s) (b := 2 ^ m) (by omega) (by omega), List.map_cons, orAll_cons, Int.toNat_natCast]
    exact ih (pre ++ [(m : Int)]) (s ||| 2 ^ m) (mid_mv h0) hs2
/-- every step comes: all are different -/
theorem every_iff {l : List Int} (h : IsRow l) : orAll 0 ((stepsOf l.length l).map Int.toNat) = 2 ^ l.length - 2 ↔ (stepsOf l.length l).Nodup := by
  have hn : 0 < (l.length : Int) := by have := h.1; omega
  have h1 := stepsOf_range hn l
  have h2 := stepsOf_pos hn l h.2.2.1 h.2.2.2
  have hr : ∀ x ∈ (stepsOf l.length l).map Int.toNat, 1 ≤ x ∧ x < l.length := by
    intro x hx
    obtain ⟨y, hy, rfl⟩ := List.mem_map.1 hx
    have := h1 y hy; have := h2 y hy
    omega
  rw [orAll_full2 (by have := h.1; omega) _ hr, ← nodup_toNat (fun x hx => (h1 x hx).1)]
  have hl : ((stepsOf l.length l).map Int.toNat).length = l.length - 1 := by rw [List.length_map, stepsOf_length]
  generalize (stepsOf l.length l).map Int.toNat = ys at hl hr ⊢
  -- with 0 before them they are a whole row
  have hy : ∀ i, i < l.length → (i ∈ 0 :: ys ↔ i = 0 ∨ i ∈ ys) := fun i _ => List.mem_cons
  constructor
  · intro hf
    have hd : (0 :: ys).Nodup := nodup_of_full (n := l.length) (by simp [hl]; have := h.1; omega) (fun i hi => by
      rcases Nat.eq_zero_or_pos i with e | e
      · simp [e]
      · exact List.mem_cons_of_mem _ (hf i e hi))
    exact (List.nodup_cons.1 hd).2
  · intro hd i hi1 hi2
    have hd0 : (0 :: ys).Nodup := List.nodup_cons.2 ⟨fun h0 => by have := (hr 0 h0).1; omega, hd⟩
    have := full_of_nodup (n := l.length) (by simp [hl]; have := h.1; omega) (fun x hx => by
      rcases List.mem_cons.1 hx with e | e
      · have := h.1; omega
      · exact (hr x e).2) hd0 i hi2
    rcases List.mem_cons.1 this with e | e
    · omega
    · exact e
theorem row_bounds {l : List Int} (h : IsRow l) : ∀ x ∈ l, 0 ≤ x ∧ x < 4611686018427387904 := fun x hx => by have := h.2.2.1 x hx; have := h.2.1; omega
theorem every_ev {l : List Int} (h : IsRow l) : Ev (fun k => rows_row_every.f k l) (decide (stepsOf l.length l).Nodup) := by
  unfold rows_row_every.f
  have h1 := h.1; have h2 := h.2.1
  refine Ev.bind (steps_ev l (by omega) (by omega) (row_bounds h)) ?_
  have := every_loop l (stepsOf l.length l) ⟨by omega, by omega⟩ (by rw [stepsOf_length]; omega) (stepsOf_range (by omega) l) (stepsOf l.length l) [] 0 rfl (Nat.two_pow_pos _)
  have e : decide (orAll 0 ((stepsOf l.length l).map Int.toNat) = 2 ^ l.length - 2) = decide (stepsOf l.length l).Nodup := by congr 1; rw [eq_iff_iff]; exact every_iff h
  rw [e] at this
  exact this

/-! the reference's Every: of different tones modulo n -/
def seenRun : Nat → List Int → Bool
  | _, [] => true
  | s, x :: xs => if s.testBit x.toNat then false else seenRun (s ||| 2 ^ x.toNat) xs
theorem refEvery_loop (l : List Int) (n : Nat) (hn : n ≤ 62) (hl : l.length < 9223372036854775807) (hr : ∀ x ∈ l, 0 ≤ x ∧ x < n) : ∀ (xs pre : List Int) (s : Nat), l = pre ++ xs → s < 2 ^ n →
    Ev (fun k => sackbutref05_Every.l0 k (s : Int) l (l.length : Int) (pre.length : Int)) (seenRun s xs) := by
  intro xs
  induction xs with
  | nil =>
    intro pre s h0 hs
    refine Ev.succ ?_
    simp only [sackbutref05_Every.l0, if_neg (mid_end h0)]
    exact Ev.some _
  | cons x xs ih =>
    intro pre s h0 hs
    refine Ev.succ ?_
    have hx := hr x (by rw [h0]; simp)
    obtain ⟨m, rfl⟩ := Int.eq_ofNat_of_zero_le (show 0 ≤ x by omega)
    have hp2 := two_pow_lt63 (x := n) (by omega)
    have hm2 : 2 ^ m < 2 ^ n := Nat.pow_lt_pow_right (by omega) (by omega)
    have hs2 : s ||| 2 ^ m < 2 ^ n := Nat.or_lt_two_pow hs hm2
    simp only [sackbutref05_Every.l0, if_pos (mid_lt h0), if_pos (show (0 : Int) ≤ (pre.length : Int) by omega), mid_rd h0, mid_next h0 hl, if_pos (show (0 : Int) ≤ (m : Int) by omega), bit1_i64 (a := s) (x := m) (by omega) (by omega), shl1_i64 (x := m) (by omega), or_i64 (a := s) (b := 2 ^ m) (by omega) (by omega), seenRun, Int.toNat_natCast]
    refine Ev.ite (fun e3 => by simpa [e3] using Ev.some false) (fun e3 => ?_)
    simpa [e3] using ih (pre ++ [(m : Int)]) (s ||| 2 ^ m) (mid_mv h0) hs2
theorem seenRun_iff : ∀ (xs : List Int) (s : Nat), (∀ x ∈ xs, 0 ≤ x) → seenRun s xs = decide ((∀ x ∈ xs, s.testBit x.toNat = false) ∧ xs.Nodup) := by
  intro xs
  induction xs with
  | nil => intro s _; simp [seenRun]
  | cons x xs ih =>
    intro s h
    have hx := h x (by simp)
    have h' : ∀ y ∈ xs, 0 ≤ y := fun y hy => h y (List.mem_cons_of_mem _ hy)
    simp only [seenRun, ih _ h', List.forall_mem_cons, List.nodup_cons]
    by_cases h3 : s.testBit x.toNat = true
    · simp [h3]
    · rw [if_neg h3, decide_eq_decide]
      simp only [testBit_or_two_pow, Bool.or_eq_false_iff, decide_eq_false_iff_not]
      constructor
      · rintro ⟨a, b⟩
        exact ⟨⟨by simpa using h3, fun y hy => (a y hy).1⟩, fun hx => (a x hx).2 rfl, b⟩
      · rintro ⟨⟨_, a⟩, b, c⟩
        refine ⟨fun y hy => ⟨a y hy, fun e => b ?_⟩, c⟩
        have := h' y hy
        obtain rfl : x = y := by omega
        exact hy
theorem refEvery_ev (l : List Int) (n : Nat) (h1 : 1 ≤ n) (hb : n ≤ 62) (hlb : l.length < 17592186044416) (hr : ∀ x ∈ l, 0 ≤ x ∧ x < 4611686018427387904) : Ev (fun k => sackbutref05_Every.f k l (n : Int)) (decide (stepsOf n l).Nodup) := by
  unfold sackbutref05_Every.f
  refine Ev.bind (refSteps_ev l n h1 hb hlb hr) ?_
  have hs := stepsOf_range (n := (n : Int)) (by omega) l
  have := refEvery_loop (stepsOf n l) n hb (by rw [stepsOf_length]; omega) hs (stepsOf n l) [] 0 rfl (Nat.two_pow_pos _)
  rw [seenRun_iff _ _ (fun x hx => (hs x hx).1)] at this
  simpa using this

theorem Steps_ev (l : List Int) : Ev (fun k => rows_Steps.f k l) (if IsRow l then (stepsOf l.length l, 0) else ([], 2)) := by
  unfold rows_Steps.f
  refine Ev.bind (valid_ev l) ?_
  by_cases h : IsRow l
  · simp only [h, decide_true, if_true]
    have h1 := h.1; have h2 := h.2.1
    exact Ev.bind (steps_ev l (by omega) (by omega) (row_bounds h)) (Ev.some _)
  · simp only [h, decide_false, if_false]
    exact Ev.some _
theorem Every_ev (l : List Int) : Ev (fun k => rows_Every.f k l) (if IsRow l then (decide (stepsOf l.length l).Nodup, 0) else (false, 2)) := by
  unfold rows_Every.f
  refine Ev.bind (valid_ev l) ?_
  by_cases h : IsRow l
  · simp only [h, decide_true, if_true]
    exact Ev.bind (every_ev h) (Ev.some _)
  · simp only [h, decide_false, if_false]
    exact Ev.some _
theorem awake_ev : Ev (fun k => sackbutlaw05_awake.f k) true := by
  unfold sackbutlaw05_awake.f
  refine Ev.bind (Steps_ev [0, 1, 3, 2]) ?_
  have h : IsRow [0, 1, 3, 2] := by decide
  have e : stepsOf ([0, 1, 3, 2] : List Int).length [0, 1, 3, 2] = [1, 2, 3] := by decide
  simp only [h, if_true, e]
  exact Ev.bind (Equal_ev [1, 2, 3] [1, 2, 3] (by decide)) (Ev.some _)

end Go.Proofs.Ytpfjnpbcnlbhaaa.P
namespace Go.Proofs.Ytpfjnpbcnlbhaaa.P
open Go.RowKit Go.Proofs.YtpfjnpbcnlbhaaaW.PrintWords Go.Proofs.YtpfjnpbcnlbhaaaW.PrintLast Go.Proofs.YtpfjnpbcnlbhaaaW.PrintMore
attribute [local go_sem] max2_int min2_int max_two min_two max_three min_three max_four min_four   -- for this text's walks alone
set_option linter.unusedVariables false
set_option linter.unusedSimpArgs false

/-! a row has every tone -/
theorem row_mem {l : List Int} (h : IsRow l) {v : Int} (h0 : 0 ≤ v) (h1 : v < l.length) : v ∈ l := by
  have hr' : ∀ x ∈ l.map Int.toNat, x < l.length := by
    intro x hx
    obtain ⟨y, hy, rfl⟩ := List.mem_map.1 hx
    have := h.2.2.1 y hy
    omega
  have hd := (nodup_toNat (fun x hx => (h.2.2.1 x hx).1)).2 h.2.2.2
  have := full_of_nodup (n := l.length) (by simp) hr' hd v.toNat (by omega)
  obtain ⟨y, hy, e⟩ := List.mem_map.1 this
  have := (h.2.2.1 y hy).1
  obtain rfl : y = v := by omega
  exact hy

end Go.Proofs.Ytpfjnpbcnlbhaaa.P
namespace Go.Proofs.Ytpfjnpbcnlbhaaa.P
open Go.RowKit Go.Proofs.YtpfjnpbcnlbhaaaW.PrintWords Go.Proofs.YtpfjnpbcnlbhaaaW.PrintLast Go.Proofs.YtpfjnpbcnlbhaaaW.PrintMore
attribute [local go_sem] max2_int min2_int max_two min_two max_three min_three max_four min_four   -- for this text's walks alone
set_option linter.unusedVariables false
set_option linter.unusedSimpArgs false

/-! ### slices_Contains_int_int: function 50 -/
def slices_Contains_int_int.f (k : Nat) (l0 : List Int) (a1 : Int) : Option (Bool) := (slices_Index_int_int.f k l0 a1).bind fun t1001 => (some (decide (t1001 ≥ 0)))
theorem slices_Contains_int_int.mono : ∀ a0 a1 k, LeO (slices_Contains_int_int.f k a0 a1) (slices_Contains_int_int.f (k + 1) a0 a1) := by
  intro a0 a1 k
  unfold slices_Contains_int_int.f
  repeat' first
      | (with_reducible exact slices_Index_int_int.mono _ _ _)
      | (with_reducible exact LeO.refl _)
      | (with_reducible exact LeO.none _)
      | (with_reducible refine LeO.ite ?_ ?_)
      | (with_reducible refine LeO.bind ?_ (fun _ => ?_))
      | exact slices_Index_int_int.mono _ _ _
      | exact LeO.none _
      | refine LeO.ite ?_ ?_
      | refine LeO.bind ?_ (fun _ => ?_)
set_option maxHeartbeats 8000000 in
set_option maxRecDepth 100000 in
theorem slices_Contains_int_int.calls (k : Nat) (A0 : Option Addr) (c0 : Nat) (l0 : List Int) (a1 : Int) (r : Bool) (w : World) (hr0 : Kd.C (Kd.int .i64) w A0 l0.length l0) (hc0 : l0.length ≤ c0) (h : slices_Contains_int_int.f k l0 a1 = some r) :
    Calls Try.prog 50 #[.slice A0 l0.length c0, .int .i64 a1] w fun e w' => e = .returned (.bool r) ∧ Drawn0 w w' := by
  have HR0 := Aside0.mk hr0
  have HC0 := Aside0.mk hc0
  clear hr0 hc0
  have H : ((slices_Index_int_int.f k l0 a1).bind fun t1001 => (some (decide (t1001 ≥ 0)))) = some r := h
  clear h
  replace H := Option.bind_eq_some_iff.mp H
  obtain ⟨t1001, A30, H⟩ := H
  replace H : (some (decide (t1001 ≥ 0))) = some r := H
  have A3 := Aside0.mk A30
  clear A30
  obtain rfl := Option.some.inj H
  go_enter Try.func50, Try.ntmps50
  go_wp2_with (first | ((with_reducible refine gate_callee (f := 58) rfl ?_); refine goesL_ (some 7) rfl rfl Try.func58 (by kernel_rfl) rfl #[.slice A0 l0.length c0, .int .i64 a1] rfl (by (try simp only [List.map_toArray, List.map_cons, List.map_nil]); first | done | rfl | (simp only [List.length_drop, List.length_take]; rfl)) ?_; (with_reducible refine (slices_Index_int_int.calls k _ _ l0 a1 t1001 _ ?side1 ?side2 A3.out).mono ?_); (case side1 => repeat (first | exact HR0.out | (with_reducible refine Kd.C_alloc ?_ _) | (with_reducible refine Kd.C_drewN ?_ _) | (with_reducible refine Kd.C_drew ?_))); (case side2 => exact HC0.out); rintro e w' ⟨rfl, ⟨nd, rfl⟩⟩; refine ⟨_, rfl, ?_⟩))
  go_ret
  exact ⟨by first | rfl | (simp; done) | (simp [*]; done), by repeat (first | exact Drawn0.refl _ | apply Drawn0.step)⟩

end Go.Proofs.Ytpfjnpbcnlbhaaa.P
namespace Go.Proofs.Ytpfjnpbcnlbhaaa.P
open Go.RowKit Go.Proofs.YtpfjnpbcnlbhaaaW.PrintWords Go.Proofs.YtpfjnpbcnlbhaaaW.PrintLast Go.Proofs.YtpfjnpbcnlbhaaaW.PrintMore
attribute [local go_sem] max2_int min2_int max_two min_two max_three min_three max_four min_four   -- for this text's walks alone
set_option linter.unusedVariables false
set_option linter.unusedSimpArgs false

/-! slices.Index, slices.Contains at ints -/
theorem Index_loop (l : List Int) (v : Int) (hb : l.length < 9223372036854775807) : ∀ (xs pre : List Int), l = pre ++ xs →
    Ev (fun k => slices_Index_int_int.l0 k l v (l.length : Int) (pre.length : Int)) (if v ∈ xs then ((pre.length + xs.idxOf v : Nat) : Int) else -1) := by
  intro xs
  induction xs with
  | nil =>
    intro pre h0
    refine Ev.succ ?_
    simp only [slices_Index_int_int.l0, if_neg (mid_end h0)]
    simpa using Ev.some (-1 : Int)
  | cons x xs ih =>
    intro pre h0
    refine Ev.succ ?_
    simp only [slices_Index_int_int.l0, if_pos (mid_lt h0), if_pos (show (0 : Int) ≤ (pre.length : Int) by omega), mid_rd h0, mid_next h0 hb]
    refine Ev.ite (fun e => ?_) (fun e => ?_)
    · subst e
      simpa using Ev.some _
    · have h := ih (pre ++ [x]) (mid_mv h0)
      have e1 : (v ∈ x :: xs) ↔ v ∈ xs := by simp [e]
      have e2 : (x :: xs).idxOf v = xs.idxOf v + 1 := by
        rw [List.idxOf_cons]
        have : (x == v) = false := by simpa using fun h => e h.symm
        rw [this]; rfl
      have e3 : ((pre ++ [x]).length + xs.idxOf v : Nat) = pre.length + (xs.idxOf v + 1) := by simp; omega
      simp only [e1, e2]
      rw [e3] at h
      exact h
theorem Index_ev (l : List Int) (v : Int) (hb : l.length < 9223372036854775807) : Ev (fun k => slices_Index_int_int.f k l v) (if v ∈ l then (l.idxOf v : Int) else -1) := by
  have := Index_loop l v hb l [] rfl
  simpa [slices_Index_int_int.f] using this
theorem Contains_ev (l : List Int) (v : Int) (hb : l.length < 9223372036854775807) : Ev (fun k => slices_Contains_int_int.f k l v) (decide (v ∈ l)) := by
  unfold slices_Contains_int_int.f
  refine Ev.bind (Index_ev l v hb) ?_
  have : decide ((if v ∈ l then (l.idxOf v : Int) else -1) ≥ 0) = decide (v ∈ l) := by
    rw [decide_eq_decide]; split <;> simp_all
  rw [this]
  exact Ev.some _

end Go.Proofs.Ytpfjnpbcnlbhaaa.P
namespace Go.Proofs.Ytpfjnpbcnlbhaaa.P
open Go.RowKit Go.Proofs.YtpfjnpbcnlbhaaaW.PrintWords Go.Proofs.YtpfjnpbcnlbhaaaW.PrintLast Go.Proofs.YtpfjnpbcnlbhaaaW.PrintMore
attribute [local go_sem] max2_int min2_int max_two min_two max_three min_three max_four min_four   -- for this text's walks alone
set_option linter.unusedVariables false
set_option linter.unusedSimpArgs false

/-! the halves of a row with every step -/
theorem sumI_append (a b : List Int) : (a ++ b).sum = a.sum + b.sum := by simp
theorem sumI_perm {a b : List Int} (h : a.Perm b) : a.sum = b.sum := by
  induction h with
  | nil => rfl
  | cons x _ ih => simp [ih]
  | swap x y l => simp only [List.sum_cons]; omega
  | trans _ _ h1 h2 => exact h1.trans h2
theorem sum_steps (n : Int) : ∀ (l : List Int) (p q : Int), l.getLast? = some q → ((stepsOf n (p :: l)).sum - (q - p)) % n = 0
  | [], p, q => by simp
  | [x], p, q => by
    intro h
    obtain rfl : x = q := by simpa using h
    simp only [stepsOf, List.sum_cons, List.sum_nil, Int.add_zero]
    rw [Int.emod_sub_emod]; simp
  | x :: y :: r, p, q => by
    intro h
    have ih := sum_steps n (y :: r) x q (by simpa using h)
    rw [stepsOf, List.sum_cons]
    have e : (x - p) % n + (stepsOf n (x :: y :: r)).sum - (q - p) = (x - p) % n - (x - p) + ((stepsOf n (x :: y :: r)).sum - (q - x)) := by omega
    rw [e, Int.add_emod, ih, Int.emod_sub_emod]; simp
/-- a whole list of different numbers below its length is a row of them -/
theorem perm_range (l : List Int) (hr : ∀ x ∈ l, 0 ≤ x ∧ x < l.length) (hd : l.Nodup) (hm : ∀ v : Int, 0 ≤ v → v < l.length → v ∈ l) : l.Perm ((List.range l.length).map Int.ofNat) := by
  have h2 : ((List.range l.length).map Int.ofNat).Nodup := by
    refine List.Pairwise.map _ ?_ (List.nodup_range (n := l.length))
    intro a b h e; exact h (Int.ofNat.inj e)
  rw [List.perm_iff_count]
  intro a
  rw [hd.count, h2.count]
  have : a ∈ l ↔ a ∈ (List.range l.length).map Int.ofNat := by
    simp only [List.mem_map, List.mem_range]
    constructor
    · intro h; have := hr a h; exact ⟨a.toNat, by omega, by simp; omega⟩
    · rintro ⟨k, hk, rfl⟩; exact hm _ (by simp) (by simp; exact hk)
  simp [this]
theorem sum_upto : ∀ n : Nat, 2 * ((List.range n).map Int.ofNat).sum = (n : Int) * (n : Int) - n
  | 0 => by simp
  | n + 1 => by
    have ih := sum_upto n
    rw [List.range_succ, List.map_append, sumI_append]
    simp only [List.map_cons, List.map_nil, List.sum_cons, List.sum_nil, Int.add_zero, Int.mul_add]
    rw [ih]
    have : ((n + 1 : Nat) : Int) * ((n + 1 : Nat) : Int) = (n : Int) * n + 2 * n + 1 := by
      rw [Int.natCast_add, Int.add_mul, Int.mul_add, Int.mul_add]; omega
    rw [this]; simp; omega
theorem steps_row {l : List Int} (h : IsRow l) (he : (stepsOf l.length l).Nodup) : IsRow (0 :: stepsOf l.length l) ∧ (0 :: stepsOf l.length l).length = l.length := by
  have h1 := h.1
  have hlen : (0 :: stepsOf l.length l).length = l.length := by rw [List.length_cons, stepsOf_length]; omega
  have hp := stepsOf_pos (n := (l.length : Int)) (by omega) l h.2.2.1 h.2.2.2
  refine ⟨⟨by omega, by rw [hlen]; exact h.2.1, ?_, ?_⟩, hlen⟩
  · rw [hlen]
    intro x hx
    rcases List.mem_cons.1 hx with rfl | hx
    · omega
    · exact stepsOf_range (by omega) l x hx
  · rw [List.nodup_cons]
    exact ⟨fun hm => by have := hp 0 hm; omega, he⟩
theorem steps_sum {l : List Int} (h : IsRow l) (he : (stepsOf l.length l).Nodup) : 2 * (stepsOf l.length l).sum = (l.length : Int) * l.length - l.length := by
  obtain ⟨hr, hl⟩ := steps_row h he
  have hp := perm_range _ hr.2.2.1 hr.2.2.2 (fun v h0 h1 => row_mem hr h0 h1)
  have hs := sumI_perm hp
  rw [hl] at hs
  rw [List.sum_cons, Int.zero_add] at hs
  rw [hs, sum_upto]
/-- the ends are half of the circle apart -/
theorem ends_half {l : List Int} (h : IsRow l) (he : (stepsOf l.length l).Nodup) : ∃ (k : Nat) (p q : Int), l.length = 2 * k ∧ l.head? = some p ∧ l.getLast? = some q ∧ (q - p = k ∨ p - q = k) := by
  have hsum := steps_sum h he
  obtain ⟨h1, h2, hr, hd⟩ := h
  match l, h1 with
  | p :: x :: r, _ =>
    obtain ⟨q, hq⟩ : ∃ q, (x :: r).getLast? = some q := ⟨_, List.getLast?_eq_some_getLast (by simp)⟩
    have hq2 : (p :: x :: r).getLast? = some q := by simpa using hq
    have hs := sum_steps ((p :: x :: r).length : Int) (x :: r) p q hq
    have hqm : q ∈ x :: r := List.mem_of_getLast? hq
    have hqr := hr q (List.mem_cons_of_mem _ hqm)
    have hpr := hr p (by simp)
    have hne : q ≠ p := fun e => by subst e; exact (List.nodup_cons.1 hd).1 hqm
    generalize (p :: x :: r).length = n at *
    obtain ⟨t, ht⟩ := Int.dvd_of_emod_eq_zero hs
    generalize (stepsOf (↑n) (p :: x :: r)).sum = S at *
    -- 2 S = n n - n; S - (q - p) = n t
    have hh : 2 * (q - p) = (n : Int) * ((n : Int) - 1 - 2 * t) := by
      have e1 : (n : Int) * ((n : Int) - 1 - 2 * t) = n * n - n - n * (2 * t) := by rw [Int.mul_sub, Int.mul_sub, Int.mul_one]
      have : (n : Int) * (2 * t) = 2 * (n * t) := by rw [Int.mul_left_comm]
      omega
    generalize (n : Int) - 1 - 2 * t = u at hh
    have hu : u = 1 ∨ u = -1 := by
      have c1 : u < 2 := Int.lt_of_not_ge fun hge => by
        have : (n : Int) * 2 ≤ n * u := Int.mul_le_mul_of_nonneg_left hge (by omega)
        omega
      have c2 : -2 < u := Int.lt_of_not_ge fun hge => by
        have : (n : Int) * u ≤ n * (-2) := Int.mul_le_mul_of_nonneg_left hge (by omega)
        omega
      have c3 : u ≠ 0 := fun e => by rw [e] at hh; omega
      omega
    rcases hu with e | e
    · rw [e] at hh; exact ⟨n / 2, p, q, by omega, rfl, hq2, by omega⟩
    · rw [e] at hh; exact ⟨n / 2, p, q, by omega, rfl, hq2, by omega⟩
/-- the steps of two lists, one behind the other -/
theorem stepsOf_append (n : Int) : ∀ (a b : List Int) (x y : Int), a.getLast? = some x → b.head? = some y → stepsOf n (a ++ b) = stepsOf n a ++ (y - x) % n :: stepsOf n b
  | [], b, x, y => by simp
  | [z], [], x, y => by simp
  | [z], w :: b, x, y => by
    intro h1 h2
    obtain rfl : z = x := by simpa using h1
    obtain rfl : w = y := by simpa using h2
    rfl
  | z :: z2 :: a, b, x, y => by
    intro h1 h2
    have ih := stepsOf_append n (z2 :: a) b x y (by simpa using h1) h2
    show (z2 - z) % n :: stepsOf n (z2 :: a ++ b) = _
    rw [ih]; rfl
theorem stepsOf_get (n : Int) : ∀ (l : List Int) (i : Nat), (h : i + 1 < l.length) → (stepsOf n l)[i]? = some ((l[i + 1] - l[i]'(by omega)) % n)
  | x :: y :: r, 0, h => by simp [stepsOf]
  | x :: y :: r, i + 1, h => by
    have ih := stepsOf_get n (y :: r) i (by simpa using h)
    simpa [stepsOf] using ih
  | [], i, h => by simp at h
  | [x], i, h => by simp at h
theorem stepsOf_take (n : Int) : ∀ (l : List Int) (i : Nat), stepsOf n (l.take (i + 1)) = (stepsOf n l).take i
  | x :: y :: r, 0 => by simp [stepsOf]
  | x :: y :: r, i + 1 => by
    have ih := stepsOf_take n (y :: r) i
    simpa [stepsOf] using ih
  | [], i => by simp [stepsOf]
  | [x], i => by simp [stepsOf]
/-- where a row is cut: behind its step of half of the circle -/
def halfAt (l : List Int) : Nat := (stepsOf l.length l).idxOf ((l.length : Int) / 2) + 1
def halves (l : List Int) : List Int := l.drop (halfAt l) ++ l.take (halfAt l)
theorem split_at {α : Type} (l : List α) (i : Nat) (h : i < l.length) : l = l.take i ++ l[i] :: l.drop (i + 1) := by
  conv => lhs; rw [← List.take_append_drop i l]
  rw [List.drop_eq_getElem_cons h]
theorem idxOf_mid (a b : List Int) (v : Int) (h : v ∉ a) : (a ++ v :: b).idxOf v = a.length := by
  rw [List.idxOf_append, if_neg h]; simp
theorem halves_spec {l : List Int} (h : IsRow l) (he : (stepsOf l.length l).Nodup) :
    0 < halfAt l ∧ halfAt l < l.length ∧ IsRow (halves l) ∧ (halves l).length = l.length ∧ (stepsOf (halves l).length (halves l)).Nodup ∧ halves (halves l) = l ∧ (l.length : Int) / 2 ∈ stepsOf l.length l := by
  obtain ⟨k, p, q, hk, hp, hq, hpq⟩ := ends_half h he
  obtain ⟨hsr, hsl⟩ := steps_row h he
  have hn2 := h.1
  have hk2 : (l.length : Int) / 2 = k := by omega
  have hmem : (k : Int) ∈ stepsOf l.length l := by
    have := row_mem hsr (v := (k : Int)) (by omega) (by rw [hsl]; omega)
    rcases List.mem_cons.1 this with e | e
    · omega
    · exact e
  have hi : (stepsOf l.length l).idxOf (k : Int) < (stepsOf l.length l).length := List.idxOf_lt_length_iff.2 hmem
  rw [stepsOf_length] at hi
  have hat : halfAt l = (stepsOf l.length l).idxOf (k : Int) + 1 := by unfold halfAt; rw [hk2]
  have hatl : halfAt l < l.length := by omega
  have hlen : (halves l).length = l.length := by unfold halves; rw [List.length_append, List.length_drop, List.length_take]; omega
  have hperm : (halves l).Perm l := by
    unfold halves
    have := List.perm_append_comm (l₁ := l.drop (halfAt l)) (l₂ := l.take (halfAt l))
    rwa [List.take_append_drop] at this
  -- the steps on both sides of the cut
  obtain ⟨i, hi0⟩ : ∃ i, (stepsOf l.length l).idxOf (k : Int) = i := ⟨_, rfl⟩
  rw [hi0] at hi hat
  have hil : i < (stepsOf l.length l).length := by rw [stepsOf_length]; exact hi
  have hsp := split_at (stepsOf l.length l) i hil
  have hgi : (stepsOf l.length l)[i] = (k : Int) := by
    have := List.getElem_idxOf (xs := stepsOf l.length l) (x := (k : Int)) (by rw [hi0]; exact hil)
    simpa [hi0] using this
  rw [hgi] at hsp
  have hta : stepsOf l.length (l.take (halfAt l)) = (stepsOf l.length l).take i := by rw [hat]; exact stepsOf_take _ _ _
  have hdne : l.drop (halfAt l) ≠ [] := by intro e; have := congrArg List.length e; rw [List.length_drop, List.length_nil] at this; omega
  have htne : l.take (halfAt l) ≠ [] := by intro e; have := congrArg List.length e; rw [List.length_take, List.length_nil] at this; omega
  have hlast : (l.drop (halfAt l)).getLast? = some q := by
    rw [List.getLast?_drop, if_neg (by omega)]; exact hq
  have hhead : (l.take (halfAt l)).head? = some p := by
    rw [List.head?_take, if_neg (by omega)]; exact hp
  obtain ⟨x, hx⟩ : ∃ x, (l.take (halfAt l)).getLast? = some x := ⟨_, List.getLast?_eq_some_getLast htne⟩
  obtain ⟨y, hy⟩ : ∃ y, (l.drop (halfAt l)).head? = some y := ⟨_, List.head?_eq_some_head hdne⟩
  have happ := stepsOf_append l.length _ _ x y hx hy
  rw [List.take_append_drop, hta] at happ
  have hdr : stepsOf l.length (l.drop (halfAt l)) = (stepsOf l.length l).drop (i + 1) ∧ (y - x) % (l.length : Int) = k := by
    have e := hsp.symm.trans happ
    have e2 := List.append_inj_right e rfl
    injection e2 with e3 e4
    exact ⟨e4.symm, e3.symm⟩
  have hpqr : (p - q) % (l.length : Int) = k := by
    rcases hpq with e | e
    · have : p - q = -(k : Int) := by omega
      rw [this, ← Int.add_emod_right, Int.emod_eq_of_lt] <;> omega
    · rw [e, Int.emod_eq_of_lt] <;> omega
  have hnew : stepsOf l.length (halves l) = (stepsOf l.length l).drop (i + 1) ++ (k : Int) :: (stepsOf l.length l).take i := by
    unfold halves
    rw [stepsOf_append l.length _ _ q p hlast hhead, hpqr, hdr.1, hta]
  have hnp : (stepsOf l.length (halves l)).Perm (stepsOf l.length l) := by
    rw [hnew]
    conv => rhs; rw [hsp]
    exact (List.perm_append_comm (l₁ := (stepsOf l.length l).drop (i + 1)) (l₂ := (k : Int) :: (stepsOf l.length l).take i)).trans (List.perm_middle (a := (k : Int)) (l₁ := (stepsOf l.length l).take i) (l₂ := (stepsOf l.length l).drop (i + 1))).symm
  have hnd : (stepsOf l.length (halves l)).Nodup := hnp.nodup_iff.2 he
  refine ⟨by omega, hatl, ⟨by omega, by rw [hlen]; exact h.2.1, ?_, hperm.nodup_iff.2 h.2.2.2⟩, hlen, by rw [hlen]; exact hnd, ?_, by rw [hk2]; exact hmem⟩
  · intro z hz; rw [hlen]; exact h.2.2.1 z (hperm.mem_iff.1 hz)
  · have hat2 : halfAt (halves l) = (l.drop (halfAt l)).length := by
      unfold halfAt
      rw [hlen, hk2, hnew, idxOf_mid _ _ _ (fun hm => by
        rw [hnew] at hnd
        have := (List.nodup_append.1 hnd).2.2 _ hm _ (List.mem_cons_self ..)
        exact this rfl)]
      rw [List.length_drop, List.length_drop, stepsOf_length]
      have : (List.idxOf ((l.length : Int) / 2) (stepsOf (↑l.length) l) + 1) = halfAt l := rfl
      omega
    unfold halves
    have hh : l.drop (halfAt l) ++ l.take (halfAt l) = halves l := rfl
    rw [hh, hat2]
    have e1 : (halves l).drop (l.drop (halfAt l)).length = l.take (halfAt l) := by unfold halves; simp
    have e2 : (halves l).take (l.drop (halfAt l)).length = l.drop (halfAt l) := by unfold halves; simp
    rw [e1, e2, List.take_append_drop]
/-- multiplied by a number without a common factor -/
theorem stepsOf_map (n m : Int) : ∀ (l : List Int), stepsOf n (l.map fun x => m * x % n) = (stepsOf n l).map fun s => m * s % n
  | x :: y :: r => by
    have ih := stepsOf_map n m (y :: r)
    simp only [List.map_cons, stepsOf] at ih ⊢
    rw [ih]
    have : (m * y % n - m * x % n) % n = m * ((y - x) % n) % n := by
      rw [← Int.emod_sub_emod, Int.emod_emod, Int.mul_emod m ((y - x) % n), Int.emod_emod, ← Int.mul_emod, Int.mul_sub]
      rw [Int.emod_sub_emod, Int.sub_emod, Int.emod_emod, ← Int.sub_emod]
    rw [this]
  | [] => rfl
  | [x] => rfl
theorem times_inj {n m : Int} (hn : 0 < n) (hg : ∀ z : Int, m * z % n = 0 → z % n = 0) {x y : Int} (hx : 0 ≤ x ∧ x < n) (hy : 0 ≤ y ∧ y < n) (h : m * x % n = m * y % n) : x = y := by
  have := hg (x - y) (by rw [Int.mul_sub, Int.sub_emod, h]; simp)
  have h2 := Int.dvd_of_emod_eq_zero this
  obtain ⟨t, ht⟩ := h2
  have c1 : t < 1 := Int.lt_of_not_ge fun hge => by
    have : n * 1 ≤ n * t := Int.mul_le_mul_of_nonneg_left hge (by omega)
    omega
  have c2 : -1 < t := Int.lt_of_not_ge fun hge => by
    have : n * t ≤ n * (-1) := Int.mul_le_mul_of_nonneg_left hge (by omega)
    omega
  have : t = 0 := by omega
  rw [this] at ht; omega
theorem nodup_map_on {f : Int → Int} : ∀ {l : List Int}, (∀ x ∈ l, ∀ y ∈ l, f x = f y → x = y) → l.Nodup → (l.map f).Nodup
  | [], _, _ => by simp
  | a :: l, hi, hd => by
    rw [List.map_cons, List.nodup_cons]
    rw [List.nodup_cons] at hd
    refine ⟨fun hm => ?_, nodup_map_on (fun x hx y hy => hi x (List.mem_cons_of_mem _ hx) y (List.mem_cons_of_mem _ hy)) hd.2⟩
    obtain ⟨y, hy, e⟩ := List.mem_map.1 hm
    have := hi y (List.mem_cons_of_mem _ hy) a (by simp) e
    subst this
    exact hd.1 hy
theorem times_row {l : List Int} (h : IsRow l) (he : (stepsOf l.length l).Nodup) {m : Int} (hg : ∀ z : Int, m * z % (l.length : Int) = 0 → z % (l.length : Int) = 0) :
    IsRow (l.map fun x => m * x % (l.length : Int)) ∧ (stepsOf l.length (l.map fun x => m * x % (l.length : Int))).Nodup := by
  have hn : (0 : Int) < l.length := by have := h.1; omega
  refine ⟨⟨by simpa using h.1, by simpa using h.2.1, ?_, nodup_map_on (fun x hx y hy e => times_inj hn hg (h.2.2.1 x hx) (h.2.2.1 y hy) e) h.2.2.2⟩, ?_⟩
  · intro z hz
    obtain ⟨x, _, rfl⟩ := List.mem_map.1 hz
    rw [List.length_map]
    exact ⟨Int.emod_nonneg _ (by omega), Int.emod_lt_of_pos _ hn⟩
  · rw [stepsOf_map]
    exact nodup_map_on (fun x hx y hy e => times_inj hn hg (stepsOf_range hn l x hx) (stepsOf_range hn l y hy) e) he
/-! rows.Halves and the reference's -/
theorem Concat2_ev (a b : List Int) (ha : a.length < 1000) (hb : b.length < 1000) : Ev (fun k => slices_Concat_int_int.f k [a, b]) (a ++ b) := by
  have r0 : rd_L1 [a, b] 0 = a := rfl
  have r1 : rd_L1 [a, b] 1 = b := rfl
  have w0 : wrap64 (0 + (a.length : Int)) = (a.length : Int) := by rw [wrap_id (by omega) (by omega)]; omega
  have w1 : wrap64 ((a.length : Int) + (b.length : Int)) = (a.length : Int) + (b.length : Int) := wrap_id (by omega) (by omega)
  have w2 : wrap64 (0 + 1) = 1 := wrap_id (n := 0 + 1) (by omega) (by omega)
  have w3 : wrap64 (1 + 1) = 2 := wrap_id (n := 1 + 1) (by omega) (by omega)
  have hg : slices_Grow_int_int.f ([] : List Int) ((a.length : Int) + (b.length : Int)) = some [] := by
    unfold slices_Grow_int_int.f; rw [if_pos ⟨rfl, by omega, by omega⟩]
  unfold slices_Concat_int_int.f
  refine Ev.succ ?_
  simp only [slices_Concat_int_int.l0, List.length_cons, List.length_nil, r0, w0, w2, if_pos (show (0 : Int) < ((0 + 1 + 1 : Nat) : Int) by decide), if_pos (show (0 : Int) ≤ 0 by decide), if_neg (show ¬ (a.length : Int) < 0 by omega)]
  refine Ev.succ ?_
  simp only [slices_Concat_int_int.l0, List.length_cons, List.length_nil, r1, w1, w3, if_pos (show (1 : Int) < ((0 + 1 + 1 : Nat) : Int) by decide), if_pos (show (0 : Int) ≤ 1 by decide), if_neg (show ¬ (a.length : Int) + (b.length : Int) < 0 by omega)]
  refine Ev.succ ?_
  simp only [slices_Concat_int_int.l0, List.length_cons, List.length_nil, if_neg (show ¬ (2 : Int) < ((0 + 1 + 1 : Nat) : Int) by decide)]
  refine Ev.bind_some hg ?_
  refine Ev.succ ?_
  simp only [slices_Concat_int_int.l1, List.length_cons, List.length_nil, r0, w2, if_pos (show (0 : Int) < ((0 + 1 + 1 : Nat) : Int) by decide), if_pos (show (0 : Int) ≤ 0 by decide), if_pos (show 0 + a.length < 17592186044416 by omega), List.nil_append]
  refine Ev.succ ?_
  simp only [slices_Concat_int_int.l1, List.length_cons, List.length_nil, r1, w3, if_pos (show (1 : Int) < ((0 + 1 + 1 : Nat) : Int) by decide), if_pos (show (0 : Int) ≤ 1 by decide), if_pos (show a.length + b.length < 17592186044416 by omega)]
  refine Ev.succ ?_
  simp only [slices_Concat_int_int.l1, List.length_cons, List.length_nil, if_neg (show ¬ (2 : Int) < ((0 + 1 + 1 : Nat) : Int) by decide)]
  exact Ev.some _
theorem Halves_ev (l : List Int) : Ev (fun k => rows_Halves.f k l) (if IsRow l then (if (stepsOf l.length l).Nodup then (halves l, 0) else ([], 5)) else ([], 2)) := by
  unfold rows_Halves.f
  refine Ev.bind (valid_ev l) ?_
  by_cases h : IsRow l
  · have h1 := h.1; have h2 := h.2.1
    simp only [h, decide_true, if_true]
    refine Ev.bind (every_ev h) ?_
    by_cases he : (stepsOf l.length l).Nodup
    · obtain ⟨hp, hlt, -, -, -, -, hm⟩ := halves_spec h he
      simp only [he, decide_true, if_true]
      refine Ev.bind (steps_ev l (by omega) (by omega) (row_bounds h)) ?_
      have hw : wrap64 ((l.length : Int) / 2) = (l.length : Int) / 2 := wrap_id (by omega) (by omega)
      rw [hw]
      refine Ev.bind (Index_ev _ _ (by rw [stepsOf_length]; omega)) ?_
      rw [if_pos hm]
      have hw2 : wrap64 (((List.idxOf ((l.length : Int) / 2) (stepsOf l.length l) : Nat) : Int) + 1) = ((halfAt l : Nat) : Int) := by
        have : halfAt l = List.idxOf ((l.length : Int) / 2) (stepsOf l.length l) + 1 := rfl
        rw [wrap_id (by omega) (by omega)]; omega
      simp only [hw2, if_pos (show (0 : Int) ≤ ((halfAt l : Nat) : Int) by omega), if_pos (show ((halfAt l : Nat) : Int) ≤ (l.length : Int) by omega), Int.toNat_natCast]
      refine Ev.bind (Concat2_ev _ _ (by rw [List.length_drop]; omega) (by rw [List.length_take]; omega)) ?_
      exact Ev.some _
    · simp only [he, decide_false, if_false, Bool.false_eq_true]
      exact Ev.some _
  · simp only [h, decide_false, if_false, Bool.false_eq_true]
    exact Ev.some _
theorem refHalves_loop (l : List Int) (hl : l.length ≤ 62) (hlt : halfAt l < l.length) (he2 : l.length % 2 = 0) (s : List Int) (hsl : s.length < 1000) (hs : ∀ x ∈ s, 0 ≤ x ∧ x < 62) : ∀ (xs pre : List Int), s = pre ++ xs → pre.length + xs.idxOf ((l.length : Int) / 2) + 1 = halfAt l → (l.length : Int) / 2 ∈ xs →
    Ev (fun k => sackbutref05_Halves.l0 k l s (s.length : Int) (pre.length : Int)) (halves l) := by
  intro xs
  induction xs with
  | nil => intro pre _ _ hm; cases hm
  | cons x xs ih =>
    intro pre h0 hat hm
    have hx := hs x (by rw [h0]; simp)
    have hw : wrap64 (2 * x) = 2 * x := wrap_id (by omega) (by omega)
    refine Ev.succ ?_
    simp only [sackbutref05_Halves.l0, if_pos (mid_lt h0), if_pos (show (0 : Int) ≤ (pre.length : Int) by omega), mid_rd h0, hw]
    refine Ev.ite (fun e => ?_) (fun e => ?_)
    · have hxe : x = (l.length : Int) / 2 := by omega
      have hi : (x :: xs).idxOf ((l.length : Int) / 2) = 0 := by rw [List.idxOf_cons]; simp [hxe]
      rw [hi] at hat
      have hw2 : wrap64 ((pre.length : Int) + 1) = ((halfAt l : Nat) : Int) := by rw [wrap_id (by omega) (by omega)]; omega
      simp only [Option.bind_some, hw2, if_pos (show (0 : Int) ≤ ((halfAt l : Nat) : Int) by omega), if_pos (show ((halfAt l : Nat) : Int) ≤ (l.length : Int) by omega), Int.toNat_natCast, List.nil_append]
      rw [if_pos (by rw [List.length_drop, List.length_nil]; omega), if_pos (by rw [List.length_drop, List.length_take]; omega)]
      exact Ev.some _
    · have hne : x ≠ (l.length : Int) / 2 := by omega
      rw [mid_next h0 (by omega)]
      refine ih (pre ++ [x]) (mid_mv h0) ?_ ?_
      · rw [List.idxOf_cons] at hat
        have : (x == (l.length : Int) / 2) = false := beq_eq_false_iff_ne.2 hne
        rw [this] at hat
        simp only [List.length_append, List.length_cons, List.length_nil]
        simp only [cond_false] at hat
        omega
      · rcases List.mem_cons.1 hm with e2 | e2
        · exact absurd e2.symm hne
        · exact e2
theorem refHalves_ev {l : List Int} (h : IsRow l) (he : (stepsOf l.length l).Nodup) : Ev (fun k => sackbutref05_Halves.f k l) (halves l) := by
  have h1 := h.1; have h2 := h.2.1
  obtain ⟨hp, hlt, -, -, -, -, hm⟩ := halves_spec h he
  obtain ⟨k, p, q, hk, -⟩ := ends_half h he
  unfold sackbutref05_Halves.f
  refine Ev.bind (refSteps_ev l l.length (by omega) (by omega) (by omega) (row_bounds h)) ?_
  exact refHalves_loop l (by omega) hlt (by omega) (stepsOf l.length l) (by rw [stepsOf_length]; omega) (fun x hx => by have := stepsOf_range (n := (l.length : Int)) (by omega) l x hx; omega) (stepsOf l.length l) [] rfl (by simp [halfAt]) hm

end Go.Proofs.Ytpfjnpbcnlbhaaa.P
namespace Go.Proofs.Ytpfjnpbcnlbhaaa.P
open Go.RowKit Go.Proofs.YtpfjnpbcnlbhaaaW.PrintWords Go.Proofs.YtpfjnpbcnlbhaaaW.PrintLast Go.Proofs.YtpfjnpbcnlbhaaaW.PrintMore
attribute [local go_sem] max2_int min2_int max_two min_two max_three min_three max_four min_four   -- for this text's walks alone
set_option linter.unusedVariables false
set_option linter.unusedSimpArgs false

theorem RowsHalves : sackbutlaw05_RowsHalves.Pure := by
  intro l _ _ _
  refine Ev.rounds (g := fun k => sackbutlaw05_RowsHalves.f k l) ?_
  unfold sackbutlaw05_RowsHalves.f
  refine Ev.bind_some (list_f l) ?_
  refine Ev.bind (Halves_ev (l.take 13)) ?_
  refine Ev.bind (Row_ev l) ?_
  by_cases h : IsRow l
  · have h1 := h.1; have h2 := h.2.1
    simp only [isRow_take, h, decide_true, if_true, row_take h]
    refine Ev.bind (refEvery_ev l l.length (by omega) (by omega) (by omega) (row_bounds h)) ?_
    by_cases he : (stepsOf l.length l).Nodup
    · simp only [he, decide_true, if_true]
      refine Ev.bind (refHalves_ev h he) ?_
      refine Ev.bind (Equal_ev _ _ (by have := (halves_spec h he).2.2.2.1; omega)) ?_
      simp only [decide_true, if_true]
      exact Ev.bind awake_ev (Ev.some _)
    · simp only [he, decide_false, if_false, Bool.false_eq_true, List.length_nil, Int.natCast_zero, if_true]
      exact Ev.bind awake_ev (Ev.some _)
  · simp only [isRow_take, h, decide_false, if_false, List.length_nil, Int.natCast_zero, if_true, Bool.false_eq_true]
    exact Ev.bind awake_ev (Ev.some _)

end Go.Proofs.Ytpfjnpbcnlbhaaa.P
namespace Go.Proofs.Ytpfjnpbcnlbhaaa.Pure
theorem RowsHalves : Go.Proofs.Ytpfjnpbcnlbhaaa.P.sackbutlaw05_RowsHalves.Pure := Go.Proofs.Ytpfjnpbcnlbhaaa.P.RowsHalves
end Go.Proofs.Ytpfjnpbcnlbhaaa.Pure
namespace Go.Proofs.Ytpfjnpbcnlbhaaa.rowsHalves
open Go.ChangeShapes Go.WideShapes Go.ChangeAt Go.RowKit
open Go.ChangeMaps (open_string shut_string)
set_option linter.unusedVariables false
theorem own : ownKnob Try.prog.godebug = none := by kernel_rfl
theorem laidOut : laidOutB Try.prog = true := by kernel_rfl
def IsRow (k : IntKind) (w : World) (a : Option Addr) (len cap : Nat) (zs : List Int) : Prop :=
  (a = none ∧ len = 0 ∧ cap = 0 ∧ zs = []) ∨
  ∃ x, a = some x ∧ len ≤ cap ∧ cap ≤ maxLen ∧ zs.length = cap ∧ (∀ i, i < zs.length → w.cell? (x.add i) = some (.int k (zs.getD i 0))) ∧ ∀ n ∈ zs, (Lit.int k n).wf = true
set_option maxRecDepth 100000 in
theorem lifted (os : Os) (started : os.Started) (H : Type) (enc : TypeId × Value → H) :
    ReturnsInHanded {} Try.checked os 8 .any (Rows.rowsHalvesSpec.pre6 enc Try.prog Try.f8 Rows.rowsHalvesRow.domain false) (Rows.rowsHalvesSpec.post enc Try.prog Try.f8 false true false false) := by
  refine returnsInHanded_of_change_sized (C := Try.checked) own started (by kernel_rfl) Try.func8
    (ChangeSpec.witness6 (enc := enc) (C := Try.checked) false ⟨#[], #[.slice none 0 0], []⟩ 8 (by kernel_rfl) (by kernel_rfl) (by kernel_rfl) (by kernel_rfl)) ?_
  intro W base args ds gs before hval0 hW hcnd hsz0 _
  have hsz : (DataW.weightsEach Try.prog (Try.f8.params.toList ++ Rows.rowsHalvesSpec.plain.varTypes Try.prog) (ds ++ gs)).all (· ≤ reachBytes) = true := hsz0
  have hval : ∀ (j : Nat) t v, Try.f8.params[j]? = some t → args[j]? = some v → Value.okWide Try.prog W .any base t v := hval0
  have hW' := hW
  obtain ⟨p, q, hA0, hV, rfl, hfz, hnd⟩ := hW
  have hA : DataW.TrodAll enc Try.prog W 0 (fun _ => true) true Try.f8.params.toList args.toList ds p := hA0
  rw [Try.params8] at hA hval hsz
  obtain ⟨v0, vs0, d0, ds0, p0, q0, hargs, rfl, rfl, h0, r0⟩ := trodAll_cons hA
  obtain ⟨rfl, rfl, rfl⟩ := trodAll_nil r0
  obtain rfl : args = #[v0] := by cases args; simp_all
  obtain ⟨rfl, rfl⟩ := trodVars_none hV
  obtain ⟨a0, len0, cap0, rfl⟩ := okWide_slice Try.underlying22 (hval 0 22 v0 rfl rfl)
  have k0 := h0
  have lt0 : ∀ x ∈ p0, x.block < W.heap.size := by obtain ⟨m, hm⟩ := k0; exact DataW.trod_lt m _ _ _ hm
  obtain ⟨z0, w0⟩ : ∃ zs, IsRow .i64 W a0 len0 cap0 zs := by
    obtain ⟨fuel, hf⟩ := h0
    rcases open_ints Try.underlying22 Try.underlying3 (by kernel_rfl) hf with ⟨hcs, _⟩ | ⟨x, l, c, zs, hcs, _, hl, hm, hz, _, hcell, hwz⟩
    · simp [Value.cells] at hcs
      obtain ⟨rfl, rfl, rfl⟩ := hcs
      exact ⟨[], .inl ⟨rfl, rfl, rfl, rfl⟩⟩
    · simp [Value.cells] at hcs
      obtain ⟨rfl, rfl, rfl⟩ := hcs
      exact ⟨zs, .inr ⟨_, rfl, hl, hm, by simpa using hz, hcell, hwz⟩⟩
  have y0 : len0 * 8 ≤ 140737488351232 := Go.Proofs.YtpfjnpbcnlbhaaaW.PrintWords.sized_ints hsz (j := 0) (t := 22) rfl rfl Try.underlying22 Try.underlying3 (by kernel_rfl) (by kernel_rfl) h0
  clear hA0 hval0 hsz0 hsz
  refine (P.sackbutlaw05_RowsHalves.walk Pure.RowsHalves a0 len0 cap0 z0 W w0 y0).mono fun e W' ⟨he, bel⟩ => ?_
  subst he
  exact ⟨_, rfl, _, _, _, [], _, [], hW', trodAll_mk1 (shut_bool Try.underlying4 _), (trodAll_cons_mk (Below.trod laidOut (by kernel_rfl) (of_decide_eq_true (by kernel_rfl)) k0 bel lt0) trodAll_mk0), rfl, bel.frame _, fun h => by cases h⟩
theorem over : Rows.rowsHalvesRow.holds Try.pinned (OpenSpec.ofChange Rows.rowsHalvesSpec) :=
  OpenClaim.holds_of_wide 8 Try.f8 rfl rfl rfl rfl rfl rfl rfl ⟨rfl, rfl, rfl, rfl, rfl⟩ rfl rfl rfl rfl rfl (by kernel_rfl) Try.func8 (by kernel_rfl)
    (of_decide_eq_true (by kernel_rfl)) (by unfold Func.isWrapper; first | (rw [if_pos (by decide +kernel)]; kernel_rfl) | (rw [if_neg (by decide +kernel)]; exact ⟨rfl, rfl⟩))
    (fun os started H enc _ => lifted os started H enc)
theorem proved : Rows.RowsHalvesSaid := over
#print axioms proved
end Go.Proofs.Ytpfjnpbcnlbhaaa.rowsHalves
namespace Go.Proofs.Ytpfjnpbcnlbhaaa
/-- The row, under a short name, for the claim. -/
theorem rowsHalves_holds : Rows.RowsHalvesSaid := rowsHalves.proved
end Go.Proofs.Ytpfjnpbcnlbhaaa
