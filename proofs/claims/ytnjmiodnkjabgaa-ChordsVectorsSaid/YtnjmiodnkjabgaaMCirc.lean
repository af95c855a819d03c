/- A part of a proof that a law's Go function returns true for every input, laid by this session's program mp.py (which drives the kit's print). Conditions: as each theorem states them. -/
import Derived.Test.YtnjmiodnkjabgaaMPop
import Derived.Test.YtnjmiodnkjabgaaMSets
namespace Go.Proofs.Ytnjmiodnkjabgaa.P
/-! Counting on a circle. Plain Lean. -/
/-- A value that is not to be reckoned out by the kernel. -/
noncomputable def Seal {α : Type} (a : α) : α := Classical.choose (⟨a, rfl⟩ : ∃ x, x = a)
theorem Seal_eq {α : Type} (a : α) : Seal a = a := Classical.choose_spec (⟨a, rfl⟩ : ∃ x, x = a)
noncomputable def cnt (n : Nat) (p : Nat → Bool) : Nat := Seal ((List.range n).countP p)
theorem cnt_eq (n : Nat) (p : Nat → Bool) : cnt n p = (List.range n).countP p := Seal_eq _
theorem cnt_congr {n : Nat} {p q : Nat → Bool} (h : ∀ i, i < n → p i = q i) : cnt n p = cnt n q := by
  rw [cnt_eq, cnt_eq]
  exact List.countP_congr (fun i hi => by rw [h i (List.mem_range.1 hi)])
theorem cnt_le (n : Nat) (p : Nat → Bool) : cnt n p ≤ n := by
  have := List.countP_le_length (p := p) (l := List.range n)
  simpa [cnt_eq] using this
theorem map_perm_range {n : Nat} {f : Nat → Nat} (hr : ∀ i, i < n → f i < n) (hi : ∀ i, i < n → ∀ j, j < n → f i = f j → i = j) : ((List.range n).map f).Perm (List.range n) := by
  have hd : ((List.range n).map f).Nodup := by
    rw [List.nodup_iff_pairwise_ne, List.pairwise_map]
    refine List.Pairwise.imp_of_mem ?_ (List.nodup_range (n := n))
    intro a b ha hb hab e
    exact hab (hi a (List.mem_range.1 ha) b (List.mem_range.1 hb) e)
  have hr' : ∀ x ∈ (List.range n).map f, x < n := by
    intro x hx
    obtain ⟨y, hy, rfl⟩ := List.mem_map.1 hx
    exact hr y (List.mem_range.1 hy)
  rw [List.perm_ext_iff_of_nodup hd List.nodup_range]
  intro a
  rw [List.mem_range]
  exact ⟨hr' a, full_of_nodup (by simp) hr' hd a⟩
/-- counting does not care for the order -/
theorem cnt_perm {n : Nat} {f : Nat → Nat} (hr : ∀ i, i < n → f i < n) (hi : ∀ i, i < n → ∀ j, j < n → f i = f j → i = j) (p : Nat → Bool) : cnt n (fun i => p (f i)) = cnt n p := by
  have h := (map_perm_range hr hi).countP_eq p
  rw [List.countP_map] at h
  rw [cnt_eq, cnt_eq]
  exact h
theorem add_mod_inj {n e i j : Nat} (hi : i < n) (hj : j < n) (h : (i + e) % n = (j + e) % n) : i = j := by
  have h1 : (i + e) % n = (i + e % n) % n := by rw [Nat.add_mod_mod]
  have h2 : (j + e) % n = (j + e % n) % n := by rw [Nat.add_mod_mod]
  rw [h1, h2] at h
  have he : e % n < n := Nat.mod_lt _ (by omega)
  generalize e % n = t at *
  rcases Nat.lt_or_ge (i + t) n with a | a <;> rcases Nat.lt_or_ge (j + t) n with b | b
  · rw [Nat.mod_eq_of_lt a, Nat.mod_eq_of_lt b] at h; omega
  · rw [Nat.mod_eq_of_lt a, Nat.mod_eq_sub_mod b, Nat.mod_eq_of_lt (by omega)] at h; omega
  · rw [Nat.mod_eq_of_lt b, Nat.mod_eq_sub_mod a, Nat.mod_eq_of_lt (by omega)] at h; omega
  · rw [Nat.mod_eq_sub_mod b, Nat.mod_eq_sub_mod a, Nat.mod_eq_of_lt (by omega), Nat.mod_eq_of_lt (by omega)] at h; omega
theorem cnt_shift {n : Nat} (e : Nat) (p : Nat → Bool) : cnt n (fun i => p ((i + e) % n)) = cnt n p :=
  cnt_perm (f := fun i => (i + e) % n) (fun i hi => Nat.mod_lt _ (by omega)) (fun _ hi _ hj h => add_mod_inj hi hj h) p
theorem cnt_split {n : Nat} (p q : Nat → Bool) : cnt n p = cnt n (fun i => p i && q i) + cnt n (fun i => p i && !q i) := by
  simp only [cnt_eq]
  generalize List.range n = l
  induction l with
  | nil => rfl
  | cons x xs ih =>
    simp only [List.countP_cons, ih]
    cases p x <;> cases q x <;> simp <;> omega
theorem cnt_not {n : Nat} (p : Nat → Bool) : cnt n (fun i => !p i) = n - cnt n p := by
  have h := cnt_split (n := n) (fun _ => true) p
  have h1 : cnt n (fun _ => true) = n := by simp [cnt_eq]
  simp only [Bool.true_and] at h
  have e : cnt n (fun i => p i) = cnt n p := rfl
  omega
/-- neither of two: all less each, and more by those of both -/
theorem cnt_neither {n : Nat} (p q : Nat → Bool) : cnt n (fun i => !p i && !q i) + cnt n p + cnt n q = n + cnt n (fun i => p i && q i) := by
  have h1 := cnt_split (n := n) (fun i => !p i) q
  have h2 := cnt_split (n := n) q p
  have h3 := cnt_not (n := n) p
  have h4 := cnt_le n p
  have e1 : cnt n (fun i => !p i && q i) = cnt n (fun i => q i && !p i) := cnt_congr (fun i _ => Bool.and_comm _ _)
  have e2 : cnt n (fun i => p i && q i) = cnt n (fun i => q i && p i) := cnt_congr (fun i _ => Bool.and_comm _ _)
  omega

/-! chords: sets of tones -/
noncomputable def chSize (n a : Nat) : Nat := cnt n a.testBit
theorem chSize_bits (n a : Nat) : cntBits n a = chSize n a := by unfold chSize; rw [cnt_eq]; rfl
def moveN (n c j : Nat) : Nat := (c * 2 ^ j ||| c / 2 ^ (n - j)) &&& (2 ^ n - 1)
theorem moveN_lt (n c j : Nat) : moveN n c j < 2 ^ n := by
  unfold moveN
  refine Nat.lt_of_le_of_lt Nat.and_le_right ?_
  have := Nat.two_pow_pos n
  omega
theorem testBit_moveN {n c j i : Nat} (hc : c < 2 ^ n) (hj : j < n) (hi : i < n) : (moveN n c j).testBit i = c.testBit ((i + (n - j)) % n) := by
  unfold moveN
  rw [Nat.testBit_and, Nat.testBit_or, Nat.testBit_two_pow_sub_one, Nat.testBit_mul_two_pow, Nat.testBit_div_two_pow]
  simp only [hi, decide_true, Bool.and_true]
  by_cases h : j ≤ i
  · have e : (i + (n - j)) % n = i - j := by rw [show i + (n - j) = (i - j) + n by omega, Nat.add_mod_right, Nat.mod_eq_of_lt (by omega)]
    have e2 : c.testBit (i + (n - j)) = false := Nat.testBit_lt_two_pow (Nat.lt_of_lt_of_le hc (Nat.pow_le_pow_right (by omega) (by omega)))
    rw [e, e2]
    simp [h]
  · have e : (i + (n - j)) % n = i + (n - j) := Nat.mod_eq_of_lt (by omega)
    rw [e]
    simp [h]
theorem testBit_big {n c i : Nat} (hc : c < 2 ^ n) (hi : n ≤ i) : c.testBit i = false := Nat.testBit_lt_two_pow (Nat.lt_of_lt_of_le hc (Nat.pow_le_pow_right (by omega) hi))
theorem bits_ext {n a b : Nat} (ha : a < 2 ^ n) (hb : b < 2 ^ n) (h : ∀ i, i < n → a.testBit i = b.testBit i) : a = b := by
  refine Nat.eq_of_testBit_eq fun i => ?_
  rcases Nat.lt_or_ge i n with hi | hi
  · exact h i hi
  · rw [testBit_big ha hi, testBit_big hb hi]
/-- by how many tones a chord and one that is moved by d agree -/
noncomputable def common (n a b d : Nat) : Nat := cnt n (fun i => a.testBit i && b.testBit ((i + (n - d)) % n))
theorem chSize_and_move {n a b d : Nat} (hb : b < 2 ^ n) (hd : d < n) : chSize n (a &&& moveN n b d) = common n a b d := by
  unfold chSize common
  exact cnt_congr (fun i hi => by rw [Nat.testBit_and, testBit_moveN hb hd hi])
noncomputable def vecAt (n c d : Nat) : Nat := if 2 * d = n then common n c c d / 2 else common n c c d
noncomputable def vecOf (n c : Nat) : List Int := Seal ((List.range (n / 2)).map (fun i => (vecAt n c (i + 1) : Int)))
theorem vecOf_eq (n c : Nat) : vecOf n c = (List.range (n / 2)).map (fun i => (vecAt n c (i + 1) : Int)) := Seal_eq _
theorem vecOf_length (n c : Nat) : (vecOf n c).length = n / 2 := by simp [vecOf_eq]
theorem vecOf_get {n c i : Nat} (h : i < n / 2) : (vecOf n c)[i]? = some (vecAt n c (i + 1) : Int) := by simp [vecOf_eq, h]
def compl (n c : Nat) : Nat := 2 ^ n - 1 - c
theorem testBit_compl {n c i : Nat} (hc : c < 2 ^ n) (hi : i < n) : (compl n c).testBit i = !c.testBit i := by
  have h : compl n c = 2 ^ n - (c + 1) := by unfold compl; omega
  rw [h, Nat.testBit_two_pow_sub_succ hc]
  simp [hi]
theorem compl_lt (n c : Nat) : compl n c < 2 ^ n := by have := Nat.two_pow_pos n; unfold compl; omega
/-- 'a & (a - 1)' is a without its least number -/
theorem testBit_pred {a : Nat} : ∀ n, a < 2 ^ n → 0 < a → ∃ m, m < n ∧ a.testBit m = true ∧ ∀ j, (a &&& (a - 1)).testBit j = (a.testBit j && !decide (j = m)) := by
  intro n
  induction n generalizing a with
  | zero => intro h h0; simp at h; omega
  | succ n ih =>
    intro h h0
    rcases Nat.mod_two_eq_zero_or_one a with e | e
    · obtain ⟨m, hm, hb, hj⟩ := ih (a := a / 2) (by rw [Nat.pow_succ] at h; omega) (by omega)
      refine ⟨m + 1, by omega, by rw [Nat.testBit_succ]; exact hb, fun j => ?_⟩
      cases j with
      | zero =>
        rw [Nat.testBit_and]
        have : a.testBit 0 = false := by rw [Nat.testBit_zero, e]; rfl
        rw [this]; rfl
      | succ j =>
        have h1 := hj j
        rw [Nat.testBit_and] at h1 ⊢
        rw [Nat.testBit_succ, Nat.testBit_succ, show (a - 1) / 2 = a / 2 - 1 by omega, h1]
        congr 1
        simp
    · refine ⟨0, by omega, by rw [Nat.testBit_zero, e]; rfl, fun j => ?_⟩
      cases j with
      | zero =>
        rw [Nat.testBit_and]
        have : (a - 1).testBit 0 = false := by rw [Nat.testBit_zero, show (a - 1) % 2 = 0 by omega]; rfl
        rw [this]; simp
      | succ j =>
        rw [Nat.testBit_and, Nat.testBit_succ, Nat.testBit_succ, show (a - 1) / 2 = a / 2 by omega, Bool.and_self]
        simp
theorem chSize_drop {n a : Nat} (ha : a < 2 ^ n) (h0 : 0 < a) : chSize n (a &&& (a - 1)) + 1 = chSize n a := by
  obtain ⟨m, hm, hb, hj⟩ := testBit_pred n ha h0
  have h1 := cnt_split (n := n) a.testBit (fun j => !decide (j = m))
  have h2 : cnt n (fun i => a.testBit i && !!decide (i = m)) = 1 := by
    have : cnt n (fun i => a.testBit i && !!decide (i = m)) = (List.range n).count m := by
      rw [cnt_eq, List.count]
      refine List.countP_congr (fun i _ => ?_)
      by_cases e : i = m
      · subst e; simp [hb]
      · simp [e]
    rw [this, List.nodup_range.count, if_pos (List.mem_range.2 hm)]
  have h3 : chSize n (a &&& (a - 1)) = cnt n (fun i => a.testBit i && !decide (i = m)) := by
    unfold chSize
    exact cnt_congr (fun i _ => by rw [hj])
  have h4 : chSize n a = cnt n a.testBit := rfl
  rw [h4, h3, h1, h2]
theorem chSize_cnt (n a : Nat) : chSize n a = cnt n a.testBit := rfl
theorem common_cnt (n a b d : Nat) : common n a b d = cnt n (fun i => a.testBit i && b.testBit ((i + (n - d)) % n)) := rfl
theorem chSize_le (n a : Nat) : chSize n a ≤ n := cnt_le _ _
theorem common_le (n a b d : Nat) : common n a b d ≤ n := cnt_le _ _
theorem vecAt_le (n c d : Nat) : vecAt n c d ≤ n := by
  have : common n c c d ≤ n := cnt_le _ _
  unfold vecAt; split <;> omega
theorem chSize_zero (n : Nat) : chSize n 0 = 0 := by unfold chSize; rw [cnt_eq, List.countP_eq_zero]; intro i _; simp
theorem eq_zero_of_chSize {n a : Nat} (ha : a < 2 ^ n) (h : chSize n a = 0) : a = 0 := by
  refine bits_ext ha (Nat.two_pow_pos n) (fun i hi => ?_)
  unfold chSize at h
  rw [cnt_eq] at h
  have := List.countP_eq_zero.1 h i (List.mem_range.2 hi)
  simp at this
  simp [this]
end Go.Proofs.Ytnjmiodnkjabgaa.P

