/- A part of a proof that a law's Go function returns true for every input, laid by this session's program mp.py (which drives the kit's print). Conditions: as each theorem states them. -/
import Derived.Test.YtpfjnpbcnlbhaaaCRowsHalf1
import Derived.Test.YtpfjnpbcnlbhaaaCRowsHalf2
import Derived.Test.YtpfjnpbcnlbhaaaCRowsHalf3
import Derived.Test.YtpfjnpbcnlbhaaaCRowsHalf4
import Derived.Test.YtpfjnpbcnlbhaaaCRowsHalf5
namespace Go.Proofs.Ytpfjnpbcnlbhaaa.P
open Go.RowKit Go.Proofs.YtpfjnpbcnlbhaaaW.PrintWords Go.Proofs.YtpfjnpbcnlbhaaaW.PrintLast Go.Proofs.YtpfjnpbcnlbhaaaW.PrintMore
attribute [local go_sem] max2_int min2_int max_two min_two max_three min_three max_four min_four   -- for this text's walks alone
set_option linter.unusedVariables false
set_option linter.unusedSimpArgs false

/-! What the functions on rows come to. -/
def IsRow (l : List Int) : Prop := 2 ≤ l.length ∧ l.length ≤ 10 ∧ (∀ x ∈ l, 0 ≤ x ∧ x < l.length) ∧ l.Nodup
instance (l : List Int) : Decidable (IsRow l) := by unfold IsRow; infer_instance
def PartOf (n : Nat) (l : List Int) : Prop := (∀ x ∈ l, 0 ≤ x ∧ x < n) ∧ l.Nodup
instance (n : Nat) (l : List Int) : Decidable (PartOf n l) := by unfold PartOf; infer_instance
def stepsOf (n : Int) : List Int → List Int
  | x :: y :: r => (y - x) % n :: stepsOf n (y :: r)
  | _ => []

theorem rows_mod_f {a n : Int} (hn : 0 < n) (hb : n < 4611686018427387904) : rows_mod.f a n = some (a % n) := by
  unfold rows_mod.f
  rw [if_neg (by omega), tmod_mod hn hb]

/-! a row is valid -/
theorem valid_loop (l : List Int) (hl : l.length ≤ 10) : ∀ (xs pre : List Int) (s : Nat), l = pre ++ xs → s < 2 ^ l.length →
    Ev (fun k => rows_row_valid.l0 k (l.length : Int) (s : Int) l (l.length : Int) (pre.length : Int)) (validRun l.length s xs) := by
  intro xs
  induction xs with
  | nil =>
    intro pre s h0 hs
    refine Ev.succ ?_
    have hsh := shl1_i64 (x := l.length) (by omega)
    have hp := Nat.two_pow_pos l.length
    have hp2 := two_pow_lt63 (x := l.length) (by omega)
    have hw : wrap64 (shl .i64 1 (l.length : Int) - 1) = ((2 ^ l.length - 1 : Nat) : Int) := by
      rw [hsh, wrap_id (by omega) (by have : (2 : Nat) ^ 63 = 9223372036854775808 := by decide
                                      omega)]
      omega
    simp only [rows_row_valid.l0, if_neg (mid_end h0), if_pos (show (0 : Int) ≤ (l.length : Int) by omega), hw]
    have e : ((s : Int) == ((2 ^ l.length - 1 : Nat) : Int)) = decide (s = 2 ^ l.length - 1) := by
      by_cases h : s = 2 ^ l.length - 1
      · simp only [← h]; simp
      · simp only [h, decide_false, beq_eq_false_iff_ne]; omega
    rw [e]
    exact Ev.some _
  | cons x xs ih =>
    intro pre s h0 hs
    refine Ev.succ ?_
    simp only [rows_row_valid.l0, if_pos (mid_lt h0), if_pos (show (0 : Int) ≤ (pre.length : Int) by omega), mid_rd h0, mid_next h0 (by omega), validRun]
    refine Ev.ite (fun e => by simpa [e] using Ev.some false) (fun e => ?_)
    refine Ev.ite (fun e2 => by simpa [e, e2] using Ev.some false) (fun e2 => ?_)
    obtain ⟨m, rfl⟩ := Int.eq_ofNat_of_zero_le (show 0 ≤ x by omega)
    have hp2 := two_pow_lt63 (x := l.length) (by omega)
    have hm2 : 2 ^ m < 2 ^ l.length := Nat.pow_lt_pow_right (by omega) (by omega)
    have hs2 : s ||| 2 ^ m < 2 ^ l.length := Nat.or_lt_two_pow hs hm2
    simp only [if_pos (show (0 : Int) ≤ (m : Int) by omega), shl1_i64 (x := m) (by omega), or_i64 (a := s) (b := 2 ^ m) (by omega) (by omega), if_neg e, if_neg e2, Int.toNat_natCast]
    exact ih (pre ++ [(m : Int)]) (s ||| 2 ^ m) (mid_mv h0) hs2
theorem row_full {l : List Int} (hr : ∀ x ∈ l, 0 ≤ x ∧ x < l.length) : orAll 0 (l.map Int.toNat) = 2 ^ l.length - 1 ↔ l.Nodup := by
  have hr' : ∀ x ∈ l.map Int.toNat, x < l.length := by
    intro x hx
    obtain ⟨y, hy, rfl⟩ := List.mem_map.1 hx
    have := hr y hy
    omega
  rw [orAll_full _ hr', ← nodup_toNat (fun x hx => (hr x hx).1)]
  exact ⟨fun h => nodup_of_full (by simp) h, fun h => full_of_nodup (by simp) hr' h⟩
theorem valid_ev (l : List Int) : Ev (fun k => rows_row_valid.f k l) (decide (IsRow l)) := by
  unfold rows_row_valid.f
  refine Ev.ite (fun e => ?_) (fun e => ?_)
  · refine Ev.succ ?_
    have : ¬ IsRow l := fun h => by have := h.1; omega
    simp only [rows_row_valid.j0, if_true]
    simpa [this] using Ev.some false
  · refine Ev.succ ?_
    simp only [rows_row_valid.j0]
    refine Ev.ite (fun e2 => ?_) (fun e2 => ?_)
    · have e2' : (l.length : Int) > 10 := of_decide_eq_true e2
      have : ¬ IsRow l := fun h => by have := h.2.1; omega
      simpa [this] using Ev.some false
    · have e2' : ¬ (l.length : Int) > 10 := fun h => e2 (decide_eq_true h)
      have hv := valid_loop l (by omega) l [] 0 rfl (Nat.two_pow_pos _)
      have ev : validRun l.length 0 l = decide (IsRow l) := by
        rw [validRun_iff]
        congr 1
        rw [eq_iff_iff]
        unfold IsRow
        constructor
        · rintro ⟨a, b⟩; exact ⟨by omega, by omega, a, (row_full a).1 b⟩
        · rintro ⟨_, _, a, b⟩; exact ⟨a, (row_full a).2 b⟩
      rw [← ev]
      exact hv

/-! the reference's Part and Row -/
theorem Part_loop (l : List Int) (n : Nat) (hn : n ≤ 62) (hl : l.length < 9223372036854775807) : ∀ (xs pre : List Int) (s : Nat), l = pre ++ xs → s < 2 ^ n →
    Ev (fun k => sackbutref05_Part.l0 k (n : Int) (s : Int) l (l.length : Int) (pre.length : Int)) (partRun n s xs) := by
  intro xs
  induction xs with
  | nil =>
    intro pre s h0 hs
    refine Ev.succ ?_
    simp only [sackbutref05_Part.l0, if_neg (mid_end h0)]
    exact Ev.some _
  | cons x xs ih =>
    intro pre s h0 hs
    refine Ev.succ ?_
    simp only [sackbutref05_Part.l0, if_pos (mid_lt h0), if_pos (show (0 : Int) ≤ (pre.length : Int) by omega), mid_rd h0, mid_next h0 hl, partRun]
    refine Ev.ite (fun e => by simpa [e] using Ev.some false) (fun e => ?_)
    refine Ev.ite (fun e2 => by simpa [e, e2] using Ev.some false) (fun e2 => ?_)
    obtain ⟨m, rfl⟩ := Int.eq_ofNat_of_zero_le (show 0 ≤ x by omega)
    have hp2 := two_pow_lt63 (x := n) (by omega)
    have hm2 : 2 ^ m < 2 ^ n := Nat.pow_lt_pow_right (by omega) (by omega)
    have hs2 : s ||| 2 ^ m < 2 ^ n := Nat.or_lt_two_pow hs hm2
    simp only [if_pos (show (0 : Int) ≤ (m : Int) by omega), bit1_i64 (a := s) (x := m) (by omega) (by omega), shl1_i64 (x := m) (by omega), or_i64 (a := s) (b := 2 ^ m) (by omega) (by omega), if_neg e, if_neg e2, Int.toNat_natCast]
    refine Ev.ite (fun e3 => by simpa [e3] using Ev.some false) (fun e3 => ?_)
    simpa [e3] using ih (pre ++ [(m : Int)]) (s ||| 2 ^ m) (mid_mv h0) hs2
theorem Part_ev (l : List Int) (n : Nat) (hn : n ≤ 62) (hl : l.length < 9223372036854775807) : Ev (fun k => sackbutref05_Part.f k l (n : Int)) (decide (PartOf n l)) := by
  have h := Part_loop l n hn hl l [] 0 rfl (Nat.two_pow_pos _)
  rw [partRun_iff] at h
  have e : ((∀ x ∈ l, 0 ≤ x ∧ x < (n : Int) ∧ (0 : Nat).testBit x.toNat = false) ∧ l.Nodup) = PartOf n l := by
    unfold PartOf; simp
  simp only [e] at h
  exact h
theorem Row_ev (l : List Int) : Ev (fun k => sackbutref05_Row.f k l) (decide (IsRow l)) := by
  unfold sackbutref05_Row.f
  refine Ev.ite (fun e => ?_) (fun e => ?_)
  · refine Ev.ite (fun e2 => ?_) (fun e2 => ?_)
    · refine Ev.bind (Part_ev l l.length (by omega) (by omega)) ?_
      have : decide (PartOf l.length l) = decide (IsRow l) := by
        congr 1; rw [eq_iff_iff]; unfold PartOf IsRow
        exact ⟨fun h => ⟨by omega, by omega, h⟩, fun h => h.2.2⟩
      rw [this]; exact Ev.some _
    · have : ¬ IsRow l := fun h => by have := h.2.1; omega
      simpa [this] using Ev.some false
  · have : ¬ IsRow l := fun h => by have := h.1; omega
    simpa [this] using Ev.some false

/-! list -/
theorem list_f (l : List Int) : sackbutlaw05_list.f l = some (l.take 13) := by
  unfold sackbutlaw05_list.f
  rw [mn_eq, if_pos (by omega), if_pos (by omega)]
  have e : (min (l.length : Int) 13).toNat = min l.length 13 := by omega
  have e2 : l.take (min l.length 13) = l.take 13 := by
    rw [Nat.min_comm]; exact (List.take_eq_take_min ..).symm
  rw [e, e2]
  unfold slices_Clone_int_int.f
  rw [if_pos (by rw [List.length_take]; omega)]
  rfl
theorem isRow_take (l : List Int) : IsRow (l.take 13) ↔ IsRow l := by
  rcases Nat.lt_or_ge 13 l.length with h | h
  · constructor
    · intro hr; have := hr.2.1; rw [List.length_take] at this; omega
    · intro hr; have := hr.2.1; omega
  · rw [List.take_of_length_le h]
theorem row_take {l : List Int} (h : IsRow l) : l.take 13 = l := List.take_of_length_le (by have := h.2.1; omega)

/-! steps -/
theorem steps_loop (l : List Int) (n : Nat) (hn : n = l.length) (h1 : 1 ≤ n) (hb : n ≤ 62) (hr : ∀ x ∈ l, 0 ≤ x ∧ x < 4611686018427387904) : ∀ (xs pre : List Int) (p : Int) (acc : List Int), l = pre ++ p :: xs → acc.length = pre.length →
    Ev (fun k => rows_row_steps.l0 k l acc ((pre.length : Int) + 1)) (acc ++ stepsOf n (p :: xs)) := by
  intro xs
  induction xs with
  | nil =>
    intro pre p acc h0 ha
    refine Ev.succ ?_
    have : ¬ ((pre.length : Int) + 1 < (l.length : Int)) := by subst h0; simp
    simp only [rows_row_steps.l0, if_neg this, stepsOf, List.append_nil]
    exact Ev.some _
  | cons x xs ih =>
    intro pre p acc h0 ha
    have hm : l = (pre ++ [p]) ++ x :: xs := mid_mv h0
    have hi : ((pre.length : Int) + 1) = ((pre ++ [p]).length : Int) := by simp
    have hlen : pre.length + 1 < l.length := by rw [h0]; simp
    have hw : wrap64 ((pre.length : Int) + 1 - 1) = (pre.length : Int) := by rw [wrap_id (by omega) (by omega)]; omega
    have hx := hr x (by rw [hm]; simp)
    have hp := hr p (by rw [h0]; simp)
    have hs : wrap64 (x - p) = x - p := wrap_id (by omega) (by omega)
    have hlt : ((pre.length : Int) + 1 < (l.length : Int)) := by omega
    refine Ev.succ ?_
    simp only [rows_row_steps.l0, if_pos hlt, if_pos (show (0 : Int) ≤ (pre.length : Int) + 1 by omega), hw, if_pos (show (0 : Int) ≤ (pre.length : Int) by omega), if_pos (mid_lt h0), mid_rd h0]
    rw [hi]
    simp only [mid_rd hm, hs, rows_mod_f (show (0 : Int) < (l.length : Int) by omega) (show (l.length : Int) < 4611686018427387904 by omega), Option.bind_some, if_pos (show acc.length < 17592186044416 by omega), mid_next hm (by omega)]
    have := ih (pre ++ [p]) x (acc ++ [(x - p) % (l.length : Int)]) hm (by simp [ha])
    have e : ((pre ++ [p] ++ [x]).length : Int) = ((pre ++ [p]).length : Int) + 1 := by simp; omega
    rw [e]
    simpa [stepsOf, hn] using this
theorem steps_ev (l : List Int) (h1 : 1 ≤ l.length) (hb : l.length ≤ 62) (hr : ∀ x ∈ l, 0 ≤ x ∧ x < 4611686018427387904) : Ev (fun k => rows_row_steps.f k l) (stepsOf l.length l) := by
  cases l with
  | nil => simp at h1
  | cons p xs => exact steps_loop (p :: xs) _ rfl h1 hb hr xs [] p [] rfl rfl

theorem refSteps_loop (l : List Int) (n : Nat) (h1 : 1 ≤ n) (hb : n ≤ 62) (hlb : l.length < 17592186044416) (hr : ∀ x ∈ l, 0 ≤ x ∧ x < 4611686018427387904) : ∀ (xs pre : List Int) (p : Int) (acc : List Int), l = pre ++ p :: xs → acc.length = pre.length →
    Ev (fun k => sackbutref05_Steps.l0 k l (n : Int) acc ((pre.length : Int) + 1)) (acc ++ stepsOf n (p :: xs)) := by
  intro xs
  induction xs with
  | nil =>
    intro pre p acc h0 ha
    refine Ev.succ ?_
    have : ¬ ((pre.length : Int) + 1 < (l.length : Int)) := by subst h0; simp
    simp only [sackbutref05_Steps.l0, if_neg this, stepsOf, List.append_nil]
    exact Ev.some _
  | cons x xs ih =>
    intro pre p acc h0 ha
    have hm : l = (pre ++ [p]) ++ x :: xs := mid_mv h0
    have hi : ((pre.length : Int) + 1) = ((pre ++ [p]).length : Int) := by simp
    have hlen : pre.length + 1 < l.length := by rw [h0]; simp
    have hw : wrap64 ((pre.length : Int) + 1 - 1) = (pre.length : Int) := by rw [wrap_id (by omega) (by omega)]; omega
    have hx := hr x (by rw [hm]; simp)
    have hp := hr p (by rw [h0]; simp)
    have hs : wrap64 (x - p) = x - p := wrap_id (by omega) (by omega)
    have hlt : ((pre.length : Int) + 1 < (l.length : Int)) := by omega
    have hmod : sackbutref05_mod.f (x - p) (n : Int) = some ((x - p) % (n : Int)) := by
      unfold sackbutref05_mod.f
      rw [if_neg (by omega), tmod_mod (by omega) (by omega)]
    refine Ev.succ ?_
    simp only [sackbutref05_Steps.l0, if_pos hlt, if_pos (show (0 : Int) ≤ (pre.length : Int) + 1 by omega), hw, if_pos (show (0 : Int) ≤ (pre.length : Int) by omega), if_pos (mid_lt h0), mid_rd h0]
    rw [hi]
    simp only [mid_rd hm, hs, hmod, Option.bind_some, if_pos (show acc.length < 17592186044416 by omega), mid_next hm (by omega)]
    have := ih (pre ++ [p]) x (acc ++ [(x - p) % (n : Int)]) hm (by simp [ha])
    have e : ((pre ++ [p] ++ [x]).length : Int) = ((pre ++ [p]).length : Int) + 1 := by simp; omega
    rw [e]
    simpa [stepsOf] using this
theorem refSteps_ev (l : List Int) (n : Nat) (h1 : 1 ≤ n) (hb : n ≤ 62) (hlb : l.length < 17592186044416) (hr : ∀ x ∈ l, 0 ≤ x ∧ x < 4611686018427387904) : Ev (fun k => sackbutref05_Steps.f k l (n : Int)) (stepsOf n l) := by
  cases l with
  | nil =>
    unfold sackbutref05_Steps.f
    refine Ev.succ ?_
    simp only [sackbutref05_Steps.l0]
    simpa [stepsOf] using Ev.some _
  | cons p xs => exact refSteps_loop (p :: xs) n h1 hb hlb hr xs [] p [] rfl rfl

theorem stepsOf_range {n : Int} (hn : 0 < n) : ∀ (l : List Int), ∀ s ∈ stepsOf n l, 0 ≤ s ∧ s < n
  | x :: y :: r => by
    intro s hs
    rcases List.mem_cons.1 hs with rfl | hs
    · exact ⟨Int.emod_nonneg _ (by omega), Int.emod_lt_of_pos _ hn⟩
    · exact stepsOf_range hn (y :: r) s hs
  | [] => by simp [stepsOf]
  | [x] => by simp [stepsOf]
theorem stepsOf_length (n : Int) : ∀ (l : List Int), (stepsOf n l).length = l.length - 1
  | x :: y :: r => by have := stepsOf_length n (y :: r); simp [stepsOf] at *; omega
  | [] => by simp [stepsOf]
  | [x] => by simp [stepsOf]
/-- the steps of different tones are none of them 0 -/
theorem stepsOf_pos {n : Int} (hn : 0 < n) : ∀ (l : List Int), (∀ x ∈ l, 0 ≤ x ∧ x < n) → l.Nodup → ∀ s ∈ stepsOf n l, 1 ≤ s
  | x :: y :: r => by
    intro hr hd s hs
    rcases List.mem_cons.1 hs with rfl | hs
    · have hx := hr x (by simp); have hy := hr y (by simp)
      have hne : x ≠ y := fun e => by subst e; simp at hd
      have h0 := Int.emod_nonneg (y - x) (show n ≠ 0 by omega)
      rcases Int.lt_or_eq_of_le h0 with h | h
      · omega
      · exfalso
        have := Int.emod_add_mul_ediv (y - x) n
        rw [← h] at this
        have hq : -1 < (y - x) / n ∨ (y - x) / n ≤ -1 := by omega
        have hq2 : (y - x) / n = 0 ∨ 1 ≤ (y - x) / n ∨ (y - x) / n ≤ -1 := by omega
        rcases hq2 with h2 | h2 | h2
        · rw [h2] at this; omega
        · have : n * 1 ≤ n * ((y - x) / n) := Int.mul_le_mul_of_nonneg_left h2 (by omega)
          omega
        · have : n * ((y - x) / n) ≤ n * (-1) := Int.mul_le_mul_of_nonneg_left h2 (by omega)
          omega
    · exact stepsOf_pos hn (y :: r) (fun z hz => hr z (List.mem_cons_of_mem _ hz)) (List.nodup_cons.1 hd).2 s hs
  | [] => by simp [stepsOf]
  | [x] => by simp [stepsOf]

/-! every -/
theorem every_loop (l0 l : List Int) (hl0 : 1 ≤ l0.length ∧ l0.length ≤ 62) (hl : l.length < 9223372036854775807) (hr : ∀ x ∈ l, 0 ≤ x ∧ x < l0.length) : ∀ (xs pre : List Int) (s : Nat), l = pre ++ xs → s < 2 ^ l0.length →
    Ev (fun k => rows_row_every.l0 k l0 (s : Int) l (l.length : Int) (pre.length : Int)) (decide (orAll s (xs.map Int.toNat) = 2 ^ l0.length - 2)) := by
  intro xs
  induction xs with
  | nil =>
    intro pre s h0 hs
    refine Ev.succ ?_
    have hsh := shl1_i64 (x := l0.length) (by omega)
    have hp : 2 ≤ 2 ^ l0.length := Nat.pow_le_pow_right (show 0 < 2 by omega) hl0.1
    have hp2 := two_pow_lt63 (x := l0.length) (by omega)
    have hw : wrap64 (shl .i64 1 (l0.length : Int) - 2) = ((2 ^ l0.length - 2 : Nat) : Int) := by
      rw [hsh, wrap_id (by omega) (by have : (2 : Nat) ^ 63 = 9223372036854775808 := by decide
                                      omega)]
      omega
    simp only [rows_row_every.l0, if_neg (mid_end h0), hw, List.map_nil, orAll_nil]
    have e : ((s : Int) == ((2 ^ l0.length - 2 : Nat) : Int)) = decide (s = 2 ^ l0.length - 2) := by
      by_cases h : s = 2 ^ l0.length - 2
      · simp only [← h]; simp
      · simp only [h, decide_false, beq_eq_false_iff_ne]; omega
    rw [e]
    exact Ev.some _
  | cons x xs ih =>
    intro pre s h0 hs
    refine Ev.succ ?_
    have hx := hr x (by rw [h0]; simp)
    obtain ⟨m, rfl⟩ := Int.eq_ofNat_of_zero_le (show 0 ≤ x by omega)
    have hp2 := two_pow_lt63 (x := l0.length) (by omega)
    have hm2 : 2 ^ m < 2 ^ l0.length := Nat.pow_lt_pow_right (by omega) (by omega)
    have hs2 : s ||| 2 ^ m < 2 ^ l0.length := Nat.or_lt_two_pow hs hm2
    simp only [rows_row_every.l0, if_pos (mid_lt h0), if_pos (show (0 : Int) ≤ (pre.length : Int) by omega), mid_rd h0, mid_next h0 hl, if_pos (show (0 : Int) ≤ (m : Int) by omega), shl1_i64 (x := m) (by omega), or_i64 (a := s) (b := 2 ^ m) (by omega) (by omega), List.map_cons, orAll_cons, Int.toNat_natCast]
    exact ih (pre ++ [(m : Int)]) (s ||| 2 ^ m) (mid_mv h0) hs2
/-- every step comes: all are different -/
theorem every_iff {l : List Int} (h : IsRow l) : orAll 0 ((stepsOf l.length l).map Int.toNat) = 2 ^ l.length - 2 ↔ (stepsOf l.length l).Nodup := by
  have hn : 0 < (l.length : Int) := by have := h.1; omega
  have h1 := stepsOf_range hn l
  have h2 := stepsOf_pos hn l h.2.2.1 h.2.2.2
  have hr : ∀ x ∈ (stepsOf l.length l).map Int.toNat, 1 ≤ x ∧ x < l.length := by
    intro x hx
    obtain ⟨y, hy, rfl⟩ := List.mem_map.1 hx
    have := h1 y hy; have := h2 y hy
    omega
  rw [orAll_full2 (by have := h.1; omega) _ hr, ← nodup_toNat (fun x hx => (h1 x hx).1)]
  have hl : ((stepsOf l.length l).map Int.toNat).length = l.length - 1 := by rw [List.length_map, stepsOf_length]
  generalize (stepsOf l.length l).map Int.toNat = ys at hl hr ⊢
  -- with 0 before them they are a whole row
  have hy : ∀ i, i < l.length → (i ∈ 0 :: ys ↔ i = 0 ∨ i ∈ ys) := fun i _ => List.mem_cons
  constructor
  · intro hf
    have hd : (0 :: ys).Nodup := nodup_of_full (n := l.length) (by simp [hl]; have := h.1; omega) (fun i hi => by
      rcases Nat.eq_zero_or_pos i with e | e
      · simp [e]
      · exact List.mem_cons_of_mem _ (hf i e hi))
    exact (List.nodup_cons.1 hd).2
  · intro hd i hi1 hi2
    have hd0 : (0 :: ys).Nodup := List.nodup_cons.2 ⟨fun h0 => by have := (hr 0 h0).1; omega, hd⟩
    have := full_of_nodup (n := l.length) (by simp [hl]; have := h.1; omega) (fun x hx => by
      rcases List.mem_cons.1 hx with e | e
      · have := h.1; omega
      · exact (hr x e).2) hd0 i hi2
    rcases List.mem_cons.1 this with e | e
    · omega
    · exact e
theorem row_bounds {l : List Int} (h : IsRow l) : ∀ x ∈ l, 0 ≤ x ∧ x < 4611686018427387904 := fun x hx => by have := h.2.2.1 x hx; have := h.2.1; omega
theorem every_ev {l : List Int} (h : IsRow l) : Ev (fun k => rows_row_every.f k l) (decide (stepsOf l.length l).Nodup) := by
  unfold rows_row_every.f
  have h1 := h.1; have h2 := h.2.1
  refine Ev.bind (steps_ev l (by omega) (by omega) (row_bounds h)) ?_
  have := every_loop l (stepsOf l.length l) ⟨by omega, by omega⟩ (by rw [stepsOf_length]; omega) (stepsOf_range (by omega) l) (stepsOf l.length l) [] 0 rfl (Nat.two_pow_pos _)
  have e : decide (orAll 0 ((stepsOf l.length l).map Int.toNat) = 2 ^ l.length - 2) = decide (stepsOf l.length l).Nodup := by congr 1; rw [eq_iff_iff]; exact every_iff h
  rw [e] at this
  exact this

/-! the reference's Every: of different tones modulo n -/
def seenRun : Nat → List Int → Bool
  | _, [] => true
  | s, x :: xs => if s.testBit x.toNat then false else seenRun (s ||| 2 ^ x.toNat) xs
theorem refEvery_loop (l : List Int) (n : Nat) (hn : n ≤ 62) (hl : l.length < 9223372036854775807) (hr : ∀ x ∈ l, 0 ≤ x ∧ x < n) : ∀ (xs pre : List Int) (s : Nat), l = pre ++ xs → s < 2 ^ n →
    Ev (fun k => sackbutref05_Every.l0 k (s : Int) l (l.length : Int) (pre.length : Int)) (seenRun s xs) := by
  intro xs
  induction xs with
  | nil =>
    intro pre s h0 hs
    refine Ev.succ ?_
    simp only [sackbutref05_Every.l0, if_neg (mid_end h0)]
    exact Ev.some _
  | cons x xs ih =>
    intro pre s h0 hs
    refine Ev.succ ?_
    have hx := hr x (by rw [h0]; simp)
    obtain ⟨m, rfl⟩ := Int.eq_ofNat_of_zero_le (show 0 ≤ x by omega)
    have hp2 := two_pow_lt63 (x := n) (by omega)
    have hm2 : 2 ^ m < 2 ^ n := Nat.pow_lt_pow_right (by omega) (by omega)
    have hs2 : s ||| 2 ^ m < 2 ^ n := Nat.or_lt_two_pow hs hm2
    simp only [sackbutref05_Every.l0, if_pos (mid_lt h0), if_pos (show (0 : Int) ≤ (pre.length : Int) by omega), mid_rd h0, mid_next h0 hl, if_pos (show (0 : Int) ≤ (m : Int) by omega), bit1_i64 (a := s) (x := m) (by omega) (by omega), shl1_i64 (x := m) (by omega), or_i64 (a := s) (b := 2 ^ m) (by omega) (by omega), seenRun, Int.toNat_natCast]
    refine Ev.ite (fun e3 => by simpa [e3] using Ev.some false) (fun e3 => ?_)
    simpa [e3] using ih (pre ++ [(m : Int)]) (s ||| 2 ^ m) (mid_mv h0) hs2
theorem seenRun_iff : ∀ (xs : List Int) (s : Nat), (∀ x ∈ xs, 0 ≤ x) → seenRun s xs = decide ((∀ x ∈ xs, s.testBit x.toNat = false) ∧ xs.Nodup) := by
  intro xs
  induction xs with
  | nil => intro s _; simp [seenRun]
  | cons x xs ih =>
    intro s h
    have hx := h x (by simp)
    have h' : ∀ y ∈ xs, 0 ≤ y := fun y hy => h y (List.mem_cons_of_mem _ hy)
    simp only [seenRun, ih _ h', List.forall_mem_cons, List.nodup_cons]
    by_cases h3 : s.testBit x.toNat = true
    · simp [h3]
    · rw [if_neg h3, decide_eq_decide]
      simp only [testBit_or_two_pow, Bool.or_eq_false_iff, decide_eq_false_iff_not]
      constructor
      · rintro ⟨a, b⟩
        exact ⟨⟨by simpa using h3, fun y hy => (a y hy).1⟩, fun hx => (a x hx).2 rfl, b⟩
      · rintro ⟨⟨_, a⟩, b, c⟩
        refine ⟨fun y hy => ⟨a y hy, fun e => b ?_⟩, c⟩
        have := h' y hy
        obtain rfl : x = y := by omega
        exact hy
theorem refEvery_ev (l : List Int) (n : Nat) (h1 : 1 ≤ n) (hb : n ≤ 62) (hlb : l.length < 17592186044416) (hr : ∀ x ∈ l, 0 ≤ x ∧ x < 4611686018427387904) : Ev (fun k => sackbutref05_Every.f k l (n : Int)) (decide (stepsOf n l).Nodup) := by
  unfold sackbutref05_Every.f
  refine Ev.bind (refSteps_ev l n h1 hb hlb hr) ?_
  have hs := stepsOf_range (n := (n : Int)) (by omega) l
  have := refEvery_loop (stepsOf n l) n hb (by rw [stepsOf_length]; omega) hs (stepsOf n l) [] 0 rfl (Nat.two_pow_pos _)
  rw [seenRun_iff _ _ (fun x hx => (hs x hx).1)] at this
  simpa using this

theorem Steps_ev (l : List Int) : Ev (fun k => rows_Steps.f k l) (if IsRow l then (stepsOf l.length l, 0) else ([], 2)) := by
  unfold rows_Steps.f
  refine Ev.bind (valid_ev l) ?_
  by_cases h : IsRow l
  · simp only [h, decide_true, if_true]
    have h1 := h.1; have h2 := h.2.1
    exact Ev.bind (steps_ev l (by omega) (by omega) (row_bounds h)) (Ev.some _)
  · simp only [h, decide_false, if_false]
    exact Ev.some _
theorem Every_ev (l : List Int) : Ev (fun k => rows_Every.f k l) (if IsRow l then (decide (stepsOf l.length l).Nodup, 0) else (false, 2)) := by
  unfold rows_Every.f
  refine Ev.bind (valid_ev l) ?_
  by_cases h : IsRow l
  · simp only [h, decide_true, if_true]
    exact Ev.bind (every_ev h) (Ev.some _)
  · simp only [h, decide_false, if_false]
    exact Ev.some _
theorem awake_ev : Ev (fun k => sackbutlaw05_awake.f k) true := by
  unfold sackbutlaw05_awake.f
  refine Ev.bind (Steps_ev [0, 1, 3, 2]) ?_
  have h : IsRow [0, 1, 3, 2] := by decide
  have e : stepsOf ([0, 1, 3, 2] : List Int).length [0, 1, 3, 2] = [1, 2, 3] := by decide
  simp only [h, if_true, e]
  exact Ev.bind (Equal_ev [1, 2, 3] [1, 2, 3] (by decide)) (Ev.some _)

end Go.Proofs.Ytpfjnpbcnlbhaaa.P
namespace Go.Proofs.Ytpfjnpbcnlbhaaa.P
open Go.RowKit Go.Proofs.YtpfjnpbcnlbhaaaW.PrintWords Go.Proofs.YtpfjnpbcnlbhaaaW.PrintLast Go.Proofs.YtpfjnpbcnlbhaaaW.PrintMore
attribute [local go_sem] max2_int min2_int max_two min_two max_three min_three max_four min_four   -- for this text's walks alone
set_option linter.unusedVariables false
set_option linter.unusedSimpArgs false

/-! slices.Reverse and the forms -/
theorem Reverse_loop : ∀ (d : Nat) (M A B : List Int), M.length ≤ d → (A ++ M ++ B).length < 9223372036854775807 →
    Ev (fun k => slices_Reverse_int_int.l0 k (A ++ M ++ B) (A.length : Int) ((A.length : Int) + M.length - 1)) (A ++ M.reverse ++ B) := by
  intro d
  induction d with
  | zero =>
    intro M A B hd hb
    obtain rfl : M = [] := List.eq_nil_of_length_eq_zero (by omega)
    refine Ev.succ ?_
    have : ¬ (A.length : Int) < (A.length : Int) + (([] : List Int).length : Int) - 1 := by simp; omega
    simp only [slices_Reverse_int_int.l0, if_neg this]
    exact Ev.some _
  | succ d ih =>
    intro M A B hd hb
    match M, hd with
    | [], _ => exact ih [] A B (by simp) hb
    | [x], _ =>
      refine Ev.succ ?_
      have : ¬ (A.length : Int) < (A.length : Int) + (([x] : List Int).length : Int) - 1 := by simp
      simp only [slices_Reverse_int_int.l0, if_neg this, List.reverse_singleton]
      exact Ev.some _
    | x :: y :: M', hd =>
      obtain ⟨M2, z, hM⟩ : ∃ M2 z, y :: M' = M2 ++ [z] := ⟨(y :: M').dropLast, (y :: M').getLast (by simp), (List.dropLast_concat_getLast (by simp)).symm⟩
      rw [hM] at hd hb ⊢
      have hl : (A ++ x :: (M2 ++ [z]) ++ B).length = A.length + M2.length + 2 + B.length := by simp; omega
      have hj : (A.length : Int) + ((x :: (M2 ++ [z])).length : Int) - 1 = ((A.length + M2.length + 1 : Nat) : Int) := by simp; omega
      have e1 : A ++ x :: (M2 ++ [z]) ++ B = (A ++ x :: M2) ++ z :: B := by simp
      have r1 : rd (A ++ x :: (M2 ++ [z]) ++ B) (A.length : Int) = x := by
        rw [show A ++ x :: (M2 ++ [z]) ++ B = A ++ x :: (M2 ++ [z] ++ B) by simp]
        exact mid_rd rfl
      have r2 : rd (A ++ x :: (M2 ++ [z]) ++ B) ((A.length + M2.length + 1 : Nat) : Int) = z := by
        rw [e1, show A.length + M2.length + 1 = (A ++ x :: M2).length by simp; omega]
        exact mid_rd rfl
      have s1 : ((A ++ x :: (M2 ++ [z]) ++ B).set A.length z).set (A.length + M2.length + 1) x = (A ++ [z]) ++ M2 ++ (x :: B) := by
        rw [show A ++ x :: (M2 ++ [z]) ++ B = A ++ x :: (M2 ++ z :: B) by simp, List.set_append_right _ _ (Nat.le_refl _)]
        rw [Nat.sub_self, List.set_cons_zero]
        rw [show A ++ z :: (M2 ++ z :: B) = (A ++ z :: M2) ++ z :: B by simp, List.set_append_right _ _ (by simp; omega)]
        rw [show A.length + M2.length + 1 - (A ++ z :: M2).length = 0 by simp; omega, List.set_cons_zero]
        simp
      refine Ev.succ ?_
      rw [hj]
      have c1 : (A.length : Int) < ((A.length + M2.length + 1 : Nat) : Int) := by omega
      have c2 : (0 : Int) ≤ ((A.length + M2.length + 1 : Nat) : Int) := by omega
      have c3 : ((A.length + M2.length + 1 : Nat) : Int) < ((A ++ x :: (M2 ++ [z]) ++ B).length : Int) := by rw [hl]; omega
      have c4 : (A.length : Int) < ((A ++ x :: (M2 ++ [z]) ++ B).length : Int) := by rw [hl]; omega
      have w1 : wrap64 ((A.length : Int) + 1) = ((A ++ [z]).length : Int) := by rw [wrap_id (by omega) (by omega)]; simp
      have w2 : wrap64 (((A.length + M2.length + 1 : Nat) : Int) - 1) = ((A ++ [z]).length : Int) + M2.length - 1 := by rw [wrap_id (by omega) (by omega)]; simp; omega
      simp only [slices_Reverse_int_int.l0, if_pos c1, if_pos c2, if_pos c3, if_pos c4, if_pos (show (0 : Int) ≤ (A.length : Int) by omega), r1, r2, Int.toNat_natCast, s1, w1, w2]
      have := ih M2 (A ++ [z]) (x :: B) (by simp at hd; omega) (by simp at hb ⊢; omega)
      have e2 : A ++ [z] ++ M2.reverse ++ x :: B = A ++ (x :: (M2 ++ [z])).reverse ++ B := by simp
      rw [← e2]
      exact this
theorem Reverse_ev (l : List Int) (hb : l.length < 9223372036854775807) : Ev (fun k => slices_Reverse_int_int.f k l) l.reverse := by
  have h := Reverse_loop l.length l [] [] (Nat.le_refl _) (by simpa using hb)
  have w : wrap64 ((l.length : Int) - 1) = ((([] : List Int).length : Nat) : Int) + l.length - 1 := by rw [wrap_id (by omega) (by omega)]; simp
  unfold slices_Reverse_int_int.f
  rw [w]
  simpa using h

/-- a tone of a form -/
def toneOf (n kind k : Int) (x : Int) : Int := ((if kind % 2 = 1 then -x else x) + k % n) % n
def formOf (n kind k : Int) (l : List Int) : List Int := if kind / 2 % 2 = 1 then (l.map (toneOf n kind k)).reverse else l.map (toneOf n kind k)
theorem kind_bits {kind : Int} (h0 : 0 ≤ kind) (h3 : kind < 4) : (Go.bits .and .i64 kind 1 = 0 ↔ ¬ kind % 2 = 1) ∧ (Go.bits .and .i64 kind 2 = 0 ↔ ¬ kind / 2 % 2 = 1) := by
  have : kind = 0 ∨ kind = 1 ∨ kind = 2 ∨ kind = 3 := by omega
  rcases this with rfl | rfl | rfl | rfl <;> decide
theorem form_loop (n : Nat) (hn : 1 ≤ n) (hn2 : n ≤ 62) (kind k : Int) (hk0 : 0 ≤ kind) (hk3 : kind < 4) (l : List Int) (hl : l.length < 9223372036854775807) (hr : ∀ x ∈ l, 0 ≤ x ∧ x < 62) : ∀ (xs pre : List Int), l = pre ++ xs →
    Ev (fun q => rows_piece_form.l0 q kind k (pre.map (toneOf n kind k) ++ xs) (l.length : Int) (pre.length : Int) (n : Int) l) (formOf n kind k l) := by
  have hb := kind_bits hk0 hk3
  intro xs
  induction xs with
  | nil =>
    intro pre h0
    have hp : pre = l := by simpa using h0.symm
    subst hp
    refine Ev.succ ?_
    simp only [rows_piece_form.l0, if_neg (show ¬ (pre.length : Int) < (pre.length : Int) by omega), List.append_nil, hb.2]
    refine Ev.ite (fun e => ?_) (fun e => ?_)
    · unfold formOf
      rw [if_neg e]
      exact Ev.some _
    · unfold formOf
      rw [if_pos (Classical.not_not.1 e)]
      exact Ev.bind (Reverse_ev _ (by simpa using hl)) (Ev.some _)
  | cons x xs ih =>
    intro pre h0
    have hx := hr x (by rw [h0]; simp)
    have hlen : pre.length < l.length := by rw [h0]; simp
    have hlen2 : (pre.length : Int) < ((pre.map (toneOf n kind k) ++ x :: xs).length : Int) := by simp; omega
    have hrd : rd (pre.map (toneOf n kind k) ++ x :: xs) (pre.length : Int) = x := by
      have := mid_rd (l := pre.map (toneOf n kind k) ++ x :: xs) (pre := pre.map (toneOf n kind k)) rfl
      simpa using this
    have hset : ∀ v, (pre.map (toneOf n kind k) ++ x :: xs).set pre.length v = pre.map (toneOf n kind k) ++ v :: xs := by
      intro v
      rw [List.set_append_right _ _ (by simp)]
      simp
    have hm0 := Int.emod_nonneg k (show (n : Int) ≠ 0 by omega)
    have hm1 := Int.emod_lt_of_pos k (show (0 : Int) < n by omega)
    have go : ∀ v, v = toneOf n kind k x → Ev (fun q => rows_piece_form.l0 q kind k (pre.map (toneOf n kind k) ++ v :: xs) (l.length : Int) ((pre ++ [x]).length : Int) (n : Int) l) (formOf n kind k l) := by
      rintro v rfl
      have := ih (pre ++ [x]) (mid_mv h0)
      simpa using this
    refine Ev.succ ?_
    simp only [rows_piece_form.l0, if_pos (mid_lt h0), if_pos (show (0 : Int) ≤ (pre.length : Int) by omega), if_pos hlen2, hrd, Int.toNat_natCast, hset, mid_next h0 hl, rows_mod_f (show (0 : Int) < (n : Int) by omega) (show (n : Int) < 4611686018427387904 by omega), Option.bind_some, hb.1]
    refine Ev.ite (fun e => ?_) (fun e => ?_)
    · rw [wrap_id (by omega) (by omega)]
      exact go _ (by unfold toneOf; rw [if_neg e])
    · rw [wrap_id (n := -x) (by omega) (by omega), wrap_id (by omega) (by omega)]
      exact go _ (by unfold toneOf; rw [if_pos (Classical.not_not.1 e)])
theorem pieceForm_ev (n : Nat) (hn : 1 ≤ n) (hn2 : n ≤ 62) (kind k : Int) (hk0 : 0 ≤ kind) (hk3 : kind < 4) (l : List Int) (hl : l.length < 17592186044416) (hr : ∀ x ∈ l, 0 ≤ x ∧ x < 62) :
    Ev (fun q => rows_piece_form.f q (n : Int) l kind k) (formOf n kind k l) := by
  unfold rows_piece_form.f
  refine Ev.bind_some (show slices_Clone_int_int.f l = some l by unfold slices_Clone_int_int.f; rw [if_pos hl]) ?_
  simpa using form_loop n hn hn2 kind k hk0 hk3 l (by omega) hr l [] rfl
theorem row_small {l : List Int} (h : IsRow l) : ∀ x ∈ l, 0 ≤ x ∧ x < 62 := fun x hx => by have := h.2.2.1 x hx; have := h.2.1; omega
theorem Form_ev (l : List Int) (kind k : Int) : Ev (fun q => rows_Form.f q l kind k) (if IsRow l ∧ 0 ≤ kind ∧ kind < 4 then (formOf l.length kind k l, 0) else ([], 2)) := by
  unfold rows_Form.f
  refine Ev.bind (valid_ev l) ?_
  have bad : ∀ (r : List Int × Int), r = ([], 2) → Ev (fun q => rows_Form.j0 q l kind k true) r := by
    rintro r rfl
    refine Ev.succ ?_
    simp only [rows_Form.j0, if_true]
    exact Ev.some _
  by_cases h : IsRow l
  · have h1 := h.1; have h2 := h.2.1
    simp only [h, decide_true, if_true, true_and]
    refine Ev.ite (fun e => bad _ (if_neg (by omega))) (fun e => ?_)
    by_cases e2 : kind ≥ 4
    · simp only [decide_eq_true e2]
      exact bad _ (if_neg (by omega))
    · simp only [decide_eq_false e2]
      rw [if_pos (show 0 ≤ kind ∧ kind < 4 by omega)]
      refine Ev.succ ?_
      simp only [rows_Form.j0, Bool.false_eq_true, if_false, rows_row_whole.f, Option.bind_some]
      exact Ev.bind (pieceForm_ev l.length (by omega) (by omega) kind k (by omega) (by omega) l (by omega) (row_small h)) (Ev.some _)
  · simp only [h, decide_false, Bool.false_eq_true, if_false, false_and]
    exact bad _ rfl

end Go.Proofs.Ytpfjnpbcnlbhaaa.P
namespace Go.Proofs.Ytpfjnpbcnlbhaaa.P
open Go.RowKit Go.Proofs.YtpfjnpbcnlbhaaaW.PrintWords Go.Proofs.YtpfjnpbcnlbhaaaW.PrintLast Go.Proofs.YtpfjnpbcnlbhaaaW.PrintMore
attribute [local go_sem] max2_int min2_int max_two min_two max_three min_three max_four min_four   -- for this text's walks alone
set_option linter.unusedVariables false
set_option linter.unusedSimpArgs false

/-! ### sackbutref05_Halves: function 32 -/
def sackbutref05_Halves.l0 : Nat → List Int → List Int → Int → Int → Option (List Int)
  | 0, _, _, _, _ => none
  | k + 1, x0, x8, x9, x10 => if x10 < x9 then (if 0 ≤ x10 then (if x10 < (x8.length : Int) then (if (wrap64 (2 * (rd x8 x10))) = (x0.length : Int) then ((some (([] : List Int) : List Int)).bind fun y1005 => (if 0 ≤ (wrap64 (x10 + 1)) then (if (wrap64 (x10 + 1)) ≤ (x0.length : Int) then ((some (x0.drop ((wrap64 (x10 + 1)) : Int).toNat : List Int)).bind fun y1008 => (if y1005.length + y1008.length < 17592186044416 then ((some (y1005 ++ y1008 : List Int)).bind fun y1010 => ((some (x0.take ((wrap64 (x10 + 1)) : Int).toNat : List Int)).bind fun y1013 => (if y1010.length + y1013.length < 17592186044416 then (some (y1010 ++ y1013)) else (none)))) else (none))) else (none)) else (none))) else (sackbutref05_Halves.l0 k x0 x8 x9 (wrap64 (x10 + 1)))) else (none)) else (none)) else (some ([] : List Int))
def sackbutref05_Halves.f (k : Nat) (l0 : List Int) : Option (List Int) := (sackbutref05_Steps.f k l0 (l0.length : Int)).bind fun t1001 => (sackbutref05_Halves.l0 k l0 t1001 (t1001.length : Int) 0)
theorem sackbutref05_Halves.mono_l : ∀ k, (∀ y0 y1 y2 y3, LeO (sackbutref05_Halves.l0 k y0 y1 y2 y3) (sackbutref05_Halves.l0 (k + 1) y0 y1 y2 y3))
  | 0 => fun _ _ _ _ r h => by simp [sackbutref05_Halves.l0] at h
  | k + 1 => by
    have ih0 := sackbutref05_Halves.mono_l k
    · intro y0 y1 y2 y3
      unfold sackbutref05_Halves.l0
      repeat' first
      | (with_reducible exact ih0 _ _ _ _)
      | (with_reducible exact sackbutref05_Steps.mono _ _ _)
      | (with_reducible exact LeO.refl _)
      | (with_reducible exact LeO.none _)
      | (with_reducible refine LeO.ite ?_ ?_)
      | (with_reducible refine LeO.bind ?_ (fun _ => ?_))
      | exact ih0 _ _ _ _
      | exact sackbutref05_Steps.mono _ _ _
      | exact LeO.none _
      | refine LeO.ite ?_ ?_
      | refine LeO.bind ?_ (fun _ => ?_)
theorem sackbutref05_Halves.mono : ∀ a0 k, LeO (sackbutref05_Halves.f k a0) (sackbutref05_Halves.f (k + 1) a0) := by
  intro a0 k
  have ih0 := sackbutref05_Halves.mono_l k
  unfold sackbutref05_Halves.f
  repeat' first
      | (with_reducible exact ih0 _ _ _ _)
      | (with_reducible exact sackbutref05_Steps.mono _ _ _)
      | (with_reducible exact LeO.refl _)
      | (with_reducible exact LeO.none _)
      | (with_reducible refine LeO.ite ?_ ?_)
      | (with_reducible refine LeO.bind ?_ (fun _ => ?_))
      | exact ih0 _ _ _ _
      | exact sackbutref05_Steps.mono _ _ _
      | exact LeO.none _
      | refine LeO.ite ?_ ?_
      | refine LeO.bind ?_ (fun _ => ?_)
def sackbutref05_Halves.T5 : Bool × List (List Nat × List Nat) := (true, [([], []), ([], []), ([], []), ([2], [2]), ([1, 3], [1, 3]), ([0, 4], [0, 4]), ([], []), ([], []), ([7], [7]), ([6, 8], [6, 8]), ([5, 9, 5], [5, 9]), ([10, 10, 0, 1, 2, 3, 4, 5, 6, 7, 8, 9, 10], [10])])
def sackbutref05_Halves.B5 : List Nat := [0, 0, 0, 4, 14, 31, 0, 0, 128, 448, 1023, 2047]
theorem sackbutref05_Halves.tab5 : rtab .any (opsOf Try.f32 5) = sackbutref05_Halves.T5 := by kernel_rfl
theorem sackbutref05_Halves.bits5 : waitsOk sackbutref05_Halves.T5.2 sackbutref05_Halves.B5 = true := by kernel_rfl
set_option maxHeartbeats 8000000 in
set_option maxRecDepth 100000 in
theorem sackbutref05_Halves.calls (k : Nat) (A0 : Option Addr) (c0 : Nat) (l0 : List Int) (r : List Int) (w : World) (hr0 : Kd.C (Kd.int .i64) w A0 l0.length l0) (hc0 : l0.length ≤ c0) (h : sackbutref05_Halves.f k l0 = some r) :
    Calls Try.prog 32 #[.slice A0 l0.length c0] w fun e w' => ∃ v0_ : Value, e = .returned (v0_) ∧ Kd.R (Kd.int .i64) 3 w' w.heap.size (fun _ => True) v0_ r ∧ Below w.heap.size w w' := by
  have HR0 := Aside0.mk hr0
  have HC0 := Aside0.mk hc0
  clear hr0 hc0
  have HB := Aside0.mk (Below.refl w.heap.size w)
  have H : ((sackbutref05_Steps.f k l0 (l0.length : Int)).bind fun t1001 => (sackbutref05_Halves.l0 k l0 t1001 (t1001.length : Int) 0)) = some r := h
  clear h
  replace H := Option.bind_eq_some_iff.mp H
  obtain ⟨t1001, A20, H⟩ := H
  replace H : (sackbutref05_Halves.l0 k l0 t1001 (t1001.length : Int) 0) = some r := H
  have A2 := Aside0.mk A20
  clear A20
  have H' := Aside0.mk H
  clear H
  go_enter Try.func32, Try.ntmps32
  go_wp2_with (first | ((with_reducible refine gate_callee (f := 21) rfl ?_); refine goesL_ (some 8) rfl rfl Try.func21 (by kernel_rfl) rfl #[.slice A0 l0.length c0, .int .i64 (l0.length : Int)] rfl (by (try simp only [List.map_toArray, List.map_cons, List.map_nil]); first | done | rfl | (simp only [List.length_drop, List.length_take]; rfl)) ?_; (with_reducible refine (sackbutref05_Steps.calls k _ _ l0 (l0.length : Int) t1001 _ ?side1 ?side2 A2.out).mono ?_); (case side1 => repeat (first | exact HR0.out | (with_reducible refine Kd.C_alloc ?_ _) | (with_reducible refine Kd.C_drewN ?_ _) | (with_reducible refine Kd.C_drew ?_))); (case side2 => exact HC0.out); rintro e w3 ⟨v1002, rfl, ho0, hb⟩; refine ⟨_, rfl, ?_⟩; have n0_ := Aside0.mk (Kd.R_lower ho0 (below_size (by repeat (first | (with_reducible first | exact HB.out | apply below_alloc | apply pw_below_drewN | apply below_drew1) | exact HB.out)))); have n1_ := Aside0.mk (below_step (by repeat (first | (with_reducible first | exact HB.out | apply below_alloc | apply pw_below_drewN | apply below_drew1) | exact HB.out)) hb); clear HB; have HO1003 := n0_; have HB := n1_; clear n0_ n1_; (try clear hb); (try clear hb2); (try clear hk); (try clear hi); (try clear ho0); obtain ⟨Ao4, co4, eo4⟩ := Kd.R_slice HO1003.out; subst eo4))
  go_loopg [10] k (fun kq v10 w' => ∃ (x10_1 : Int), v10 = .int .i64 x10_1 ∧ Aside0 (sackbutref05_Halves.l0 kq l0 t1001 (t1001.length : Int) x10_1 = some r) ∧ Aside0 (kq ≤ k) ∧ Aside0 (Kd.R (Kd.int .i64) 3 w' w.heap.size (fun _ => True) (.slice Ao4 t1001.length co4) t1001) ∧ Aside0 (Below w.heap.size w w'))
  case atStart => exact ⟨(0), (by first | rfl | (simp; done) | (simp [*]; done)), H', ⟨Nat.le_refl _⟩, ⟨by (with_reducible repeat (first | apply Kd.R_alloc | apply Kd.R_drewN | apply Kd.R_drew)); exact HO1003.out⟩, ⟨by repeat (first | (with_reducible first | exact HB.out | apply below_alloc | apply pw_below_drewN | apply below_drew1) | exact HB.out)⟩⟩
  case round =>
    clear H'
    try clear c2
    try clear p2
    try clear c3
    obtain ⟨x10_1, rfl, HA, HK1, HO_8, HB⟩ := hrel
    cases gk with
    | zero => exact absurd HA.out (by simp [sackbutref05_Halves.l0])
    | succ k1 =>
      have H := HA.out
      clear HA
      simp only [sackbutref05_Halves.l0] at H
      by_cases c5 : x10_1 < (t1001.length : Int)
      · rw [if_pos c5] at H
        have c5b0 : decide (x10_1 < (t1001.length : Int)) = true := decide_eq_true c5
        clear c5
        by_cases c6 : 0 ≤ x10_1
        · rw [if_pos c6] at H
          have c6b0 : decide (0 ≤ x10_1) = true := decide_eq_true c6
          clear c6
          by_cases c7 : x10_1 < (t1001.length : Int)
          · rw [if_pos c7] at H
            have c7b0 : decide (x10_1 < (t1001.length : Int)) = true := decide_eq_true c7
            clear c7
            by_cases c8 : (wrap64 (2 * (rd t1001 x10_1))) = (l0.length : Int)
            · rw [if_pos c8] at H
              have c8b0 : ((wrap64 (2 * (rd t1001 x10_1))) == (l0.length : Int)) = true := beq_iff_eq.mpr c8
              have c8b1 : ((wrap64 (2 * (rd t1001 x10_1))) != (l0.length : Int)) = false := bne_eq_false_iff_eq.mpr c8
              clear c8
              obtain ⟨y1005, hy1005⟩ : ∃ y_ : List Int, y_ = (([] : List Int)) := ⟨_, rfl⟩
              replace H : (if 0 ≤ (wrap64 (x10_1 + 1)) then (if (wrap64 (x10_1 + 1)) ≤ (l0.length : Int) then ((some (l0.drop ((wrap64 (x10_1 + 1)) : Int).toNat : List Int)).bind fun y1008 => (if y1005.length + y1008.length < 17592186044416 then ((some (y1005 ++ y1008 : List Int)).bind fun y1010 => ((some (l0.take ((wrap64 (x10_1 + 1)) : Int).toNat : List Int)).bind fun y1013 => (if y1010.length + y1013.length < 17592186044416 then (some (y1010 ++ y1013)) else (none)))) else (none))) else (none)) else (none)) = some r := by first | (rw [hy1005]; with_reducible exact H) | (have H2_ := (Option.bind_some _ _).symm.trans H; rw [hy1005]; with_reducible exact H2_) | (have H2_ := (Option.bind_some _ _).symm.trans H; with_reducible exact H2_) | with_reducible exact H | (rw [hy1005]; exact H) | exact H
              have Ny1005 := Aside0.mk hy1005
              clear hy1005
              obtain ⟨ji9, hji9⟩ : ∃ j_ : Int, (wrap64 (x10_1 + 1)) = j_ := ⟨_, rfl⟩
              replace H : (if 0 ≤ (ji9) then (if (ji9) ≤ (l0.length : Int) then ((some (l0.drop ((ji9) : Int).toNat : List Int)).bind fun y1008 => (if y1005.length + y1008.length < 17592186044416 then ((some (y1005 ++ y1008 : List Int)).bind fun y1010 => ((some (l0.take ((ji9) : Int).toNat : List Int)).bind fun y1013 => (if y1010.length + y1013.length < 17592186044416 then (some (y1010 ++ y1013)) else (none)))) else (none))) else (none)) else (none)) = some r := by first | (rw [hji9] at H; exact H) | (simp only [hji9] at H ⊢; exact H)
              have hji9w : (IntKind.i64.wrap (x10_1 + 1)) = ji9 := (i64_w _).trans hji9
              by_cases c10 : 0 ≤ (ji9)
              · rw [if_pos c10] at H
                have c10b0 := eq_true c10
                have c10b1 : decide (0 ≤ (ji9)) = true := decide_eq_true c10
                clear c10
                by_cases c11 : (ji9) ≤ (l0.length : Int)
                · rw [if_pos c11] at H
                  have c11b0 := eq_true c11
                  have c11b1 : decide ((ji9) ≤ (l0.length : Int)) = true := decide_eq_true c11
                  clear c11
                  obtain ⟨y1008, hy1008⟩ : ∃ y_ : List Int, y_ = (l0.drop ((ji9) : Int).toNat) := ⟨_, rfl⟩
                  replace H : (if y1005.length + y1008.length < 17592186044416 then ((some (y1005 ++ y1008 : List Int)).bind fun y1010 => ((some (l0.take ((ji9) : Int).toNat : List Int)).bind fun y1013 => (if y1010.length + y1013.length < 17592186044416 then (some (y1010 ++ y1013)) else (none)))) else (none)) = some r := by first | (rw [hy1008]; with_reducible exact H) | (have H2_ := (Option.bind_some _ _).symm.trans H; rw [hy1008]; with_reducible exact H2_) | (have H2_ := (Option.bind_some _ _).symm.trans H; with_reducible exact H2_) | with_reducible exact H | (rw [hy1008]; exact H) | exact H
                  have Ny1008 := Aside0.mk hy1008
                  clear hy1008
                  by_cases c12 : y1005.length + y1008.length < 17592186044416
                  · rw [if_pos c12] at H
                    have LMc12 := Aside0.mk c12
                    clear c12
                    obtain ⟨y1010, hy1010⟩ : ∃ y_ : List Int, y_ = (y1005 ++ y1008) := ⟨_, rfl⟩
                    replace H : ((some (l0.take ((ji9) : Int).toNat : List Int)).bind fun y1013 => (if y1010.length + y1013.length < 17592186044416 then (some (y1010 ++ y1013)) else (none))) = some r := by first | (rw [hy1010]; with_reducible exact H) | (have H2_ := (Option.bind_some _ _).symm.trans H; rw [hy1010]; with_reducible exact H2_) | (have H2_ := (Option.bind_some _ _).symm.trans H; with_reducible exact H2_) | with_reducible exact H | (rw [hy1010]; exact H) | exact H
                    have Ny1010 := Aside0.mk hy1010
                    clear hy1010
                    have c13b0 := eq_true (of_decide_eq_true (by first | (with_reducible assumption) | assumption) : 0 ≤ (ji9))
                    have c14b0 := eq_true (of_decide_eq_true (by first | (with_reducible assumption) | assumption) : (ji9) ≤ (l0.length : Int))
                    obtain ⟨y1013, hy1013⟩ : ∃ y_ : List Int, y_ = (l0.take ((ji9) : Int).toNat) := ⟨_, rfl⟩
                    replace H : (if y1010.length + y1013.length < 17592186044416 then (some (y1010 ++ y1013)) else (none)) = some r := by first | (rw [hy1013]; with_reducible exact H) | (have H2_ := (Option.bind_some _ _).symm.trans H; rw [hy1013]; with_reducible exact H2_) | (have H2_ := (Option.bind_some _ _).symm.trans H; with_reducible exact H2_) | with_reducible exact H | (rw [hy1013]; exact H) | exact H
                    have Ny1013 := Aside0.mk hy1013
                    clear hy1013
                    by_cases c15 : y1010.length + y1013.length < 17592186044416
                    · rw [if_pos c15] at H
                      have LMc15 := Aside0.mk c15
                      clear c15
                      obtain ⟨y1015, hy1015⟩ : ∃ y_ : List Int, y_ = (y1010 ++ y1013) := ⟨_, rfl⟩
                      replace H : (some y1015) = some r := by first | (rw [hy1015]; with_reducible exact H) | (have H2_ := (Option.bind_some _ _).symm.trans H; rw [hy1015]; with_reducible exact H2_) | (have H2_ := (Option.bind_some _ _).symm.trans H; with_reducible exact H2_) | with_reducible exact H | (rw [hy1015]; exact H) | exact H
                      have Ny1015 := Aside0.mk hy1015
                      clear hy1015
                      obtain rfl := Option.some.inj H
                      have p1004 : 0 ≤ (x10_1 : Int) := of_decide_eq_true (by first | (with_reducible assumption) | assumption)
                      have q1004 : x10_1 < (t1001.length : Int) := of_decide_eq_true (by first | (with_reducible assumption) | assumption)
                      obtain ⟨ad1004, e1004, hx1004_0⟩ := Kd.at_int (Kd.R_reads' HO_8.out).2.2 x10_1 p1004 q1004
                      cases e1004
                      replace p1004 := eq_true p1004
                      replace q1004 := eq_true q1004
                      try go_wp2
                      have n0_ := Aside0.mk (Kd.R_drew HO_8.out)
                      have n1_ := Aside0.mk (below_drew1 HB.out)
                      clear HO_8
                      clear HB
                      have HO_8 := n0_
                      have HB := n1_
                      clear n0_ n1_
                      obtain ⟨i017, hi017, _, hsz17, _⟩ := info_parts info3
                      obtain ⟨A17, hcut17, hA17, hC17⟩ := print_drop_of (P := Try.prog) (Value.int .i64) 0 22 3 .i64 Try.underlying22 hi017 hsz17 A0 c0 l0 (ji9) (of_decide_eq_true (by first | (with_reducible assumption) | assumption)) (of_decide_eq_true (by first | (with_reducible assumption) | assumption)) HC0.out
                      (first | rw [← Ny1008.out] at hcut17 hA17 hC17 | (simp only [Int.reduceToNat] at hcut17 hA17 hC17; rw [← Ny1008.out] at hcut17 hA17 hC17))
                      have HR1009 := Aside0.mk (Kd.C_of_reads (h1 := fun _ => rfl) (hA17 _ (Kd.reads_of_C HR0.out)))
                      have HC1009 := Aside0.mk hC17
                      clear hA17 hC17 hi017 hsz17
                      obtain ⟨i018, hi018, _, hsz18, _⟩ := info_parts info3
                      obtain ⟨hcut18, hA18, hC18⟩ := print_take_of (P := Try.prog) (Value.int .i64) 0 22 3 .i64 Try.underlying22 hi018 hsz18 A0 c0 l0 (ji9) (of_decide_eq_true (by first | (with_reducible assumption) | assumption)) (of_decide_eq_true (by first | (with_reducible assumption) | assumption)) HC0.out
                      (first | rw [← Ny1013.out] at hcut18 hA18 hC18 | (simp only [Int.reduceToNat] at hcut18 hA18 hC18; rw [← Ny1013.out] at hcut18 hA18 hC18))
                      have HR1014 := Aside0.mk (Kd.C_of_reads (h1 := fun _ => rfl) (hA18 _ (Kd.reads_of_C HR0.out)))
                      have HC1014 := Aside0.mk hC18
                      clear hA18 hC18 hi018 hsz18
                      refine start_ (n := 12) (S := fun w' => True) (ds := []) #[false, false, false, false, false, false, false, false, false, false, false, false] (by kernel_rfl) rfl rfl trivial (fun hHeld => ?_); refine with_tabW sackbutref05_Halves.tab5 sackbutref05_Halves.bits5 (fun HT_ HW_ => ?_)
                      generalize wr.drew = w16 at HO_8 HB HR1009 HR1014 hHeld ⊢
                      refine pure_ (i := 1) (N := some 21) (v := ?_) (a' := ?_) #[false, true, false, false, false, false, false, false, false, false, false, false] rfl rfl (any_of HT_.out (by kernel_rfl)) (fun _ _ _ h => h) (Or.inl ⟨by rfl, ?_⟩) ?_ ?_
                      rotate_left
                      · intro w'
                        go_simp
                        with_reducible rfl
                      rotate_left
                      · simp only [Act.put, List.setIfInBounds_toArray, List.set_cons_zero, List.set_cons_succ, i64_w, i32_w]
                        rfl
                      refine pure_ (i := 2) (N := some 22) (v := ?_) (a' := ?_) #[false, true, true, false, false, false, false, false, false, false, false, false] rfl rfl (any_of HT_.out (by kernel_rfl)) (fun _ _ _ h => h) (Or.inl ⟨by rfl, ?_⟩) ?_ ?_
                      rotate_left
                      · intro w'
                        go_simp
                        with_reducible rfl
                      rotate_left
                      · simp only [Act.put, List.setIfInBounds_toArray, List.set_cons_zero, List.set_cons_succ, i64_w, i32_w]
                        rfl
                      refine pure_ (i := 3) (N := some 23) (v := ?_) (a' := ?_) #[false, true, true, true, false, false, false, false, false, false, false, false] rfl rfl (any_of HT_.out (by kernel_rfl)) (fun _ _ _ h => h) (Or.inl ⟨by rfl, ?_⟩) ?_ ?_
                      rotate_left
                      · intro w'
                        go_simp
                        with_reducible rfl
                      rotate_left
                      · simp only [Act.put, List.setIfInBounds_toArray, List.set_cons_zero, List.set_cons_succ, i64_w, i32_w]
                        rfl
                      refine pure_ (i := 4) (N := some 24) (v := ?_) (a' := ?_) #[false, true, true, true, true, false, false, false, false, false, false, false] rfl rfl (any_of HT_.out (by kernel_rfl)) (fun _ _ _ h => h) (Or.inl ⟨by rfl, ?_⟩) ?_ ?_
                      rotate_left
                      · intro w'
                        go_simp
                        with_reducible rfl
                      rotate_left
                      · simp only [Act.put, List.setIfInBounds_toArray, List.set_cons_zero, List.set_cons_succ, i64_w, i32_w]
                        rfl
                      refine pure_ (i := 6) (N := some 26) (v := ?_) (a' := ?_) #[false, true, true, true, true, false, true, false, false, false, false, false] rfl rfl (any_of HT_.out (by kernel_rfl)) (fun _ _ _ h => h) (Or.inl ⟨by rfl, ?_⟩) ?_ ?_
                      rotate_left
                      · intro w'
                        go_simp
                        with_reducible rfl
                      rotate_left
                      · simp only [Act.put, List.setIfInBounds_toArray, List.set_cons_zero, List.set_cons_succ, i64_w, i32_w]
                        rfl
                      refine pure_ (i := 7) (N := some 27) (v := ?_) (a' := ?_) #[false, true, true, true, true, false, true, true, false, false, false, false] rfl rfl (any_of HT_.out (by kernel_rfl)) (fun _ _ _ h => h) (Or.inl ⟨by rfl, ?_⟩) ?_ ?_
                      rotate_left
                      · intro w'
                        go_simp
                        with_reducible rfl
                      rotate_left
                      · simp only [Act.put, List.setIfInBounds_toArray, List.set_cons_zero, List.set_cons_succ, i64_w, i32_w]
                        rfl
                      refine pure_ (i := 8) (N := some 28) (v := ?_) (a' := ?_) #[false, true, true, true, true, false, true, true, true, false, false, false] rfl rfl (any_of HT_.out (by kernel_rfl)) (fun _ _ _ h => h) (Or.inl ⟨by rfl, ?_⟩) ?_ ?_
                      rotate_left
                      · intro w'
                        go_simp
                        with_reducible rfl
                      rotate_left
                      · simp only [Act.put, List.setIfInBounds_toArray, List.set_cons_zero, List.set_cons_succ, i64_w, i32_w]
                        rfl
                      refine pure_ (i := 9) (N := some 29) (v := ?_) (a' := ?_) #[false, true, true, true, true, false, true, true, true, true, false, false] rfl rfl (any_of HT_.out (by kernel_rfl)) (fun _ _ _ h => h) (Or.inl ⟨by rfl, ?_⟩) ?_ ?_
                      rotate_left
                      · intro w'
                        go_simp
                        with_reducible rfl
                      rotate_left
                      · simp only [Act.put, List.setIfInBounds_toArray, List.set_cons_zero, List.set_cons_succ, i64_w, i32_w]
                        rfl
                      refine one_ (i := 0) (N := some 20) #[true, true, true, true, true, false, true, true, true, true, false, false] rfl rfl (one_of HT_.out (by kernel_rfl)) (by decide) (fun K hK => ?_)
                      refine Kd.R_lit_step (Kd.int .i64) _ 3 ?hg (N := 20) ?hd (xs := ([] : List Int)) (inner := []) (ok := fun _ => True) (okp := fun _ => True) ?hr ?hp (fun _ hk => hk) trivial (Below.refl _ _) (Nat.le_refl _) (by simp) ?_; (case hd => rfl); (case hg => rfl); (case hr => first | (go_simp; done) | (go_simp; rfl)); (case hp => exact (Reps.none _ _))
                      intro v1006 w19 ho20 hb hg_ hnew_
                      clear hg_ hnew_
                      (first | rw [← Ny1005.out] at ho20 | (simp only [Int.reduceToNat] at ho20; rw [← Ny1005.out] at ho20))
                      have n0_ := Aside0.mk (Kd.R_elder' (by (with_reducible repeat (first | apply Kd.R_alloc | apply Kd.R_drewN | apply Kd.R_drew)); exact HO_8.out) (Kd.R_base ho20) hb)
                      have n1_ := Aside0.mk (Kd.R_lower (Kd.R_new' ho20 (Kd.R_lt (by (with_reducible repeat (first | apply Kd.R_alloc | apply Kd.R_drewN | apply Kd.R_drew)); exact HO_8.out))) (below_size (by repeat (first | (with_reducible first | exact HB.out | apply below_alloc | apply pw_below_drewN | apply below_drew1) | exact HB.out))))
                      have n2_ := Aside0.mk (below_step (by repeat (first | (with_reducible first | exact HB.out | apply below_alloc | apply pw_below_drewN | apply below_drew1) | exact HB.out)) hb)
                      clear HO_8
                      clear HB
                      have HO_8 := n0_
                      have HO1007 := n1_
                      have HB := n2_
                      clear n0_ n1_ n2_
                      clear hb ho20
                      refine hK.out _ _ trivial (fun hHeld => ?_)
                      clear hK K
                      refine norm_ (a' := ?_) ?_ ?_
                      rotate_left
                      · show Act.put _ (some 20) _ = _
                        simp only [Act.put, List.setIfInBounds_toArray, List.set_cons_zero, List.set_cons_succ, i64_w, i32_w]
                        rfl
                      refine one_ (i := 5) (N := some 25) #[true, true, true, true, true, true, true, true, true, true, false, false] rfl rfl (one_of HT_.out (by kernel_rfl)) (by decide) (fun K hK => ?_)
                      refine Kd.R_append_rows_step (Kd.int .i64) (w0 := w) w.heap.size (by rfl) (.tmp 20) (.tmp 24) 22 3 (.int .i64 0) 8 rfl Try.underlying22 info3 rfl (by decide) (by omega) v1006 y1005 y1008 _ _ _ (fun k_ => some k_ ≠ (.slice (some ad1004) t1001.length co4 : Value).ownBlock) (fun _ => False) rfl rfl ?aO ?aR (fun _ _ h => h) (fun _ h => h.elim) ?aF ?aB ?aS ?aL ?_
                      (case aR => repeat (first | exact (Kd.C_below HR1009.out HB.out) | (with_reducible refine Kd.C_alloc ?_ _) | (with_reducible refine Kd.C_drewN ?_ _) | (with_reducible refine Kd.C_drew ?_)))
                      (case aB => exact (by repeat (first | (with_reducible first | exact HB.out | apply below_alloc | apply pw_below_drewN | apply below_drew1) | exact HB.out)))
                      (case aF => exact (fun k_ hk => Kd.fresh' (Kd.R_lt (by (with_reducible repeat (first | apply Kd.R_alloc | apply Kd.R_drewN | apply Kd.R_drew)); exact HO_8.out)) k_ hk))
                      (case aO => exact (by (with_reducible repeat (first | apply Kd.R_alloc | apply Kd.R_drewN | apply Kd.R_drew)); exact Kd.R_mono HO1007.out (fun _ hk => hk.2)))
                      (case aS => exact (below_size (by repeat (first | (with_reducible first | exact HB.out | apply below_alloc | apply pw_below_drewN | apply below_drew1) | exact HB.out))))
                      (case aL => have := LMc12.out; omega)
                      intro v1011 w21 ho hb hg hat
                      rw [← Ny1010.out] at ho
                      have n0_ := Aside0.mk (Kd.R_after (ok := (fun _ => True)) (by (with_reducible repeat (first | apply Kd.R_alloc | apply Kd.R_drewN | apply Kd.R_drew)); exact HO_8.out) hg hat)
                      have n1_ := Aside0.mk (hb)
                      have n2_ := Aside0.mk (ho)
                      clear HO_8
                      clear HB
                      clear HO1007
                      have HO_8 := n0_
                      have HB := n1_
                      have HO1012 := n2_
                      clear n0_ n1_ n2_
                      clear ho hb hg hat
                      refine hK.out _ _ trivial (fun hHeld => ?_)
                      clear hK K
                      refine norm_ (a' := ?_) ?_ ?_
                      rotate_left
                      · show Act.put _ (some 25) _ = _
                        simp only [Act.put, List.setIfInBounds_toArray, List.set_cons_zero, List.set_cons_succ, i64_w, i32_w]
                        rfl
                      refine one_ (i := 10) (N := some 30) #[true, true, true, true, true, true, true, true, true, true, true, false] rfl rfl (one_of HT_.out (by kernel_rfl)) (by decide) (fun K hK => ?_)
                      refine Kd.R_append_rows_step (Kd.int .i64) (w0 := w) w.heap.size (by rfl) (.tmp 25) (.tmp 29) 22 3 (.int .i64 0) 8 rfl Try.underlying22 info3 rfl (by decide) (by omega) v1011 y1010 y1013 _ _ _ (fun k_ => some k_ ≠ (.slice (some ad1004) t1001.length co4 : Value).ownBlock) (fun _ => False) rfl rfl ?aO ?aR (fun _ _ h => h) (fun _ h => h.elim) ?aF ?aB ?aS ?aL ?_
                      (case aR => repeat (first | exact (Kd.C_below HR1014.out HB.out) | (with_reducible refine Kd.C_alloc ?_ _) | (with_reducible refine Kd.C_drewN ?_ _) | (with_reducible refine Kd.C_drew ?_)))
                      (case aB => exact (by repeat (first | (with_reducible first | exact HB.out | apply below_alloc | apply pw_below_drewN | apply below_drew1) | exact HB.out)))
                      (case aF => exact (fun k_ hk => Kd.fresh' (Kd.R_lt (by (with_reducible repeat (first | apply Kd.R_alloc | apply Kd.R_drewN | apply Kd.R_drew)); exact HO_8.out)) k_ hk))
                      (case aO => exact (by (with_reducible repeat (first | apply Kd.R_alloc | apply Kd.R_drewN | apply Kd.R_drew)); exact HO1012.out))
                      (case aS => exact (below_size (by repeat (first | (with_reducible first | exact HB.out | apply below_alloc | apply pw_below_drewN | apply below_drew1) | exact HB.out))))
                      (case aL => have := LMc15.out; omega)
                      intro v1016 w22 ho hb hg hat
                      rw [← Ny1015.out] at ho
                      have n0_ := Aside0.mk (Kd.R_after (ok := (fun _ => True)) (by (with_reducible repeat (first | apply Kd.R_alloc | apply Kd.R_drewN | apply Kd.R_drew)); exact HO_8.out) hg hat)
                      have n1_ := Aside0.mk (hb)
                      have n2_ := Aside0.mk (ho)
                      clear HO_8
                      clear HB
                      clear HO1012
                      have HO_8 := n0_
                      have HB := n1_
                      have HO1017 := n2_
                      clear n0_ n1_ n2_
                      clear ho hb hg hat
                      refine hK.out _ _ trivial (fun hHeld => ?_)
                      clear hK K
                      refine norm_ (a' := ?_) ?_ ?_
                      rotate_left
                      · show Act.put _ (some 30) _ = _
                        simp only [Act.put, List.setIfInBounds_toArray, List.set_cons_zero, List.set_cons_succ, i64_w, i32_w]
                        rfl
                      refine pure_ (i := 11) (N := some 2) (v := ?_) (a' := ?_) #[true, true, true, true, true, true, true, true, true, true, true, true] rfl rfl (any_of HT_.out (by kernel_rfl)) (fun _ _ _ h => h) (Or.inl ⟨by rfl, ?_⟩) ?_ ?_
                      rotate_left
                      · intro w'
                        go_simp
                        with_reducible rfl
                      rotate_left
                      · simp only [Act.put, List.setIfInBounds_toArray, List.set_cons_zero, List.set_cons_succ, i64_w, i32_w]
                        rfl
                      refine done_ (done_of HT_.out (by kernel_rfl)) ?_
                      try go_wp2
                      go_ret
                      exact ⟨_, by first | rfl | (simp [errW_none, errW_some] <;> rfl) | (simp only [← hji9]; first | rfl | (simp [errW_none, errW_some] <;> rfl)) | (simp [*, errW_none, errW_some] <;> rfl), by (with_reducible repeat (first | apply Kd.R_alloc | apply Kd.R_drewN | apply Kd.R_drew)); exact Kd.R_mono HO1017.out (fun _ hk => trivial), by repeat (first | (with_reducible first | exact HB.out | apply below_alloc | apply pw_below_drewN | apply below_drew1) | exact HB.out)⟩
                    · rw [if_neg c15] at H
                      exact absurd H (by simp)
                  · rw [if_neg c12] at H
                    exact absurd H (by simp)
                · rw [if_neg c11] at H
                  exact absurd H (by simp)
              · rw [if_neg c10] at H
                exact absurd H (by simp)
            · rw [if_neg c8] at H
              have c8b0 : ((wrap64 (2 * (rd t1001 x10_1))) == (l0.length : Int)) = false := beq_eq_false_iff_ne.mpr c8
              have c8b1 : ((wrap64 (2 * (rd t1001 x10_1))) != (l0.length : Int)) = true := bne_iff_ne.mpr c8
              have H' := Aside0.mk H
              clear H
              have p1004 : 0 ≤ (x10_1 : Int) := of_decide_eq_true (by first | (with_reducible assumption) | assumption)
              have q1004 : x10_1 < (t1001.length : Int) := of_decide_eq_true (by first | (with_reducible assumption) | assumption)
              obtain ⟨ad1004, e1004, hx1004_0⟩ := Kd.at_int (Kd.R_reads' HO_8.out).2.2 x10_1 p1004 q1004
              cases e1004
              replace p1004 := eq_true p1004
              replace q1004 := eq_true q1004
              go_wp2
              go_roundg k1
              case measure => have := HK1.out; omega
              case rel => exact ⟨(wrap64 (x10_1 + 1)), (by first | rfl | (simp; done) | (simp [*]; done)), H', ⟨by have := HK1.out; omega⟩, ⟨by (with_reducible repeat (first | apply Kd.R_alloc | apply Kd.R_drewN | apply Kd.R_drew)); exact HO_8.out⟩, ⟨by repeat (first | (with_reducible first | exact HB.out | apply below_alloc | apply pw_below_drewN | apply below_drew1) | exact HB.out)⟩⟩
          · rw [if_neg c7] at H
            exact absurd H (by simp)
        · rw [if_neg c6] at H
          exact absurd H (by simp)
      · rw [if_neg c5] at H
        have c5b0 : decide (x10_1 < (t1001.length : Int)) = false := decide_eq_false c5
        clear c5
        obtain rfl := Option.some.inj H
        go_wp2
        go_ret
        exact ⟨_, by first | rfl | (simp [errW_none, errW_some] <;> rfl) | (simp [*, errW_none, errW_some] <;> rfl), by first | exact Kd.R_nil _ _ _ _ _ | exact Kd.N_nil _ _ _ _ _ | exact Kd.V_nil _ _ _ _ _ | exact Kd.Q_nil _ _ _ _ _ | exact Kd.S_nil _ _ _ _ _, by repeat (first | (with_reducible first | exact HB.out | apply below_alloc | apply pw_below_drewN | apply below_drew1) | exact HB.out)⟩

end Go.Proofs.Ytpfjnpbcnlbhaaa.P
namespace Go.Proofs.Ytpfjnpbcnlbhaaa.P
open Go.RowKit Go.Proofs.YtpfjnpbcnlbhaaaW.PrintWords Go.Proofs.YtpfjnpbcnlbhaaaW.PrintLast Go.Proofs.YtpfjnpbcnlbhaaaW.PrintMore
attribute [local go_sem] max2_int min2_int max_two min_two max_three min_three max_four min_four   -- for this text's walks alone
set_option linter.unusedVariables false
set_option linter.unusedSimpArgs false

/-! a row has every tone -/
theorem row_mem {l : List Int} (h : IsRow l) {v : Int} (h0 : 0 ≤ v) (h1 : v < l.length) : v ∈ l := by
  have hr' : ∀ x ∈ l.map Int.toNat, x < l.length := by
    intro x hx
    obtain ⟨y, hy, rfl⟩ := List.mem_map.1 hx
    have := h.2.2.1 y hy
    omega
  have hd := (nodup_toNat (fun x hx => (h.2.2.1 x hx).1)).2 h.2.2.2
  have := full_of_nodup (n := l.length) (by simp) hr' hd v.toNat (by omega)
  obtain ⟨y, hy, e⟩ := List.mem_map.1 this
  have := (h.2.2.1 y hy).1
  obtain rfl : y = v := by omega
  exact hy

end Go.Proofs.Ytpfjnpbcnlbhaaa.P
namespace Go.Proofs.Ytpfjnpbcnlbhaaa.P
open Go.RowKit Go.Proofs.YtpfjnpbcnlbhaaaW.PrintWords Go.Proofs.YtpfjnpbcnlbhaaaW.PrintLast Go.Proofs.YtpfjnpbcnlbhaaaW.PrintMore
attribute [local go_sem] max2_int min2_int max_two min_two max_three min_three max_four min_four   -- for this text's walks alone
set_option linter.unusedVariables false
set_option linter.unusedSimpArgs false

/-! ### slices_Contains_int_int: function 50 -/
def slices_Contains_int_int.f (k : Nat) (l0 : List Int) (a1 : Int) : Option (Bool) := (slices_Index_int_int.f k l0 a1).bind fun t1001 => (some (decide (t1001 ≥ 0)))
theorem slices_Contains_int_int.mono : ∀ a0 a1 k, LeO (slices_Contains_int_int.f k a0 a1) (slices_Contains_int_int.f (k + 1) a0 a1) := by
  intro a0 a1 k
  unfold slices_Contains_int_int.f
  repeat' first
      | (with_reducible exact slices_Index_int_int.mono _ _ _)
      | (with_reducible exact LeO.refl _)
      | (with_reducible exact LeO.none _)
      | (with_reducible refine LeO.ite ?_ ?_)
      | (with_reducible refine LeO.bind ?_ (fun _ => ?_))
      | exact slices_Index_int_int.mono _ _ _
      | exact LeO.none _
      | refine LeO.ite ?_ ?_
      | refine LeO.bind ?_ (fun _ => ?_)
set_option maxHeartbeats 8000000 in
set_option maxRecDepth 100000 in
theorem slices_Contains_int_int.calls (k : Nat) (A0 : Option Addr) (c0 : Nat) (l0 : List Int) (a1 : Int) (r : Bool) (w : World) (hr0 : Kd.C (Kd.int .i64) w A0 l0.length l0) (hc0 : l0.length ≤ c0) (h : slices_Contains_int_int.f k l0 a1 = some r) :
    Calls Try.prog 50 #[.slice A0 l0.length c0, .int .i64 a1] w fun e w' => e = .returned (.bool r) ∧ Drawn0 w w' := by
  have HR0 := Aside0.mk hr0
  have HC0 := Aside0.mk hc0
  clear hr0 hc0
  have H : ((slices_Index_int_int.f k l0 a1).bind fun t1001 => (some (decide (t1001 ≥ 0)))) = some r := h
  clear h
  replace H := Option.bind_eq_some_iff.mp H
  obtain ⟨t1001, A30, H⟩ := H
  replace H : (some (decide (t1001 ≥ 0))) = some r := H
  have A3 := Aside0.mk A30
  clear A30
  obtain rfl := Option.some.inj H
  go_enter Try.func50, Try.ntmps50
  go_wp2_with (first | ((with_reducible refine gate_callee (f := 58) rfl ?_); refine goesL_ (some 7) rfl rfl Try.func58 (by kernel_rfl) rfl #[.slice A0 l0.length c0, .int .i64 a1] rfl (by (try simp only [List.map_toArray, List.map_cons, List.map_nil]); first | done | rfl | (simp only [List.length_drop, List.length_take]; rfl)) ?_; (with_reducible refine (slices_Index_int_int.calls k _ _ l0 a1 t1001 _ ?side1 ?side2 A3.out).mono ?_); (case side1 => repeat (first | exact HR0.out | (with_reducible refine Kd.C_alloc ?_ _) | (with_reducible refine Kd.C_drewN ?_ _) | (with_reducible refine Kd.C_drew ?_))); (case side2 => exact HC0.out); rintro e w' ⟨rfl, ⟨nd, rfl⟩⟩; refine ⟨_, rfl, ?_⟩))
  go_ret
  exact ⟨by first | rfl | (simp; done) | (simp [*]; done), by repeat (first | exact Drawn0.refl _ | apply Drawn0.step)⟩

end Go.Proofs.Ytpfjnpbcnlbhaaa.P
namespace Go.Proofs.Ytpfjnpbcnlbhaaa.P
open Go.RowKit Go.Proofs.YtpfjnpbcnlbhaaaW.PrintWords Go.Proofs.YtpfjnpbcnlbhaaaW.PrintLast Go.Proofs.YtpfjnpbcnlbhaaaW.PrintMore
attribute [local go_sem] max2_int min2_int max_two min_two max_three min_three max_four min_four   -- for this text's walks alone
set_option linter.unusedVariables false
set_option linter.unusedSimpArgs false

/-! slices.Index, slices.Contains at ints -/
theorem Index_loop (l : List Int) (v : Int) (hb : l.length < 9223372036854775807) : ∀ (xs pre : List Int), l = pre ++ xs →
    Ev (fun k => slices_Index_int_int.l0 k l v (l.length : Int) (pre.length : Int)) (if v ∈ xs then ((pre.length + xs.idxOf v : Nat) : Int) else -1) := by
  intro xs
  induction xs with
  | nil =>
    intro pre h0
    refine Ev.succ ?_
    simp only [slices_Index_int_int.l0, if_neg (mid_end h0)]
    simpa using Ev.some (-1 : Int)
  | cons x xs ih =>
    intro pre h0
    refine Ev.succ ?_
    simp only [slices_Index_int_int.l0, if_pos (mid_lt h0), if_pos (show (0 : Int) ≤ (pre.length : Int) by omega), mid_rd h0, mid_next h0 hb]
    refine Ev.ite (fun e => ?_) (fun e => ?_)
    · subst e
      simpa using Ev.some _
    · have h := ih (pre ++ [x]) (mid_mv h0)
      have e1 : (v ∈ x :: xs) ↔ v ∈ xs := by simp [e]
      have e2 : (x :: xs).idxOf v = xs.idxOf v + 1 := by
        rw [List.idxOf_cons]
        have : (x == v) = false := by simpa using fun h => e h.symm
        rw [this]; rfl
      have e3 : ((pre ++ [x]).length + xs.idxOf v : Nat) = pre.length + (xs.idxOf v + 1) := by simp; omega
      simp only [e1, e2]
      rw [e3] at h
      exact h
theorem Index_ev (l : List Int) (v : Int) (hb : l.length < 9223372036854775807) : Ev (fun k => slices_Index_int_int.f k l v) (if v ∈ l then (l.idxOf v : Int) else -1) := by
  have := Index_loop l v hb l [] rfl
  simpa [slices_Index_int_int.f] using this
theorem Contains_ev (l : List Int) (v : Int) (hb : l.length < 9223372036854775807) : Ev (fun k => slices_Contains_int_int.f k l v) (decide (v ∈ l)) := by
  unfold slices_Contains_int_int.f
  refine Ev.bind (Index_ev l v hb) ?_
  have : decide ((if v ∈ l then (l.idxOf v : Int) else -1) ≥ 0) = decide (v ∈ l) := by
    rw [decide_eq_decide]; split <;> simp_all
  rw [this]
  exact Ev.some _

end Go.Proofs.Ytpfjnpbcnlbhaaa.P
namespace Go.Proofs.Ytpfjnpbcnlbhaaa.P
open Go.RowKit Go.Proofs.YtpfjnpbcnlbhaaaW.PrintWords Go.Proofs.YtpfjnpbcnlbhaaaW.PrintLast Go.Proofs.YtpfjnpbcnlbhaaaW.PrintMore
attribute [local go_sem] max2_int min2_int max_two min_two max_three min_three max_four min_four   -- for this text's walks alone
set_option linter.unusedVariables false
set_option linter.unusedSimpArgs false

/-! the halves of a row with every step -/
theorem sumI_append (a b : List Int) : (a ++ b).sum = a.sum + b.sum := by simp
theorem sumI_perm {a b : List Int} (h : a.Perm b) : a.sum = b.sum := by
  induction h with
  | nil => rfl
  | cons x _ ih => simp [ih]
  | swap x y l => simp only [List.sum_cons]; omega
  | trans _ _ h1 h2 => exact h1.trans h2
theorem sum_steps (n : Int) : ∀ (l : List Int) (p q : Int), l.getLast? = some q → ((stepsOf n (p :: l)).sum - (q - p)) % n = 0
  | [], p, q => by simp
  | [x], p, q => by
    intro h
    obtain rfl : x = q := by simpa using h
    simp only [stepsOf, List.sum_cons, List.sum_nil, Int.add_zero]
    rw [Int.emod_sub_emod]; simp
  | x :: y :: r, p, q => by
    intro h
    have ih := sum_steps n (y :: r) x q (by simpa using h)
    rw [stepsOf, List.sum_cons]
    have e : (x - p) % n + (stepsOf n (x :: y :: r)).sum - (q - p) = (x - p) % n - (x - p) + ((stepsOf n (x :: y :: r)).sum - (q - x)) := by omega
    rw [e, Int.add_emod, ih, Int.emod_sub_emod]; simp
/-- a whole list of different numbers below its length is a row of them -/
theorem perm_range (l : List Int) (hr : ∀ x ∈ l, 0 ≤ x ∧ x < l.length) (hd : l.Nodup) (hm : ∀ v : Int, 0 ≤ v → v < l.length → v ∈ l) : l.Perm ((List.range l.length).map Int.ofNat) := by
  have h2 : ((List.range l.length).map Int.ofNat).Nodup := by
    refine List.Pairwise.map _ ?_ (List.nodup_range (n := l.length))
    intro a b h e; exact h (Int.ofNat.inj e)
  rw [List.perm_iff_count]
  intro a
  rw [hd.count, h2.count]
  have : a ∈ l ↔ a ∈ (List.range l.length).map Int.ofNat := by
    simp only [List.mem_map, List.mem_range]
    constructor
    · intro h; have := hr a h; exact ⟨a.toNat, by omega, by simp; omega⟩
    · rintro ⟨k, hk, rfl⟩; exact hm _ (by simp) (by simp; exact hk)
  simp [this]
theorem sum_upto : ∀ n : Nat, 2 * ((List.range n).map Int.ofNat).sum = (n : Int) * (n : Int) - n
  | 0 => by simp
  | n + 1 => by
    have ih := sum_upto n
    rw [List.range_succ, List.map_append, sumI_append]
    simp only [List.map_cons, List.map_nil, List.sum_cons, List.sum_nil, Int.add_zero, Int.mul_add]
    rw [ih]
    have : ((n + 1 : Nat) : Int) * ((n + 1 : Nat) : Int) = (n : Int) * n + 2 * n + 1 := by
      rw [Int.natCast_add, Int.add_mul, Int.mul_add, Int.mul_add]; omega
    rw [this]; simp; omega
theorem steps_row {l : List Int} (h : IsRow l) (he : (stepsOf l.length l).Nodup) : IsRow (0 :: stepsOf l.length l) ∧ (0 :: stepsOf l.length l).length = l.length := by
  have h1 := h.1
  have hlen : (0 :: stepsOf l.length l).length = l.length := by rw [List.length_cons, stepsOf_length]; omega
  have hp := stepsOf_pos (n := (l.length : Int)) (by omega) l h.2.2.1 h.2.2.2
  refine ⟨⟨by omega, by rw [hlen]; exact h.2.1, ?_, ?_⟩, hlen⟩
  · rw [hlen]
    intro x hx
    rcases List.mem_cons.1 hx with rfl | hx
    · omega
    · exact stepsOf_range (by omega) l x hx
  · rw [List.nodup_cons]
    exact ⟨fun hm => by have := hp 0 hm; omega, he⟩
theorem steps_sum {l : List Int} (h : IsRow l) (he : (stepsOf l.length l).Nodup) : 2 * (stepsOf l.length l).sum = (l.length : Int) * l.length - l.length := by
  obtain ⟨hr, hl⟩ := steps_row h he
  have hp := perm_range _ hr.2.2.1 hr.2.2.2 (fun v h0 h1 => row_mem hr h0 h1)
  have hs := sumI_perm hp
  rw [hl] at hs
  rw [List.sum_cons, Int.zero_add] at hs
  rw [hs, sum_upto]
/-- the ends are half of the circle apart -/
theorem ends_half {l : List Int} (h : IsRow l) (he : (stepsOf l.length l).Nodup) : ∃ (k : Nat) (p q : Int), l.length = 2 * k ∧ l.head? = some p ∧ l.getLast? = some q ∧ (q - p = k ∨ p - q = k) := by
  have hsum := steps_sum h he
  obtain ⟨h1, h2, hr, hd⟩ := h
  match l, h1 with
  | p :: x :: r, _ =>
    obtain ⟨q, hq⟩ : ∃ q, (x :: r).getLast? = some q := ⟨_, List.getLast?_eq_some_getLast (by simp)⟩
    have hq2 : (p :: x :: r).getLast? = some q := by simpa using hq
    have hs := sum_steps ((p :: x :: r).length : Int) (x :: r) p q hq
    have hqm : q ∈ x :: r := List.mem_of_getLast? hq
    have hqr := hr q (List.mem_cons_of_mem _ hqm)
    have hpr := hr p (by simp)
    have hne : q ≠ p := fun e => by subst e; exact (List.nodup_cons.1 hd).1 hqm
    generalize (p :: x :: r).length = n at *
    obtain ⟨t, ht⟩ := Int.dvd_of_emod_eq_zero hs
    generalize (stepsOf (↑n) (p :: x :: r)).sum = S at *
    -- 2 S = n n - n; S - (q - p) = n t
    have hh : 2 * (q - p) = (n : Int) * ((n : Int) - 1 - 2 * t) := by
      have e1 : (n : Int) * ((n : Int) - 1 - 2 * t) = n * n - n - n * (2 * t) := by rw [Int.mul_sub, Int.mul_sub, Int.mul_one]
      have : (n : Int) * (2 * t) = 2 * (n * t) := by rw [Int.mul_left_comm]
      omega
    generalize (n : Int) - 1 - 2 * t = u at hh
    have hu : u = 1 ∨ u = -1 := by
      have c1 : u < 2 := Int.lt_of_not_ge fun hge => by
        have : (n : Int) * 2 ≤ n * u := Int.mul_le_mul_of_nonneg_left hge (by omega)
        omega
      have c2 : -2 < u := Int.lt_of_not_ge fun hge => by
        have : (n : Int) * u ≤ n * (-2) := Int.mul_le_mul_of_nonneg_left hge (by omega)
        omega
      have c3 : u ≠ 0 := fun e => by rw [e] at hh; omega
      omega
    rcases hu with e | e
    · rw [e] at hh; exact ⟨n / 2, p, q, by omega, rfl, hq2, by omega⟩
    · rw [e] at hh; exact ⟨n / 2, p, q, by omega, rfl, hq2, by omega⟩
/-- the steps of two lists, one behind the other -/
theorem stepsOf_append (n : Int) : ∀ (a b : List Int) (x y : Int), a.getLast? = some x → b.head? = some y → stepsOf n (a ++ b) = stepsOf n a ++ (y - x) % n :: stepsOf n b
  | [], b, x, y => by simp
  | [z], [], x, y => by simp
  | [z], w :: b, x, y => by
    intro h1 h2
    obtain rfl : z = x := by simpa using h1
    obtain rfl : w = y := by simpa using h2
    rfl
  | z :: z2 :: a, b, x, y => by
    intro h1 h2
    have ih := stepsOf_append n (z2 :: a) b x y (by simpa using h1) h2
    show (z2 - z) % n :: stepsOf n (z2 :: a ++ b) = _
    rw [ih]; rfl
theorem stepsOf_get (n : Int) : ∀ (l : List Int) (i : Nat), (h : i + 1 < l.length) → (stepsOf n l)[i]? = some ((l[i + 1] - l[i]'(by omega)) % n)
  | x :: y :: r, 0, h => by simp [stepsOf]
  | x :: y :: r, i + 1, h => by
    have ih := stepsOf_get n (y :: r) i (by simpa using h)
    simpa [stepsOf] using ih
  | [], i, h => by simp at h
  | [x], i, h => by simp at h
theorem stepsOf_take (n : Int) : ∀ (l : List Int) (i : Nat), stepsOf n (l.take (i + 1)) = (stepsOf n l).take i
  | x :: y :: r, 0 => by simp [stepsOf]
  | x :: y :: r, i + 1 => by
    have ih := stepsOf_take n (y :: r) i
    simpa [stepsOf] using ih
  | [], i => by simp [stepsOf]
  | [x], i => by simp [stepsOf]
/-- where a row is cut: behind its step of half of the circle -/
def halfAt (l : List Int) : Nat := (stepsOf l.length l).idxOf ((l.length : Int) / 2) + 1
def halves (l : List Int) : List Int := l.drop (halfAt l) ++ l.take (halfAt l)
theorem split_at {α : Type} (l : List α) (i : Nat) (h : i < l.length) : l = l.take i ++ l[i] :: l.drop (i + 1) := by
  conv => lhs; rw [← List.take_append_drop i l]
  rw [List.drop_eq_getElem_cons h]
theorem idxOf_mid (a b : List Int) (v : Int) (h : v ∉ a) : (a ++ v :: b).idxOf v = a.length := by
  rw [List.idxOf_append, if_neg h]; simp
theorem halves_spec {l : List Int} (h : IsRow l) (he : (stepsOf l.length l).Nodup) :
    0 < halfAt l ∧ halfAt l < l.length ∧ IsRow (halves l) ∧ (halves l).length = l.length ∧ (stepsOf (halves l).length (halves l)).Nodup ∧ halves (halves l) = l ∧ (l.length : Int) / 2 ∈ stepsOf l.length l := by
  obtain ⟨k, p, q, hk, hp, hq, hpq⟩ := ends_half h he
  obtain ⟨hsr, hsl⟩ := steps_row h he
  have hn2 := h.1
  have hk2 : (l.length : Int) / 2 = k := by omega
  have hmem : (k : Int) ∈ stepsOf l.length l := by
    have := row_mem hsr (v := (k : Int)) (by omega) (by rw [hsl]; omega)
    rcases List.mem_cons.1 this with e | e
    · omega
    · exact e
  have hi : (stepsOf l.length l).idxOf (k : Int) < (stepsOf l.length l).length := List.idxOf_lt_length_iff.2 hmem
  rw [stepsOf_length] at hi
  have hat : halfAt l = (stepsOf l.length l).idxOf (k : Int) + 1 := by unfold halfAt; rw [hk2]
  have hatl : halfAt l < l.length := by omega
  have hlen : (halves l).length = l.length := by unfold halves; rw [List.length_append, List.length_drop, List.length_take]; omega
  have hperm : (halves l).Perm l := by
    unfold halves
    have := List.perm_append_comm (l₁ := l.drop (halfAt l)) (l₂ := l.take (halfAt l))
    rwa [List.take_append_drop] at this
  -- the steps on both sides of the cut
  obtain ⟨i, hi0⟩ : ∃ i, (stepsOf l.length l).idxOf (k : Int) = i := ⟨_, rfl⟩
  rw [hi0] at hi hat
  have hil : i < (stepsOf l.length l).length := by rw [stepsOf_length]; exact hi
  have hsp := split_at (stepsOf l.length l) i hil
  have hgi : (stepsOf l.length l)[i] = (k : Int) := by
    have := List.getElem_idxOf (xs := stepsOf l.length l) (x := (k : Int)) (by rw [hi0]; exact hil)
    simpa [hi0] using this
  rw [hgi] at hsp
  have hta : stepsOf l.length (l.take (halfAt l)) = (stepsOf l.length l).take i := by rw [hat]; exact stepsOf_take _ _ _
  have hdne : l.drop (halfAt l) ≠ [] := by intro e; have := congrArg List.length e; rw [List.length_drop, List.length_nil] at this; omega
  have htne : l.take (halfAt l) ≠ [] := by intro e; have := congrArg List.length e; rw [List.length_take, List.length_nil] at this; omega
  have hlast : (l.drop (halfAt l)).getLast? = some q := by
    rw [List.getLast?_drop, if_neg (by omega)]; exact hq
  have hhead : (l.take (halfAt l)).head? = some p := by
    rw [List.head?_take, if_neg (by omega)]; exact hp
  obtain ⟨x, hx⟩ : ∃ x, (l.take (halfAt l)).getLast? = some x := ⟨_, List.getLast?_eq_some_getLast htne⟩
  obtain ⟨y, hy⟩ : ∃ y, (l.drop (halfAt l)).head? = some y := ⟨_, List.head?_eq_some_head hdne⟩
  have happ := stepsOf_append l.length _ _ x y hx hy
  rw [List.take_append_drop, hta] at happ
  have hdr : stepsOf l.length (l.drop (halfAt l)) = (stepsOf l.length l).drop (i + 1) ∧ (y - x) % (l.length : Int) = k := by
    have e := hsp.symm.trans happ
    have e2 := List.append_inj_right e rfl
    injection e2 with e3 e4
    exact ⟨e4.symm, e3.symm⟩
  have hpqr : (p - q) % (l.length : Int) = k := by
    rcases hpq with e | e
    · have : p - q = -(k : Int) := by omega
      rw [this, ← Int.add_emod_right, Int.emod_eq_of_lt] <;> omega
    · rw [e, Int.emod_eq_of_lt] <;> omega
  have hnew : stepsOf l.length (halves l) = (stepsOf l.length l).drop (i + 1) ++ (k : Int) :: (stepsOf l.length l).take i := by
    unfold halves
    rw [stepsOf_append l.length _ _ q p hlast hhead, hpqr, hdr.1, hta]
  have hnp : (stepsOf l.length (halves l)).Perm (stepsOf l.length l) := by
    rw [hnew]
    conv => rhs; rw [hsp]
    exact (List.perm_append_comm (l₁ := (stepsOf l.length l).drop (i + 1)) (l₂ := (k : Int) :: (stepsOf l.length l).take i)).trans (List.perm_middle (a := (k : Int)) (l₁ := (stepsOf l.length l).take i) (l₂ := (stepsOf l.length l).drop (i + 1))).symm
  have hnd : (stepsOf l.length (halves l)).Nodup := hnp.nodup_iff.2 he
  refine ⟨by omega, hatl, ⟨by omega, by rw [hlen]; exact h.2.1, ?_, hperm.nodup_iff.2 h.2.2.2⟩, hlen, by rw [hlen]; exact hnd, ?_, by rw [hk2]; exact hmem⟩
  · intro z hz; rw [hlen]; exact h.2.2.1 z (hperm.mem_iff.1 hz)
  · have hat2 : halfAt (halves l) = (l.drop (halfAt l)).length := by
      unfold halfAt
      rw [hlen, hk2, hnew, idxOf_mid _ _ _ (fun hm => by
        rw [hnew] at hnd
        have := (List.nodup_append.1 hnd).2.2 _ hm _ (List.mem_cons_self ..)
        exact this rfl)]
      rw [List.length_drop, List.length_drop, stepsOf_length]
      have : (List.idxOf ((l.length : Int) / 2) (stepsOf (↑l.length) l) + 1) = halfAt l := rfl
      omega
    unfold halves
    have hh : l.drop (halfAt l) ++ l.take (halfAt l) = halves l := rfl
    rw [hh, hat2]
    have e1 : (halves l).drop (l.drop (halfAt l)).length = l.take (halfAt l) := by unfold halves; simp
    have e2 : (halves l).take (l.drop (halfAt l)).length = l.drop (halfAt l) := by unfold halves; simp
    rw [e1, e2, List.take_append_drop]
/-- multiplied by a number without a common factor -/
theorem stepsOf_map (n m : Int) : ∀ (l : List Int), stepsOf n (l.map fun x => m * x % n) = (stepsOf n l).map fun s => m * s % n
  | x :: y :: r => by
    have ih := stepsOf_map n m (y :: r)
    simp only [List.map_cons, stepsOf] at ih ⊢
    rw [ih]
    have : (m * y % n - m * x % n) % n = m * ((y - x) % n) % n := by
      rw [← Int.emod_sub_emod, Int.emod_emod, Int.mul_emod m ((y - x) % n), Int.emod_emod, ← Int.mul_emod, Int.mul_sub]
      rw [Int.emod_sub_emod, Int.sub_emod, Int.emod_emod, ← Int.sub_emod]
    rw [this]
  | [] => rfl
  | [x] => rfl
theorem times_inj {n m : Int} (hn : 0 < n) (hg : ∀ z : Int, m * z % n = 0 → z % n = 0) {x y : Int} (hx : 0 ≤ x ∧ x < n) (hy : 0 ≤ y ∧ y < n) (h : m * x % n = m * y % n) : x = y := by
  have := hg (x - y) (by rw [Int.mul_sub, Int.sub_emod, h]; simp)
  have h2 := Int.dvd_of_emod_eq_zero this
  obtain ⟨t, ht⟩ := h2
  have c1 : t < 1 := Int.lt_of_not_ge fun hge => by
    have : n * 1 ≤ n * t := Int.mul_le_mul_of_nonneg_left hge (by omega)
    omega
  have c2 : -1 < t := Int.lt_of_not_ge fun hge => by
    have : n * t ≤ n * (-1) := Int.mul_le_mul_of_nonneg_left hge (by omega)
    omega
  have : t = 0 := by omega
  rw [this] at ht; omega
theorem nodup_map_on {f : Int → Int} : ∀ {l : List Int}, (∀ x ∈ l, ∀ y ∈ l, f x = f y → x = y) → l.Nodup → (l.map f).Nodup
  | [], _, _ => by simp
  | a :: l, hi, hd => by
    rw [List.map_cons, List.nodup_cons]
    rw [List.nodup_cons] at hd
    refine ⟨fun hm => ?_, nodup_map_on (fun x hx y hy => hi x (List.mem_cons_of_mem _ hx) y (List.mem_cons_of_mem _ hy)) hd.2⟩
    obtain ⟨y, hy, e⟩ := List.mem_map.1 hm
    have := hi y (List.mem_cons_of_mem _ hy) a (by simp) e
    subst this
    exact hd.1 hy
theorem times_row {l : List Int} (h : IsRow l) (he : (stepsOf l.length l).Nodup) {m : Int} (hg : ∀ z : Int, m * z % (l.length : Int) = 0 → z % (l.length : Int) = 0) :
    IsRow (l.map fun x => m * x % (l.length : Int)) ∧ (stepsOf l.length (l.map fun x => m * x % (l.length : Int))).Nodup := by
  have hn : (0 : Int) < l.length := by have := h.1; omega
  refine ⟨⟨by simpa using h.1, by simpa using h.2.1, ?_, nodup_map_on (fun x hx y hy e => times_inj hn hg (h.2.2.1 x hx) (h.2.2.1 y hy) e) h.2.2.2⟩, ?_⟩
  · intro z hz
    obtain ⟨x, _, rfl⟩ := List.mem_map.1 hz
    rw [List.length_map]
    exact ⟨Int.emod_nonneg _ (by omega), Int.emod_lt_of_pos _ hn⟩
  · rw [stepsOf_map]
    exact nodup_map_on (fun x hx y hy e => times_inj hn hg (stepsOf_range hn l x hx) (stepsOf_range hn l y hy) e) he
/-! rows.Halves and the reference's -/
theorem Concat2_ev (a b : List Int) (ha : a.length < 1000) (hb : b.length < 1000) : Ev (fun k => slices_Concat_int_int.f k [a, b]) (a ++ b) := by
  have r0 : rd_L1 [a, b] 0 = a := rfl
  have r1 : rd_L1 [a, b] 1 = b := rfl
  have w0 : wrap64 (0 + (a.length : Int)) = (a.length : Int) := by rw [wrap_id (by omega) (by omega)]; omega
  have w1 : wrap64 ((a.length : Int) + (b.length : Int)) = (a.length : Int) + (b.length : Int) := wrap_id (by omega) (by omega)
  have w2 : wrap64 (0 + 1) = 1 := wrap_id (n := 0 + 1) (by omega) (by omega)
  have w3 : wrap64 (1 + 1) = 2 := wrap_id (n := 1 + 1) (by omega) (by omega)
  have hg : slices_Grow_int_int.f ([] : List Int) ((a.length : Int) + (b.length : Int)) = some [] := by
    unfold slices_Grow_int_int.f; rw [if_pos ⟨rfl, by omega, by omega⟩]
  unfold slices_Concat_int_int.f
  refine Ev.succ ?_
  simp only [slices_Concat_int_int.l0, List.length_cons, List.length_nil, r0, w0, w2, if_pos (show (0 : Int) < ((0 + 1 + 1 : Nat) : Int) by decide), if_pos (show (0 : Int) ≤ 0 by decide), if_neg (show ¬ (a.length : Int) < 0 by omega)]
  refine Ev.succ ?_
  simp only [slices_Concat_int_int.l0, List.length_cons, List.length_nil, r1, w1, w3, if_pos (show (1 : Int) < ((0 + 1 + 1 : Nat) : Int) by decide), if_pos (show (0 : Int) ≤ 1 by decide), if_neg (show ¬ (a.length : Int) + (b.length : Int) < 0 by omega)]
  refine Ev.succ ?_
  simp only [slices_Concat_int_int.l0, List.length_cons, List.length_nil, if_neg (show ¬ (2 : Int) < ((0 + 1 + 1 : Nat) : Int) by decide)]
  refine Ev.bind_some hg ?_
  refine Ev.succ ?_
  simp only [slices_Concat_int_int.l1, List.length_cons, List.length_nil, r0, w2, if_pos (show (0 : Int) < ((0 + 1 + 1 : Nat) : Int) by decide), if_pos (show (0 : Int) ≤ 0 by decide), if_pos (show 0 + a.length < 17592186044416 by omega), List.nil_append]
  refine Ev.succ ?_
  simp only [slices_Concat_int_int.l1, List.length_cons, List.length_nil, r1, w3, if_pos (show (1 : Int) < ((0 + 1 + 1 : Nat) : Int) by decide), if_pos (show (0 : Int) ≤ 1 by decide), if_pos (show a.length + b.length < 17592186044416 by omega)]
  refine Ev.succ ?_
  simp only [slices_Concat_int_int.l1, List.length_cons, List.length_nil, if_neg (show ¬ (2 : Int) < ((0 + 1 + 1 : Nat) : Int) by decide)]
  exact Ev.some _
theorem Halves_ev (l : List Int) : Ev (fun k => rows_Halves.f k l) (if IsRow l then (if (stepsOf l.length l).Nodup then (halves l, 0) else ([], 5)) else ([], 2)) := by
  unfold rows_Halves.f
  refine Ev.bind (valid_ev l) ?_
  by_cases h : IsRow l
  · have h1 := h.1; have h2 := h.2.1
    simp only [h, decide_true, if_true]
    refine Ev.bind (every_ev h) ?_
    by_cases he : (stepsOf l.length l).Nodup
    · obtain ⟨hp, hlt, -, -, -, -, hm⟩ := halves_spec h he
      simp only [he, decide_true, if_true]
      refine Ev.bind (steps_ev l (by omega) (by omega) (row_bounds h)) ?_
      have hw : wrap64 ((l.length : Int) / 2) = (l.length : Int) / 2 := wrap_id (by omega) (by omega)
      rw [hw]
      refine Ev.bind (Index_ev _ _ (by rw [stepsOf_length]; omega)) ?_
      rw [if_pos hm]
      have hw2 : wrap64 (((List.idxOf ((l.length : Int) / 2) (stepsOf l.length l) : Nat) : Int) + 1) = ((halfAt l : Nat) : Int) := by
        have : halfAt l = List.idxOf ((l.length : Int) / 2) (stepsOf l.length l) + 1 := rfl
        rw [wrap_id (by omega) (by omega)]; omega
      simp only [hw2, if_pos (show (0 : Int) ≤ ((halfAt l : Nat) : Int) by omega), if_pos (show ((halfAt l : Nat) : Int) ≤ (l.length : Int) by omega), Int.toNat_natCast]
      refine Ev.bind (Concat2_ev _ _ (by rw [List.length_drop]; omega) (by rw [List.length_take]; omega)) ?_
      exact Ev.some _
    · simp only [he, decide_false, if_false, Bool.false_eq_true]
      exact Ev.some _
  · simp only [h, decide_false, if_false, Bool.false_eq_true]
    exact Ev.some _
theorem refHalves_loop (l : List Int) (hl : l.length ≤ 62) (hlt : halfAt l < l.length) (he2 : l.length % 2 = 0) (s : List Int) (hsl : s.length < 1000) (hs : ∀ x ∈ s, 0 ≤ x ∧ x < 62) : ∀ (xs pre : List Int), s = pre ++ xs → pre.length + xs.idxOf ((l.length : Int) / 2) + 1 = halfAt l → (l.length : Int) / 2 ∈ xs →
    Ev (fun k => sackbutref05_Halves.l0 k l s (s.length : Int) (pre.length : Int)) (halves l) := by
  intro xs
  induction xs with
  | nil => intro pre _ _ hm; cases hm
  | cons x xs ih =>
    intro pre h0 hat hm
    have hx := hs x (by rw [h0]; simp)
    have hw : wrap64 (2 * x) = 2 * x := wrap_id (by omega) (by omega)
    refine Ev.succ ?_
    simp only [sackbutref05_Halves.l0, if_pos (mid_lt h0), if_pos (show (0 : Int) ≤ (pre.length : Int) by omega), mid_rd h0, hw]
    refine Ev.ite (fun e => ?_) (fun e => ?_)
    · have hxe : x = (l.length : Int) / 2 := by omega
      have hi : (x :: xs).idxOf ((l.length : Int) / 2) = 0 := by rw [List.idxOf_cons]; simp [hxe]
      rw [hi] at hat
      have hw2 : wrap64 ((pre.length : Int) + 1) = ((halfAt l : Nat) : Int) := by rw [wrap_id (by omega) (by omega)]; omega
      simp only [Option.bind_some, hw2, if_pos (show (0 : Int) ≤ ((halfAt l : Nat) : Int) by omega), if_pos (show ((halfAt l : Nat) : Int) ≤ (l.length : Int) by omega), Int.toNat_natCast, List.nil_append]
      rw [if_pos (by rw [List.length_drop, List.length_nil]; omega), if_pos (by rw [List.length_drop, List.length_take]; omega)]
      exact Ev.some _
    · have hne : x ≠ (l.length : Int) / 2 := by omega
      rw [mid_next h0 (by omega)]
      refine ih (pre ++ [x]) (mid_mv h0) ?_ ?_
      · rw [List.idxOf_cons] at hat
        have : (x == (l.length : Int) / 2) = false := beq_eq_false_iff_ne.2 hne
        rw [this] at hat
        simp only [List.length_append, List.length_cons, List.length_nil]
        simp only [cond_false] at hat
        omega
      · rcases List.mem_cons.1 hm with e2 | e2
        · exact absurd e2.symm hne
        · exact e2
theorem refHalves_ev {l : List Int} (h : IsRow l) (he : (stepsOf l.length l).Nodup) : Ev (fun k => sackbutref05_Halves.f k l) (halves l) := by
  have h1 := h.1; have h2 := h.2.1
  obtain ⟨hp, hlt, -, -, -, -, hm⟩ := halves_spec h he
  obtain ⟨k, p, q, hk, -⟩ := ends_half h he
  unfold sackbutref05_Halves.f
  refine Ev.bind (refSteps_ev l l.length (by omega) (by omega) (by omega) (row_bounds h)) ?_
  exact refHalves_loop l (by omega) hlt (by omega) (stepsOf l.length l) (by rw [stepsOf_length]; omega) (fun x hx => by have := stepsOf_range (n := (l.length : Int)) (by omega) l x hx; omega) (stepsOf l.length l) [] rfl (by simp [halfAt]) hm

end Go.Proofs.Ytpfjnpbcnlbhaaa.P
namespace Go.Proofs.Ytpfjnpbcnlbhaaa.P
open Go.RowKit Go.Proofs.YtpfjnpbcnlbhaaaW.PrintWords Go.Proofs.YtpfjnpbcnlbhaaaW.PrintLast Go.Proofs.YtpfjnpbcnlbhaaaW.PrintMore
attribute [local go_sem] max2_int min2_int max_two min_two max_three min_three max_four min_four   -- for this text's walks alone
set_option linter.unusedVariables false
set_option linter.unusedSimpArgs false

theorem half_l0 (l : List Int) (a n : Int) : ∀ y x : Nat, x < 2 ^ 62 → y < 2 ^ 62 → (Nat.gcd x y = 1 → Ev (fun k => sackbutlaw05_RowsHalf.l1 k a n ([] : List Int) l (l.length : Int) 0) true) → Ev (fun k => sackbutlaw05_RowsHalf.l0 k l a n (x : Int) (y : Int)) true := by
  intro y
  induction y using Nat.strongRecOn with
  | ind y ih =>
    intro x hx hy hend
    refine Ev.succ ?_
    simp only [sackbutlaw05_RowsHalf.l0]
    refine Ev.ite (fun e => ?_) (fun e => ?_)
    · have hy0 : y = 0 := by omega
      subst hy0
      refine Ev.ite (fun e1 => ?_) (fun e1 => ?_)
      · exact hend (by rw [Nat.gcd_zero_right]; omega)
      · exact Ev.bind awake_ev (Ev.some _)
    · have hy0 : 0 < y := by omega
      have hm : Int.tmod (x : Int) (y : Int) = ((x % y : Nat) : Int) := by rw [Int.tmod_eq_emod_of_nonneg (by omega)]; simp
      rw [hm]
      refine ih (x % y) (Nat.mod_lt _ hy0) y hy (Nat.lt_trans (Nat.mod_lt _ hy0) hy) (fun hg => hend ?_)
      rw [← hg, Nat.gcd_comm y (x % y), ← Nat.gcd_rec, Nat.gcd_comm]
theorem half_l1 (l : List Int) (m : Int) (n : Nat) (hn : 0 < n) (hn2 : n ≤ 62) (hm : 0 ≤ m ∧ m ≤ 62) (hl : l.length < 1000) (hr : ∀ x ∈ l, 0 ≤ x ∧ x < 62) (hev : Ev (fun k => rows_Every.f k (l.map fun x => m * x % (n : Int))) (true, 0)) : ∀ (xs pre : List Int), l = pre ++ xs →
    Ev (fun k => sackbutlaw05_RowsHalf.l1 k m (n : Int) (pre.map fun x => m * x % (n : Int)) l (l.length : Int) (pre.length : Int)) true := by
  intro xs
  induction xs with
  | nil =>
    intro pre h0
    refine Ev.succ ?_
    simp only [sackbutlaw05_RowsHalf.l1, if_neg (mid_end h0)]
    have e : pre = l := by rw [h0]; simp
    rw [e]
    refine Ev.bind hev ?_
    simp only [if_true]
    exact Ev.bind awake_ev (Ev.some _)
  | cons x xs ih =>
    intro pre h0
    have hx := hr x (by rw [h0]; simp)
    have hlen : pre.length < l.length := by rw [h0]; simp
    have h0m : 0 ≤ m * x := Int.mul_nonneg hm.1 hx.1
    have h1m : m * x ≤ 62 * 62 := Int.mul_le_mul hm.2 (by omega) hx.1 (by omega)
    have hw : wrap64 (m * x) = m * x := wrap_id (by omega) (by omega)
    have ht : Int.tmod (m * x) (n : Int) = m * x % (n : Int) := Int.tmod_eq_emod_of_nonneg h0m
    refine Ev.succ ?_
    simp only [sackbutlaw05_RowsHalf.l1, if_pos (mid_lt h0), if_pos (show (0 : Int) ≤ (pre.length : Int) by omega), mid_rd h0, hw, ht, if_neg (show ¬ (n : Int) = 0 by omega), List.length_map, if_pos (show pre.length < 17592186044416 by omega), mid_next h0 (by omega)]
    have := ih (pre ++ [x]) (mid_mv h0)
    simpa using this
theorem ends_rd {l : List Int} (h : IsRow l) (he : (stepsOf l.length l).Nodup) : wrap64 (2 * mx (wrap64 (rd l (wrap64 ((l.length : Int) - 1)) - rd l 0)) (wrap64 (-wrap64 (rd l (wrap64 ((l.length : Int) - 1)) - rd l 0)))) = (l.length : Int) := by
  obtain ⟨k, p, q, hk, hp, hq, hpq⟩ := ends_half h he
  have h1 := h.1; have h2 := h.2.1
  have e0 : rd l 0 = p := by
    cases l with
    | nil => simp at hp
    | cons x xs => have : x = p := by simpa using hp
                   rw [← this]; rfl
  have e1 : rd l (wrap64 ((l.length : Int) - 1)) = q := by
    rw [wrap_id (by omega) (by omega), show (l.length : Int) - 1 = ((l.length - 1 : Nat) : Int) by omega, rd_get (by omega)]
    rw [List.getLast?_eq_getElem?, List.getElem?_eq_getElem (by omega)] at hq
    exact Option.some.inj hq
  rw [e0, e1, wrap_id (n := q - p) (by omega) (by omega), wrap_id (n := -(q - p)) (by omega) (by omega), mx_eq, wrap_id (by omega) (by omega)]
  omega
theorem RowsHalf : sackbutlaw05_RowsHalf.Pure := by
  intro l m0 _ _ _ _
  refine Ev.rounds (g := fun k => sackbutlaw05_RowsHalf.f k l m0) ?_
  unfold sackbutlaw05_RowsHalf.f
  refine Ev.bind_some (list_f l) ?_
  refine Ev.bind (Halves_ev (l.take 13)) ?_
  refine Ev.bind_some (list_f l) ?_
  refine Ev.bind (Every_ev (l.take 13)) ?_
  by_cases h : IsRow l
  · have h1 := h.1; have h2 := h.2.1
    simp only [isRow_take, h, if_true, row_take h]
    by_cases he : (stepsOf l.length l).Nodup
    · obtain ⟨hp, hlt, hrow, hlen, hnd, hback, hm⟩ := halves_spec h he
      simp only [he, decide_true, if_true]
      refine Ev.bind (Row_ev l) ?_
      simp only [h, decide_true, Bool.not_true]
      refine Ev.succ ?_
      simp only [sackbutlaw05_RowsHalf.j0, if_false, Bool.false_eq_true]
      have hcl : slices_Clone_int_int.f (halves l) = some (halves l) := by unfold slices_Clone_int_int.f; rw [if_pos (by omega)]
      refine Ev.bind_some hcl ?_
      refine Ev.bind (Halves_ev (halves l)) ?_
      refine Ev.bind_some hcl ?_
      refine Ev.bind (Every_ev (halves l)) ?_
      have hw1 : wrap64 ((l.length : Int) - 1) = (l.length : Int) - 1 := wrap_id (by omega) (by omega)
      have hends := ends_rd h he
      rw [hw1] at hends
      simp only [hw1, hrow, hnd, decide_true, if_true, hback, hends]
      simp only [if_pos (show (0 : Int) ≤ (l.length : Int) - 1 by omega), if_pos (show (l.length : Int) - 1 < (l.length : Int) by omega), if_pos (show (0 : Int) < (l.length : Int) by omega)]
      refine Ev.bind (Equal_ev _ _ (by omega)) ?_
      simp only [decide_true, if_true, bne_self_eq_false]
      refine Ev.succ ?_
      simp only [sackbutlaw05_RowsHalf.j1, Bool.false_eq_true, if_false]
      have hu : IntKind.u64.wrap (l.length : Int) = (l.length : Int) := by rw [IntKind.wrap_u64]; omega
      simp only [hu, if_neg (show ¬ (l.length : Int) = 0 by omega)]
      obtain ⟨m, hm0, hm1, hmw⟩ : ∃ m : Nat, 1 ≤ m ∧ m ≤ l.length ∧ wrap64 (1 + wrap64 (Int.tmod (IntKind.u64.wrap m0) (l.length : Int))) = (m : Int) := by
        have g0 : 0 ≤ IntKind.u64.wrap m0 := by rw [IntKind.wrap_u64]; omega
        rw [Int.tmod_eq_emod_of_nonneg g0]
        have g1 := Int.emod_nonneg (IntKind.u64.wrap m0) (show (l.length : Int) ≠ 0 by omega)
        have g2 := Int.emod_lt_of_pos (IntKind.u64.wrap m0) (show (0 : Int) < l.length by omega)
        generalize IntKind.u64.wrap m0 % (l.length : Int) = z at g1 g2
        refine ⟨(1 + z).toNat, by omega, by omega, ?_⟩
        rw [wrap_id (n := z) (by omega) (by omega), wrap_id (by omega) (by omega)]
        omega
      simp only [hmw]
      refine half_l0 l m (l.length : Int) l.length m (by omega) (by omega) (fun hg => ?_)
      have hgz : ∀ z : Int, (m : Int) * z % (l.length : Int) = 0 → z % (l.length : Int) = 0 := by
        intro z hz
        have hd := Int.dvd_of_emod_eq_zero hz
        have hd2 : (l.length : Int) ∣ z := by
          rw [Int.ofNat_dvd_left] at hd ⊢
          rw [Int.natAbs_mul, Int.natAbs_natCast] at hd
          exact Nat.Coprime.dvd_of_dvd_mul_left (show Nat.gcd l.length m = 1 by rw [Nat.gcd_comm]; exact hg) hd
        exact Int.emod_eq_zero_of_dvd hd2
      obtain ⟨hr2, hn2⟩ := times_row h he hgz
      have hev := Every_ev (l.map fun x => (m : Int) * x % (l.length : Int))
      rw [if_pos hr2, List.length_map] at hev
      simp only [hn2, decide_true] at hev
      exact half_l1 l m l.length (by omega) (by omega) (by omega) (by omega) (row_small h) hev l [] rfl
    · simp only [he, decide_false, if_false, show ¬ ((5 : Int) = 0) by decide]
      refine Ev.succ ?_
      simp only [sackbutlaw05_RowsHalf.j0, if_true, show ¬ ((5 : Int) = 2) by decide, if_false, Bool.false_eq_true]
      exact Ev.bind awake_ev (Ev.some _)
  · simp only [isRow_take, h, if_false, show ¬ ((2 : Int) = 0) by decide]
    refine Ev.succ ?_
    simp only [sackbutlaw05_RowsHalf.j0, if_true]
    exact Ev.bind awake_ev (Ev.some _)

end Go.Proofs.Ytpfjnpbcnlbhaaa.P
namespace Go.Proofs.Ytpfjnpbcnlbhaaa.Pure
theorem RowsHalf : Go.Proofs.Ytpfjnpbcnlbhaaa.P.sackbutlaw05_RowsHalf.Pure := Go.Proofs.Ytpfjnpbcnlbhaaa.P.RowsHalf
end Go.Proofs.Ytpfjnpbcnlbhaaa.Pure
