/- A part of a proof that a law's Go function returns true for every input, laid by this session's program mp.py (which drives the kit's print). Conditions: as each theorem states them. -/
import Derived.Test.YtpfjnpbcnlbhaaaGClone
import Derived.Test.YtpfjnpbcnlbhaaaMSets
import Derived.Test.YtpfjnpbcnlbhaaaP0
import Derived.Test.YtpfjnpbcnlbhaaaPf15
import Derived.Test.YtpfjnpbcnlbhaaaPf16
import Derived.Test.YtpfjnpbcnlbhaaaPf17
import Derived.Test.YtpfjnpbcnlbhaaaPf18
import Derived.Test.YtpfjnpbcnlbhaaaPf19
import Derived.Test.YtpfjnpbcnlbhaaaPf20
import Derived.Test.YtpfjnpbcnlbhaaaPf21
import Derived.Test.YtpfjnpbcnlbhaaaPf22
import Derived.Test.YtpfjnpbcnlbhaaaPf34
import Derived.Test.YtpfjnpbcnlbhaaaPf46
import Derived.Test.YtpfjnpbcnlbhaaaPf47
import Derived.Test.YtpfjnpbcnlbhaaaPf48
import Derived.Test.YtpfjnpbcnlbhaaaPf49
import Derived.Test.YtpfjnpbcnlbhaaaPf51
import Derived.Test.YtpfjnpbcnlbhaaaQBase
namespace Go.Proofs.Ytpfjnpbcnlbhaaa.P
open Go.RowKit Go.Proofs.YtpfjnpbcnlbhaaaW.PrintWords Go.Proofs.YtpfjnpbcnlbhaaaW.PrintLast Go.Proofs.YtpfjnpbcnlbhaaaW.PrintMore
attribute [local go_sem] max2_int min2_int max_two min_two max_three min_three max_four min_four   -- for this text's walks alone
set_option linter.unusedVariables false
set_option linter.unusedSimpArgs false

/-! What the functions on rows come to. -/
def IsRow (l : List Int) : Prop := 2 ≤ l.length ∧ l.length ≤ 10 ∧ (∀ x ∈ l, 0 ≤ x ∧ x < l.length) ∧ l.Nodup
instance (l : List Int) : Decidable (IsRow l) := by unfold IsRow; infer_instance
def PartOf (n : Nat) (l : List Int) : Prop := (∀ x ∈ l, 0 ≤ x ∧ x < n) ∧ l.Nodup
instance (n : Nat) (l : List Int) : Decidable (PartOf n l) := by unfold PartOf; infer_instance
def stepsOf (n : Int) : List Int → List Int
  | x :: y :: r => (y - x) % n :: stepsOf n (y :: r)
  | _ => []

theorem rows_mod_f {a n : Int} (hn : 0 < n) (hb : n < 4611686018427387904) : rows_mod.f a n = some (a % n) := by
  unfold rows_mod.f
  rw [if_neg (by omega), tmod_mod hn hb]

/-! slices.Equal -/
theorem Equal_loop (l0 l1 : List Int) (hlen : l0.length = l1.length) (hb : l0.length < 9223372036854775807) : ∀ (xs ys pre pre1 : List Int), l0 = pre ++ xs → l1 = pre1 ++ ys → pre.length = pre1.length →
    Ev (fun k => slices_Equal_int_int.l0 k l0 l1 (l0.length : Int) (pre.length : Int)) (decide (xs = ys)) := by
  intro xs
  induction xs with
  | nil =>
    intro ys pre pre1 h0 h1 hp
    have hy : ys = [] := by
      have := congrArg List.length h0; have := congrArg List.length h1
      simp at *
      exact List.eq_nil_of_length_eq_zero (by omega)
    subst hy
    refine Ev.succ ?_
    simp only [slices_Equal_int_int.l0, if_neg (mid_end h0)]
    simpa using Ev.some true
  | cons x xs ih =>
    intro ys pre pre1 h0 h1 hp
    cases ys with
    | nil => exfalso; have := congrArg List.length h0; have := congrArg List.length h1; simp at *; omega
    | cons y ys =>
      have r1 : rd l1 (pre.length : Int) = y := by rw [hp]; exact mid_rd h1
      have l1' : (pre.length : Int) < (l1.length : Int) := by rw [hp]; exact mid_lt h1
      refine Ev.succ ?_
      simp only [slices_Equal_int_int.l0, if_pos (mid_lt h0), if_pos (show (0 : Int) ≤ (pre.length : Int) by omega), if_pos l1', mid_rd h0, r1, mid_next h0 hb]
      refine Ev.ite (fun e => ?_) (fun e => ?_)
      · have := ih ys (pre ++ [x]) (pre1 ++ [y]) (mid_mv h0) (mid_mv h1) (by simp [hp])
        simpa [e] using this
      · simpa [e] using Ev.some false
theorem Equal_ev (l0 l1 : List Int) (hb : l0.length < 9223372036854775807) : Ev (fun k => slices_Equal_int_int.f k l0 l1) (decide (l0 = l1)) := by
  unfold slices_Equal_int_int.f
  refine Ev.ite (fun e => ?_) (fun e => ?_)
  · exact Equal_loop l0 l1 (by omega) hb l0 l1 [] [] rfl rfl rfl
  · have : l0 ≠ l1 := fun h => e (by rw [h])
    simpa [this] using Ev.some false

/-! a row is valid -/
def validRun (n : Nat) : Nat → List Int → Bool
  | s, [] => decide (s = 2 ^ n - 1)
  | s, x :: xs => if x < 0 then false else if x ≥ n then false else validRun n (s ||| 2 ^ x.toNat) xs
theorem valid_loop (l : List Int) (hl : l.length ≤ 10) : ∀ (xs pre : List Int) (s : Nat), l = pre ++ xs → s < 2 ^ l.length →
    Ev (fun k => rows_row_valid.l0 k (l.length : Int) (s : Int) l (l.length : Int) (pre.length : Int)) (validRun l.length s xs) := by
  intro xs
  induction xs with
  | nil =>
    intro pre s h0 hs
    refine Ev.succ ?_
    have hsh := shl1_i64 (x := l.length) (by omega)
    have hp := Nat.two_pow_pos l.length
    have hp2 := two_pow_lt63 (x := l.length) (by omega)
    have hw : wrap64 (shl .i64 1 (l.length : Int) - 1) = ((2 ^ l.length - 1 : Nat) : Int) := by
      rw [hsh, wrap_id (by omega) (by have : (2 : Nat) ^ 63 = 9223372036854775808 := by decide
                                      omega)]
      omega
    simp only [rows_row_valid.l0, if_neg (mid_end h0), if_pos (show (0 : Int) ≤ (l.length : Int) by omega), hw]
    have e : ((s : Int) == ((2 ^ l.length - 1 : Nat) : Int)) = decide (s = 2 ^ l.length - 1) := by
      by_cases h : s = 2 ^ l.length - 1
      · simp only [← h]; simp
      · simp only [h, decide_false, beq_eq_false_iff_ne]; omega
    rw [e]
    exact Ev.some _
  | cons x xs ih =>
    intro pre s h0 hs
    refine Ev.succ ?_
    simp only [rows_row_valid.l0, if_pos (mid_lt h0), if_pos (show (0 : Int) ≤ (pre.length : Int) by omega), mid_rd h0, mid_next h0 (by omega), validRun]
    refine Ev.ite (fun e => by simpa [e] using Ev.some false) (fun e => ?_)
    refine Ev.ite (fun e2 => by simpa [e, e2] using Ev.some false) (fun e2 => ?_)
    obtain ⟨m, rfl⟩ := Int.eq_ofNat_of_zero_le (show 0 ≤ x by omega)
    have hp2 := two_pow_lt63 (x := l.length) (by omega)
    have hm2 : 2 ^ m < 2 ^ l.length := Nat.pow_lt_pow_right (by omega) (by omega)
    have hs2 : s ||| 2 ^ m < 2 ^ l.length := Nat.or_lt_two_pow hs hm2
    simp only [if_pos (show (0 : Int) ≤ (m : Int) by omega), shl1_i64 (x := m) (by omega), or_i64 (a := s) (b := 2 ^ m) (by omega) (by omega), if_neg e, if_neg e2, Int.toNat_natCast]
    exact ih (pre ++ [(m : Int)]) (s ||| 2 ^ m) (mid_mv h0) hs2
theorem validRun_iff (n : Nat) : ∀ (xs : List Int) (s : Nat), validRun n s xs = decide ((∀ x ∈ xs, 0 ≤ x ∧ x < n) ∧ orAll s (xs.map Int.toNat) = 2 ^ n - 1) := by
  intro xs
  induction xs with
  | nil => intro s; simp [validRun, orAll]
  | cons x xs ih =>
    intro s
    simp only [validRun, List.map_cons, orAll_cons, ih, List.forall_mem_cons]
    by_cases h1 : x < 0
    · simp [h1]; intro h; omega
    · by_cases h2 : x ≥ n
      · simp [h1, h2]; intro _ h; omega
      · simp only [h1, h2, if_false]
        congr 1
        rw [eq_iff_iff]
        constructor
        · rintro ⟨a, b⟩; exact ⟨⟨⟨by omega, by omega⟩, a⟩, b⟩
        · rintro ⟨⟨_, a⟩, b⟩; exact ⟨a, b⟩
theorem nodup_toNat {xs : List Int} (h : ∀ x ∈ xs, 0 ≤ x) : (xs.map Int.toNat).Nodup ↔ xs.Nodup := by
  induction xs with
  | nil => simp
  | cons x xs ih =>
    have h' := ih (fun y hy => h y (List.mem_cons_of_mem _ hy))
    simp only [List.map_cons, List.nodup_cons, h']
    have : x.toNat ∈ xs.map Int.toNat ↔ x ∈ xs := by
      simp only [List.mem_map]
      constructor
      · rintro ⟨y, hy, e⟩
        have := h y (List.mem_cons_of_mem _ hy); have := h x List.mem_cons_self
        obtain rfl : y = x := by omega
        exact hy
      · intro hx; exact ⟨x, hx, rfl⟩
    rw [this]
theorem row_full {l : List Int} (hr : ∀ x ∈ l, 0 ≤ x ∧ x < l.length) : orAll 0 (l.map Int.toNat) = 2 ^ l.length - 1 ↔ l.Nodup := by
  have hr' : ∀ x ∈ l.map Int.toNat, x < l.length := by
    intro x hx
    obtain ⟨y, hy, rfl⟩ := List.mem_map.1 hx
    have := hr y hy
    omega
  rw [orAll_full _ hr', ← nodup_toNat (fun x hx => (hr x hx).1)]
  exact ⟨fun h => nodup_of_full (by simp) h, fun h => full_of_nodup (by simp) hr' h⟩
theorem valid_ev (l : List Int) : Ev (fun k => rows_row_valid.f k l) (decide (IsRow l)) := by
  unfold rows_row_valid.f
  refine Ev.ite (fun e => ?_) (fun e => ?_)
  · refine Ev.succ ?_
    have : ¬ IsRow l := fun h => by have := h.1; omega
    simp only [rows_row_valid.j0, if_true]
    simpa [this] using Ev.some false
  · refine Ev.succ ?_
    simp only [rows_row_valid.j0]
    refine Ev.ite (fun e2 => ?_) (fun e2 => ?_)
    · have e2' : (l.length : Int) > 10 := of_decide_eq_true e2
      have : ¬ IsRow l := fun h => by have := h.2.1; omega
      simpa [this] using Ev.some false
    · have e2' : ¬ (l.length : Int) > 10 := fun h => e2 (decide_eq_true h)
      have hv := valid_loop l (by omega) l [] 0 rfl (Nat.two_pow_pos _)
      have ev : validRun l.length 0 l = decide (IsRow l) := by
        rw [validRun_iff]
        congr 1
        rw [eq_iff_iff]
        unfold IsRow
        constructor
        · rintro ⟨a, b⟩; exact ⟨by omega, by omega, a, (row_full a).1 b⟩
        · rintro ⟨_, _, a, b⟩; exact ⟨a, (row_full a).2 b⟩
      rw [← ev]
      exact hv

/-! the reference's Part and Row -/
def partRun (n : Nat) : Nat → List Int → Bool
  | _, [] => true
  | s, x :: xs => if x < 0 then false else if x ≥ n then false else if s.testBit x.toNat then false else partRun n (s ||| 2 ^ x.toNat) xs
theorem Part_loop (l : List Int) (n : Nat) (hn : n ≤ 62) (hl : l.length < 9223372036854775807) : ∀ (xs pre : List Int) (s : Nat), l = pre ++ xs → s < 2 ^ n →
    Ev (fun k => sackbutref05_Part.l0 k (n : Int) (s : Int) l (l.length : Int) (pre.length : Int)) (partRun n s xs) := by
  intro xs
  induction xs with
  | nil =>
    intro pre s h0 hs
    refine Ev.succ ?_
    simp only [sackbutref05_Part.l0, if_neg (mid_end h0)]
    exact Ev.some _
  | cons x xs ih =>
    intro pre s h0 hs
    refine Ev.succ ?_
    simp only [sackbutref05_Part.l0, if_pos (mid_lt h0), if_pos (show (0 : Int) ≤ (pre.length : Int) by omega), mid_rd h0, mid_next h0 hl, partRun]
    refine Ev.ite (fun e => by simpa [e] using Ev.some false) (fun e => ?_)
    refine Ev.ite (fun e2 => by simpa [e, e2] using Ev.some false) (fun e2 => ?_)
    obtain ⟨m, rfl⟩ := Int.eq_ofNat_of_zero_le (show 0 ≤ x by omega)
    have hp2 := two_pow_lt63 (x := n) (by omega)
    have hm2 : 2 ^ m < 2 ^ n := Nat.pow_lt_pow_right (by omega) (by omega)
    have hs2 : s ||| 2 ^ m < 2 ^ n := Nat.or_lt_two_pow hs hm2
    simp only [if_pos (show (0 : Int) ≤ (m : Int) by omega), bit1_i64 (a := s) (x := m) (by omega) (by omega), shl1_i64 (x := m) (by omega), or_i64 (a := s) (b := 2 ^ m) (by omega) (by omega), if_neg e, if_neg e2, Int.toNat_natCast]
    refine Ev.ite (fun e3 => by simpa [e3] using Ev.some false) (fun e3 => ?_)
    simpa [e3] using ih (pre ++ [(m : Int)]) (s ||| 2 ^ m) (mid_mv h0) hs2
theorem partRun_iff (n : Nat) : ∀ (xs : List Int) (s : Nat), partRun n s xs = decide ((∀ x ∈ xs, 0 ≤ x ∧ x < n ∧ s.testBit x.toNat = false) ∧ xs.Nodup) := by
  intro xs
  induction xs with
  | nil => intro s; simp [partRun]
  | cons x xs ih =>
    intro s
    simp only [partRun, ih, List.forall_mem_cons, List.nodup_cons]
    by_cases h1 : x < 0
    · simp [h1]; intro h; omega
    · by_cases h2 : x ≥ n
      · simp [h1, h2]; intro _ h; omega
      · by_cases h3 : s.testBit x.toNat = true
        · simp [h1, h2, h3]
        · rw [if_neg h1, if_neg h2, if_neg h3, decide_eq_decide]
          simp only [testBit_or_two_pow, Bool.or_eq_false_iff, decide_eq_false_iff_not]
          constructor
          · rintro ⟨a, b⟩
            refine ⟨⟨⟨by omega, by omega, by simpa using h3⟩, fun y hy => ⟨(a y hy).1, (a y hy).2.1, (a y hy).2.2.1⟩⟩, fun hx => (a x hx).2.2.2 rfl, b⟩
          · rintro ⟨⟨_, a⟩, b, c⟩
            refine ⟨fun y hy => ⟨(a y hy).1, (a y hy).2.1, (a y hy).2.2, fun e => b ?_⟩, c⟩
            have := (a y hy).1
            obtain rfl : x = y := by omega
            exact hy
theorem Part_ev (l : List Int) (n : Nat) (hn : n ≤ 62) (hl : l.length < 9223372036854775807) : Ev (fun k => sackbutref05_Part.f k l (n : Int)) (decide (PartOf n l)) := by
  have h := Part_loop l n hn hl l [] 0 rfl (Nat.two_pow_pos _)
  rw [partRun_iff] at h
  have e : ((∀ x ∈ l, 0 ≤ x ∧ x < (n : Int) ∧ (0 : Nat).testBit x.toNat = false) ∧ l.Nodup) = PartOf n l := by
    unfold PartOf; simp
  simp only [e] at h
  exact h
theorem Row_ev (l : List Int) : Ev (fun k => sackbutref05_Row.f k l) (decide (IsRow l)) := by
  unfold sackbutref05_Row.f
  refine Ev.ite (fun e => ?_) (fun e => ?_)
  · refine Ev.ite (fun e2 => ?_) (fun e2 => ?_)
    · refine Ev.bind (Part_ev l l.length (by omega) (by omega)) ?_
      have : decide (PartOf l.length l) = decide (IsRow l) := by
        congr 1; rw [eq_iff_iff]; unfold PartOf IsRow
        exact ⟨fun h => ⟨by omega, by omega, h⟩, fun h => h.2.2⟩
      rw [this]; exact Ev.some _
    · have : ¬ IsRow l := fun h => by have := h.2.1; omega
      simpa [this] using Ev.some false
  · have : ¬ IsRow l := fun h => by have := h.1; omega
    simpa [this] using Ev.some false

/-! list -/
theorem list_f (l : List Int) : sackbutlaw05_list.f l = some (l.take 13) := by
  unfold sackbutlaw05_list.f
  rw [mn_eq, if_pos (by omega), if_pos (by omega)]
  have e : (min (l.length : Int) 13).toNat = min l.length 13 := by omega
  have e2 : l.take (min l.length 13) = l.take 13 := by
    rw [Nat.min_comm]; exact (List.take_eq_take_min ..).symm
  rw [e, e2]
  unfold slices_Clone_int_int.f
  rw [if_pos (by rw [List.length_take]; omega)]
  rfl
theorem isRow_take (l : List Int) : IsRow (l.take 13) ↔ IsRow l := by
  rcases Nat.lt_or_ge 13 l.length with h | h
  · constructor
    · intro hr; have := hr.2.1; rw [List.length_take] at this; omega
    · intro hr; have := hr.2.1; omega
  · rw [List.take_of_length_le h]
theorem row_take {l : List Int} (h : IsRow l) : l.take 13 = l := List.take_of_length_le (by have := h.2.1; omega)

/-! steps -/
theorem steps_loop (l : List Int) (n : Nat) (hn : n = l.length) (h1 : 1 ≤ n) (hb : n ≤ 62) (hr : ∀ x ∈ l, 0 ≤ x ∧ x < 4611686018427387904) : ∀ (xs pre : List Int) (p : Int) (acc : List Int), l = pre ++ p :: xs → acc.length = pre.length →
    Ev (fun k => rows_row_steps.l0 k l acc ((pre.length : Int) + 1)) (acc ++ stepsOf n (p :: xs)) := by
  intro xs
  induction xs with
  | nil =>
    intro pre p acc h0 ha
    refine Ev.succ ?_
    have : ¬ ((pre.length : Int) + 1 < (l.length : Int)) := by subst h0; simp
    simp only [rows_row_steps.l0, if_neg this, stepsOf, List.append_nil]
    exact Ev.some _
  | cons x xs ih =>
    intro pre p acc h0 ha
    have hm : l = (pre ++ [p]) ++ x :: xs := mid_mv h0
    have hi : ((pre.length : Int) + 1) = ((pre ++ [p]).length : Int) := by simp
    have hlen : pre.length + 1 < l.length := by rw [h0]; simp
    have hw : wrap64 ((pre.length : Int) + 1 - 1) = (pre.length : Int) := by rw [wrap_id (by omega) (by omega)]; omega
    have hx := hr x (by rw [hm]; simp)
    have hp := hr p (by rw [h0]; simp)
    have hs : wrap64 (x - p) = x - p := wrap_id (by omega) (by omega)
    have hlt : ((pre.length : Int) + 1 < (l.length : Int)) := by omega
    refine Ev.succ ?_
    simp only [rows_row_steps.l0, if_pos hlt, if_pos (show (0 : Int) ≤ (pre.length : Int) + 1 by omega), hw, if_pos (show (0 : Int) ≤ (pre.length : Int) by omega), if_pos (mid_lt h0), mid_rd h0]
    rw [hi]
    simp only [mid_rd hm, hs, rows_mod_f (show (0 : Int) < (l.length : Int) by omega) (show (l.length : Int) < 4611686018427387904 by omega), Option.bind_some, if_pos (show acc.length < 17592186044416 by omega), mid_next hm (by omega)]
    have := ih (pre ++ [p]) x (acc ++ [(x - p) % (l.length : Int)]) hm (by simp [ha])
    have e : ((pre ++ [p] ++ [x]).length : Int) = ((pre ++ [p]).length : Int) + 1 := by simp; omega
    rw [e]
    simpa [stepsOf, hn] using this
theorem steps_ev (l : List Int) (h1 : 1 ≤ l.length) (hb : l.length ≤ 62) (hr : ∀ x ∈ l, 0 ≤ x ∧ x < 4611686018427387904) : Ev (fun k => rows_row_steps.f k l) (stepsOf l.length l) := by
  cases l with
  | nil => simp at h1
  | cons p xs => exact steps_loop (p :: xs) _ rfl h1 hb hr xs [] p [] rfl rfl

theorem refSteps_loop (l : List Int) (n : Nat) (h1 : 1 ≤ n) (hb : n ≤ 62) (hlb : l.length < 17592186044416) (hr : ∀ x ∈ l, 0 ≤ x ∧ x < 4611686018427387904) : ∀ (xs pre : List Int) (p : Int) (acc : List Int), l = pre ++ p :: xs → acc.length = pre.length →
    Ev (fun k => sackbutref05_Steps.l0 k l (n : Int) acc ((pre.length : Int) + 1)) (acc ++ stepsOf n (p :: xs)) := by
  intro xs
  induction xs with
  | nil =>
    intro pre p acc h0 ha
    refine Ev.succ ?_
    have : ¬ ((pre.length : Int) + 1 < (l.length : Int)) := by subst h0; simp
    simp only [sackbutref05_Steps.l0, if_neg this, stepsOf, List.append_nil]
    exact Ev.some _
  | cons x xs ih =>
    intro pre p acc h0 ha
    have hm : l = (pre ++ [p]) ++ x :: xs := mid_mv h0
    have hi : ((pre.length : Int) + 1) = ((pre ++ [p]).length : Int) := by simp
    have hlen : pre.length + 1 < l.length := by rw [h0]; simp
    have hw : wrap64 ((pre.length : Int) + 1 - 1) = (pre.length : Int) := by rw [wrap_id (by omega) (by omega)]; omega
    have hx := hr x (by rw [hm]; simp)
    have hp := hr p (by rw [h0]; simp)
    have hs : wrap64 (x - p) = x - p := wrap_id (by omega) (by omega)
    have hlt : ((pre.length : Int) + 1 < (l.length : Int)) := by omega
    have hmod : sackbutref05_mod.f (x - p) (n : Int) = some ((x - p) % (n : Int)) := by
      unfold sackbutref05_mod.f
      rw [if_neg (by omega), tmod_mod (by omega) (by omega)]
    refine Ev.succ ?_
    simp only [sackbutref05_Steps.l0, if_pos hlt, if_pos (show (0 : Int) ≤ (pre.length : Int) + 1 by omega), hw, if_pos (show (0 : Int) ≤ (pre.length : Int) by omega), if_pos (mid_lt h0), mid_rd h0]
    rw [hi]
    simp only [mid_rd hm, hs, hmod, Option.bind_some, if_pos (show acc.length < 17592186044416 by omega), mid_next hm (by omega)]
    have := ih (pre ++ [p]) x (acc ++ [(x - p) % (n : Int)]) hm (by simp [ha])
    have e : ((pre ++ [p] ++ [x]).length : Int) = ((pre ++ [p]).length : Int) + 1 := by simp; omega
    rw [e]
    simpa [stepsOf] using this
theorem refSteps_ev (l : List Int) (n : Nat) (h1 : 1 ≤ n) (hb : n ≤ 62) (hlb : l.length < 17592186044416) (hr : ∀ x ∈ l, 0 ≤ x ∧ x < 4611686018427387904) : Ev (fun k => sackbutref05_Steps.f k l (n : Int)) (stepsOf n l) := by
  cases l with
  | nil =>
    unfold sackbutref05_Steps.f
    refine Ev.succ ?_
    simp only [sackbutref05_Steps.l0]
    simpa [stepsOf] using Ev.some _
  | cons p xs => exact refSteps_loop (p :: xs) n h1 hb hlb hr xs [] p [] rfl rfl

theorem stepsOf_range {n : Int} (hn : 0 < n) : ∀ (l : List Int), ∀ s ∈ stepsOf n l, 0 ≤ s ∧ s < n
  | x :: y :: r => by
    intro s hs
    rcases List.mem_cons.1 hs with rfl | hs
    · exact ⟨Int.emod_nonneg _ (by omega), Int.emod_lt_of_pos _ hn⟩
    · exact stepsOf_range hn (y :: r) s hs
  | [] => by simp [stepsOf]
  | [x] => by simp [stepsOf]
theorem stepsOf_length (n : Int) : ∀ (l : List Int), (stepsOf n l).length = l.length - 1
  | x :: y :: r => by have := stepsOf_length n (y :: r); simp [stepsOf] at *; omega
  | [] => by simp [stepsOf]
  | [x] => by simp [stepsOf]
/-- the steps of different tones are none of them 0 -/
theorem stepsOf_pos {n : Int} (hn : 0 < n) : ∀ (l : List Int), (∀ x ∈ l, 0 ≤ x ∧ x < n) → l.Nodup → ∀ s ∈ stepsOf n l, 1 ≤ s
  | x :: y :: r => by
    intro hr hd s hs
    rcases List.mem_cons.1 hs with rfl | hs
    · have hx := hr x (by simp); have hy := hr y (by simp)
      have hne : x ≠ y := fun e => by subst e; simp at hd
      have h0 := Int.emod_nonneg (y - x) (show n ≠ 0 by omega)
      rcases Int.lt_or_eq_of_le h0 with h | h
      · omega
      · exfalso
        have := Int.emod_add_mul_ediv (y - x) n
        rw [← h] at this
        have hq : -1 < (y - x) / n ∨ (y - x) / n ≤ -1 := by omega
        have hq2 : (y - x) / n = 0 ∨ 1 ≤ (y - x) / n ∨ (y - x) / n ≤ -1 := by omega
        rcases hq2 with h2 | h2 | h2
        · rw [h2] at this; omega
        · have : n * 1 ≤ n * ((y - x) / n) := Int.mul_le_mul_of_nonneg_left h2 (by omega)
          omega
        · have : n * ((y - x) / n) ≤ n * (-1) := Int.mul_le_mul_of_nonneg_left h2 (by omega)
          omega
    · exact stepsOf_pos hn (y :: r) (fun z hz => hr z (List.mem_cons_of_mem _ hz)) (List.nodup_cons.1 hd).2 s hs
  | [] => by simp [stepsOf]
  | [x] => by simp [stepsOf]

/-! every -/
theorem every_loop (l0 l : List Int) (hl0 : 1 ≤ l0.length ∧ l0.length ≤ 62) (hl : l.length < 9223372036854775807) (hr : ∀ x ∈ l, 0 ≤ x ∧ x < l0.length) : ∀ (xs pre : List Int) (s : Nat), l = pre ++ xs → s < 2 ^ l0.length →
    Ev (fun k => rows_row_every.l0 k l0 (s : Int) l (l.length : Int) (pre.length : Int)) (decide (orAll s (xs.map Int.toNat) = 2 ^ l0.length - 2)) := by
  intro xs
  induction xs with
  | nil =>
    intro pre s h0 hs
    refine Ev.succ ?_
    have hsh := shl1_i64 (x := l0.length) (by omega)
    have hp : 2 ≤ 2 ^ l0.length := Nat.pow_le_pow_right (show 0 < 2 by omega) hl0.1
    have hp2 := two_pow_lt63 (x := l0.length) (by omega)
    have hw : wrap64 (shl .i64 1 (l0.length : Int) - 2) = ((2 ^ l0.length - 2 : Nat) : Int) := by
      rw [hsh, wrap_id (by omega) (by have : (2 : Nat) ^ 63 = 9223372036854775808 := by decide
                                      omega)]
      omega
    simp only [rows_row_every.l0, if_neg (mid_end h0), hw, List.map_nil, orAll_nil]
    have e : ((s : Int) == ((2 ^ l0.length - 2 : Nat) : Int)) = decide (s = 2 ^ l0.length - 2) := by
      by_cases h : s = 2 ^ l0.length - 2
      · simp only [← h]; simp
      · simp only [h, decide_false, beq_eq_false_iff_ne]; omega
    rw [e]
    exact Ev.some _
  | cons x xs ih =>
    intro pre s h0 hs
    refine Ev.succ ?_
    have hx := hr x (by rw [h0]; simp)
    obtain ⟨m, rfl⟩ := Int.eq_ofNat_of_zero_le (show 0 ≤ x by omega)
    have hp2 := two_pow_lt63 (x := l0.length) (by omega)
    have hm2 : 2 ^ m < 2 ^ l0.length := Nat.pow_lt_pow_right (by omega) (by omega)
    have hs2 : s ||| 2 ^ m < 2 ^ l0.length := Nat.or_lt_two_pow hs hm2
    simp only [rows_row_every.l0, if_pos (mid_lt h0), if_pos (show (0 : Int) ≤ (pre.length : Int) by omega), mid_rd h0, mid_next h0 hl, if_pos (show (0 : Int) ≤ (m : Int) by omega), shl1_i64 (x := m) (by omega), or_i64 (a := s) (b := 2 ^ m) (by omega) (by omega), List.map_cons, orAll_cons, Int.toNat_natCast]
    exact ih (pre ++ [(m : Int)]) (s ||| 2 ^ m) (mid_mv h0) hs2
/-- every step comes: all are different -/
theorem every_iff {l : List Int} (h : IsRow l) : orAll 0 ((stepsOf l.length l).map Int.toNat) = 2 ^ l.length - 2 ↔ (stepsOf l.length l).Nodup := by
  have hn : 0 < (l.length : Int) := by have := h.1; omega
  have h1 := stepsOf_range hn l
  have h2 := stepsOf_pos hn l h.2.2.1 h.2.2.2
  have hr : ∀ x ∈ (stepsOf l.length l).map Int.toNat, 1 ≤ x ∧ x < l.length := by
    intro x hx
    obtain ⟨y, hy, rfl⟩ := List.mem_map.1 hx
    have := h1 y hy; have := h2 y hy
    omega
  rw [orAll_full2 (by have := h.1; omega) _ hr, ← nodup_toNat (fun x hx => (h1 x hx).1)]
  have hl : ((stepsOf l.length l).map Int.toNat).length = l.length - 1 := by rw [List.length_map, stepsOf_length]
  generalize (stepsOf l.length l).map Int.toNat = ys at hl hr ⊢
  -- with 0 before them they are a whole row
  have hy : ∀ i, i < l.length → (i ∈ 0 :: ys ↔ i = 0 ∨ i ∈ ys) := fun i _ => List.mem_cons
  constructor
  · intro hf
    have hd : (0 :: ys).Nodup := nodup_of_full (n := l.length) (by simp [hl]; have := h.1; omega) (fun i hi => by
      rcases Nat.eq_zero_or_pos i with e | e
      · simp [e]
      · exact List.mem_cons_of_mem _ (hf i e hi))
    exact (List.nodup_cons.1 hd).2
  · intro hd i hi1 hi2
    have hd0 : (0 :: ys).Nodup := List.nodup_cons.2 ⟨fun h0 => by have := (hr 0 h0).1; omega, hd⟩
    have := full_of_nodup (n := l.length) (by simp [hl]; have := h.1; omega) (fun x hx => by
      rcases List.mem_cons.1 hx with e | e
      · have := h.1; omega
      · exact (hr x e).2) hd0 i hi2
    rcases List.mem_cons.1 this with e | e
    · omega
    · exact e
theorem row_bounds {l : List Int} (h : IsRow l) : ∀ x ∈ l, 0 ≤ x ∧ x < 4611686018427387904 := fun x hx => by have := h.2.2.1 x hx; have := h.2.1; omega
theorem every_ev {l : List Int} (h : IsRow l) : Ev (fun k => rows_row_every.f k l) (decide (stepsOf l.length l).Nodup) := by
  unfold rows_row_every.f
  have h1 := h.1; have h2 := h.2.1
  refine Ev.bind (steps_ev l (by omega) (by omega) (row_bounds h)) ?_
  have := every_loop l (stepsOf l.length l) ⟨by omega, by omega⟩ (by rw [stepsOf_length]; omega) (stepsOf_range (by omega) l) (stepsOf l.length l) [] 0 rfl (Nat.two_pow_pos _)
  have e : decide (orAll 0 ((stepsOf l.length l).map Int.toNat) = 2 ^ l.length - 2) = decide (stepsOf l.length l).Nodup := by congr 1; rw [eq_iff_iff]; exact every_iff h
  rw [e] at this
  exact this

/-! the reference's Every: of different tones modulo n -/
def seenRun : Nat → List Int → Bool
  | _, [] => true
  | s, x :: xs => if s.testBit x.toNat then false else seenRun (s ||| 2 ^ x.toNat) xs
theorem refEvery_loop (l : List Int) (n : Nat) (hn : n ≤ 62) (hl : l.length < 9223372036854775807) (hr : ∀ x ∈ l, 0 ≤ x ∧ x < n) : ∀ (xs pre : List Int) (s : Nat), l = pre ++ xs → s < 2 ^ n →
    Ev (fun k => sackbutref05_Every.l0 k (s : Int) l (l.length : Int) (pre.length : Int)) (seenRun s xs) := by
  intro xs
  induction xs with
  | nil =>
    intro pre s h0 hs
    refine Ev.succ ?_
    simp only [sackbutref05_Every.l0, if_neg (mid_end h0)]
    exact Ev.some _
  | cons x xs ih =>
    intro pre s h0 hs
    refine Ev.succ ?_
    have hx := hr x (by rw [h0]; simp)
    obtain ⟨m, rfl⟩ := Int.eq_ofNat_of_zero_le (show 0 ≤ x by omega)
    have hp2 := two_pow_lt63 (x := n) (by omega)
    have hm2 : 2 ^ m < 2 ^ n := Nat.pow_lt_pow_right (by omega) (by omega)
    have hs2 : s ||| 2 ^ m < 2 ^ n := Nat.or_lt_two_pow hs hm2
    simp only [sackbutref05_Every.l0, if_pos (mid_lt h0), if_pos (show (0 : Int) ≤ (pre.length : Int) by omega), mid_rd h0, mid_next h0 hl, if_pos (show (0 : Int) ≤ (m : Int) by omega), bit1_i64 (a := s) (x := m) (by omega) (by omega), shl1_i64 (x := m) (by omega), or_i64 (a := s) (b := 2 ^ m) (by omega) (by omega), seenRun, Int.toNat_natCast]
    refine Ev.ite (fun e3 => by simpa [e3] using Ev.some false) (fun e3 => ?_)
    simpa [e3] using ih (pre ++ [(m : Int)]) (s ||| 2 ^ m) (mid_mv h0) hs2
theorem seenRun_iff : ∀ (xs : List Int) (s : Nat), (∀ x ∈ xs, 0 ≤ x) → seenRun s xs = decide ((∀ x ∈ xs, s.testBit x.toNat = false) ∧ xs.Nodup) := by
  intro xs
  induction xs with
  | nil => intro s _; simp [seenRun]
  | cons x xs ih =>
    intro s h
    have hx := h x (by simp)
    have h' : ∀ y ∈ xs, 0 ≤ y := fun y hy => h y (List.mem_cons_of_mem _ hy)
    simp only [seenRun, ih _ h', List.forall_mem_cons, List.nodup_cons]
    by_cases h3 : s.testBit x.toNat = true
    · simp [h3]
    · rw [if_neg h3, decide_eq_decide]
      simp only [testBit_or_two_pow, Bool.or_eq_false_iff, decide_eq_false_iff_not]
      constructor
      · rintro ⟨a, b⟩
        exact ⟨⟨by simpa using h3, fun y hy => (a y hy).1⟩, fun hx => (a x hx).2 rfl, b⟩
      · rintro ⟨⟨_, a⟩, b, c⟩
        refine ⟨fun y hy => ⟨a y hy, fun e => b ?_⟩, c⟩
        have := h' y hy
        obtain rfl : x = y := by omega
        exact hy
theorem refEvery_ev (l : List Int) (n : Nat) (h1 : 1 ≤ n) (hb : n ≤ 62) (hlb : l.length < 17592186044416) (hr : ∀ x ∈ l, 0 ≤ x ∧ x < 4611686018427387904) : Ev (fun k => sackbutref05_Every.f k l (n : Int)) (decide (stepsOf n l).Nodup) := by
  unfold sackbutref05_Every.f
  refine Ev.bind (refSteps_ev l n h1 hb hlb hr) ?_
  have hs := stepsOf_range (n := (n : Int)) (by omega) l
  have := refEvery_loop (stepsOf n l) n hb (by rw [stepsOf_length]; omega) hs (stepsOf n l) [] 0 rfl (Nat.two_pow_pos _)
  rw [seenRun_iff _ _ (fun x hx => (hs x hx).1)] at this
  simpa using this

theorem Steps_ev (l : List Int) : Ev (fun k => rows_Steps.f k l) (if IsRow l then (stepsOf l.length l, 0) else ([], 2)) := by
  unfold rows_Steps.f
  refine Ev.bind (valid_ev l) ?_
  by_cases h : IsRow l
  · simp only [h, decide_true, if_true]
    have h1 := h.1; have h2 := h.2.1
    exact Ev.bind (steps_ev l (by omega) (by omega) (row_bounds h)) (Ev.some _)
  · simp only [h, decide_false, if_false]
    exact Ev.some _
theorem Every_ev (l : List Int) : Ev (fun k => rows_Every.f k l) (if IsRow l then (decide (stepsOf l.length l).Nodup, 0) else (false, 2)) := by
  unfold rows_Every.f
  refine Ev.bind (valid_ev l) ?_
  by_cases h : IsRow l
  · simp only [h, decide_true, if_true]
    exact Ev.bind (every_ev h) (Ev.some _)
  · simp only [h, decide_false, if_false]
    exact Ev.some _
theorem awake_ev : Ev (fun k => sackbutlaw05_awake.f k) true := by
  unfold sackbutlaw05_awake.f
  refine Ev.bind (Steps_ev [0, 1, 3, 2]) ?_
  have h : IsRow [0, 1, 3, 2] := by decide
  have e : stepsOf ([0, 1, 3, 2] : List Int).length [0, 1, 3, 2] = [1, 2, 3] := by decide
  simp only [h, if_true, e]
  exact Ev.bind (Equal_ev [1, 2, 3] [1, 2, 3] (by decide)) (Ev.some _)

end Go.Proofs.Ytpfjnpbcnlbhaaa.P
