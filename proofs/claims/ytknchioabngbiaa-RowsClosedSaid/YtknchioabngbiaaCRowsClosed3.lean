/- A part of a proof that a law's Go function returns true for every input, laid by this session's program mp.py (which drives the kit's print). Conditions: as each theorem states them. -/
import Derived.Shelf.Abstract
import Derived.Shelf.RegionOpen
import Derived.Shelf.AbstractIn
import Derived.Sort.QuietIn
import Derived.OwnWalkIn
import Derived.TacticsInMore
import Derived.LoopNIn
import Derived.LoopIn
import Derived.Test.YtknchioabngbiaaCRowsClosed1
import Derived.Test.YtknchioabngbiaaCRowsClosed2
namespace Go.Proofs.Ytknchioabngbiaa.P
open Go.RowKit Go.Proofs.YtknchioabngbiaaW.PrintWords Go.Proofs.YtknchioabngbiaaW.PrintLast Go.Proofs.YtknchioabngbiaaW.PrintMore
attribute [local go_sem] max2_int min2_int max_two min_two max_three min_three max_four min_four   -- for this text's walks alone
set_option linter.unusedVariables false
set_option linter.unusedSimpArgs false

/-! runs over a list that gather a set -/
def validRun (n : Nat) : Nat → List Int → Bool
  | s, [] => decide (s = 2 ^ n - 1)
  | s, x :: xs => if x < 0 then false else if x ≥ n then false else validRun n (s ||| 2 ^ x.toNat) xs
theorem validRun_iff (n : Nat) : ∀ (xs : List Int) (s : Nat), validRun n s xs = decide ((∀ x ∈ xs, 0 ≤ x ∧ x < n) ∧ orAll s (xs.map Int.toNat) = 2 ^ n - 1) := by
  intro xs
  induction xs with
  | nil => intro s; simp [validRun, orAll]
  | cons x xs ih =>
    intro s
    simp only [validRun, List.map_cons, orAll_cons, ih, List.forall_mem_cons]
    by_cases h1 : x < 0
    · simp [h1]; intro h; omega
    · by_cases h2 : x ≥ n
      · simp [h1, h2]; intro _ h; omega
      · simp only [h1, h2, if_false]
        congr 1
        rw [eq_iff_iff]
        constructor
        · rintro ⟨a, b⟩; exact ⟨⟨⟨by omega, by omega⟩, a⟩, b⟩
        · rintro ⟨⟨_, a⟩, b⟩; exact ⟨a, b⟩
theorem nodup_toNat {xs : List Int} (h : ∀ x ∈ xs, 0 ≤ x) : (xs.map Int.toNat).Nodup ↔ xs.Nodup := by
  induction xs with
  | nil => simp
  | cons x xs ih =>
    have h' := ih (fun y hy => h y (List.mem_cons_of_mem _ hy))
    simp only [List.map_cons, List.nodup_cons, h']
    have : x.toNat ∈ xs.map Int.toNat ↔ x ∈ xs := by
      simp only [List.mem_map]
      constructor
      · rintro ⟨y, hy, e⟩
        have := h y (List.mem_cons_of_mem _ hy); have := h x List.mem_cons_self
        obtain rfl : y = x := by omega
        exact hy
      · intro hx; exact ⟨x, hx, rfl⟩
    rw [this]
def partRun (n : Nat) : Nat → List Int → Bool
  | _, [] => true
  | s, x :: xs => if x < 0 then false else if x ≥ n then false else if s.testBit x.toNat then false else partRun n (s ||| 2 ^ x.toNat) xs
theorem partRun_iff (n : Nat) : ∀ (xs : List Int) (s : Nat), partRun n s xs = decide ((∀ x ∈ xs, 0 ≤ x ∧ x < n ∧ s.testBit x.toNat = false) ∧ xs.Nodup) := by
  intro xs
  induction xs with
  | nil => intro s; simp [partRun]
  | cons x xs ih =>
    intro s
    simp only [partRun, ih, List.forall_mem_cons, List.nodup_cons]
    by_cases h1 : x < 0
    · simp [h1]; intro h; omega
    · by_cases h2 : x ≥ n
      · simp [h1, h2]; intro _ h; omega
      · by_cases h3 : s.testBit x.toNat = true
        · simp [h1, h2, h3]
        · rw [if_neg h1, if_neg h2, if_neg h3, decide_eq_decide]
          simp only [testBit_or_two_pow, Bool.or_eq_false_iff, decide_eq_false_iff_not]
          constructor
          · rintro ⟨a, b⟩
            refine ⟨⟨⟨by omega, by omega, by simpa using h3⟩, fun y hy => ⟨(a y hy).1, (a y hy).2.1, (a y hy).2.2.1⟩⟩, fun hx => (a x hx).2.2.2 rfl, b⟩
          · rintro ⟨⟨_, a⟩, b, c⟩
            refine ⟨fun y hy => ⟨(a y hy).1, (a y hy).2.1, (a y hy).2.2, fun e => b ?_⟩, c⟩
            have := (a y hy).1
            obtain rfl : x = y := by omega
            exact hy

end Go.Proofs.Ytknchioabngbiaa.P
namespace Go.Proofs.Ytknchioabngbiaa.P
open Go.RowKit Go.Proofs.YtknchioabngbiaaW.PrintWords Go.Proofs.YtknchioabngbiaaW.PrintLast Go.Proofs.YtknchioabngbiaaW.PrintMore
attribute [local go_sem] max2_int min2_int max_two min_two max_three min_three max_four min_four   -- for this text's walks alone
set_option linter.unusedVariables false
set_option linter.unusedSimpArgs false

/-! What the functions on rows come to. -/
def IsRow (l : List Int) : Prop := 2 ≤ l.length ∧ l.length ≤ 10 ∧ (∀ x ∈ l, 0 ≤ x ∧ x < l.length) ∧ l.Nodup
instance (l : List Int) : Decidable (IsRow l) := by unfold IsRow; infer_instance
def PartOf (n : Nat) (l : List Int) : Prop := (∀ x ∈ l, 0 ≤ x ∧ x < n) ∧ l.Nodup
instance (n : Nat) (l : List Int) : Decidable (PartOf n l) := by unfold PartOf; infer_instance
theorem rows_mod_f {a n : Int} (hn : 0 < n) (hb : n < 4611686018427387904) : rows_mod.f a n = some (a % n) := by
  unfold rows_mod.f
  rw [if_neg (by omega), tmod_mod hn hb]

/-! a row is valid -/
theorem valid_loop (l : List Int) (hl : l.length ≤ 10) : ∀ (xs pre : List Int) (s : Nat), l = pre ++ xs → s < 2 ^ l.length →
    Ev (fun k => rows_row_valid.l0 k (l.length : Int) (s : Int) l (l.length : Int) (pre.length : Int)) (validRun l.length s xs) := by
  intro xs
  induction xs with
  | nil =>
    intro pre s h0 hs
    refine Ev.succ ?_
    have hsh := shl1_i64 (x := l.length) (by omega)
    have hp := Nat.two_pow_pos l.length
    have hp2 := two_pow_lt63 (x := l.length) (by omega)
    have hw : wrap64 (shl .i64 1 (l.length : Int) - 1) = ((2 ^ l.length - 1 : Nat) : Int) := by
      rw [hsh, wrap_id (by omega) (by have : (2 : Nat) ^ 63 = 9223372036854775808 := by decide
                                      omega)]
      omega
    simp only [rows_row_valid.l0, if_neg (mid_end h0), if_pos (show (0 : Int) ≤ (l.length : Int) by omega), hw]
    have e : ((s : Int) == ((2 ^ l.length - 1 : Nat) : Int)) = decide (s = 2 ^ l.length - 1) := by
      by_cases h : s = 2 ^ l.length - 1
      · simp only [← h]; simp
      · simp only [h, decide_false, beq_eq_false_iff_ne]; omega
    rw [e]
    exact Ev.some _
  | cons x xs ih =>
    intro pre s h0 hs
    refine Ev.succ ?_
    simp only [rows_row_valid.l0, if_pos (mid_lt h0), if_pos (show (0 : Int) ≤ (pre.length : Int) by omega), mid_rd h0, mid_next h0 (by omega), validRun]
    refine Ev.ite (fun e => by simpa [e] using Ev.some false) (fun e => ?_)
    refine Ev.ite (fun e2 => by simpa [e, e2] using Ev.some false) (fun e2 => ?_)
    obtain ⟨m, rfl⟩ := Int.eq_ofNat_of_zero_le (show 0 ≤ x by omega)
    have hp2 := two_pow_lt63 (x := l.length) (by omega)
    have hm2 : 2 ^ m < 2 ^ l.length := Nat.pow_lt_pow_right (by omega) (by omega)
    have hs2 : s ||| 2 ^ m < 2 ^ l.length := Nat.or_lt_two_pow hs hm2
    simp only [if_pos (show (0 : Int) ≤ (m : Int) by omega), shl1_i64 (x := m) (by omega), or_i64 (a := s) (b := 2 ^ m) (by omega) (by omega), if_neg e, if_neg e2, Int.toNat_natCast]
    exact ih (pre ++ [(m : Int)]) (s ||| 2 ^ m) (mid_mv h0) hs2
theorem row_full {l : List Int} (hr : ∀ x ∈ l, 0 ≤ x ∧ x < l.length) : orAll 0 (l.map Int.toNat) = 2 ^ l.length - 1 ↔ l.Nodup := by
  have hr' : ∀ x ∈ l.map Int.toNat, x < l.length := by
    intro x hx
    obtain ⟨y, hy, rfl⟩ := List.mem_map.1 hx
    have := hr y hy
    omega
  rw [orAll_full _ hr', ← nodup_toNat (fun x hx => (hr x hx).1)]
  exact ⟨fun h => nodup_of_full (by simp) h, fun h => full_of_nodup (by simp) hr' h⟩
theorem valid_ev (l : List Int) : Ev (fun k => rows_row_valid.f k l) (decide (IsRow l)) := by
  unfold rows_row_valid.f
  refine Ev.ite (fun e => ?_) (fun e => ?_)
  · refine Ev.succ ?_
    have : ¬ IsRow l := fun h => by have := h.1; omega
    simp only [rows_row_valid.j0, if_true]
    simpa [this] using Ev.some false
  · refine Ev.succ ?_
    simp only [rows_row_valid.j0]
    refine Ev.ite (fun e2 => ?_) (fun e2 => ?_)
    · have e2' : (l.length : Int) > 10 := of_decide_eq_true e2
      have : ¬ IsRow l := fun h => by have := h.2.1; omega
      simpa [this] using Ev.some false
    · have e2' : ¬ (l.length : Int) > 10 := fun h => e2 (decide_eq_true h)
      have hv := valid_loop l (by omega) l [] 0 rfl (Nat.two_pow_pos _)
      have ev : validRun l.length 0 l = decide (IsRow l) := by
        rw [validRun_iff]
        congr 1
        rw [eq_iff_iff]
        unfold IsRow
        constructor
        · rintro ⟨a, b⟩; exact ⟨by omega, by omega, a, (row_full a).1 b⟩
        · rintro ⟨_, _, a, b⟩; exact ⟨a, (row_full a).2 b⟩
      rw [← ev]
      exact hv

/-! what the reference says of rows -/
theorem Part_loop (l : List Int) (n : Nat) (hn : n ≤ 62) (hl : l.length < 9223372036854775807) : ∀ (xs pre : List Int) (s : Nat), l = pre ++ xs → s < 2 ^ n →
    Ev (fun k => sackbutref05_Part.l0 k (n : Int) (s : Int) l (l.length : Int) (pre.length : Int)) (partRun n s xs) := by
  intro xs
  induction xs with
  | nil =>
    intro pre s h0 hs
    refine Ev.succ ?_
    simp only [sackbutref05_Part.l0, if_neg (mid_end h0)]
    exact Ev.some _
  | cons x xs ih =>
    intro pre s h0 hs
    refine Ev.succ ?_
    simp only [sackbutref05_Part.l0, if_pos (mid_lt h0), if_pos (show (0 : Int) ≤ (pre.length : Int) by omega), mid_rd h0, mid_next h0 hl, partRun]
    refine Ev.ite (fun e => by simpa [e] using Ev.some false) (fun e => ?_)
    refine Ev.ite (fun e2 => by simpa [e, e2] using Ev.some false) (fun e2 => ?_)
    obtain ⟨m, rfl⟩ := Int.eq_ofNat_of_zero_le (show 0 ≤ x by omega)
    have hp2 := two_pow_lt63 (x := n) (by omega)
    have hm2 : 2 ^ m < 2 ^ n := Nat.pow_lt_pow_right (by omega) (by omega)
    have hs2 : s ||| 2 ^ m < 2 ^ n := Nat.or_lt_two_pow hs hm2
    simp only [if_pos (show (0 : Int) ≤ (m : Int) by omega), bit1_i64 (a := s) (x := m) (by omega) (by omega), shl1_i64 (x := m) (by omega), or_i64 (a := s) (b := 2 ^ m) (by omega) (by omega), if_neg e, if_neg e2, Int.toNat_natCast]
    refine Ev.ite (fun e3 => by simpa [e3] using Ev.some false) (fun e3 => ?_)
    simpa [e3] using ih (pre ++ [(m : Int)]) (s ||| 2 ^ m) (mid_mv h0) hs2
theorem Part_ev (l : List Int) (n : Nat) (hn : n ≤ 62) (hl : l.length < 9223372036854775807) : Ev (fun k => sackbutref05_Part.f k l (n : Int)) (decide (PartOf n l)) := by
  have h := Part_loop l n hn hl l [] 0 rfl (Nat.two_pow_pos _)
  rw [partRun_iff] at h
  have e : ((∀ x ∈ l, 0 ≤ x ∧ x < (n : Int) ∧ (0 : Nat).testBit x.toNat = false) ∧ l.Nodup) = PartOf n l := by
    unfold PartOf; simp
  simp only [e] at h
  exact h
theorem Row_ev (l : List Int) : Ev (fun k => sackbutref05_Row.f k l) (decide (IsRow l)) := by
  unfold sackbutref05_Row.f
  refine Ev.ite (fun e => ?_) (fun e => ?_)
  · refine Ev.ite (fun e2 => ?_) (fun e2 => ?_)
    · refine Ev.bind (Part_ev l l.length (by omega) (by omega)) ?_
      have : decide (PartOf l.length l) = decide (IsRow l) := by
        congr 1; rw [eq_iff_iff]; unfold PartOf IsRow
        exact ⟨fun h => ⟨by omega, by omega, h⟩, fun h => h.2.2⟩
      rw [this]; exact Ev.some _
    · have : ¬ IsRow l := fun h => by have := h.2.1; omega
      simpa [this] using Ev.some false
  · have : ¬ IsRow l := fun h => by have := h.1; omega
    simpa [this] using Ev.some false

end Go.Proofs.Ytknchioabngbiaa.P
namespace Go.Proofs.Ytknchioabngbiaa.P
open Go.RowKit Go.Proofs.YtknchioabngbiaaW.PrintWords Go.Proofs.YtknchioabngbiaaW.PrintLast Go.Proofs.YtknchioabngbiaaW.PrintMore
attribute [local go_sem] max2_int min2_int max_two min_two max_three min_three max_four min_four   -- for this text's walks alone
set_option linter.unusedVariables false
set_option linter.unusedSimpArgs false

/-! slices.Reverse and the forms -/
theorem Reverse_loop : ∀ (d : Nat) (M A B : List Int), M.length ≤ d → (A ++ M ++ B).length < 9223372036854775807 →
    Ev (fun k => slices_Reverse_int_int.l0 k (A ++ M ++ B) (A.length : Int) ((A.length : Int) + M.length - 1)) (A ++ M.reverse ++ B) := by
  intro d
  induction d with
  | zero =>
    intro M A B hd hb
    obtain rfl : M = [] := List.eq_nil_of_length_eq_zero (by omega)
    refine Ev.succ ?_
    have : ¬ (A.length : Int) < (A.length : Int) + (([] : List Int).length : Int) - 1 := by simp; omega
    simp only [slices_Reverse_int_int.l0, if_neg this]
    exact Ev.some _
  | succ d ih =>
    intro M A B hd hb
    match M, hd with
    | [], _ => exact ih [] A B (by simp) hb
    | [x], _ =>
      refine Ev.succ ?_
      have : ¬ (A.length : Int) < (A.length : Int) + (([x] : List Int).length : Int) - 1 := by simp
      simp only [slices_Reverse_int_int.l0, if_neg this, List.reverse_singleton]
      exact Ev.some _
    | x :: y :: M', hd =>
      obtain ⟨M2, z, hM⟩ : ∃ M2 z, y :: M' = M2 ++ [z] := ⟨(y :: M').dropLast, (y :: M').getLast (by simp), (List.dropLast_concat_getLast (by simp)).symm⟩
      rw [hM] at hd hb ⊢
      have hl : (A ++ x :: (M2 ++ [z]) ++ B).length = A.length + M2.length + 2 + B.length := by simp; omega
      have hj : (A.length : Int) + ((x :: (M2 ++ [z])).length : Int) - 1 = ((A.length + M2.length + 1 : Nat) : Int) := by simp; omega
      have e1 : A ++ x :: (M2 ++ [z]) ++ B = (A ++ x :: M2) ++ z :: B := by simp
      have r1 : rd (A ++ x :: (M2 ++ [z]) ++ B) (A.length : Int) = x := by
        rw [show A ++ x :: (M2 ++ [z]) ++ B = A ++ x :: (M2 ++ [z] ++ B) by simp]
        exact mid_rd rfl
      have r2 : rd (A ++ x :: (M2 ++ [z]) ++ B) ((A.length + M2.length + 1 : Nat) : Int) = z := by
        rw [e1, show A.length + M2.length + 1 = (A ++ x :: M2).length by simp; omega]
        exact mid_rd rfl
      have s1 : ((A ++ x :: (M2 ++ [z]) ++ B).set A.length z).set (A.length + M2.length + 1) x = (A ++ [z]) ++ M2 ++ (x :: B) := by
        rw [show A ++ x :: (M2 ++ [z]) ++ B = A ++ x :: (M2 ++ z :: B) by simp, List.set_append_right _ _ (Nat.le_refl _)]
        rw [Nat.sub_self, List.set_cons_zero]
        rw [show A ++ z :: (M2 ++ z :: B) = (A ++ z :: M2) ++ z :: B by simp, List.set_append_right _ _ (by simp; omega)]
        rw [show A.length + M2.length + 1 - (A ++ z :: M2).length = 0 by simp; omega, List.set_cons_zero]
        simp
      refine Ev.succ ?_
      rw [hj]
      have c1 : (A.length : Int) < ((A.length + M2.length + 1 : Nat) : Int) := by omega
      have c2 : (0 : Int) ≤ ((A.length + M2.length + 1 : Nat) : Int) := by omega
      have c3 : ((A.length + M2.length + 1 : Nat) : Int) < ((A ++ x :: (M2 ++ [z]) ++ B).length : Int) := by rw [hl]; omega
      have c4 : (A.length : Int) < ((A ++ x :: (M2 ++ [z]) ++ B).length : Int) := by rw [hl]; omega
      have w1 : wrap64 ((A.length : Int) + 1) = ((A ++ [z]).length : Int) := by rw [wrap_id (by omega) (by omega)]; simp
      have w2 : wrap64 (((A.length + M2.length + 1 : Nat) : Int) - 1) = ((A ++ [z]).length : Int) + M2.length - 1 := by rw [wrap_id (by omega) (by omega)]; simp; omega
      simp only [slices_Reverse_int_int.l0, if_pos c1, if_pos c2, if_pos c3, if_pos c4, if_pos (show (0 : Int) ≤ (A.length : Int) by omega), r1, r2, Int.toNat_natCast, s1, w1, w2]
      have := ih M2 (A ++ [z]) (x :: B) (by simp at hd; omega) (by simp at hb ⊢; omega)
      have e2 : A ++ [z] ++ M2.reverse ++ x :: B = A ++ (x :: (M2 ++ [z])).reverse ++ B := by simp
      rw [← e2]
      exact this
theorem Reverse_ev (l : List Int) (hb : l.length < 9223372036854775807) : Ev (fun k => slices_Reverse_int_int.f k l) l.reverse := by
  have h := Reverse_loop l.length l [] [] (Nat.le_refl _) (by simpa using hb)
  have w : wrap64 ((l.length : Int) - 1) = ((([] : List Int).length : Nat) : Int) + l.length - 1 := by rw [wrap_id (by omega) (by omega)]; simp
  unfold slices_Reverse_int_int.f
  rw [w]
  simpa using h

/-- a tone of a form -/
def toneOf (n kind k : Int) (x : Int) : Int := ((if kind % 2 = 1 then -x else x) + k % n) % n
def formOf (n kind k : Int) (l : List Int) : List Int := if kind / 2 % 2 = 1 then (l.map (toneOf n kind k)).reverse else l.map (toneOf n kind k)
theorem kind_bits {kind : Int} (h0 : 0 ≤ kind) (h3 : kind < 4) : (Go.bits .and .i64 kind 1 = 0 ↔ ¬ kind % 2 = 1) ∧ (Go.bits .and .i64 kind 2 = 0 ↔ ¬ kind / 2 % 2 = 1) := by
  have : kind = 0 ∨ kind = 1 ∨ kind = 2 ∨ kind = 3 := by omega
  rcases this with rfl | rfl | rfl | rfl <;> decide
theorem form_loop (n : Nat) (hn : 1 ≤ n) (hn2 : n ≤ 62) (kind k : Int) (hk0 : 0 ≤ kind) (hk3 : kind < 4) (l : List Int) (hl : l.length < 9223372036854775807) (hr : ∀ x ∈ l, 0 ≤ x ∧ x < 62) : ∀ (xs pre : List Int), l = pre ++ xs →
    Ev (fun q => rows_piece_form.l0 q kind k (pre.map (toneOf n kind k) ++ xs) (l.length : Int) (pre.length : Int) (n : Int) l) (formOf n kind k l) := by
  have hb := kind_bits hk0 hk3
  intro xs
  induction xs with
  | nil =>
    intro pre h0
    have hp : pre = l := by simpa using h0.symm
    subst hp
    refine Ev.succ ?_
    simp only [rows_piece_form.l0, if_neg (show ¬ (pre.length : Int) < (pre.length : Int) by omega), List.append_nil, hb.2]
    refine Ev.ite (fun e => ?_) (fun e => ?_)
    · unfold formOf
      rw [if_neg e]
      exact Ev.some _
    · unfold formOf
      rw [if_pos (Classical.not_not.1 e)]
      exact Ev.bind (Reverse_ev _ (by simpa using hl)) (Ev.some _)
  | cons x xs ih =>
    intro pre h0
    have hx := hr x (by rw [h0]; simp)
    have hlen : pre.length < l.length := by rw [h0]; simp
    have hlen2 : (pre.length : Int) < ((pre.map (toneOf n kind k) ++ x :: xs).length : Int) := by simp; omega
    have hrd : rd (pre.map (toneOf n kind k) ++ x :: xs) (pre.length : Int) = x := by
      have := mid_rd (l := pre.map (toneOf n kind k) ++ x :: xs) (pre := pre.map (toneOf n kind k)) rfl
      simpa using this
    have hset : ∀ v, (pre.map (toneOf n kind k) ++ x :: xs).set pre.length v = pre.map (toneOf n kind k) ++ v :: xs := by
      intro v
      rw [List.set_append_right _ _ (by simp)]
      simp
    have hm0 := Int.emod_nonneg k (show (n : Int) ≠ 0 by omega)
    have hm1 := Int.emod_lt_of_pos k (show (0 : Int) < n by omega)
    have go : ∀ v, v = toneOf n kind k x → Ev (fun q => rows_piece_form.l0 q kind k (pre.map (toneOf n kind k) ++ v :: xs) (l.length : Int) ((pre ++ [x]).length : Int) (n : Int) l) (formOf n kind k l) := by
      rintro v rfl
      have := ih (pre ++ [x]) (mid_mv h0)
      simpa using this
    refine Ev.succ ?_
    simp only [rows_piece_form.l0, if_pos (mid_lt h0), if_pos (show (0 : Int) ≤ (pre.length : Int) by omega), if_pos hlen2, hrd, Int.toNat_natCast, hset, mid_next h0 hl, rows_mod_f (show (0 : Int) < (n : Int) by omega) (show (n : Int) < 4611686018427387904 by omega), Option.bind_some, hb.1]
    refine Ev.ite (fun e => ?_) (fun e => ?_)
    · rw [wrap_id (by omega) (by omega)]
      exact go _ (by unfold toneOf; rw [if_neg e])
    · rw [wrap_id (n := -x) (by omega) (by omega), wrap_id (by omega) (by omega)]
      exact go _ (by unfold toneOf; rw [if_pos (Classical.not_not.1 e)])
theorem pieceForm_ev (n : Nat) (hn : 1 ≤ n) (hn2 : n ≤ 62) (kind k : Int) (hk0 : 0 ≤ kind) (hk3 : kind < 4) (l : List Int) (hl : l.length < 17592186044416) (hr : ∀ x ∈ l, 0 ≤ x ∧ x < 62) :
    Ev (fun q => rows_piece_form.f q (n : Int) l kind k) (formOf n kind k l) := by
  unfold rows_piece_form.f
  refine Ev.bind_some (show slices_Clone_int_int.f l = some l by unfold slices_Clone_int_int.f; rw [if_pos hl]) ?_
  simpa using form_loop n hn hn2 kind k hk0 hk3 l (by omega) hr l [] rfl
theorem row_small {l : List Int} (h : IsRow l) : ∀ x ∈ l, 0 ≤ x ∧ x < 62 := fun x hx => by have := h.2.2.1 x hx; have := h.2.1; omega
theorem formOf_length (n kind k : Int) (l : List Int) : (formOf n kind k l).length = l.length := by unfold formOf; split <;> simp
theorem formOf_range {n : Nat} (hn : 1 ≤ n) (kind k : Int) (l : List Int) : ∀ x ∈ formOf n kind k l, 0 ≤ x ∧ x < n := by
  intro x hx
  have : x ∈ l.map (toneOf n kind k) := by
    unfold formOf at hx
    split at hx
    · exact List.mem_reverse.1 hx
    · exact hx
  obtain ⟨y, _, rfl⟩ := List.mem_map.1 this
  exact ⟨Int.emod_nonneg _ (by omega), Int.emod_lt_of_pos _ (by omega)⟩

end Go.Proofs.Ytknchioabngbiaa.P
namespace Go.Proofs.Ytknchioabngbiaa.P
open Go.RowKit Go.Proofs.YtknchioabngbiaaW.PrintWords Go.Proofs.YtknchioabngbiaaW.PrintLast Go.Proofs.YtknchioabngbiaaW.PrintMore
attribute [local go_sem] max2_int min2_int max_two min_two max_three min_three max_four min_four   -- for this text's walks alone
set_option linter.unusedVariables false
set_option linter.unusedSimpArgs false

attribute [local go_sem] Oper.semAt_some
/-! rows.piece.forms: all forms, by kinds and moves -/
def pairsTo (n kind k : Nat) : List (Nat × Nat) := (List.range kind).flatMap (fun q => (List.range n).map fun j => (q, j)) ++ (List.range k).map fun j => (kind, j)
def formPairs (n : Nat) : List (Nat × Nat) := pairsTo n 4 0
theorem pairsTo_next (n kind k : Nat) : pairsTo n kind k ++ [(kind, k)] = pairsTo n kind (k + 1) := by
  unfold pairsTo; rw [List.range_succ, List.map_append]; simp
theorem pairsTo_kind (n kind : Nat) : pairsTo n kind n = pairsTo n (kind + 1) 0 := by
  unfold pairsTo; rw [List.range_succ]; simp
theorem pairsTo_split {n kind k : Nat} (hk : k < n) : ∃ rest, pairsTo n (kind + 1) 0 = pairsTo n kind k ++ (kind, k) :: rest := by
  obtain ⟨r, hr⟩ : ∃ r, n = k + 1 + r := ⟨n - (k + 1), by omega⟩
  refine ⟨((List.range r).map fun j => (kind, k + 1 + j)), ?_⟩
  rw [← pairsTo_kind]
  unfold pairsTo
  rw [List.append_assoc]
  congr 1
  conv => lhs; rw [hr, List.range_add, List.map_append, List.range_succ, List.map_append, List.map_map]
  simp [Function.comp_def]
theorem formPairs_split {n kind k : Nat} (h4 : kind < 4) (hk : k < n) : ∃ rest, formPairs n = pairsTo n kind k ++ (kind, k) :: rest := by
  have up : ∀ d q, ∃ rest, pairsTo n (q + d) 0 = pairsTo n q 0 ++ rest := by
    intro d
    induction d with
    | zero => intro q; exact ⟨[], by simp⟩
    | succ d ih =>
      intro q
      obtain ⟨r, hr⟩ := ih q
      refine ⟨r ++ (List.range n).map fun j => (q + d, j), ?_⟩
      rw [← Nat.add_assoc, ← pairsTo_kind]
      have : pairsTo n (q + d) n = pairsTo n (q + d) 0 ++ (List.range n).map fun j => (q + d, j) := by unfold pairsTo; simp
      rw [this, hr, List.append_assoc]
  obtain ⟨r1, h1⟩ := pairsTo_split (kind := kind) hk
  obtain ⟨r2, h2⟩ := up (4 - (kind + 1)) (kind + 1)
  refine ⟨r1 ++ r2, ?_⟩
  unfold formPairs
  rw [show (4 : Nat) = kind + 1 + (4 - (kind + 1)) by omega, h2, h1]
  simp
def FormEnc (n : Int) (l : List Int) (x : Nat × Nat) (W : World) (vals : Array Value) : Prop :=
  ∃ A c, vals = #[.agg #[.int .i64 (x.1 : Int), .int .i64 (x.2 : Int), .slice A (formOf n x.1 x.2 l).length c]] ∧ Kd.C (Kd.int .i64) W A (formOf n x.1 x.2 l).length (formOf n x.1 x.2 l) ∧ (formOf n x.1 x.2 l).length ≤ c
set_option maxHeartbeats 4000000 in
set_option maxRecDepth 100000 in
theorem forms_seq (X : Nat → Obj → Prop) (n : Nat) (hn : 1 ≤ n) (hn2 : n ≤ 62) (A : Option Addr) (c : Nat) (xs : List Int) (hxl : xs.length < 1000) (hxr : ∀ x ∈ xs, 0 ≤ x ∧ x < 62) (hc : xs.length ≤ c) (w : World) (hX : ∀ b cs, X b (.cells cs 68) → b < w.heap.size)
    (hC : ∀ W, KpC X w W → Kd.C (Kd.int .i64) W A xs.length xs) :
    SeqFs Fence.wide 2 Try.prog 40 #[.agg #[.int .i64 (n : Int), .slice A xs.length c]] #[] (FormEnc n xs) (formPairs n) GrowSt (KpC X) w := by
  intro l J Jx W hW hJ hJx hY h0
  have HC := Aside0.mk hC
  have HN := Aside0.mk hn
  have HXX := Aside0.mk hX
  have HW := Aside0.mk hW
  have HXL := Aside0.mk hxl
  have HXR := Aside0.mk hxr
  have HCC := Aside0.mk hc
  have HN2 := Aside0.mk hn2
  clear hn hX hW hC hxl hxr hc hn2
  simp only [List.push_toArray, List.append_toArray, List.nil_append, List.cons_append]
  refine callsIn_of_wp Try.func40 rfl trivial ?_ rfl
  simp only [Try.ntmps40, List.size_toArray, List.length_cons, List.length_nil, Nat.reduceAdd, Nat.reduceSub, Array.replicate_succ, Array.replicate_zero, List.push_toArray, List.append_toArray, List.nil_append, List.cons_append]
  gi_wp2
  obtain ⟨PB, hPB⟩ : ∃ PB, PB = W.heap.size := ⟨_, rfl⟩
  obtain ⟨W0, hW0⟩ : ∃ W0, W.alloc (.cells #[.int .i64 (n : Int), .slice A xs.length c] 68) = W0 := ⟨_, rfl⟩
  rw [hW0, ← hPB]
  have b0 : W0.heap[PB]? = some (.cells #[.int .i64 (n : Int), .slice A xs.length c] 68) := by rw [← hW0, hPB]; exact World.alloc_heap_new W _
  have g0 : W.grownBy W0 none := by rw [← hW0]; exact World.grownBy_alloc W _ none
  have hwW : w.grownBy W none := grown_of_below HW.out none
  have k0 : KpC X w W0 := (KpC.of_grown hwW).trans (KpC.of_grown g0)
  have hXP : Aside0 (∀ cs, ¬ X PB (.cells cs 68)) := ⟨fun cs h => by have := HXX.out _ _ h; have := HW.out.size; omega⟩
  have HJ0 := Aside0.mk (hJ _ _ _ h0 g0)
  have B0 := Aside0.mk b0
  have K0 := Aside0.mk k0
  have HJ := Aside0.mk hJ
  have HY := Aside0.mk hY
  clear hW0 hPB b0 g0 hwW k0 hJ h0 hY hJx
  gi_loopw [6] (fun p wr => ∃ kind : Nat, p = .int .i64 (kind : Int) ∧ kind ≤ 4 ∧ Aside0 (J (pairsTo n kind 0) wr) ∧ Aside0 (KpC X w wr) ∧ Aside0 (wr.heap[PB]? = some (.cells #[.int .i64 (n : Int), .slice A xs.length c] 68)))
    (fun p wr => 4 - (intO p).toNat)
  case atStart => exact ⟨0, rfl, by omega, HJ0, K0, B0⟩
  case round =>
    clear HJ0 K0 B0
    obtain ⟨kind, rfl, h4, HJ1, K1, B0⟩ := hrel
    rcases Nat.lt_or_eq_of_le h4 with hlt | rfl
    · have hz : (kind : Int) < 4 := by omega
      have b0 := (two_cells B0.out).1
      have H4 := Aside0.mk hlt
      clear h4
      gi_wp2
      gi_loopw [11] (fun p wr => ∃ k : Nat, p = .int .i64 (k : Int) ∧ k ≤ n ∧ Aside0 (J (pairsTo n kind k) wr) ∧ Aside0 (KpC X w wr) ∧ Aside0 (wr.heap[PB]? = some (.cells #[.int .i64 (n : Int), .slice A xs.length c] 68)))
        (fun p wr => n - (intO p).toNat)
      case atStart => exact ⟨0, rfl, by omega, HJ1, K1, B0⟩
      case round =>
        clear HJ1 K1 B0 b0
        obtain ⟨k, rfl, hkn, HJ1, K1, B0⟩ := hrel
        rcases Nat.lt_or_eq_of_le hkn with hkl | rfl
        · have hkz : (k : Int) < (n : Int) := by omega
          have HKL := Aside0.mk hkl
          have b0 := (two_cells B0.out).1
          have b1 := (two_cells B0.out).2
          clear hkn

          obtain ⟨kf, hkf⟩ := Ev.rounds (g := fun q => rows_piece_form.f q (n : Int) xs kind k) (pieceForm_ev n HN.out HN2.out kind k (by omega) (by have := H4.out; omega) xs (by have := HXL.out; omega) HXR.out)
          have HF := Aside0.mk (rows_piece_form.calls kf (n : Int) A c xs kind k _ wr (HC.out wr K1.out) HCC.out hkf)
          obtain ⟨rest, hrest⟩ := formPairs_split (n := n) H4.out hkl
          have HRS := Aside0.mk hrest
          clear hrest hkf hkl
          gi_wp2_with (refine ⟨trivial, ?_⟩; gi_at_call 42; refine (callsIn_wide.2 HF.out).mono ?_; rintro e w2 ⟨v0, rfl, ho, hb⟩; obtain ⟨A2, c2, e2⟩ := Kd.R_slice ho; subst e2; have hg2 : GrowSt wr w2 := grown_of_below hb none; have K2 := Aside0.mk (K1.out.trans (KpC.of_grown hg2)); obtain ⟨fn, tmps, assign, body, hy, hR⟩ := HY.out (pairsTo n kind k) (kind, k) rest w2 _ HRS.out (HJ.out _ _ _ HJ1.out hg2) ⟨A2, c2, rfl, (Kd.R_reads' ho).2.2, (Kd.R_reads' ho).2.1⟩; have HRR := Aside0.mk hR; have B20 := Aside0.mk ((KpC.of_grown (X := X) hg2).2 _ _ (hXP.out _) B0.out rfl); clear hR ho hb hg2)
          refine HRR.out.mono ?_
          rintro e w3 (⟨rfl, hJ3, hk3⟩ | ⟨rfl, hJx3⟩)
          · have HJ3 := Aside0.mk hJ3
            have K3 := Aside0.mk (K2.out.trans hk3)
            have C30 := Aside0.mk (hk3.2 _ _ (hXP.out _) B20.out rfl)
            have hkw : wrap64 ((k : Int) + 1) = (k : Int) + 1 := wrap_id (by omega) (by have := HN2.out; omega)
            clear hJ3 hk3 hy
            gi_wp2
            go_roundw
            case rel => exact ⟨k + 1, by (try rw [hkw]); go_num, HKL.out, by rw [← pairsTo_next]; exact HJ3, K3, C30⟩
            case measure => exact intO_less hkw HKL.out
          · gi_wp2
            refine bodyPost_ret (results_none rfl _ _ _) rfl ?_
            exact ⟨⟨_, rfl⟩, .inr ⟨pairsTo n kind k ++ [(kind, k)], rest, by rw [HRS.out]; simp, hJx3⟩⟩
        · gi_wp2
          go_roundw
          case rel => exact ⟨kind + 1, by go_num, H4.out, by rw [← pairsTo_kind]; exact HJ1, K1, B0⟩
          case measure => exact intO_less (by go_num) H4.out
    · gi_wp2
      go_end0
      exact ⟨⟨_, rfl⟩, .inl HJ1.out⟩

end Go.Proofs.Ytknchioabngbiaa.P
namespace Go.Proofs.Ytknchioabngbiaa.P
open Go.RowKit Go.Proofs.YtknchioabngbiaaW.PrintWords Go.Proofs.YtknchioabngbiaaW.PrintLast Go.Proofs.YtknchioabngbiaaW.PrintMore
attribute [local go_sem] max2_int min2_int max_two min_two max_three min_three max_four min_four   -- for this text's walks alone
set_option linter.unusedVariables false
set_option linter.unusedSimpArgs false

/-! slices.Compare at rows of the same length -/
def cmpL : List Int → List Int → Int
  | [], _ => 0
  | _ :: _, [] => 1
  | x :: xs, y :: ys => if x < y then -1 else if x > y then 1 else cmpL xs ys
theorem cmp_f (x y : Int) : cmp_Compare_int.f x y = some (if x < y then -1 else if x > y then 1 else 0) := by
  unfold cmp_Compare_int.f cmp_isNaN_int.f
  simp only [bne_self_eq_false, Option.bind_some, Bool.false_eq_true, if_false]
  split
  · rfl
  · split <;> rfl
theorem Compare_loop (l0 l1 : List Int) (hlen : l0.length = l1.length) (hb : l0.length < 9223372036854775807) : ∀ (xs ys pre pre1 : List Int), l0 = pre ++ xs → l1 = pre1 ++ ys → pre.length = pre1.length →
    Ev (fun k => slices_Compare_int_int.l0 k l0 l1 l0 (l0.length : Int) (pre.length : Int)) (cmpL xs ys) := by
  intro xs
  induction xs with
  | nil =>
    intro ys pre pre1 h0 h1 hp
    refine Ev.succ ?_
    simp only [slices_Compare_int_int.l0, if_neg (mid_end h0), if_neg (show ¬ (l0.length : Int) < (l1.length : Int) by omega)]
    exact Ev.some 0
  | cons x xs ih =>
    intro ys pre pre1 h0 h1 hp
    cases ys with
    | nil => exfalso; have := congrArg List.length h0; have := congrArg List.length h1; simp at *; omega
    | cons y ys =>
      have r1 : rd l1 (pre.length : Int) = y := by rw [hp]; exact mid_rd h1
      have l1' : (pre.length : Int) < (l1.length : Int) := by rw [hp]; exact mid_lt h1
      refine Ev.succ ?_
      simp only [slices_Compare_int_int.l0, if_pos (mid_lt h0), if_pos (show (0 : Int) ≤ (pre.length : Int) by omega), if_pos l1', if_neg (show ¬ (pre.length : Int) ≥ (l1.length : Int) by omega), mid_rd h0, r1, mid_next h0 hb]
      refine Ev.bind_some (cmp_f x y) ?_
      have hi := ih ys (pre ++ [x]) (pre1 ++ [y]) (mid_mv h0) (mid_mv h1) (by simp [hp])
      unfold cmpL
      by_cases c1 : x < y
      · simp only [if_pos c1]
        exact Ev.some (-1)
      · simp only [if_neg c1]
        by_cases c2 : x > y
        · simp only [if_pos c2]
          exact Ev.some 1
        · simp only [if_neg c2, if_true]
          exact hi
theorem Compare_ev (l0 l1 : List Int) (hlen : l0.length = l1.length) (hb : l0.length < 9223372036854775807) : Ev (fun k => slices_Compare_int_int.f k l0 l1) (cmpL l0 l1) := by
  unfold slices_Compare_int_int.f
  exact Compare_loop l0 l1 hlen hb l0 l1 [] [] rfl rfl rfl
theorem cmpL_same : ∀ l : List Int, cmpL l l = 0
  | [] => rfl
  | x :: l => by unfold cmpL; rw [if_neg (by omega), if_neg (by omega)]; exact cmpL_same l
theorem cmpL_pre (x y : List Int) : ∀ p : List Int, cmpL (p ++ x) (p ++ y) = cmpL x y
  | [] => rfl
  | z :: p => by rw [List.cons_append, List.cons_append, cmpL, if_neg (by omega), if_neg (by omega)]; exact cmpL_pre x y p

end Go.Proofs.Ytknchioabngbiaa.P
namespace Go.Proofs.Ytknchioabngbiaa.P
open Go.RowKit Go.Proofs.YtknchioabngbiaaW.PrintWords Go.Proofs.YtknchioabngbiaaW.PrintLast Go.Proofs.YtknchioabngbiaaW.PrintMore
attribute [local go_sem] max2_int min2_int max_two min_two max_three min_three max_four min_four   -- for this text's walks alone
set_option linter.unusedVariables false
set_option linter.unusedSimpArgs false

/-! ### sackbutref05_mod: function 50 -/
def sackbutref05_mod.f (a0 : Int) (a1 : Int) : Option (Int) := if a1 = 0 then (none) else (some (Int.tmod (wrap64 ((Int.tmod a0 a1) + a1)) a1))
set_option maxHeartbeats 8000000 in
set_option maxRecDepth 100000 in
theorem sackbutref05_mod.calls (a0 : Int) (a1 : Int) (r : Int) (w : World) (h : sackbutref05_mod.f a0 a1 = some r) :
    Calls Try.prog 50 #[.int .i64 a0, .int .i64 a1] w fun e w' => e = .returned (.int .i64 r) ∧ Drawn0 w w' := by
  have H : (if a1 = 0 then (none) else (some (Int.tmod (wrap64 ((Int.tmod a0 a1) + a1)) a1))) = some r := h
  clear h
  by_cases c3 : a1 = 0
  · rw [if_pos c3] at H
    exact absurd H (by simp)
  · rw [if_neg c3] at H
    have c3b0 : (a1 == 0) = false := beq_eq_false_iff_ne.mpr c3
    have c3b1 : (a1 != 0) = true := bne_iff_ne.mpr c3
    obtain rfl := Option.some.inj H
    go_enter Try.func50, Try.ntmps50
    go_wp2
    go_ret
    exact ⟨by first | rfl | (simp; done) | (simp [*]; done), by repeat (first | exact Drawn0.refl _ | apply Drawn0.step)⟩

end Go.Proofs.Ytknchioabngbiaa.P
namespace Go.Proofs.Ytknchioabngbiaa.P
open Go.RowKit Go.Proofs.YtknchioabngbiaaW.PrintWords Go.Proofs.YtknchioabngbiaaW.PrintLast Go.Proofs.YtknchioabngbiaaW.PrintMore
attribute [local go_sem] max2_int min2_int max_two min_two max_three min_three max_four min_four   -- for this text's walks alone
set_option linter.unusedVariables false
set_option linter.unusedSimpArgs false

/-! ### sackbutref05_Form: function 25 -/
def sackbutref05_Form.l0 : Nat → List Int → Int → Int → Int → List Int → List Int → Int → Int → Option (List Int)
  | 0, _, _, _, _, _, _, _, _ => none
  | k + 1, x0, x1, x2, x3, x9, x19, x20, x21 => if x21 < x20 then (if 0 ≤ x21 then (if x21 < (x19.length : Int) then (if (Int.tmod x2 2) = 1 then (if x2 ≥ 2 then ((sackbutref05_mod.f (wrap64 ((wrap64 (-(rd x19 x21))) + x3)) x1).bind fun t1006 => (if 0 ≤ (wrap64 ((wrap64 ((x0.length : Int) - 1)) - x21)) then (if (wrap64 ((wrap64 ((x0.length : Int) - 1)) - x21)) < (x9.length : Int) then (sackbutref05_Form.l0 k x0 x1 x2 x3 (x9.set ((wrap64 ((wrap64 ((x0.length : Int) - 1)) - x21)) : Int).toNat t1006) x19 x20 (wrap64 (x21 + 1))) else (none)) else (none))) else ((sackbutref05_mod.f (wrap64 ((wrap64 (-(rd x19 x21))) + x3)) x1).bind fun t1008 => (if x21 < (x9.length : Int) then (sackbutref05_Form.l0 k x0 x1 x2 x3 (x9.set (x21 : Int).toNat t1008) x19 x20 (wrap64 (x21 + 1))) else (none)))) else (if x2 ≥ 2 then ((sackbutref05_mod.f (wrap64 ((rd x19 x21) + x3)) x1).bind fun t1010 => (if 0 ≤ (wrap64 ((wrap64 ((x0.length : Int) - 1)) - x21)) then (if (wrap64 ((wrap64 ((x0.length : Int) - 1)) - x21)) < (x9.length : Int) then (sackbutref05_Form.l0 k x0 x1 x2 x3 (x9.set ((wrap64 ((wrap64 ((x0.length : Int) - 1)) - x21)) : Int).toNat t1010) x19 x20 (wrap64 (x21 + 1))) else (none)) else (none))) else ((sackbutref05_mod.f (wrap64 ((rd x19 x21) + x3)) x1).bind fun t1012 => (if x21 < (x9.length : Int) then (sackbutref05_Form.l0 k x0 x1 x2 x3 (x9.set (x21 : Int).toNat t1012) x19 x20 (wrap64 (x21 + 1))) else (none))))) else (none)) else (none)) else (some x9)
def sackbutref05_Form.f (k : Nat) (l0 : List Int) (a1 : Int) (a2 : Int) (a3 : Int) : Option (List Int) := (sackbutref05_mod.f a3 a1).bind fun t1001 => (if 0 ≤ (l0.length : Int) then (if ((l0.length : Int) : Int).toNat ≤ 35184372088832 then (sackbutref05_Form.l0 k l0 a1 a2 t1001 (List.replicate ((l0.length : Int) : Int).toNat 0) l0 (l0.length : Int) 0) else (none)) else (none))
theorem sackbutref05_Form.mono_l : ∀ k, (∀ y0 y1 y2 y3 y4 y5 y6 y7, LeO (sackbutref05_Form.l0 k y0 y1 y2 y3 y4 y5 y6 y7) (sackbutref05_Form.l0 (k + 1) y0 y1 y2 y3 y4 y5 y6 y7))
  | 0 => fun _ _ _ _ _ _ _ _ r h => by simp [sackbutref05_Form.l0] at h
  | k + 1 => by
    have ih0 := sackbutref05_Form.mono_l k
    · intro y0 y1 y2 y3 y4 y5 y6 y7
      unfold sackbutref05_Form.l0
      repeat' first
      | (with_reducible exact ih0 _ _ _ _ _ _ _ _)
      | (with_reducible exact LeO.refl _)
      | (with_reducible exact LeO.none _)
      | (with_reducible refine LeO.ite ?_ ?_)
      | (with_reducible refine LeO.bind ?_ (fun _ => ?_))
      | exact ih0 _ _ _ _ _ _ _ _
      | exact LeO.none _
      | refine LeO.ite ?_ ?_
      | refine LeO.bind ?_ (fun _ => ?_)
theorem sackbutref05_Form.mono : ∀ a0 a1 a2 a3 k, LeO (sackbutref05_Form.f k a0 a1 a2 a3) (sackbutref05_Form.f (k + 1) a0 a1 a2 a3) := by
  intro a0 a1 a2 a3 k
  have ih0 := sackbutref05_Form.mono_l k
  unfold sackbutref05_Form.f
  repeat' first
      | (with_reducible exact ih0 _ _ _ _ _ _ _ _)
      | (with_reducible exact LeO.refl _)
      | (with_reducible exact LeO.none _)
      | (with_reducible refine LeO.ite ?_ ?_)
      | (with_reducible refine LeO.bind ?_ (fun _ => ?_))
      | exact ih0 _ _ _ _ _ _ _ _
      | exact LeO.none _
      | refine LeO.ite ?_ ?_
      | refine LeO.bind ?_ (fun _ => ?_)
set_option maxHeartbeats 8000000 in
set_option maxRecDepth 100000 in
theorem sackbutref05_Form.calls (k : Nat) (A0 : Option Addr) (c0 : Nat) (l0 : List Int) (a1 : Int) (a2 : Int) (a3 : Int) (r : List Int) (w : World) (hr0 : Kd.C (Kd.int .i64) w A0 l0.length l0) (hc0 : l0.length ≤ c0) (h : sackbutref05_Form.f k l0 a1 a2 a3 = some r) :
    Calls Try.prog 25 #[.slice A0 l0.length c0, .int .i64 a1, .int .i64 a2, .int .i64 a3] w fun e w' => ∃ v0_ : Value, e = .returned (v0_) ∧ Kd.R (Kd.int .i64) 3 w' w.heap.size (fun _ => True) v0_ r ∧ Below w.heap.size w w' := by
  have HR0 := Aside0.mk hr0
  have HC0 := Aside0.mk hc0
  clear hr0 hc0
  have HB := Aside0.mk (Below.refl w.heap.size w)
  have H : ((sackbutref05_mod.f a3 a1).bind fun t1001 => (if 0 ≤ (l0.length : Int) then (if ((l0.length : Int) : Int).toNat ≤ 35184372088832 then (sackbutref05_Form.l0 k l0 a1 a2 t1001 (List.replicate ((l0.length : Int) : Int).toNat 0) l0 (l0.length : Int) 0) else (none)) else (none))) = some r := h
  clear h
  replace H := Option.bind_eq_some_iff.mp H
  obtain ⟨t1001, A50, H⟩ := H
  replace H : (if 0 ≤ (l0.length : Int) then (if ((l0.length : Int) : Int).toNat ≤ 35184372088832 then (sackbutref05_Form.l0 k l0 a1 a2 t1001 (List.replicate ((l0.length : Int) : Int).toNat 0) l0 (l0.length : Int) 0) else (none)) else (none)) = some r := H
  have A5 := Aside0.mk A50
  clear A50
  by_cases c6 : 0 ≤ (l0.length : Int)
  · rw [if_pos c6] at H
    have c6b0 := eq_true c6
    have c6b1 : decide (0 ≤ (l0.length : Int)) = true := decide_eq_true c6
    clear c6
    by_cases c7 : ((l0.length : Int) : Int).toNat ≤ 35184372088832
    · rw [if_pos c7] at H
      have c7b0 := eq_true c7
      have c7b1 : decide (((l0.length : Int) : Int).toNat ≤ 35184372088832) = true := decide_eq_true c7
      clear c7
      obtain ⟨y1002, hy1002⟩ : ∃ y_ : List Int, y_ = (List.replicate ((l0.length : Int) : Int).toNat 0) := ⟨_, rfl⟩
      replace H : (sackbutref05_Form.l0 k l0 a1 a2 t1001 y1002 l0 (l0.length : Int) 0) = some r := by first | (rw [hy1002]; with_reducible exact H) | (have H2_ := (Option.bind_some _ _).symm.trans H; rw [hy1002]; with_reducible exact H2_) | (have H2_ := (Option.bind_some _ _).symm.trans H; with_reducible exact H2_) | with_reducible exact H | (rw [hy1002]; exact H) | exact H
      have Ny1002 := Aside0.mk hy1002
      clear hy1002
      have H' := Aside0.mk H
      clear H
      go_enter Try.func25, Try.ntmps25
      go_wp2_with (first | ((with_reducible refine gate_callee (f := 50) rfl ?_); refine goesL_ (some 15) rfl rfl Try.func50 (by kernel_rfl) rfl #[.int .i64 a3, .int .i64 a1] rfl (by (try simp only [List.map_toArray, List.map_cons, List.map_nil]); first | done | rfl | (simp only [List.length_drop, List.length_take]; rfl)) ?_; (with_reducible refine (sackbutref05_mod.calls a3 a1 t1001 _ A5.out).mono ?_); rintro e w' ⟨rfl, ⟨nd, rfl⟩⟩; refine ⟨_, rfl, ?_⟩) | ((with_reducible refine gate_dst (N := 18) rfl ?_); refine Kd.R_make (Kd.int .i64) _ 3 rfl (N := 18) rfl 27 _ _ rfl (l0.length : Int) rfl rfl Try.underlying27 (.int .i64 0) 8 info3 rfl (by decide) (by omega) 0 (ok := fun _ => True) (okp := fun _ => True) rfl (fun _ hk => hk) trivial (of_decide_eq_true (by first | (with_reducible assumption) | assumption)) (Nat.le_trans (Nat.mul_le_mul_right _ (of_decide_eq_true (by first | (with_reducible assumption) | assumption) : (l0.length : Int).toNat ≤ 35184372088832)) (by omega)) (Below.refl _ _) (Nat.le_refl _) ?_; intro v1003 w8 ho9 hb hg_ hnew_; clear hg_ hnew_; (first | rw [← Ny1002.out] at ho9 | (simp only [Int.reduceToNat] at ho9; rw [← Ny1002.out] at ho9)); have n0_ := Aside0.mk (Kd.R_lower ho9 (below_size (by repeat (first | (with_reducible first | exact HB.out | apply below_alloc | apply pw_below_drewN | apply below_drew1) | exact HB.out)))); have n1_ := Aside0.mk (below_step (by repeat (first | (with_reducible first | exact HB.out | apply below_alloc | apply pw_below_drewN | apply below_drew1) | exact HB.out)) hb); clear HB; have HO1004 := n0_; have HB := n1_; clear n0_ n1_; clear hb ho9))
      go_loopg [21] k (fun kq v21 w' => ∃ (x9_1 : List Int) (x21_1 : Int), v21 = .int .i64 x21_1 ∧ Aside0 (sackbutref05_Form.l0 kq l0 a1 a2 t1001 x9_1 l0 (l0.length : Int) x21_1 = some r) ∧ Aside0 (kq ≤ k) ∧ Aside0 (Kd.R (Kd.int .i64) 3 w' w.heap.size (fun _ => True) v1003 x9_1) ∧ Aside0 (Below w.heap.size w w'))
      case atStart => exact ⟨(y1002), (0), (by first | rfl | (simp; done) | (simp [*]; done)), H', ⟨Nat.le_refl _⟩, ⟨by (with_reducible repeat (first | apply Kd.R_alloc | apply Kd.R_drewN | apply Kd.R_drew)); exact HO1004.out⟩, ⟨by repeat (first | (with_reducible first | exact HB.out | apply below_alloc | apply pw_below_drewN | apply below_drew1) | exact HB.out)⟩⟩
      case round =>
        clear H'
        try clear c2
        try clear p2
        try clear c5
        try clear c6
        try clear c6b0
        try clear c6b1
        try clear c7
        try clear c7b0
        try clear c7b1
        obtain ⟨x9_1, x21_1, rfl, HA, HK1, HO_9, HB⟩ := hrel
        cases gk with
        | zero => exact absurd HA.out (by simp [sackbutref05_Form.l0])
        | succ k1 =>
          have H := HA.out
          clear HA
          simp only [sackbutref05_Form.l0] at H
          by_cases c10 : x21_1 < (l0.length : Int)
          · rw [if_pos c10] at H
            have c10b0 : decide (x21_1 < (l0.length : Int)) = true := decide_eq_true c10
            clear c10
            by_cases c11 : 0 ≤ x21_1
            · rw [if_pos c11] at H
              have c11b0 : decide (0 ≤ x21_1) = true := decide_eq_true c11
              clear c11
              by_cases c12 : x21_1 < (l0.length : Int)
              · rw [if_pos c12] at H
                have c12b0 : decide (x21_1 < (l0.length : Int)) = true := decide_eq_true c12
                clear c12
                by_cases c13 : (Int.tmod a2 2) = 1
                · rw [if_pos c13] at H
                  have c13b0 : ((Int.tmod a2 2) == 1) = true := beq_iff_eq.mpr c13
                  have c13b1 : ((Int.tmod a2 2) != 1) = false := bne_eq_false_iff_eq.mpr c13
                  clear c13
                  by_cases c14 : a2 ≥ 2
                  · rw [if_pos c14] at H
                    have c14b0 : decide (2 ≤ a2) = true := decide_eq_true c14
                    clear c14
                    replace H := Option.bind_eq_some_iff.mp H
                    obtain ⟨t1006, A150, H⟩ := H
                    replace H : (if 0 ≤ (wrap64 ((wrap64 ((l0.length : Int) - 1)) - x21_1)) then (if (wrap64 ((wrap64 ((l0.length : Int) - 1)) - x21_1)) < (x9_1.length : Int) then (sackbutref05_Form.l0 k1 l0 a1 a2 t1001 (x9_1.set ((wrap64 ((wrap64 ((l0.length : Int) - 1)) - x21_1)) : Int).toNat t1006) l0 (l0.length : Int) (wrap64 (x21_1 + 1))) else (none)) else (none)) = some r := H
                    have A15 := Aside0.mk A150
                    clear A150
                    obtain ⟨ji16, hji16⟩ : ∃ j_ : Int, (wrap64 ((wrap64 ((l0.length : Int) - 1)) - x21_1)) = j_ := ⟨_, rfl⟩
                    replace H : (if 0 ≤ (ji16) then (if (ji16) < (x9_1.length : Int) then (sackbutref05_Form.l0 k1 l0 a1 a2 t1001 (x9_1.set ((ji16) : Int).toNat t1006) l0 (l0.length : Int) (wrap64 (x21_1 + 1))) else (none)) else (none)) = some r := by first | (rw [hji16] at H; exact H) | (simp only [hji16] at H ⊢; exact H)
                    (try rw [hji16] at A15)
                    have hji16w : (IntKind.i64.wrap ((wrap64 ((l0.length : Int) - 1)) - x21_1)) = ji16 := (i64_w _).trans hji16
                    by_cases c17 : 0 ≤ (ji16)
                    · rw [if_pos c17] at H
                      have c17b0 : decide (0 ≤ (ji16)) = true := decide_eq_true c17
                      clear c17
                      by_cases c18 : (ji16) < (x9_1.length : Int)
                      · rw [if_pos c18] at H
                        have c18b0 : decide ((ji16) < (x9_1.length : Int)) = true := decide_eq_true c18
                        clear c18
                        obtain ⟨y1007, hy1007⟩ : ∃ y_ : List Int, y_ = (x9_1.set ((ji16) : Int).toNat t1006) := ⟨_, rfl⟩
                        replace H : (sackbutref05_Form.l0 k1 l0 a1 a2 t1001 y1007 l0 (l0.length : Int) (wrap64 (x21_1 + 1))) = some r := by first | (rw [hy1007]; with_reducible exact H) | (have H2_ := (Option.bind_some _ _).symm.trans H; rw [hy1007]; with_reducible exact H2_) | (have H2_ := (Option.bind_some _ _).symm.trans H; with_reducible exact H2_) | with_reducible exact H | (rw [hy1007]; exact H) | exact H
                        have Ny1007 := Aside0.mk hy1007
                        clear hy1007
                        have H' := Aside0.mk H
                        clear H
                        have p1005 : 0 ≤ (x21_1 : Int) := of_decide_eq_true (by first | (with_reducible assumption) | assumption)
                        have q1005 : x21_1 < (l0.length : Int) := of_decide_eq_true (by first | (with_reducible assumption) | assumption)
                        obtain ⟨ad1005, e1005, hx1005_0⟩ := Kd.at_int HR0.out x21_1 p1005 q1005
                        cases e1005
                        replace hx1005_0 := (HB.out.cell (World.block_lt_of_cell? w _ hx1005_0)).trans hx1005_0
                        replace p1005 := eq_true p1005
                        replace q1005 := eq_true q1005
                        go_wp2_with (first | ((with_reducible refine gate_callee (f := 50) rfl ?_); refine goesL_ (some 45) rfl rfl Try.func50 (by kernel_rfl) rfl #[.int .i64 (wrap64 ((wrap64 (-(rd l0 x21_1))) + t1001)), .int .i64 a1] rfl (by (try simp only [List.map_toArray, List.map_cons, List.map_nil]); first | done | rfl | (simp only [List.length_drop, List.length_take]; rfl)) ?_; (with_reducible refine (sackbutref05_mod.calls (wrap64 ((wrap64 (-(rd l0 x21_1))) + t1001)) a1 t1006 _ A15.out).mono ?_); rintro e w' ⟨rfl, ⟨nd, rfl⟩⟩; refine ⟨_, rfl, ?_⟩; (try (rw [drewN_self wr]; generalize hq_ : World.drewN wr _ = wr; have n0_ : Aside0 (Kd.R (Kd.int .i64) 3 wr w.heap.size (fun _ => True) v1003 x9_1) := ⟨by rw [← hq_]; exact (by (with_reducible repeat (first | apply Kd.R_alloc | apply Kd.R_drewN | apply Kd.R_drew)); exact HO_9.out)⟩; have n1_ : Aside0 (Below w.heap.size w wr) := ⟨by rw [← hq_]; exact (by repeat (first | (with_reducible first | exact HB.out | apply below_alloc | apply pw_below_drewN | apply below_drew1) | exact HB.out))⟩; clear HO_9 HB hq_; have HO_9 := n0_; have HB := n1_; clear n0_ n1_)); have p19 : 0 ≤ ((ji16) : Int) := of_decide_eq_true (by first | (with_reducible assumption) | assumption); have q19 : ((ji16) : Int) < ((x9_1.length : Int) : Int) := of_decide_eq_true (by first | (with_reducible assumption) | assumption); obtain ⟨go19, co19, eo19, gb19, gl19, cl19, HG19⟩ := Kd.R_form HO_9.out (by omega); (first | cases eo19 | (injection eo19 with ea_ en_ ec_; (first | subst ea_ | (injection ea_ with ea_; subst ea_)); subst ec_; clear en_)); have GB19 := Aside0.mk gb19; have GG19 := Aside0.mk HG19; clear gb19 gl19 HG19; obtain ⟨hx19_0, hf19_0⟩ := Kd.R_celln 0 HO_9.out ((ji16) : Int) p19 q19; replace p19 := eq_true p19; replace q19 := eq_true q19; obtain ⟨hy20_, hz20_⟩ := Kd.R_celln 0 HO_9.out ((ji16) : Int) (of_decide_eq_true (by first | (with_reducible assumption) | assumption)) (of_decide_eq_true (by first | (with_reducible assumption) | assumption)); have HP20 := Kd.R_putg HO_9.out ((ji16) : Int) t1006) | ((with_reducible refine gate_store (t := 3) (p := 46) rfl ?_); refine store_event (t := 3) (p := 46) (v := ?vo_w21) (w1 := (wr.setCell ⟨go19, ((ji16) : Int).toNat, none⟩ (.int .i64 t1006))) ?hg ?ho ?hn ?hr ?_; (case ho => rfl); (case hg => rfl); (case hn => rfl); (case hr => first | (go_simp; done) | (go_simp; rfl)); intro w21 hw; have hg : wr.grownBy w21 (some go19) := (by rw [hw]; exact HP20.2); have hp_ : Kd.R (Kd.int .i64) 3 w21 w.heap.size (fun _ => True) (.slice (some ⟨go19, 0, none⟩) x9_1.length co19) y1007 := (by rw [hw, Ny1007.out]; exact HP20.1); clear HP20; have n0_ := Aside0.mk (hp_); have n1_ := Aside0.mk ((by rw [hw]; exact below_set (HB.out) GB19.out : Below w.heap.size w w21)); clear HO_9; clear HB; have HO_9 := n0_; have HB := n1_; clear n0_ n1_; clear hg hw hp_))
                        go_roundg k1
                        case measure => have := HK1.out; omega
                        case rel => exact ⟨(y1007), (wrap64 (x21_1 + 1)), (by first | rfl | (simp; done) | (simp [*]; done)), H', ⟨by have := HK1.out; omega⟩, ⟨by (with_reducible repeat (first | apply Kd.R_alloc | apply Kd.R_drewN | apply Kd.R_drew)); exact HO_9.out⟩, ⟨by repeat (first | (with_reducible first | exact HB.out | apply below_alloc | apply pw_below_drewN | apply below_drew1) | exact HB.out)⟩⟩
                      · rw [if_neg c18] at H
                        exact absurd H (by simp)
                    · rw [if_neg c17] at H
                      exact absurd H (by simp)
                  · rw [if_neg c14] at H
                    have c14b0 : decide (2 ≤ a2) = false := decide_eq_false c14
                    clear c14
                    replace H := Option.bind_eq_some_iff.mp H
                    obtain ⟨t1008, A220, H⟩ := H
                    replace H : (if x21_1 < (x9_1.length : Int) then (sackbutref05_Form.l0 k1 l0 a1 a2 t1001 (x9_1.set (x21_1 : Int).toNat t1008) l0 (l0.length : Int) (wrap64 (x21_1 + 1))) else (none)) = some r := H
                    have A22 := Aside0.mk A220
                    clear A220
                    by_cases c23 : x21_1 < (x9_1.length : Int)
                    · rw [if_pos c23] at H
                      have c23b0 : decide (x21_1 < (x9_1.length : Int)) = true := decide_eq_true c23
                      clear c23
                      obtain ⟨y1009, hy1009⟩ : ∃ y_ : List Int, y_ = (x9_1.set (x21_1 : Int).toNat t1008) := ⟨_, rfl⟩
                      replace H : (sackbutref05_Form.l0 k1 l0 a1 a2 t1001 y1009 l0 (l0.length : Int) (wrap64 (x21_1 + 1))) = some r := by first | (rw [hy1009]; with_reducible exact H) | (have H2_ := (Option.bind_some _ _).symm.trans H; rw [hy1009]; with_reducible exact H2_) | (have H2_ := (Option.bind_some _ _).symm.trans H; with_reducible exact H2_) | with_reducible exact H | (rw [hy1009]; exact H) | exact H
                      have Ny1009 := Aside0.mk hy1009
                      clear hy1009
                      have H' := Aside0.mk H
                      clear H
                      have p1005 : 0 ≤ (x21_1 : Int) := of_decide_eq_true (by first | (with_reducible assumption) | assumption)
                      have q1005 : x21_1 < (l0.length : Int) := of_decide_eq_true (by first | (with_reducible assumption) | assumption)
                      obtain ⟨ad1005, e1005, hx1005_0⟩ := Kd.at_int HR0.out x21_1 p1005 q1005
                      cases e1005
                      replace hx1005_0 := (HB.out.cell (World.block_lt_of_cell? w _ hx1005_0)).trans hx1005_0
                      replace p1005 := eq_true p1005
                      replace q1005 := eq_true q1005
                      go_wp2_with (first | ((with_reducible refine gate_callee (f := 50) rfl ?_); refine goesL_ (some 45) rfl rfl Try.func50 (by kernel_rfl) rfl #[.int .i64 (wrap64 ((wrap64 (-(rd l0 x21_1))) + t1001)), .int .i64 a1] rfl (by (try simp only [List.map_toArray, List.map_cons, List.map_nil]); first | done | rfl | (simp only [List.length_drop, List.length_take]; rfl)) ?_; (with_reducible refine (sackbutref05_mod.calls (wrap64 ((wrap64 (-(rd l0 x21_1))) + t1001)) a1 t1008 _ A22.out).mono ?_); rintro e w' ⟨rfl, ⟨nd, rfl⟩⟩; refine ⟨_, rfl, ?_⟩; (try (rw [drewN_self wr]; generalize hq_ : World.drewN wr _ = wr; have n0_ : Aside0 (Kd.R (Kd.int .i64) 3 wr w.heap.size (fun _ => True) v1003 x9_1) := ⟨by rw [← hq_]; exact (by (with_reducible repeat (first | apply Kd.R_alloc | apply Kd.R_drewN | apply Kd.R_drew)); exact HO_9.out)⟩; have n1_ : Aside0 (Below w.heap.size w wr) := ⟨by rw [← hq_]; exact (by repeat (first | (with_reducible first | exact HB.out | apply below_alloc | apply pw_below_drewN | apply below_drew1) | exact HB.out))⟩; clear HO_9 HB hq_; have HO_9 := n0_; have HB := n1_; clear n0_ n1_)); have p24 : 0 ≤ (x21_1 : Int) := of_decide_eq_true (by first | (with_reducible assumption) | assumption); have q24 : (x21_1 : Int) < ((x9_1.length : Int) : Int) := of_decide_eq_true (by first | (with_reducible assumption) | assumption); obtain ⟨go24, co24, eo24, gb24, gl24, cl24, HG24⟩ := Kd.R_form HO_9.out (by omega); (first | cases eo24 | (injection eo24 with ea_ en_ ec_; (first | subst ea_ | (injection ea_ with ea_; subst ea_)); subst ec_; clear en_)); have GB24 := Aside0.mk gb24; have GG24 := Aside0.mk HG24; clear gb24 gl24 HG24; obtain ⟨hx24_0, hf24_0⟩ := Kd.R_celln 0 HO_9.out (x21_1 : Int) p24 q24; replace p24 := eq_true p24; replace q24 := eq_true q24; obtain ⟨hy25_, hz25_⟩ := Kd.R_celln 0 HO_9.out (x21_1 : Int) (of_decide_eq_true (by first | (with_reducible assumption) | assumption)) (of_decide_eq_true (by first | (with_reducible assumption) | assumption)); have HP25 := Kd.R_putg HO_9.out (x21_1 : Int) t1008) | ((with_reducible refine gate_store (t := 3) (p := 46) rfl ?_); refine store_event (t := 3) (p := 46) (v := ?vo_w26) (w1 := (wr.setCell ⟨go24, (x21_1 : Int).toNat, none⟩ (.int .i64 t1008))) ?hg ?ho ?hn ?hr ?_; (case ho => rfl); (case hg => rfl); (case hn => rfl); (case hr => first | (go_simp; done) | (go_simp; rfl)); intro w26 hw; have hg : wr.grownBy w26 (some go24) := (by rw [hw]; exact HP25.2); have hp_ : Kd.R (Kd.int .i64) 3 w26 w.heap.size (fun _ => True) (.slice (some ⟨go24, 0, none⟩) x9_1.length co24) y1009 := (by rw [hw, Ny1009.out]; exact HP25.1); clear HP25; have n0_ := Aside0.mk (hp_); have n1_ := Aside0.mk ((by rw [hw]; exact below_set (HB.out) GB24.out : Below w.heap.size w w26)); clear HO_9; clear HB; have HO_9 := n0_; have HB := n1_; clear n0_ n1_; clear hg hw hp_))
                      go_roundg k1
                      case measure => have := HK1.out; omega
                      case rel => exact ⟨(y1009), (wrap64 (x21_1 + 1)), (by first | rfl | (simp; done) | (simp [*]; done)), H', ⟨by have := HK1.out; omega⟩, ⟨by (with_reducible repeat (first | apply Kd.R_alloc | apply Kd.R_drewN | apply Kd.R_drew)); exact HO_9.out⟩, ⟨by repeat (first | (with_reducible first | exact HB.out | apply below_alloc | apply pw_below_drewN | apply below_drew1) | exact HB.out)⟩⟩
                    · rw [if_neg c23] at H
                      exact absurd H (by simp)
                · rw [if_neg c13] at H
                  have c13b0 : ((Int.tmod a2 2) == 1) = false := beq_eq_false_iff_ne.mpr c13
                  have c13b1 : ((Int.tmod a2 2) != 1) = true := bne_iff_ne.mpr c13
                  by_cases c27 : a2 ≥ 2
                  · rw [if_pos c27] at H
                    have c27b0 : decide (2 ≤ a2) = true := decide_eq_true c27
                    clear c27
                    replace H := Option.bind_eq_some_iff.mp H
                    obtain ⟨t1010, A280, H⟩ := H
                    replace H : (if 0 ≤ (wrap64 ((wrap64 ((l0.length : Int) - 1)) - x21_1)) then (if (wrap64 ((wrap64 ((l0.length : Int) - 1)) - x21_1)) < (x9_1.length : Int) then (sackbutref05_Form.l0 k1 l0 a1 a2 t1001 (x9_1.set ((wrap64 ((wrap64 ((l0.length : Int) - 1)) - x21_1)) : Int).toNat t1010) l0 (l0.length : Int) (wrap64 (x21_1 + 1))) else (none)) else (none)) = some r := H
                    have A28 := Aside0.mk A280
                    clear A280
                    obtain ⟨ji29, hji29⟩ : ∃ j_ : Int, (wrap64 ((wrap64 ((l0.length : Int) - 1)) - x21_1)) = j_ := ⟨_, rfl⟩
                    replace H : (if 0 ≤ (ji29) then (if (ji29) < (x9_1.length : Int) then (sackbutref05_Form.l0 k1 l0 a1 a2 t1001 (x9_1.set ((ji29) : Int).toNat t1010) l0 (l0.length : Int) (wrap64 (x21_1 + 1))) else (none)) else (none)) = some r := by first | (rw [hji29] at H; exact H) | (simp only [hji29] at H ⊢; exact H)
                    (try rw [hji29] at A28)
                    have hji29w : (IntKind.i64.wrap ((wrap64 ((l0.length : Int) - 1)) - x21_1)) = ji29 := (i64_w _).trans hji29
                    by_cases c30 : 0 ≤ (ji29)
                    · rw [if_pos c30] at H
                      have c30b0 : decide (0 ≤ (ji29)) = true := decide_eq_true c30
                      clear c30
                      by_cases c31 : (ji29) < (x9_1.length : Int)
                      · rw [if_pos c31] at H
                        have c31b0 : decide ((ji29) < (x9_1.length : Int)) = true := decide_eq_true c31
                        clear c31
                        obtain ⟨y1011, hy1011⟩ : ∃ y_ : List Int, y_ = (x9_1.set ((ji29) : Int).toNat t1010) := ⟨_, rfl⟩
                        replace H : (sackbutref05_Form.l0 k1 l0 a1 a2 t1001 y1011 l0 (l0.length : Int) (wrap64 (x21_1 + 1))) = some r := by first | (rw [hy1011]; with_reducible exact H) | (have H2_ := (Option.bind_some _ _).symm.trans H; rw [hy1011]; with_reducible exact H2_) | (have H2_ := (Option.bind_some _ _).symm.trans H; with_reducible exact H2_) | with_reducible exact H | (rw [hy1011]; exact H) | exact H
                        have Ny1011 := Aside0.mk hy1011
                        clear hy1011
                        have H' := Aside0.mk H
                        clear H
                        have p1005 : 0 ≤ (x21_1 : Int) := of_decide_eq_true (by first | (with_reducible assumption) | assumption)
                        have q1005 : x21_1 < (l0.length : Int) := of_decide_eq_true (by first | (with_reducible assumption) | assumption)
                        obtain ⟨ad1005, e1005, hx1005_0⟩ := Kd.at_int HR0.out x21_1 p1005 q1005
                        cases e1005
                        replace hx1005_0 := (HB.out.cell (World.block_lt_of_cell? w _ hx1005_0)).trans hx1005_0
                        replace p1005 := eq_true p1005
                        replace q1005 := eq_true q1005
                        go_wp2_with (first | ((with_reducible refine gate_callee (f := 50) rfl ?_); refine goesL_ (some 45) rfl rfl Try.func50 (by kernel_rfl) rfl #[.int .i64 (wrap64 ((rd l0 x21_1) + t1001)), .int .i64 a1] rfl (by (try simp only [List.map_toArray, List.map_cons, List.map_nil]); first | done | rfl | (simp only [List.length_drop, List.length_take]; rfl)) ?_; (with_reducible refine (sackbutref05_mod.calls (wrap64 ((rd l0 x21_1) + t1001)) a1 t1010 _ A28.out).mono ?_); rintro e w' ⟨rfl, ⟨nd, rfl⟩⟩; refine ⟨_, rfl, ?_⟩; (try (rw [drewN_self wr]; generalize hq_ : World.drewN wr _ = wr; have n0_ : Aside0 (Kd.R (Kd.int .i64) 3 wr w.heap.size (fun _ => True) v1003 x9_1) := ⟨by rw [← hq_]; exact (by (with_reducible repeat (first | apply Kd.R_alloc | apply Kd.R_drewN | apply Kd.R_drew)); exact HO_9.out)⟩; have n1_ : Aside0 (Below w.heap.size w wr) := ⟨by rw [← hq_]; exact (by repeat (first | (with_reducible first | exact HB.out | apply below_alloc | apply pw_below_drewN | apply below_drew1) | exact HB.out))⟩; clear HO_9 HB hq_; have HO_9 := n0_; have HB := n1_; clear n0_ n1_)); have p32 : 0 ≤ ((ji29) : Int) := of_decide_eq_true (by first | (with_reducible assumption) | assumption); have q32 : ((ji29) : Int) < ((x9_1.length : Int) : Int) := of_decide_eq_true (by first | (with_reducible assumption) | assumption); obtain ⟨go32, co32, eo32, gb32, gl32, cl32, HG32⟩ := Kd.R_form HO_9.out (by omega); (first | cases eo32 | (injection eo32 with ea_ en_ ec_; (first | subst ea_ | (injection ea_ with ea_; subst ea_)); subst ec_; clear en_)); have GB32 := Aside0.mk gb32; have GG32 := Aside0.mk HG32; clear gb32 gl32 HG32; obtain ⟨hx32_0, hf32_0⟩ := Kd.R_celln 0 HO_9.out ((ji29) : Int) p32 q32; replace p32 := eq_true p32; replace q32 := eq_true q32; obtain ⟨hy33_, hz33_⟩ := Kd.R_celln 0 HO_9.out ((ji29) : Int) (of_decide_eq_true (by first | (with_reducible assumption) | assumption)) (of_decide_eq_true (by first | (with_reducible assumption) | assumption)); have HP33 := Kd.R_putg HO_9.out ((ji29) : Int) t1010) | ((with_reducible refine gate_store (t := 3) (p := 46) rfl ?_); refine store_event (t := 3) (p := 46) (v := ?vo_w34) (w1 := (wr.setCell ⟨go32, ((ji29) : Int).toNat, none⟩ (.int .i64 t1010))) ?hg ?ho ?hn ?hr ?_; (case ho => rfl); (case hg => rfl); (case hn => rfl); (case hr => first | (go_simp; done) | (go_simp; rfl)); intro w34 hw; have hg : wr.grownBy w34 (some go32) := (by rw [hw]; exact HP33.2); have hp_ : Kd.R (Kd.int .i64) 3 w34 w.heap.size (fun _ => True) (.slice (some ⟨go32, 0, none⟩) x9_1.length co32) y1011 := (by rw [hw, Ny1011.out]; exact HP33.1); clear HP33; have n0_ := Aside0.mk (hp_); have n1_ := Aside0.mk ((by rw [hw]; exact below_set (HB.out) GB32.out : Below w.heap.size w w34)); clear HO_9; clear HB; have HO_9 := n0_; have HB := n1_; clear n0_ n1_; clear hg hw hp_))
                        go_roundg k1
                        case measure => have := HK1.out; omega
                        case rel => exact ⟨(y1011), (wrap64 (x21_1 + 1)), (by first | rfl | (simp; done) | (simp [*]; done)), H', ⟨by have := HK1.out; omega⟩, ⟨by (with_reducible repeat (first | apply Kd.R_alloc | apply Kd.R_drewN | apply Kd.R_drew)); exact HO_9.out⟩, ⟨by repeat (first | (with_reducible first | exact HB.out | apply below_alloc | apply pw_below_drewN | apply below_drew1) | exact HB.out)⟩⟩
                      · rw [if_neg c31] at H
                        exact absurd H (by simp)
                    · rw [if_neg c30] at H
                      exact absurd H (by simp)
                  · rw [if_neg c27] at H
                    have c27b0 : decide (2 ≤ a2) = false := decide_eq_false c27
                    clear c27
                    replace H := Option.bind_eq_some_iff.mp H
                    obtain ⟨t1012, A350, H⟩ := H
                    replace H : (if x21_1 < (x9_1.length : Int) then (sackbutref05_Form.l0 k1 l0 a1 a2 t1001 (x9_1.set (x21_1 : Int).toNat t1012) l0 (l0.length : Int) (wrap64 (x21_1 + 1))) else (none)) = some r := H
                    have A35 := Aside0.mk A350
                    clear A350
                    by_cases c36 : x21_1 < (x9_1.length : Int)
                    · rw [if_pos c36] at H
                      have c36b0 : decide (x21_1 < (x9_1.length : Int)) = true := decide_eq_true c36
                      clear c36
                      obtain ⟨y1013, hy1013⟩ : ∃ y_ : List Int, y_ = (x9_1.set (x21_1 : Int).toNat t1012) := ⟨_, rfl⟩
                      replace H : (sackbutref05_Form.l0 k1 l0 a1 a2 t1001 y1013 l0 (l0.length : Int) (wrap64 (x21_1 + 1))) = some r := by first | (rw [hy1013]; with_reducible exact H) | (have H2_ := (Option.bind_some _ _).symm.trans H; rw [hy1013]; with_reducible exact H2_) | (have H2_ := (Option.bind_some _ _).symm.trans H; with_reducible exact H2_) | with_reducible exact H | (rw [hy1013]; exact H) | exact H
                      have Ny1013 := Aside0.mk hy1013
                      clear hy1013
                      have H' := Aside0.mk H
                      clear H
                      have p1005 : 0 ≤ (x21_1 : Int) := of_decide_eq_true (by first | (with_reducible assumption) | assumption)
                      have q1005 : x21_1 < (l0.length : Int) := of_decide_eq_true (by first | (with_reducible assumption) | assumption)
                      obtain ⟨ad1005, e1005, hx1005_0⟩ := Kd.at_int HR0.out x21_1 p1005 q1005
                      cases e1005
                      replace hx1005_0 := (HB.out.cell (World.block_lt_of_cell? w _ hx1005_0)).trans hx1005_0
                      replace p1005 := eq_true p1005
                      replace q1005 := eq_true q1005
                      go_wp2_with (first | ((with_reducible refine gate_callee (f := 50) rfl ?_); refine goesL_ (some 45) rfl rfl Try.func50 (by kernel_rfl) rfl #[.int .i64 (wrap64 ((rd l0 x21_1) + t1001)), .int .i64 a1] rfl (by (try simp only [List.map_toArray, List.map_cons, List.map_nil]); first | done | rfl | (simp only [List.length_drop, List.length_take]; rfl)) ?_; (with_reducible refine (sackbutref05_mod.calls (wrap64 ((rd l0 x21_1) + t1001)) a1 t1012 _ A35.out).mono ?_); rintro e w' ⟨rfl, ⟨nd, rfl⟩⟩; refine ⟨_, rfl, ?_⟩; (try (rw [drewN_self wr]; generalize hq_ : World.drewN wr _ = wr; have n0_ : Aside0 (Kd.R (Kd.int .i64) 3 wr w.heap.size (fun _ => True) v1003 x9_1) := ⟨by rw [← hq_]; exact (by (with_reducible repeat (first | apply Kd.R_alloc | apply Kd.R_drewN | apply Kd.R_drew)); exact HO_9.out)⟩; have n1_ : Aside0 (Below w.heap.size w wr) := ⟨by rw [← hq_]; exact (by repeat (first | (with_reducible first | exact HB.out | apply below_alloc | apply pw_below_drewN | apply below_drew1) | exact HB.out))⟩; clear HO_9 HB hq_; have HO_9 := n0_; have HB := n1_; clear n0_ n1_)); have p37 : 0 ≤ (x21_1 : Int) := of_decide_eq_true (by first | (with_reducible assumption) | assumption); have q37 : (x21_1 : Int) < ((x9_1.length : Int) : Int) := of_decide_eq_true (by first | (with_reducible assumption) | assumption); obtain ⟨go37, co37, eo37, gb37, gl37, cl37, HG37⟩ := Kd.R_form HO_9.out (by omega); (first | cases eo37 | (injection eo37 with ea_ en_ ec_; (first | subst ea_ | (injection ea_ with ea_; subst ea_)); subst ec_; clear en_)); have GB37 := Aside0.mk gb37; have GG37 := Aside0.mk HG37; clear gb37 gl37 HG37; obtain ⟨hx37_0, hf37_0⟩ := Kd.R_celln 0 HO_9.out (x21_1 : Int) p37 q37; replace p37 := eq_true p37; replace q37 := eq_true q37; obtain ⟨hy38_, hz38_⟩ := Kd.R_celln 0 HO_9.out (x21_1 : Int) (of_decide_eq_true (by first | (with_reducible assumption) | assumption)) (of_decide_eq_true (by first | (with_reducible assumption) | assumption)); have HP38 := Kd.R_putg HO_9.out (x21_1 : Int) t1012) | ((with_reducible refine gate_store (t := 3) (p := 46) rfl ?_); refine store_event (t := 3) (p := 46) (v := ?vo_w39) (w1 := (wr.setCell ⟨go37, (x21_1 : Int).toNat, none⟩ (.int .i64 t1012))) ?hg ?ho ?hn ?hr ?_; (case ho => rfl); (case hg => rfl); (case hn => rfl); (case hr => first | (go_simp; done) | (go_simp; rfl)); intro w39 hw; have hg : wr.grownBy w39 (some go37) := (by rw [hw]; exact HP38.2); have hp_ : Kd.R (Kd.int .i64) 3 w39 w.heap.size (fun _ => True) (.slice (some ⟨go37, 0, none⟩) x9_1.length co37) y1013 := (by rw [hw, Ny1013.out]; exact HP38.1); clear HP38; have n0_ := Aside0.mk (hp_); have n1_ := Aside0.mk ((by rw [hw]; exact below_set (HB.out) GB37.out : Below w.heap.size w w39)); clear HO_9; clear HB; have HO_9 := n0_; have HB := n1_; clear n0_ n1_; clear hg hw hp_))
                      go_roundg k1
                      case measure => have := HK1.out; omega
                      case rel => exact ⟨(y1013), (wrap64 (x21_1 + 1)), (by first | rfl | (simp; done) | (simp [*]; done)), H', ⟨by have := HK1.out; omega⟩, ⟨by (with_reducible repeat (first | apply Kd.R_alloc | apply Kd.R_drewN | apply Kd.R_drew)); exact HO_9.out⟩, ⟨by repeat (first | (with_reducible first | exact HB.out | apply below_alloc | apply pw_below_drewN | apply below_drew1) | exact HB.out)⟩⟩
                    · rw [if_neg c36] at H
                      exact absurd H (by simp)
              · rw [if_neg c12] at H
                exact absurd H (by simp)
            · rw [if_neg c11] at H
              exact absurd H (by simp)
          · rw [if_neg c10] at H
            have c10b0 : decide (x21_1 < (l0.length : Int)) = false := decide_eq_false c10
            clear c10
            obtain rfl := Option.some.inj H
            go_wp2
            go_ret
            exact ⟨_, by first | rfl | (simp [errW_none, errW_some] <;> rfl) | (simp [*, errW_none, errW_some] <;> rfl), by (with_reducible repeat (first | apply Kd.R_alloc | apply Kd.R_drewN | apply Kd.R_drew)); exact HO_9.out, by repeat (first | (with_reducible first | exact HB.out | apply below_alloc | apply pw_below_drewN | apply below_drew1) | exact HB.out)⟩
    · rw [if_neg c7] at H
      exact absurd H (by simp)
  · rw [if_neg c6] at H
    exact absurd H (by simp)

end Go.Proofs.Ytknchioabngbiaa.P
namespace Go.Proofs.Ytknchioabngbiaa.P
open Go.RowKit Go.Proofs.YtknchioabngbiaaW.PrintWords Go.Proofs.YtknchioabngbiaaW.PrintLast Go.Proofs.YtknchioabngbiaaW.PrintMore
attribute [local go_sem] max2_int min2_int max_two min_two max_three min_three max_four min_four   -- for this text's walks alone
set_option linter.unusedVariables false
set_option linter.unusedSimpArgs false

/-! ### sackbutref05_less: function 48 -/
def sackbutref05_less.l0 : Nat → List Int → List Int → Int → Int → Option (Bool)
  | 0, _, _, _, _ => none
  | k + 1, x1, x7, x8, x9 => if x9 < x8 then (if 0 ≤ x9 then (if x9 < (x7.length : Int) then (if x9 < (x1.length : Int) then (if (rd x7 x9) = (rd x1 x9) then (sackbutref05_less.l0 k x1 x7 x8 (wrap64 (x9 + 1))) else (some (decide ((rd x7 x9) < (rd x1 x9))))) else (none)) else (none)) else (none)) else (some false)
def sackbutref05_less.f (k : Nat) (l0 : List Int) (l1 : List Int) : Option (Bool) := sackbutref05_less.l0 k l1 l0 (l0.length : Int) 0
theorem sackbutref05_less.mono_l : ∀ k, (∀ y0 y1 y2 y3, LeO (sackbutref05_less.l0 k y0 y1 y2 y3) (sackbutref05_less.l0 (k + 1) y0 y1 y2 y3))
  | 0 => fun _ _ _ _ r h => by simp [sackbutref05_less.l0] at h
  | k + 1 => by
    have ih0 := sackbutref05_less.mono_l k
    · intro y0 y1 y2 y3
      unfold sackbutref05_less.l0
      repeat' first
      | (with_reducible exact ih0 _ _ _ _)
      | (with_reducible exact LeO.refl _)
      | (with_reducible exact LeO.none _)
      | (with_reducible refine LeO.ite ?_ ?_)
      | (with_reducible refine LeO.bind ?_ (fun _ => ?_))
      | exact ih0 _ _ _ _
      | exact LeO.none _
      | refine LeO.ite ?_ ?_
      | refine LeO.bind ?_ (fun _ => ?_)
theorem sackbutref05_less.mono : ∀ a0 a1 k, LeO (sackbutref05_less.f k a0 a1) (sackbutref05_less.f (k + 1) a0 a1) := by
  intro a0 a1 k
  have ih0 := sackbutref05_less.mono_l k
  unfold sackbutref05_less.f
  repeat' first
      | (with_reducible exact ih0 _ _ _ _)
      | (with_reducible exact LeO.refl _)
      | (with_reducible exact LeO.none _)
      | (with_reducible refine LeO.ite ?_ ?_)
      | (with_reducible refine LeO.bind ?_ (fun _ => ?_))
      | exact ih0 _ _ _ _
      | exact LeO.none _
      | refine LeO.ite ?_ ?_
      | refine LeO.bind ?_ (fun _ => ?_)
set_option maxHeartbeats 8000000 in
set_option maxRecDepth 100000 in
theorem sackbutref05_less.calls (k : Nat) (A0 : Option Addr) (c0 : Nat) (l0 : List Int) (A1 : Option Addr) (c1 : Nat) (l1 : List Int) (r : Bool) (w : World) (hr0 : Kd.C (Kd.int .i64) w A0 l0.length l0) (hc0 : l0.length ≤ c0) (hr1 : Kd.C (Kd.int .i64) w A1 l1.length l1) (hc1 : l1.length ≤ c1) (h : sackbutref05_less.f k l0 l1 = some r) :
    Calls Try.prog 48 #[.slice A0 l0.length c0, .slice A1 l1.length c1] w fun e w' => e = .returned (.bool r) ∧ Drawn0 w w' := by
  have HR0 := Aside0.mk hr0
  have HC0 := Aside0.mk hc0
  clear hr0 hc0
  have HR1 := Aside0.mk hr1
  have HC1 := Aside0.mk hc1
  clear hr1 hc1
  have H : (sackbutref05_less.l0 k l1 l0 (l0.length : Int) 0) = some r := h
  clear h
  have H' := Aside0.mk H
  clear H
  go_enter Try.func48, Try.ntmps48
  go_wp2
  go_loopg [9] k (fun kq v9 w' => ∃ (x9_1 : Int), v9 = .int .i64 x9_1 ∧ Aside0 (sackbutref05_less.l0 kq l1 l0 (l0.length : Int) x9_1 = some r) ∧ Aside0 (kq ≤ k) ∧ Drawn0 w w')
  case atStart => exact ⟨(0), (by first | rfl | (simp; done) | (simp [*]; done)), H', ⟨Nat.le_refl _⟩, by repeat (first | exact Drawn0.refl _ | apply Drawn0.step)⟩
  case round =>
    clear H'
    try clear c1
    try clear p2
    obtain ⟨x9_1, rfl, HA, HK1, ⟨m1, rfl⟩⟩ := hrel
    cases gk with
    | zero => exact absurd HA.out (by simp [sackbutref05_less.l0])
    | succ k1 =>
      have H := HA.out
      clear HA
      simp only [sackbutref05_less.l0] at H
      by_cases c3 : x9_1 < (l0.length : Int)
      · rw [if_pos c3] at H
        have c3b0 : decide (x9_1 < (l0.length : Int)) = true := decide_eq_true c3
        clear c3
        by_cases c4 : 0 ≤ x9_1
        · rw [if_pos c4] at H
          have c4b0 : decide (0 ≤ x9_1) = true := decide_eq_true c4
          clear c4
          by_cases c5 : x9_1 < (l0.length : Int)
          · rw [if_pos c5] at H
            have c5b0 : decide (x9_1 < (l0.length : Int)) = true := decide_eq_true c5
            clear c5
            by_cases c6 : x9_1 < (l1.length : Int)
            · rw [if_pos c6] at H
              have c6b0 : decide (x9_1 < (l1.length : Int)) = true := decide_eq_true c6
              clear c6
              by_cases c7 : (rd l0 x9_1) = (rd l1 x9_1)
              · rw [if_pos c7] at H
                have c7b0 : ((rd l0 x9_1) == (rd l1 x9_1)) = true := beq_iff_eq.mpr c7
                have c7b1 : ((rd l0 x9_1) != (rd l1 x9_1)) = false := bne_eq_false_iff_eq.mpr c7
                clear c7
                have H' := Aside0.mk H
                clear H
                have p1001 : 0 ≤ (x9_1 : Int) := of_decide_eq_true (by first | (with_reducible assumption) | assumption)
                have q1001 : x9_1 < (l0.length : Int) := of_decide_eq_true (by first | (with_reducible assumption) | assumption)
                obtain ⟨ad1001, e1001, hx1001_0⟩ := Kd.at_int HR0.out x9_1 p1001 q1001
                cases e1001
                replace p1001 := eq_true p1001
                replace q1001 := eq_true q1001
                have p1002 : 0 ≤ (x9_1 : Int) := of_decide_eq_true (by first | (with_reducible assumption) | assumption)
                have q1002 : x9_1 < (l1.length : Int) := of_decide_eq_true (by first | (with_reducible assumption) | assumption)
                obtain ⟨ad1002, e1002, hx1002_0⟩ := Kd.at_int HR1.out x9_1 p1002 q1002
                cases e1002
                replace p1002 := eq_true p1002
                replace q1002 := eq_true q1002
                go_wp2
                go_roundg k1
                case measure => have := HK1.out; omega
                case rel => exact ⟨(wrap64 (x9_1 + 1)), (by first | rfl | (simp; done) | (simp [*]; done)), H', ⟨by have := HK1.out; omega⟩, by repeat (first | exact Drawn0.refl _ | apply Drawn0.step)⟩
              · rw [if_neg c7] at H
                have c7b0 : ((rd l0 x9_1) == (rd l1 x9_1)) = false := beq_eq_false_iff_ne.mpr c7
                have c7b1 : ((rd l0 x9_1) != (rd l1 x9_1)) = true := bne_iff_ne.mpr c7
                obtain rfl := Option.some.inj H
                have p1001 : 0 ≤ (x9_1 : Int) := of_decide_eq_true (by first | (with_reducible assumption) | assumption)
                have q1001 : x9_1 < (l0.length : Int) := of_decide_eq_true (by first | (with_reducible assumption) | assumption)
                obtain ⟨ad1001, e1001, hx1001_0⟩ := Kd.at_int HR0.out x9_1 p1001 q1001
                cases e1001
                replace p1001 := eq_true p1001
                replace q1001 := eq_true q1001
                have p1002 : 0 ≤ (x9_1 : Int) := of_decide_eq_true (by first | (with_reducible assumption) | assumption)
                have q1002 : x9_1 < (l1.length : Int) := of_decide_eq_true (by first | (with_reducible assumption) | assumption)
                obtain ⟨ad1002, e1002, hx1002_0⟩ := Kd.at_int HR1.out x9_1 p1002 q1002
                cases e1002
                replace p1002 := eq_true p1002
                replace q1002 := eq_true q1002
                have p1003 : 0 ≤ (x9_1 : Int) := of_decide_eq_true (by first | (with_reducible assumption) | assumption)
                have q1003 : x9_1 < (l1.length : Int) := of_decide_eq_true (by first | (with_reducible assumption) | assumption)
                obtain ⟨ad1003, e1003, hx1003_0⟩ := Kd.at_int HR1.out x9_1 p1003 q1003
                obtain rfl : ad1002 = ad1003 := (by injection e1003)
                replace p1003 := eq_true p1003
                replace q1003 := eq_true q1003
                go_wp2
                go_ret
                exact ⟨by first | rfl | (simp; done) | (simp [*]; done), by repeat (first | exact Drawn0.refl _ | apply Drawn0.step)⟩
            · rw [if_neg c6] at H
              exact absurd H (by simp)
          · rw [if_neg c5] at H
            exact absurd H (by simp)
        · rw [if_neg c4] at H
          exact absurd H (by simp)
      · rw [if_neg c3] at H
        have c3b0 : decide (x9_1 < (l0.length : Int)) = false := decide_eq_false c3
        clear c3
        obtain rfl := Option.some.inj H
        go_wp2
        go_ret
        exact ⟨by first | rfl | (simp; done) | (simp [*]; done), by repeat (first | exact Drawn0.refl _ | apply Drawn0.step)⟩

end Go.Proofs.Ytknchioabngbiaa.P
namespace Go.Proofs.Ytknchioabngbiaa.P
open Go.RowKit Go.Proofs.YtknchioabngbiaaW.PrintWords Go.Proofs.YtknchioabngbiaaW.PrintLast Go.Proofs.YtknchioabngbiaaW.PrintMore
attribute [local go_sem] max2_int min2_int max_two min_two max_three min_three max_four min_four   -- for this text's walks alone
set_option linter.unusedVariables false
set_option linter.unusedSimpArgs false

/-! ### sackbutref05_same: function 49 -/
def sackbutref05_same.f (k : Nat) (l0 : List Int) (l1 : List Int) : Option (Bool) := (sackbutref05_less.f k l0 l1).bind fun t1001 => (if t1001 = true then (some false) else ((sackbutref05_less.f k l1 l0).bind fun t1002 => (some (!t1002))))
theorem sackbutref05_same.mono : ∀ a0 a1 k, LeO (sackbutref05_same.f k a0 a1) (sackbutref05_same.f (k + 1) a0 a1) := by
  intro a0 a1 k
  unfold sackbutref05_same.f
  repeat' first
      | (with_reducible exact sackbutref05_less.mono _ _ _)
      | (with_reducible exact LeO.refl _)
      | (with_reducible exact LeO.none _)
      | (with_reducible refine LeO.ite ?_ ?_)
      | (with_reducible refine LeO.bind ?_ (fun _ => ?_))
      | exact sackbutref05_less.mono _ _ _
      | exact LeO.none _
      | refine LeO.ite ?_ ?_
      | refine LeO.bind ?_ (fun _ => ?_)
set_option maxHeartbeats 8000000 in
set_option maxRecDepth 100000 in
theorem sackbutref05_same.calls (k : Nat) (A0 : Option Addr) (c0 : Nat) (l0 : List Int) (A1 : Option Addr) (c1 : Nat) (l1 : List Int) (r : Bool) (w : World) (hr0 : Kd.C (Kd.int .i64) w A0 l0.length l0) (hc0 : l0.length ≤ c0) (hr1 : Kd.C (Kd.int .i64) w A1 l1.length l1) (hc1 : l1.length ≤ c1) (h : sackbutref05_same.f k l0 l1 = some r) :
    Calls Try.prog 49 #[.slice A0 l0.length c0, .slice A1 l1.length c1] w fun e w' => e = .returned (.bool r) ∧ Drawn0 w w' := by
  have HR0 := Aside0.mk hr0
  have HC0 := Aside0.mk hc0
  clear hr0 hc0
  have HR1 := Aside0.mk hr1
  have HC1 := Aside0.mk hc1
  clear hr1 hc1
  have H : ((sackbutref05_less.f k l0 l1).bind fun t1001 => (if t1001 = true then (some false) else ((sackbutref05_less.f k l1 l0).bind fun t1002 => (some (!t1002))))) = some r := h
  clear h
  replace H := Option.bind_eq_some_iff.mp H
  obtain ⟨t1001, A30, H⟩ := H
  replace H : (if t1001 = true then (some false) else ((sackbutref05_less.f k l1 l0).bind fun t1002 => (some (!t1002)))) = some r := H
  have A3 := Aside0.mk A30
  clear A30
  by_cases c4 : t1001 = true
  · subst c4
    have H1 : (some false) = some r := by rw [if_pos rfl] at H; exact H
    clear H
    have H := H1
    clear H1
    obtain rfl := Option.some.inj H
    go_enter Try.func49, Try.ntmps49
    go_wp2_with (first | ((with_reducible refine gate_callee (f := 48) rfl ?_); refine goesL_ (some 7) rfl rfl Try.func48 (by kernel_rfl) rfl #[.slice A0 l0.length c0, .slice A1 l1.length c1] rfl (by (try simp only [List.map_toArray, List.map_cons, List.map_nil]); first | done | rfl | (simp only [List.length_drop, List.length_take]; rfl)) ?_; (with_reducible refine (sackbutref05_less.calls k _ _ l0 _ _ l1 true _ ?side1 ?side2 ?side3 ?side4 A3.out).mono ?_); (case side1 => repeat (first | exact HR0.out | (with_reducible refine Kd.C_alloc ?_ _) | (with_reducible refine Kd.C_drewN ?_ _) | (with_reducible refine Kd.C_drew ?_))); (case side2 => exact HC0.out); (case side3 => repeat (first | exact HR1.out | (with_reducible refine Kd.C_alloc ?_ _) | (with_reducible refine Kd.C_drewN ?_ _) | (with_reducible refine Kd.C_drew ?_))); (case side4 => exact HC1.out); rintro e w' ⟨rfl, ⟨nd, rfl⟩⟩; refine ⟨_, rfl, ?_⟩))
    go_ret
    exact ⟨by first | rfl | (simp; done) | (simp [*]; done), by repeat (first | exact Drawn0.refl _ | apply Drawn0.step)⟩
  · replace c4 := Bool.eq_false_iff.mpr c4
    subst c4
    have H1 : ((sackbutref05_less.f k l1 l0).bind fun t1002 => (some (!t1002))) = some r := by rw [if_neg (show ¬ (false = true) by decide)] at H; exact H
    clear H
    have H := H1
    clear H1
    replace H := Option.bind_eq_some_iff.mp H
    obtain ⟨t1002, A50, H⟩ := H
    replace H : (some (!t1002)) = some r := H
    have A5 := Aside0.mk A50
    clear A50
    obtain rfl := Option.some.inj H
    go_enter Try.func49, Try.ntmps49
    go_wp2_with (first | ((with_reducible refine gate_callee (f := 48) rfl ?_); refine goesL_ (some 7) rfl rfl Try.func48 (by kernel_rfl) rfl #[.slice A0 l0.length c0, .slice A1 l1.length c1] rfl (by (try simp only [List.map_toArray, List.map_cons, List.map_nil]); first | done | rfl | (simp only [List.length_drop, List.length_take]; rfl)) ?_; (with_reducible refine (sackbutref05_less.calls k _ _ l0 _ _ l1 false _ ?side1 ?side2 ?side3 ?side4 A3.out).mono ?_); (case side1 => repeat (first | exact HR0.out | (with_reducible refine Kd.C_alloc ?_ _) | (with_reducible refine Kd.C_drewN ?_ _) | (with_reducible refine Kd.C_drew ?_))); (case side2 => exact HC0.out); (case side3 => repeat (first | exact HR1.out | (with_reducible refine Kd.C_alloc ?_ _) | (with_reducible refine Kd.C_drewN ?_ _) | (with_reducible refine Kd.C_drew ?_))); (case side4 => exact HC1.out); rintro e w' ⟨rfl, ⟨nd, rfl⟩⟩; refine ⟨_, rfl, ?_⟩) | (go_at_call 48; (with_reducible refine (sackbutref05_less.calls k _ _ l1 _ _ l0 t1002 _ ?side1 ?side2 ?side3 ?side4 A5.out).mono ?_); (case side1 => repeat (first | exact HR1.out | (with_reducible refine Kd.C_alloc ?_ _) | (with_reducible refine Kd.C_drewN ?_ _) | (with_reducible refine Kd.C_drew ?_))); (case side2 => exact HC1.out); (case side3 => repeat (first | exact HR0.out | (with_reducible refine Kd.C_alloc ?_ _) | (with_reducible refine Kd.C_drewN ?_ _) | (with_reducible refine Kd.C_drew ?_))); (case side4 => exact HC0.out); rintro e w' ⟨rfl, ⟨nd, rfl⟩⟩))
    go_ret
    exact ⟨by first | rfl | (simp; done) | (simp [*]; done), by repeat (first | exact Drawn0.refl _ | apply Drawn0.step)⟩

end Go.Proofs.Ytknchioabngbiaa.P
namespace Go.Proofs.Ytknchioabngbiaa.P
open Go.RowKit Go.Proofs.YtknchioabngbiaaW.PrintWords Go.Proofs.YtknchioabngbiaaW.PrintLast Go.Proofs.YtknchioabngbiaaW.PrintMore
attribute [local go_sem] max2_int min2_int max_two min_two max_three min_three max_four min_four   -- for this text's walks alone
set_option linter.unusedVariables false
set_option linter.unusedSimpArgs false

/-! the reference's Form, less, same -/
theorem set_mid {α : Type} (A B : List α) (x v : α) : (A ++ x :: B).set A.length v = A ++ v :: B := by
  rw [List.set_append_right _ _ (Nat.le_refl _)]; simp
theorem refmod_f {a n : Int} (hn : 0 < n) (hb : n < 4611686018427387904) : sackbutref05_mod.f a n = some (a % n) := by
  unfold sackbutref05_mod.f
  rw [if_neg (by omega), tmod_mod hn hb]
theorem tone_w {n kind k x : Int} (hk : 0 ≤ k % n ∧ k % n < 62) (hx : 0 ≤ x ∧ x < 62) (b : Bool) : wrap64 ((if b = true then wrap64 (-x) else x) + k % n) = (if b = true then -x else x) + k % n := by
  cases b
  · simp only [Bool.false_eq_true, if_false]; exact wrap_id (by omega) (by omega)
  · simp only [if_true]; rw [wrap_id (n := -x) (by omega) (by omega)]; exact wrap_id (by omega) (by omega)
def formOut (n kind k : Int) (pre : List Int) (m : Nat) : List Int := if kind / 2 % 2 = 1 then List.replicate m 0 ++ (pre.map (toneOf n kind k)).reverse else pre.map (toneOf n kind k) ++ List.replicate m 0
theorem refForm_loop (n : Nat) (hn : 1 ≤ n) (hn2 : n ≤ 62) (kind k : Int) (hk0 : 0 ≤ kind) (hk3 : kind < 4) (l : List Int) (hl : l.length < 1000) (hr : ∀ x ∈ l, 0 ≤ x ∧ x < 62) : ∀ (xs pre : List Int), l = pre ++ xs →
    Ev (fun q => sackbutref05_Form.l0 q l (n : Int) kind (k % (n : Int)) (formOut n kind k pre xs.length) l (l.length : Int) (pre.length : Int)) (formOf n kind k l) := by
  have hkr : 0 ≤ k % (n : Int) ∧ k % (n : Int) < 62 := ⟨Int.emod_nonneg _ (by omega), by have := Int.emod_lt_of_pos k (show (0 : Int) < n by omega); omega⟩
  intro xs
  induction xs with
  | nil =>
    intro pre h0
    refine Ev.succ ?_
    simp only [sackbutref05_Form.l0, if_neg (mid_end h0)]
    have e : formOut n kind k pre 0 = formOf n kind k l := by
      have : pre = l := by rw [h0]; simp
      subst this
      unfold formOut formOf
      simp
    rw [List.length_nil, e]
    exact Ev.some _
  | cons x xs ih =>
    intro pre h0
    have hx := hr x (by rw [h0]; simp)
    have hlen : l.length = pre.length + (xs.length + 1) := by rw [h0]; simp
    have hw1 : wrap64 (wrap64 ((l.length : Int) - 1) - (pre.length : Int)) = (xs.length : Int) := by
      rw [wrap_id (n := (l.length : Int) - 1) (by omega) (by omega), wrap_id (by omega) (by omega)]; omega
    have hw2 : wrap64 (-x) = -x := wrap_id (by omega) (by omega)
    have hw3 : wrap64 (-x + k % (n : Int)) = -x + k % (n : Int) := wrap_id (by omega) (by omega)
    have hw4 : wrap64 (x + k % (n : Int)) = x + k % (n : Int) := wrap_id (by omega) (by omega)
    have hol : (formOut n kind k pre (xs.length + 1)).length = l.length := by unfold formOut; split <;> (simp; omega)
    have go := ih (pre ++ [x]) (mid_mv h0)
    have hm : ∀ a : Int, sackbutref05_mod.f a (n : Int) = some (a % (n : Int)) := fun a => refmod_f (by omega) (by omega)
    have hk2 : kind / 2 % 2 = 1 ↔ kind ≥ 2 := by omega
    have ht : Int.tmod kind 2 = kind % 2 := Int.tmod_eq_emod_of_nonneg hk0
    refine Ev.succ ?_
    simp only [sackbutref05_Form.l0, List.length_cons, if_pos (mid_lt h0), if_pos (show (0 : Int) ≤ (pre.length : Int) by omega), mid_rd h0, mid_next h0 (by omega), ht, hw1, hw2, hw3, hw4, hm, Option.bind_some, hol, if_pos (show (0 : Int) ≤ (xs.length : Int) by omega), if_pos (show (xs.length : Int) < (l.length : Int) by omega), Int.toNat_natCast]
    have s2 : kind ≥ 2 → ∀ v, v = toneOf n kind k x → (formOut n kind k pre (xs.length + 1)).set xs.length v = formOut n kind k (pre ++ [x]) xs.length := by
      rintro h2 v rfl
      unfold formOut
      rw [if_pos (hk2.2 h2), if_pos (hk2.2 h2), List.replicate_succ', List.append_assoc]
      have := set_mid (List.replicate xs.length (0 : Int)) (pre.map (toneOf n kind k)).reverse 0 (toneOf n kind k x)
      rw [List.length_replicate] at this
      simp [this]
    have s1 : ¬ kind ≥ 2 → ∀ v, v = toneOf n kind k x → (formOut n kind k pre (xs.length + 1)).set pre.length v = formOut n kind k (pre ++ [x]) xs.length := by
      rintro h2 v rfl
      unfold formOut
      rw [if_neg (fun h => h2 (hk2.1 h)), if_neg (fun h => h2 (hk2.1 h)), List.replicate_succ]
      have := set_mid (pre.map (toneOf n kind k)) (List.replicate xs.length (0 : Int)) 0 (toneOf n kind k x)
      rw [List.length_map] at this
      simp [this]
    have t1 : kind % 2 = 1 → (-x + k % (n : Int)) % (n : Int) = toneOf n kind k x := fun h => by unfold toneOf; rw [if_pos h]
    have t0 : ¬ kind % 2 = 1 → (x + k % (n : Int)) % (n : Int) = toneOf n kind k x := fun h => by unfold toneOf; rw [if_neg h]
    refine Ev.ite (fun e1 => ?_) (fun e1 => ?_)
    · refine Ev.ite (fun e2 => ?_) (fun e2 => ?_)
      · rw [s2 e2 _ (t1 e1)]; exact go
      · rw [s1 e2 _ (t1 e1)]; exact go
    · refine Ev.ite (fun e2 => ?_) (fun e2 => ?_)
      · rw [s2 e2 _ (t0 e1)]; exact go
      · rw [s1 e2 _ (t0 e1)]; exact go
theorem refForm_ev (n : Nat) (hn : 1 ≤ n) (hn2 : n ≤ 62) (kind k : Int) (hk0 : 0 ≤ kind) (hk3 : kind < 4) (l : List Int) (hl : l.length < 1000) (hr : ∀ x ∈ l, 0 ≤ x ∧ x < 62) :
    Ev (fun q => sackbutref05_Form.f q l (n : Int) kind k) (formOf n kind k l) := by
  unfold sackbutref05_Form.f
  refine Ev.bind_some (refmod_f (by omega) (by omega)) ?_
  simp only [if_pos (show (0 : Int) ≤ (l.length : Int) by omega), Int.toNat_natCast, if_pos (show l.length ≤ 35184372088832 by omega)]
  have := refForm_loop n hn hn2 kind k hk0 hk3 l hl hr l [] rfl
  have e : formOut n kind k [] l.length = List.replicate l.length 0 := by unfold formOut; split <;> simp
  rw [e] at this
  exact this
def lessL : List Int → List Int → Bool
  | x :: a, y :: b => if x = y then lessL a b else decide (x < y)
  | _, _ => false
theorem less_loop (l1 l0 : List Int) (hlen : l0.length = l1.length) (hb : l0.length < 9223372036854775807) : ∀ (xs ys pre pre1 : List Int), l0 = pre ++ xs → l1 = pre1 ++ ys → pre.length = pre1.length →
    Ev (fun k => sackbutref05_less.l0 k l1 l0 (l0.length : Int) (pre.length : Int)) (lessL xs ys) := by
  intro xs
  induction xs with
  | nil =>
    intro ys pre pre1 h0 h1 hp
    refine Ev.succ ?_
    simp only [sackbutref05_less.l0, if_neg (mid_end h0)]
    cases ys <;> exact Ev.some _
  | cons x xs ih =>
    intro ys pre pre1 h0 h1 hp
    match ys, h1 with
    | [], h1 => exfalso; rw [h0, h1] at hlen; simp at hlen; omega
    | y :: ys, h1 =>
      have hrd : rd l1 (pre.length : Int) = y := by rw [hp]; exact mid_rd h1
      refine Ev.succ ?_
      simp only [sackbutref05_less.l0, if_pos (mid_lt h0), if_pos (show (0 : Int) ≤ (pre.length : Int) by omega), mid_rd h0, hrd, mid_next h0 hb, if_pos (show (pre.length : Int) < (l1.length : Int) by rw [← hlen]; exact mid_lt h0), lessL]
      refine Ev.ite (fun e => ?_) (fun e => ?_)
      · rw [if_pos e]; exact ih ys (pre ++ [x]) (pre1 ++ [y]) (mid_mv h0) (mid_mv h1) (by simp [hp])
      · rw [if_neg e]; exact Ev.some _
theorem less_ev (l0 l1 : List Int) (hlen : l0.length = l1.length) (hb : l0.length < 9223372036854775807) : Ev (fun k => sackbutref05_less.f k l0 l1) (lessL l0 l1) := less_loop l1 l0 hlen hb l0 l1 [] [] rfl rfl rfl
theorem lessL_same : ∀ (a b : List Int), a.length = b.length → ((lessL a b = false ∧ lessL b a = false) ↔ a = b)
  | [], [], _ => by simp [lessL]
  | x :: a, y :: b, h => by
    have ih := lessL_same a b (by simpa using h)
    simp only [lessL, List.cons.injEq]
    by_cases e : x = y
    · subst e; simpa using ih
    · rw [if_neg e, if_neg (fun h => e h.symm)]
      simp only [decide_eq_false_iff_not]
      constructor
      · rintro ⟨h1, h2⟩; exact absurd (by omega) e
      · rintro ⟨h1, _⟩; exact absurd h1 e
  | [], _ :: _, h => by simp at h
  | _ :: _, [], h => by simp at h
theorem same_ev (l0 l1 : List Int) (hlen : l0.length = l1.length) (hb : l0.length < 9223372036854775807) : Ev (fun k => sackbutref05_same.f k l0 l1) (decide (l0 = l1)) := by
  unfold sackbutref05_same.f
  have hs := lessL_same l0 l1 hlen
  refine Ev.bind (less_ev l0 l1 hlen hb) ?_
  cases h1 : lessL l0 l1 with
  | true =>
    have : ¬ l0 = l1 := fun e => by have := (hs.2 e).1; rw [h1] at this; cases this
    simp only [if_true, this, decide_false]
    exact Ev.some _
  | false =>
    simp only [Bool.false_eq_true, if_false]
    refine Ev.bind (less_ev l1 l0 hlen.symm (by omega)) ?_
    cases h2 : lessL l1 l0 with
    | true =>
      have : ¬ l0 = l1 := fun e => by have := (hs.2 e).2; rw [h2] at this; cases this
      simp only [this, decide_false, Bool.not_true]
      exact Ev.some _
    | false =>
      simp only [hs.1 ⟨h1, h2⟩, decide_true, Bool.not_false]
      exact Ev.some _

end Go.Proofs.Ytknchioabngbiaa.P
namespace Go.Proofs.Ytknchioabngbiaa.P
open Go.RowKit Go.Proofs.YtknchioabngbiaaW.PrintWords Go.Proofs.YtknchioabngbiaaW.PrintLast Go.Proofs.YtknchioabngbiaaW.PrintMore
attribute [local go_sem] max2_int min2_int max_two min_two max_three min_three max_four min_four   -- for this text's walks alone
set_option linter.unusedVariables false
set_option linter.unusedSimpArgs false

/-! all different forms of a row, rising: as the document inserts them, and as sorting and dropping neighbours gives them -/
theorem lessL_cmp : ∀ (a b : List Int), a.length = b.length → (lessL a b = true ↔ cmpL a b < 0)
  | [], [], _ => by simp [lessL, cmpL]
  | x :: a, y :: b, h => by
    have ih := lessL_cmp a b (by simpa using h)
    unfold lessL cmpL
    by_cases e : x = y
    · subst e; rw [if_pos rfl, if_neg (by omega), if_neg (by omega)]; exact ih
    · rw [if_neg e]
      by_cases l : x < y
      · rw [if_pos l]; simp [l]
      · rw [if_neg l, if_pos (by omega)]; simp [l]
  | [], _ :: _, h => by simp at h
  | _ :: _, [], h => by simp at h
theorem lessL_irr : ∀ a : List Int, lessL a a = false
  | [] => rfl
  | x :: a => by unfold lessL; rw [if_pos rfl]; exact lessL_irr a
theorem lessL_trans : ∀ (a b c : List Int), lessL a b = true → lessL b c = true → lessL a c = true
  | [], _, _, h, _ => by simp [lessL] at h
  | _ :: _, [], _, h, _ => by simp [lessL] at h
  | _ :: _, _ :: _, [], _, h => by simp [lessL] at h
  | x :: a, y :: b, z :: c, h1, h2 => by
    unfold lessL at h1 h2 ⊢
    by_cases e1 : x = y
    · subst e1
      rw [if_pos rfl] at h1
      by_cases e2 : x = z
      · subst e2; rw [if_pos rfl] at h2 ⊢; exact lessL_trans a b c h1 h2
      · rw [if_neg e2] at h2 ⊢; exact h2
    · rw [if_neg e1] at h1
      have h1 := of_decide_eq_true h1
      by_cases e2 : y = z
      · subst e2; rw [if_neg e1]; exact decide_eq_true h1
      · rw [if_neg e2] at h2
        have h2 := of_decide_eq_true h2
        rw [if_neg (by omega)]; exact decide_eq_true (by omega)
theorem lessL_asym {a b : List Int} (h : lessL a b = true) : lessL b a = false := by
  cases h2 : lessL b a with
  | false => rfl
  | true => have := lessL_trans _ _ _ h h2; rw [lessL_irr] at this; cases this
theorem lessL_tri {a b : List Int} (hl : a.length = b.length) (h : lessL b a = false) (hne : a ≠ b) : lessL a b = true := by
  cases h2 : lessL a b with
  | true => rfl
  | false => exact absurd ((lessL_same a b hl).1 ⟨h2, h⟩) hne
theorem strictL_unique : ∀ (A B : List (List Int)), A.Pairwise (fun a b => lessL a b = true) → B.Pairwise (fun a b => lessL a b = true) → (∀ x, x ∈ A ↔ x ∈ B) → A = B
  | [], [], _, _, _ => rfl
  | [], b :: B, _, _, h => absurd ((h b).2 (by simp)) (by simp)
  | a :: A, [], _, _, h => absurd ((h a).1 (by simp)) (by simp)
  | a :: A, b :: B, hA, hB, h => by
    rw [List.pairwise_cons] at hA hB
    have e : a = b := by
      rcases List.mem_cons.1 ((h a).1 (by simp)) with e | h1
      · exact e
      rcases List.mem_cons.1 ((h b).2 (by simp)) with e | h2
      · exact e.symm
      have := lessL_trans _ _ _ (hB.1 a h1) (hA.1 b h2)
      rw [lessL_irr] at this; cases this
    subst e
    rw [strictL_unique A B hA.2 hB.2 (fun x => ?_)]
    constructor
    · intro hx
      rcases List.mem_cons.1 ((h x).1 (List.mem_cons_of_mem _ hx)) with e | h1
      · subst e; have := hA.1 _ hx; rw [lessL_irr] at this; cases this
      · exact h1
    · intro hx
      rcases List.mem_cons.1 ((h x).2 (List.mem_cons_of_mem _ hx)) with e | h1
      · subst e; have := hB.1 _ hx; rw [lessL_irr] at this; cases this
      · exact h1
def insC (f : List Int) : List (List Int) → List (List Int)
  | [] => [f]
  | x :: xs => if lessL x f = true then x :: insC f xs else if x = f then x :: xs else f :: x :: xs
theorem mem_insC (f y : List Int) : ∀ xs : List (List Int), y ∈ insC f xs ↔ y = f ∨ y ∈ xs
  | [] => by simp [insC]
  | x :: xs => by
    unfold insC
    split
    · rw [List.mem_cons, mem_insC f y xs, List.mem_cons]
      constructor
      · rintro (h | h | h)
        · exact .inr (.inl h)
        · exact .inl h
        · exact .inr (.inr h)
      · rintro (h | h | h)
        · exact .inr (.inl h)
        · exact .inl h
        · exact .inr (.inr h)
    · split
      · rename_i _ e; subst e; simp
      · simp
theorem insC_strict {n : Nat} (f : List Int) (hf : f.length = n) : ∀ xs : List (List Int), (∀ x ∈ xs, x.length = n) → xs.Pairwise (fun a b => lessL a b = true) → (insC f xs).Pairwise (fun a b => lessL a b = true)
  | [], _, _ => by simp [insC]
  | x :: xs, hl, hs => by
    rw [List.pairwise_cons] at hs
    unfold insC
    by_cases c : lessL x f = true
    · rw [if_pos c, List.pairwise_cons]
      refine ⟨fun y hy => ?_, insC_strict f hf xs (fun z hz => hl z (List.mem_cons_of_mem _ hz)) hs.2⟩
      rcases (mem_insC f y xs).1 hy with e | h
      · subst e; exact c
      · exact hs.1 y h
    · rw [if_neg c]
      by_cases e : x = f
      · rw [if_pos e, List.pairwise_cons]; exact hs
      · rw [if_neg e, List.pairwise_cons, List.pairwise_cons]
        have hfx : lessL f x = true := lessL_tri (by rw [hf, hl x (by simp)]) (by simpa using c) (fun h => e h.symm)
        refine ⟨fun y hy => ?_, hs⟩
        rcases List.mem_cons.1 hy with rfl | h
        · exact hfx
        · exact lessL_trans _ _ _ hfx (hs.1 y h)
def canonTo (l : List Int) (ps : List (Nat × Nat)) : List (List Int) := ps.foldl (fun out p => insC (formOf l.length p.1 p.2 l) out) []
def canonF (l : List Int) : List (List Int) := canonTo l (formPairs l.length)
theorem canonTo_snoc (l : List Int) (ps : List (Nat × Nat)) (p : Nat × Nat) : canonTo l (ps ++ [p]) = insC (formOf l.length p.1 p.2 l) (canonTo l ps) := by
  unfold canonTo; rw [List.foldl_append]; rfl
theorem formOf_len5 (n kind k : Int) (l : List Int) : (formOf n kind k l).length = l.length := by unfold formOf; split <;> simp
theorem canonTo_spec (l : List Int) : ∀ ps : List (Nat × Nat), (canonTo l ps).Pairwise (fun a b => lessL a b = true) ∧ ∀ y, y ∈ canonTo l ps ↔ ∃ p ∈ ps, formOf l.length p.1 p.2 l = y := by
  intro ps
  generalize hr : ps.reverse = zs
  induction zs generalizing ps with
  | nil => have : ps = [] := by simpa using hr
           subst this; simp [canonTo]
  | cons z zs ih =>
    have e : ps = zs.reverse ++ [z] := by rw [← List.reverse_cons, ← hr, List.reverse_reverse]
    subst e
    obtain ⟨h1, h2⟩ := ih zs.reverse (by simp)
    rw [canonTo_snoc]
    refine ⟨insC_strict _ (formOf_len5 _ _ _ _) _ (fun x hx => ?_) h1, fun y => ?_⟩
    · obtain ⟨p, _, rfl⟩ := (h2 x).1 hx; exact formOf_len5 _ _ _ _
    · rw [mem_insC, h2]
      constructor
      · rintro (rfl | ⟨p, hp, rfl⟩)
        · exact ⟨z, by simp, rfl⟩
        · exact ⟨p, List.mem_append_left _ hp, rfl⟩
      · rintro ⟨p, hp, rfl⟩
        rcases List.mem_append.1 hp with h | h
        · exact .inr ⟨p, h, rfl⟩
        · rw [List.mem_singleton] at h; subst h; exact .inl rfl
theorem canonF_strict (l : List Int) : (canonF l).Pairwise (fun a b => lessL a b = true) := (canonTo_spec l _).1
theorem mem_canonF (l : List Int) (y : List Int) : y ∈ canonF l ↔ ∃ p ∈ formPairs l.length, formOf l.length p.1 p.2 l = y := (canonTo_spec l _).2 y
/-- the first of each run of neighbours with one key -/
def ddTo {α β : Type} [DecidableEq β] (key : α → β) (l : List α) : List α := l.foldl (fun out x => if out.getLast?.map key = some (key x) then out else out ++ [x]) []
section
variable {α β : Type} [DecidableEq β] (key : α → β)
theorem ddTo_snoc (l : List α) (x : α) : ddTo key (l ++ [x]) = if (ddTo key l).getLast?.map key = some (key x) then ddTo key l else ddTo key l ++ [x] := by
  unfold ddTo; rw [List.foldl_append]; rfl
theorem ddTo_last (l : List α) (x : α) : (ddTo key (l ++ [x])).getLast?.map key = some (key x) := by
  rw [ddTo_snoc]
  split
  · assumption
  · simp
theorem ddTo_len (l : List α) : (ddTo key l).length ≤ l.length := by
  generalize hr : l.reverse = zs
  induction zs generalizing l with
  | nil => have : l = [] := by simpa using hr
           subst this; simp [ddTo]
  | cons z zs ih =>
    have e : l = zs.reverse ++ [z] := by rw [← List.reverse_cons, ← hr, List.reverse_reverse]
    subst e
    have := ih zs.reverse (by simp)
    rw [ddTo_snoc]
    split
    · simp at this ⊢; omega
    · simp at this ⊢; omega
theorem ddTo_map (l : List α) : (ddTo key l).map key = ddTo id (l.map key) := by
  generalize hr : l.reverse = zs
  induction zs generalizing l with
  | nil => have : l = [] := by simpa using hr
           subst this; simp [ddTo]
  | cons z zs ih =>
    have e : l = zs.reverse ++ [z] := by rw [← List.reverse_cons, ← hr, List.reverse_reverse]
    subst e
    have ih := ih zs.reverse (by simp)
    rw [List.map_append, List.map_cons, List.map_nil, ddTo_snoc, ddTo_snoc, ← ih]
    have hl : ((ddTo key zs.reverse).map key).getLast?.map id = (ddTo key zs.reverse).getLast?.map key := by rw [List.getLast?_map]; simp
    rw [hl]
    simp only [id]
    split
    · rfl
    · rw [List.map_append]; rfl
end
theorem ddTo_spec {n : Nat} (l : List (List Int)) (hl : ∀ x ∈ l, x.length = n) (hs : l.Pairwise (fun a b => lessL b a = false)) : (ddTo id l).Pairwise (fun a b => lessL a b = true) ∧ (∀ y, y ∈ ddTo id l ↔ y ∈ l) := by
  generalize hr : l.reverse = zs
  induction zs generalizing l with
  | nil => have : l = [] := by simpa using hr
           subst this; simp [ddTo]
  | cons z zs ih =>
    have e : l = zs.reverse ++ [z] := by rw [← List.reverse_cons, ← hr, List.reverse_reverse]
    subst e
    rw [List.pairwise_append] at hs
    obtain ⟨h1, h2⟩ := ih zs.reverse (fun x hx => hl x (List.mem_append_left _ hx)) hs.1 (by simp)
    rw [ddTo_snoc]
    split
    · rename_i hlast
      refine ⟨h1, fun y => ?_⟩
      have hz : z ∈ ddTo id zs.reverse := by
        rw [Option.map_eq_some_iff] at hlast
        obtain ⟨a, ha, e⟩ := hlast
        simp only [id] at e
        subst e
        exact List.mem_of_getLast? ha
      rw [h2, List.mem_append, List.mem_singleton]
      constructor
      · exact Or.inl
      · rintro (h | rfl)
        · exact h
        · exact (h2 _).1 hz
    · rename_i hlast
      refine ⟨?_, fun y => ?_⟩
      · rw [List.pairwise_append]
        refine ⟨h1, by simp, fun a ha b hb => ?_⟩
        rw [List.mem_singleton] at hb
        subst hb
        have hal := (h2 a).1 ha
        have hab := hs.2.2 a hal b (by simp)
        refine lessL_tri (by rw [hl a (List.mem_append_left _ hal), hl b (by simp)]) hab (fun e => ?_)
        subst e
        -- a is in the strictly rising list, no later one is greater: it is the last
        obtain ⟨z2, hz2⟩ : ∃ z2, (ddTo id zs.reverse).getLast? = some z2 := by
          cases h : (ddTo id zs.reverse).getLast? with
          | none => rw [List.getLast?_eq_none_iff] at h; rw [h] at ha; cases ha
          | some v => exact ⟨v, rfl⟩
        obtain ⟨pre, hpre⟩ := List.getLast?_eq_some_iff.1 hz2
        have hzm : z2 ∈ zs.reverse := (h2 z2).1 (by rw [hpre]; simp)
        have hge := hs.2.2 z2 hzm a (by simp)
        rw [hpre] at ha h1
        rcases List.mem_append.1 ha with h | h
        · have := (List.pairwise_append.1 h1).2.2 a h z2 (by simp)
          rw [this] at hge; cases hge
        · rw [List.mem_singleton] at h
          subst h
          exact hlast (by rw [hz2]; rfl)
      · rw [List.mem_append, h2, List.mem_append]
/-- sorted, and neighbours that are the same dropped: what the document inserts -/
theorem dedup_canonF (l : List Int) (ys : List (List Int)) (hp : ys.Perm ((formPairs l.length).map fun p => formOf l.length p.1 p.2 l)) (hs : ys.Pairwise (fun a b => lessL b a = false)) : ddTo id ys = canonF l := by
  have hl : ∀ x ∈ ys, x.length = l.length := fun x hx => by
    obtain ⟨p, _, rfl⟩ := List.mem_map.1 (hp.mem_iff.1 hx); exact formOf_len5 _ _ _ _
  obtain ⟨h1, h2⟩ := ddTo_spec ys hl hs
  refine strictL_unique _ _ h1 (canonF_strict l) (fun z => ?_)
  rw [h2, hp.mem_iff, mem_canonF, List.mem_map]

end Go.Proofs.Ytknchioabngbiaa.P
