/- A part of a proof that a law's Go function returns true for every input, laid by this session's program mp.py (which drives the kit's print). Conditions: as each theorem states them. -/
import Derived.Shelf.Abstract
import Derived.Shelf.RegionOpen
import Derived.Shelf.AbstractIn
import Derived.Sort.QuietIn
import Derived.OwnWalkIn
import Derived.TacticsInMore
import Derived.LoopNIn
import Derived.LoopIn
import Derived.RangeFuncNested
import Derived.RangeFuncBound
import Derived.RangeFuncCalls
import Derived.RangeFuncLeaves
import Derived.RangeFuncRecord
import Derived.Laws.Rows
import Derived.Test.YtpfjnpbcnlbhaaaCRowsParts1
import Derived.Test.YtpfjnpbcnlbhaaaCRowsParts2
namespace Go.Proofs.Ytpfjnpbcnlbhaaa.P
open Go.RowKit Go.Proofs.YtpfjnpbcnlbhaaaW.PrintWords Go.Proofs.YtpfjnpbcnlbhaaaW.PrintLast Go.Proofs.YtpfjnpbcnlbhaaaW.PrintMore
attribute [local go_sem] max2_int min2_int max_two min_two max_three min_three max_four min_four   -- for this text's walks alone
set_option linter.unusedVariables false
set_option linter.unusedSimpArgs false

/-! What the functions on rows come to. -/
def IsRow (l : List Int) : Prop := 2 ≤ l.length ∧ l.length ≤ 10 ∧ (∀ x ∈ l, 0 ≤ x ∧ x < l.length) ∧ l.Nodup
instance (l : List Int) : Decidable (IsRow l) := by unfold IsRow; infer_instance
def PartOf (n : Nat) (l : List Int) : Prop := (∀ x ∈ l, 0 ≤ x ∧ x < n) ∧ l.Nodup
instance (n : Nat) (l : List Int) : Decidable (PartOf n l) := by unfold PartOf; infer_instance
theorem rows_mod_f {a n : Int} (hn : 0 < n) (hb : n < 4611686018427387904) : rows_mod.f a n = some (a % n) := by
  unfold rows_mod.f
  rw [if_neg (by omega), tmod_mod hn hb]

/-! a row is valid -/
theorem valid_loop (l : List Int) (hl : l.length ≤ 10) : ∀ (xs pre : List Int) (s : Nat), l = pre ++ xs → s < 2 ^ l.length →
    Ev (fun k => rows_row_valid.l0 k (l.length : Int) (s : Int) l (l.length : Int) (pre.length : Int)) (validRun l.length s xs) := by
  intro xs
  induction xs with
  | nil =>
    intro pre s h0 hs
    refine Ev.succ ?_
    have hsh := shl1_i64 (x := l.length) (by omega)
    have hp := Nat.two_pow_pos l.length
    have hp2 := two_pow_lt63 (x := l.length) (by omega)
    have hw : wrap64 (shl .i64 1 (l.length : Int) - 1) = ((2 ^ l.length - 1 : Nat) : Int) := by
      rw [hsh, wrap_id (by omega) (by have : (2 : Nat) ^ 63 = 9223372036854775808 := by decide
                                      omega)]
      omega
    simp only [rows_row_valid.l0, if_neg (mid_end h0), if_pos (show (0 : Int) ≤ (l.length : Int) by omega), hw]
    have e : ((s : Int) == ((2 ^ l.length - 1 : Nat) : Int)) = decide (s = 2 ^ l.length - 1) := by
      by_cases h : s = 2 ^ l.length - 1
      · simp only [← h]; simp
      · simp only [h, decide_false, beq_eq_false_iff_ne]; omega
    rw [e]
    exact Ev.some _
  | cons x xs ih =>
    intro pre s h0 hs
    refine Ev.succ ?_
    simp only [rows_row_valid.l0, if_pos (mid_lt h0), if_pos (show (0 : Int) ≤ (pre.length : Int) by omega), mid_rd h0, mid_next h0 (by omega), validRun]
    refine Ev.ite (fun e => by simpa [e] using Ev.some false) (fun e => ?_)
    refine Ev.ite (fun e2 => by simpa [e, e2] using Ev.some false) (fun e2 => ?_)
    obtain ⟨m, rfl⟩ := Int.eq_ofNat_of_zero_le (show 0 ≤ x by omega)
    have hp2 := two_pow_lt63 (x := l.length) (by omega)
    have hm2 : 2 ^ m < 2 ^ l.length := Nat.pow_lt_pow_right (by omega) (by omega)
    have hs2 : s ||| 2 ^ m < 2 ^ l.length := Nat.or_lt_two_pow hs hm2
    simp only [if_pos (show (0 : Int) ≤ (m : Int) by omega), shl1_i64 (x := m) (by omega), or_i64 (a := s) (b := 2 ^ m) (by omega) (by omega), if_neg e, if_neg e2, Int.toNat_natCast]
    exact ih (pre ++ [(m : Int)]) (s ||| 2 ^ m) (mid_mv h0) hs2
theorem row_full {l : List Int} (hr : ∀ x ∈ l, 0 ≤ x ∧ x < l.length) : orAll 0 (l.map Int.toNat) = 2 ^ l.length - 1 ↔ l.Nodup := by
  have hr' : ∀ x ∈ l.map Int.toNat, x < l.length := by
    intro x hx
    obtain ⟨y, hy, rfl⟩ := List.mem_map.1 hx
    have := hr y hy
    omega
  rw [orAll_full _ hr', ← nodup_toNat (fun x hx => (hr x hx).1)]
  exact ⟨fun h => nodup_of_full (by simp) h, fun h => full_of_nodup (by simp) hr' h⟩
theorem valid_ev (l : List Int) : Ev (fun k => rows_row_valid.f k l) (decide (IsRow l)) := by
  unfold rows_row_valid.f
  refine Ev.ite (fun e => ?_) (fun e => ?_)
  · refine Ev.succ ?_
    have : ¬ IsRow l := fun h => by have := h.1; omega
    simp only [rows_row_valid.j0, if_true]
    simpa [this] using Ev.some false
  · refine Ev.succ ?_
    simp only [rows_row_valid.j0]
    refine Ev.ite (fun e2 => ?_) (fun e2 => ?_)
    · have e2' : (l.length : Int) > 10 := of_decide_eq_true e2
      have : ¬ IsRow l := fun h => by have := h.2.1; omega
      simpa [this] using Ev.some false
    · have e2' : ¬ (l.length : Int) > 10 := fun h => e2 (decide_eq_true h)
      have hv := valid_loop l (by omega) l [] 0 rfl (Nat.two_pow_pos _)
      have ev : validRun l.length 0 l = decide (IsRow l) := by
        rw [validRun_iff]
        congr 1
        rw [eq_iff_iff]
        unfold IsRow
        constructor
        · rintro ⟨a, b⟩; exact ⟨by omega, by omega, a, (row_full a).1 b⟩
        · rintro ⟨_, _, a, b⟩; exact ⟨a, (row_full a).2 b⟩
      rw [← ev]
      exact hv

/-! what the reference says of rows -/
theorem Part_loop (l : List Int) (n : Nat) (hn : n ≤ 62) (hl : l.length < 9223372036854775807) : ∀ (xs pre : List Int) (s : Nat), l = pre ++ xs → s < 2 ^ n →
    Ev (fun k => sackbutref05_Part.l0 k (n : Int) (s : Int) l (l.length : Int) (pre.length : Int)) (partRun n s xs) := by
  intro xs
  induction xs with
  | nil =>
    intro pre s h0 hs
    refine Ev.succ ?_
    simp only [sackbutref05_Part.l0, if_neg (mid_end h0)]
    exact Ev.some _
  | cons x xs ih =>
    intro pre s h0 hs
    refine Ev.succ ?_
    simp only [sackbutref05_Part.l0, if_pos (mid_lt h0), if_pos (show (0 : Int) ≤ (pre.length : Int) by omega), mid_rd h0, mid_next h0 hl, partRun]
    refine Ev.ite (fun e => by simpa [e] using Ev.some false) (fun e => ?_)
    refine Ev.ite (fun e2 => by simpa [e, e2] using Ev.some false) (fun e2 => ?_)
    obtain ⟨m, rfl⟩ := Int.eq_ofNat_of_zero_le (show 0 ≤ x by omega)
    have hp2 := two_pow_lt63 (x := n) (by omega)
    have hm2 : 2 ^ m < 2 ^ n := Nat.pow_lt_pow_right (by omega) (by omega)
    have hs2 : s ||| 2 ^ m < 2 ^ n := Nat.or_lt_two_pow hs hm2
    simp only [if_pos (show (0 : Int) ≤ (m : Int) by omega), bit1_i64 (a := s) (x := m) (by omega) (by omega), shl1_i64 (x := m) (by omega), or_i64 (a := s) (b := 2 ^ m) (by omega) (by omega), if_neg e, if_neg e2, Int.toNat_natCast]
    refine Ev.ite (fun e3 => by simpa [e3] using Ev.some false) (fun e3 => ?_)
    simpa [e3] using ih (pre ++ [(m : Int)]) (s ||| 2 ^ m) (mid_mv h0) hs2
theorem Part_ev (l : List Int) (n : Nat) (hn : n ≤ 62) (hl : l.length < 9223372036854775807) : Ev (fun k => sackbutref05_Part.f k l (n : Int)) (decide (PartOf n l)) := by
  have h := Part_loop l n hn hl l [] 0 rfl (Nat.two_pow_pos _)
  rw [partRun_iff] at h
  have e : ((∀ x ∈ l, 0 ≤ x ∧ x < (n : Int) ∧ (0 : Nat).testBit x.toNat = false) ∧ l.Nodup) = PartOf n l := by
    unfold PartOf; simp
  simp only [e] at h
  exact h
theorem Row_ev (l : List Int) : Ev (fun k => sackbutref05_Row.f k l) (decide (IsRow l)) := by
  unfold sackbutref05_Row.f
  refine Ev.ite (fun e => ?_) (fun e => ?_)
  · refine Ev.ite (fun e2 => ?_) (fun e2 => ?_)
    · refine Ev.bind (Part_ev l l.length (by omega) (by omega)) ?_
      have : decide (PartOf l.length l) = decide (IsRow l) := by
        congr 1; rw [eq_iff_iff]; unfold PartOf IsRow
        exact ⟨fun h => ⟨by omega, by omega, h⟩, fun h => h.2.2⟩
      rw [this]; exact Ev.some _
    · have : ¬ IsRow l := fun h => by have := h.2.1; omega
      simpa [this] using Ev.some false
  · have : ¬ IsRow l := fun h => by have := h.1; omega
    simpa [this] using Ev.some false

end Go.Proofs.Ytpfjnpbcnlbhaaa.P
namespace Go.Proofs.Ytpfjnpbcnlbhaaa.P
open Go.RowKit Go.Proofs.YtpfjnpbcnlbhaaaW.PrintWords Go.Proofs.YtpfjnpbcnlbhaaaW.PrintLast Go.Proofs.YtpfjnpbcnlbhaaaW.PrintMore
attribute [local go_sem] max2_int min2_int max_two min_two max_three min_three max_four min_four   -- for this text's walks alone
set_option linter.unusedVariables false
set_option linter.unusedSimpArgs false

/-! slices.Reverse and the forms -/
theorem Reverse_loop : ∀ (d : Nat) (M A B : List Int), M.length ≤ d → (A ++ M ++ B).length < 9223372036854775807 →
    Ev (fun k => slices_Reverse_int_int.l0 k (A ++ M ++ B) (A.length : Int) ((A.length : Int) + M.length - 1)) (A ++ M.reverse ++ B) := by
  intro d
  induction d with
  | zero =>
    intro M A B hd hb
    obtain rfl : M = [] := List.eq_nil_of_length_eq_zero (by omega)
    refine Ev.succ ?_
    have : ¬ (A.length : Int) < (A.length : Int) + (([] : List Int).length : Int) - 1 := by simp; omega
    simp only [slices_Reverse_int_int.l0, if_neg this]
    exact Ev.some _
  | succ d ih =>
    intro M A B hd hb
    match M, hd with
    | [], _ => exact ih [] A B (by simp) hb
    | [x], _ =>
      refine Ev.succ ?_
      have : ¬ (A.length : Int) < (A.length : Int) + (([x] : List Int).length : Int) - 1 := by simp
      simp only [slices_Reverse_int_int.l0, if_neg this, List.reverse_singleton]
      exact Ev.some _
    | x :: y :: M', hd =>
      obtain ⟨M2, z, hM⟩ : ∃ M2 z, y :: M' = M2 ++ [z] := ⟨(y :: M').dropLast, (y :: M').getLast (by simp), (List.dropLast_concat_getLast (by simp)).symm⟩
      rw [hM] at hd hb ⊢
      have hl : (A ++ x :: (M2 ++ [z]) ++ B).length = A.length + M2.length + 2 + B.length := by simp; omega
      have hj : (A.length : Int) + ((x :: (M2 ++ [z])).length : Int) - 1 = ((A.length + M2.length + 1 : Nat) : Int) := by simp; omega
      have e1 : A ++ x :: (M2 ++ [z]) ++ B = (A ++ x :: M2) ++ z :: B := by simp
      have r1 : rd (A ++ x :: (M2 ++ [z]) ++ B) (A.length : Int) = x := by
        rw [show A ++ x :: (M2 ++ [z]) ++ B = A ++ x :: (M2 ++ [z] ++ B) by simp]
        exact mid_rd rfl
      have r2 : rd (A ++ x :: (M2 ++ [z]) ++ B) ((A.length + M2.length + 1 : Nat) : Int) = z := by
        rw [e1, show A.length + M2.length + 1 = (A ++ x :: M2).length by simp; omega]
        exact mid_rd rfl
      have s1 : ((A ++ x :: (M2 ++ [z]) ++ B).set A.length z).set (A.length + M2.length + 1) x = (A ++ [z]) ++ M2 ++ (x :: B) := by
        rw [show A ++ x :: (M2 ++ [z]) ++ B = A ++ x :: (M2 ++ z :: B) by simp, List.set_append_right _ _ (Nat.le_refl _)]
        rw [Nat.sub_self, List.set_cons_zero]
        rw [show A ++ z :: (M2 ++ z :: B) = (A ++ z :: M2) ++ z :: B by simp, List.set_append_right _ _ (by simp; omega)]
        rw [show A.length + M2.length + 1 - (A ++ z :: M2).length = 0 by simp; omega, List.set_cons_zero]
        simp
      refine Ev.succ ?_
      rw [hj]
      have c1 : (A.length : Int) < ((A.length + M2.length + 1 : Nat) : Int) := by omega
      have c2 : (0 : Int) ≤ ((A.length + M2.length + 1 : Nat) : Int) := by omega
      have c3 : ((A.length + M2.length + 1 : Nat) : Int) < ((A ++ x :: (M2 ++ [z]) ++ B).length : Int) := by rw [hl]; omega
      have c4 : (A.length : Int) < ((A ++ x :: (M2 ++ [z]) ++ B).length : Int) := by rw [hl]; omega
      have w1 : wrap64 ((A.length : Int) + 1) = ((A ++ [z]).length : Int) := by rw [wrap_id (by omega) (by omega)]; simp
      have w2 : wrap64 (((A.length + M2.length + 1 : Nat) : Int) - 1) = ((A ++ [z]).length : Int) + M2.length - 1 := by rw [wrap_id (by omega) (by omega)]; simp; omega
      simp only [slices_Reverse_int_int.l0, if_pos c1, if_pos c2, if_pos c3, if_pos c4, if_pos (show (0 : Int) ≤ (A.length : Int) by omega), r1, r2, Int.toNat_natCast, s1, w1, w2]
      have := ih M2 (A ++ [z]) (x :: B) (by simp at hd; omega) (by simp at hb ⊢; omega)
      have e2 : A ++ [z] ++ M2.reverse ++ x :: B = A ++ (x :: (M2 ++ [z])).reverse ++ B := by simp
      rw [← e2]
      exact this
theorem Reverse_ev (l : List Int) (hb : l.length < 9223372036854775807) : Ev (fun k => slices_Reverse_int_int.f k l) l.reverse := by
  have h := Reverse_loop l.length l [] [] (Nat.le_refl _) (by simpa using hb)
  have w : wrap64 ((l.length : Int) - 1) = ((([] : List Int).length : Nat) : Int) + l.length - 1 := by rw [wrap_id (by omega) (by omega)]; simp
  unfold slices_Reverse_int_int.f
  rw [w]
  simpa using h

/-- a tone of a form -/
def toneOf (n kind k : Int) (x : Int) : Int := ((if kind % 2 = 1 then -x else x) + k % n) % n
def formOf (n kind k : Int) (l : List Int) : List Int := if kind / 2 % 2 = 1 then (l.map (toneOf n kind k)).reverse else l.map (toneOf n kind k)
theorem kind_bits {kind : Int} (h0 : 0 ≤ kind) (h3 : kind < 4) : (Go.bits .and .i64 kind 1 = 0 ↔ ¬ kind % 2 = 1) ∧ (Go.bits .and .i64 kind 2 = 0 ↔ ¬ kind / 2 % 2 = 1) := by
  have : kind = 0 ∨ kind = 1 ∨ kind = 2 ∨ kind = 3 := by omega
  rcases this with rfl | rfl | rfl | rfl <;> decide
theorem form_loop (n : Nat) (hn : 1 ≤ n) (hn2 : n ≤ 62) (kind k : Int) (hk0 : 0 ≤ kind) (hk3 : kind < 4) (l : List Int) (hl : l.length < 9223372036854775807) (hr : ∀ x ∈ l, 0 ≤ x ∧ x < 62) : ∀ (xs pre : List Int), l = pre ++ xs →
    Ev (fun q => rows_piece_form.l0 q kind k (pre.map (toneOf n kind k) ++ xs) (l.length : Int) (pre.length : Int) (n : Int) l) (formOf n kind k l) := by
  have hb := kind_bits hk0 hk3
  intro xs
  induction xs with
  | nil =>
    intro pre h0
    have hp : pre = l := by simpa using h0.symm
    subst hp
    refine Ev.succ ?_
    simp only [rows_piece_form.l0, if_neg (show ¬ (pre.length : Int) < (pre.length : Int) by omega), List.append_nil, hb.2]
    refine Ev.ite (fun e => ?_) (fun e => ?_)
    · unfold formOf
      rw [if_neg e]
      exact Ev.some _
    · unfold formOf
      rw [if_pos (Classical.not_not.1 e)]
      exact Ev.bind (Reverse_ev _ (by simpa using hl)) (Ev.some _)
  | cons x xs ih =>
    intro pre h0
    have hx := hr x (by rw [h0]; simp)
    have hlen : pre.length < l.length := by rw [h0]; simp
    have hlen2 : (pre.length : Int) < ((pre.map (toneOf n kind k) ++ x :: xs).length : Int) := by simp; omega
    have hrd : rd (pre.map (toneOf n kind k) ++ x :: xs) (pre.length : Int) = x := by
      have := mid_rd (l := pre.map (toneOf n kind k) ++ x :: xs) (pre := pre.map (toneOf n kind k)) rfl
      simpa using this
    have hset : ∀ v, (pre.map (toneOf n kind k) ++ x :: xs).set pre.length v = pre.map (toneOf n kind k) ++ v :: xs := by
      intro v
      rw [List.set_append_right _ _ (by simp)]
      simp
    have hm0 := Int.emod_nonneg k (show (n : Int) ≠ 0 by omega)
    have hm1 := Int.emod_lt_of_pos k (show (0 : Int) < n by omega)
    have go : ∀ v, v = toneOf n kind k x → Ev (fun q => rows_piece_form.l0 q kind k (pre.map (toneOf n kind k) ++ v :: xs) (l.length : Int) ((pre ++ [x]).length : Int) (n : Int) l) (formOf n kind k l) := by
      rintro v rfl
      have := ih (pre ++ [x]) (mid_mv h0)
      simpa using this
    refine Ev.succ ?_
    simp only [rows_piece_form.l0, if_pos (mid_lt h0), if_pos (show (0 : Int) ≤ (pre.length : Int) by omega), if_pos hlen2, hrd, Int.toNat_natCast, hset, mid_next h0 hl, rows_mod_f (show (0 : Int) < (n : Int) by omega) (show (n : Int) < 4611686018427387904 by omega), Option.bind_some, hb.1]
    refine Ev.ite (fun e => ?_) (fun e => ?_)
    · rw [wrap_id (by omega) (by omega)]
      exact go _ (by unfold toneOf; rw [if_neg e])
    · rw [wrap_id (n := -x) (by omega) (by omega), wrap_id (by omega) (by omega)]
      exact go _ (by unfold toneOf; rw [if_pos (Classical.not_not.1 e)])
theorem pieceForm_ev (n : Nat) (hn : 1 ≤ n) (hn2 : n ≤ 62) (kind k : Int) (hk0 : 0 ≤ kind) (hk3 : kind < 4) (l : List Int) (hl : l.length < 17592186044416) (hr : ∀ x ∈ l, 0 ≤ x ∧ x < 62) :
    Ev (fun q => rows_piece_form.f q (n : Int) l kind k) (formOf n kind k l) := by
  unfold rows_piece_form.f
  refine Ev.bind_some (show slices_Clone_int_int.f l = some l by unfold slices_Clone_int_int.f; rw [if_pos hl]) ?_
  simpa using form_loop n hn hn2 kind k hk0 hk3 l (by omega) hr l [] rfl
theorem row_small {l : List Int} (h : IsRow l) : ∀ x ∈ l, 0 ≤ x ∧ x < 62 := fun x hx => by have := h.2.2.1 x hx; have := h.2.1; omega
theorem formOf_length (n kind k : Int) (l : List Int) : (formOf n kind k l).length = l.length := by unfold formOf; split <;> simp
theorem formOf_range {n : Nat} (hn : 1 ≤ n) (kind k : Int) (l : List Int) : ∀ x ∈ formOf n kind k l, 0 ≤ x ∧ x < n := by
  intro x hx
  have : x ∈ l.map (toneOf n kind k) := by
    unfold formOf at hx
    split at hx
    · exact List.mem_reverse.1 hx
    · exact hx
  obtain ⟨y, _, rfl⟩ := List.mem_map.1 this
  exact ⟨Int.emod_nonneg _ (by omega), Int.emod_lt_of_pos _ (by omega)⟩

end Go.Proofs.Ytpfjnpbcnlbhaaa.P
namespace Go.Proofs.Ytpfjnpbcnlbhaaa.P
open Go.RowKit Go.Proofs.YtpfjnpbcnlbhaaaW.PrintWords Go.Proofs.YtpfjnpbcnlbhaaaW.PrintLast Go.Proofs.YtpfjnpbcnlbhaaaW.PrintMore
attribute [local go_sem] max2_int min2_int max_two min_two max_three min_three max_four min_four   -- for this text's walks alone
set_option linter.unusedVariables false
set_option linter.unusedSimpArgs false

attribute [local go_sem] Oper.semAt_some
/-! rows.piece.forms: all forms, by kinds and moves -/
def pairsTo (n kind k : Nat) : List (Nat × Nat) := (List.range kind).flatMap (fun q => (List.range n).map fun j => (q, j)) ++ (List.range k).map fun j => (kind, j)
def formPairs (n : Nat) : List (Nat × Nat) := pairsTo n 4 0
theorem pairsTo_next (n kind k : Nat) : pairsTo n kind k ++ [(kind, k)] = pairsTo n kind (k + 1) := by
  unfold pairsTo; rw [List.range_succ, List.map_append]; simp
theorem pairsTo_kind (n kind : Nat) : pairsTo n kind n = pairsTo n (kind + 1) 0 := by
  unfold pairsTo; rw [List.range_succ]; simp
theorem pairsTo_split {n kind k : Nat} (hk : k < n) : ∃ rest, pairsTo n (kind + 1) 0 = pairsTo n kind k ++ (kind, k) :: rest := by
  obtain ⟨r, hr⟩ : ∃ r, n = k + 1 + r := ⟨n - (k + 1), by omega⟩
  refine ⟨((List.range r).map fun j => (kind, k + 1 + j)), ?_⟩
  rw [← pairsTo_kind]
  unfold pairsTo
  rw [List.append_assoc]
  congr 1
  conv => lhs; rw [hr, List.range_add, List.map_append, List.range_succ, List.map_append, List.map_map]
  simp [Function.comp_def]
theorem formPairs_split {n kind k : Nat} (h4 : kind < 4) (hk : k < n) : ∃ rest, formPairs n = pairsTo n kind k ++ (kind, k) :: rest := by
  have up : ∀ d q, ∃ rest, pairsTo n (q + d) 0 = pairsTo n q 0 ++ rest := by
    intro d
    induction d with
    | zero => intro q; exact ⟨[], by simp⟩
    | succ d ih =>
      intro q
      obtain ⟨r, hr⟩ := ih q
      refine ⟨r ++ (List.range n).map fun j => (q + d, j), ?_⟩
      rw [← Nat.add_assoc, ← pairsTo_kind]
      have : pairsTo n (q + d) n = pairsTo n (q + d) 0 ++ (List.range n).map fun j => (q + d, j) := by unfold pairsTo; simp
      rw [this, hr, List.append_assoc]
  obtain ⟨r1, h1⟩ := pairsTo_split (kind := kind) hk
  obtain ⟨r2, h2⟩ := up (4 - (kind + 1)) (kind + 1)
  refine ⟨r1 ++ r2, ?_⟩
  unfold formPairs
  rw [show (4 : Nat) = kind + 1 + (4 - (kind + 1)) by omega, h2, h1]
  simp
def FormEnc (n : Int) (l : List Int) (x : Nat × Nat) (W : World) (vals : Array Value) : Prop :=
  ∃ A c, vals = #[.agg #[.int .i64 (x.1 : Int), .int .i64 (x.2 : Int), .slice A (formOf n x.1 x.2 l).length c]] ∧ Kd.C (Kd.int .i64) W A (formOf n x.1 x.2 l).length (formOf n x.1 x.2 l) ∧ (formOf n x.1 x.2 l).length ≤ c
set_option maxHeartbeats 4000000 in
set_option maxRecDepth 100000 in
theorem forms_seq (X : Nat → Obj → Prop) (n : Nat) (hn : 1 ≤ n) (hn2 : n ≤ 62) (A : Option Addr) (c : Nat) (xs : List Int) (hxl : xs.length < 1000) (hxr : ∀ x ∈ xs, 0 ≤ x ∧ x < 62) (hc : xs.length ≤ c) (w : World) (hX : ∀ b cs, X b (.cells cs 65) → b < w.heap.size)
    (hC : ∀ W, KpC X w W → Kd.C (Kd.int .i64) W A xs.length xs) :
    SeqFs Fence.wide 2 Try.prog 53 #[.agg #[.int .i64 (n : Int), .slice A xs.length c]] #[] (FormEnc n xs) (formPairs n) GrowSt (KpC X) w := by
  intro l J Jx W hW hJ hJx hY h0
  have HC := Aside0.mk hC
  have HN := Aside0.mk hn
  have HXX := Aside0.mk hX
  have HW := Aside0.mk hW
  have HXL := Aside0.mk hxl
  have HXR := Aside0.mk hxr
  have HCC := Aside0.mk hc
  have HN2 := Aside0.mk hn2
  clear hn hX hW hC hxl hxr hc hn2
  simp only [List.push_toArray, List.append_toArray, List.nil_append, List.cons_append]
  refine callsIn_of_wp Try.func53 rfl trivial ?_ rfl
  simp only [Try.ntmps53, List.size_toArray, List.length_cons, List.length_nil, Nat.reduceAdd, Nat.reduceSub, Array.replicate_succ, Array.replicate_zero, List.push_toArray, List.append_toArray, List.nil_append, List.cons_append]
  gi_wp2
  obtain ⟨PB, hPB⟩ : ∃ PB, PB = W.heap.size := ⟨_, rfl⟩
  obtain ⟨W0, hW0⟩ : ∃ W0, W.alloc (.cells #[.int .i64 (n : Int), .slice A xs.length c] 65) = W0 := ⟨_, rfl⟩
  rw [hW0, ← hPB]
  have b0 : W0.heap[PB]? = some (.cells #[.int .i64 (n : Int), .slice A xs.length c] 65) := by rw [← hW0, hPB]; exact World.alloc_heap_new W _
  have g0 : W.grownBy W0 none := by rw [← hW0]; exact World.grownBy_alloc W _ none
  have hwW : w.grownBy W none := grown_of_below HW.out none
  have k0 : KpC X w W0 := (KpC.of_grown hwW).trans (KpC.of_grown g0)
  have hXP : Aside0 (∀ cs, ¬ X PB (.cells cs 65)) := ⟨fun cs h => by have := HXX.out _ _ h; have := HW.out.size; omega⟩
  have HJ0 := Aside0.mk (hJ _ _ _ h0 g0)
  have B0 := Aside0.mk b0
  have K0 := Aside0.mk k0
  have HJ := Aside0.mk hJ
  have HY := Aside0.mk hY
  clear hW0 hPB b0 g0 hwW k0 hJ h0 hY hJx
  gi_loopw [6] (fun p wr => ∃ kind : Nat, p = .int .i64 (kind : Int) ∧ kind ≤ 4 ∧ Aside0 (J (pairsTo n kind 0) wr) ∧ Aside0 (KpC X w wr) ∧ Aside0 (wr.heap[PB]? = some (.cells #[.int .i64 (n : Int), .slice A xs.length c] 65)))
    (fun p wr => 4 - (intO p).toNat)
  case atStart => exact ⟨0, rfl, by omega, HJ0, K0, B0⟩
  case round =>
    clear HJ0 K0 B0
    obtain ⟨kind, rfl, h4, HJ1, K1, B0⟩ := hrel
    rcases Nat.lt_or_eq_of_le h4 with hlt | rfl
    · have hz : (kind : Int) < 4 := by omega
      have b0 := (two_cells B0.out).1
      have H4 := Aside0.mk hlt
      clear h4
      gi_wp2
      gi_loopw [11] (fun p wr => ∃ k : Nat, p = .int .i64 (k : Int) ∧ k ≤ n ∧ Aside0 (J (pairsTo n kind k) wr) ∧ Aside0 (KpC X w wr) ∧ Aside0 (wr.heap[PB]? = some (.cells #[.int .i64 (n : Int), .slice A xs.length c] 65)))
        (fun p wr => n - (intO p).toNat)
      case atStart => exact ⟨0, rfl, by omega, HJ1, K1, B0⟩
      case round =>
        clear HJ1 K1 B0 b0
        obtain ⟨k, rfl, hkn, HJ1, K1, B0⟩ := hrel
        rcases Nat.lt_or_eq_of_le hkn with hkl | rfl
        · have hkz : (k : Int) < (n : Int) := by omega
          have HKL := Aside0.mk hkl
          have b0 := (two_cells B0.out).1
          have b1 := (two_cells B0.out).2
          clear hkn

          obtain ⟨kf, hkf⟩ := Ev.rounds (g := fun q => rows_piece_form.f q (n : Int) xs kind k) (pieceForm_ev n HN.out HN2.out kind k (by omega) (by have := H4.out; omega) xs (by have := HXL.out; omega) HXR.out)
          have HF := Aside0.mk (rows_piece_form.calls kf (n : Int) A c xs kind k _ wr (HC.out wr K1.out) HCC.out hkf)
          obtain ⟨rest, hrest⟩ := formPairs_split (n := n) H4.out hkl
          have HRS := Aside0.mk hrest
          clear hrest hkf hkl
          gi_wp2_with (refine ⟨trivial, ?_⟩; gi_at_call 57; refine (callsIn_wide.2 HF.out).mono ?_; rintro e w2 ⟨v0, rfl, ho, hb⟩; obtain ⟨A2, c2, e2⟩ := Kd.R_slice ho; subst e2; have hg2 : GrowSt wr w2 := grown_of_below hb none; have K2 := Aside0.mk (K1.out.trans (KpC.of_grown hg2)); obtain ⟨fn, tmps, assign, body, hy, hR⟩ := HY.out (pairsTo n kind k) (kind, k) rest w2 _ HRS.out (HJ.out _ _ _ HJ1.out hg2) ⟨A2, c2, rfl, (Kd.R_reads' ho).2.2, (Kd.R_reads' ho).2.1⟩; have HRR := Aside0.mk hR; have B20 := Aside0.mk ((KpC.of_grown (X := X) hg2).2 _ _ (hXP.out _) B0.out rfl); clear hR ho hb hg2)
          refine HRR.out.mono ?_
          rintro e w3 (⟨rfl, hJ3, hk3⟩ | ⟨rfl, hJx3⟩)
          · have HJ3 := Aside0.mk hJ3
            have K3 := Aside0.mk (K2.out.trans hk3)
            have C30 := Aside0.mk (hk3.2 _ _ (hXP.out _) B20.out rfl)
            have hkw : wrap64 ((k : Int) + 1) = (k : Int) + 1 := wrap_id (by omega) (by have := HN2.out; omega)
            clear hJ3 hk3 hy
            gi_wp2
            go_roundw
            case rel => exact ⟨k + 1, by (try rw [hkw]); go_num, HKL.out, by rw [← pairsTo_next]; exact HJ3, K3, C30⟩
            case measure => exact intO_less hkw HKL.out
          · gi_wp2
            refine bodyPost_ret (results_none rfl _ _ _) rfl ?_
            exact ⟨⟨_, rfl⟩, .inr ⟨pairsTo n kind k ++ [(kind, k)], rest, by rw [HRS.out]; simp, hJx3⟩⟩
        · gi_wp2
          go_roundw
          case rel => exact ⟨kind + 1, by go_num, H4.out, by rw [← pairsTo_kind]; exact HJ1, K1, B0⟩
          case measure => exact intO_less (by go_num) H4.out
    · gi_wp2
      go_end0
      exact ⟨⟨_, rfl⟩, .inl HJ1.out⟩

end Go.Proofs.Ytpfjnpbcnlbhaaa.P
namespace Go.Proofs.Ytpfjnpbcnlbhaaa.P
open Go.RowKit
/-! A range within a round of a range: one block is laid, no mark. -/
variable {F : Fence} {n : Nat} {P : Program}
theorem range_fsN {α : Type} {g : Operand} {ps : Array Tmp} {assign body : Code} {Q : Exit → Act → World → Prop} {a : Act} {w : World}
    {l₀ : Nat} {r₀ : Loop} (hro : F.round = some l₀) (hl₀ : w.heap[l₀]? = some (.loop r₀)) (h1 : 1 ≤ n) {gf : Nat} {fs lb : Array Value} (hg : a.eval g = .func (.func gf) fs lb) (hFg : F.fn gf) (eg : ∀ args w, (callFunc gf args).run P w = .ok (.enter gf args) w)
    {Enc : α → World → Array Value → Prop} {St Kp : World → World → Prop} {xs : List α} (hseq : SeqFs F (n - 1) P gf fs lb Enc xs St Kp w) (hps : ∀ x W vals, Enc x W vals → vals.size = ps.size)
    (hSt : ∀ A B, St A B → KeepsOthers A B)
    (hKt : ∀ {A B C : World}, Kp A B → Kp B C → Kp A C) (hKb : ∀ (W : World) (l : Nat) (o o' : Obj), w.heap.size ≤ l → W.heap[l]? = some o → o.isCells = false → Kp W (W.putObj l o'))
    (I : List α → World → Prop) (Ix : Code → List α → World → Prop) (hI : OwnFrom w.heap.size I) (hIx : ∀ c, OwnFrom w.heap.size (Ix c))
    (hIs : ∀ s A B, I s A → St A B → I s B) (hIxs : ∀ c s A B, Ix c s A → St A B → Ix c s B) (h0 : I [] w) (Ax : α → Act → World → Prop) (hAx : ∀ x a', OwnFrom w.heap.size (fun (_ : Unit) W => Ax x a' W))
    (hassign : ∀ (l : Nat) (pre : List α) (x : α) (vals : Array Value) (W : World) (K : Act → World → Prop), I pre W → Enc x W vals → (∀ a' W', KeepsOthers W W' → Kp W W' → I pre W' → Ax x a' W' → K a' W') →
      assign.wpIn (F.inRound l) (n - 1 - 1) P (Exit.then K (fun _ _ _ => False)) { tmps := (ps.zip vals).foldl (fun t (p, v) => t.setIfInBounds p v) a.tmps, defers := [] } W)
    (hbody : ∀ (l : Nat) (pre : List α) (x : α) (rest : List α) (a' : Act) (W : World), w.heap.size ≤ l → (∃ r, W.heap[l]? = some (.loop r)) → xs = pre ++ x :: rest → I pre W → Ax x a' W → body.wpIn (F.inRound l) (n - 1 - 1) P (LeftBy Kp I Ix (pre ++ [x]) W) a' W)
    (hdone : ∀ (W : World), I xs W → Q .normal a W)
    (hstop : ∀ (c : Code) (pre rest : List α) (W : World), xs = pre ++ rest → Ix c pre W → c.wpIn F n P Q a W) :
    (Code.rangeFunc g ps assign body).wpIn F n P Q a w := by
  refine wpIn_rangeFunc (fun fn hfn => ?_)
  rw [hro]
  obtain ⟨R, hR⟩ : ∃ R : LoopState → Option Code → Loop, R = fun st pe => { state := st, pending := pe, fn, tmps := a.tmps, params := ps, assign, body, defers := r₀.defers } := ⟨_, rfl⟩
  obtain ⟨V, hV⟩ : ∃ V, w.alloc (.loop (R .ready none)) = V := ⟨_, rfl⟩
  have recV : V.heap[w.heap.size]? = some (.loop (R .ready none)) := by rw [← hV]; exact World.alloc_heap_new w _
  have iV : I [] V := by rw [← hV]; exact hI.alloc _ h0
  have bV : Below w.heap.size w V := by rw [← hV]; exact ((Below.refl _ w).alloc (Nat.le_refl _) _)
  refine ⟨w.heap.size, [], V, { target := .fn (.func gf) lb, args := fs ++ #[.func (.yield w.heap.size) #[] #[]] }, V, gf,
    fs ++ #[.func (.yield w.heap.size) #[] #[]] ++ lb, V, ?_, ?_, ?_, ?_, fun _ => h1, ?_⟩
  · rw [← hV, hR]; exact run_enterLoop_inner hl₀ _ _ _ _ _
  · simp only [resolve, hg]
    simp [go_sem]
  · intro f' hf'; simp [Target.leads] at hf'; subst hf'; exact hFg
  · simp [invoke, go_sem, eg]
  · refine (hseq (w.heap.size)
      (fun pre W => I pre W ∧ W.heap[w.heap.size]? = some (.loop (R .ready none)))
      (fun pre W => ∃ c, Ix c pre W ∧ W.heap[w.heap.size]? = some (.loop (R .done (some c))))
      V bV
      (fun s A B hs hst => ⟨hIs s A B hs.1 hst, (hSt A B hst).same _ _ hs.2 rfl⟩)
      (fun s A B hs hst => by
        obtain ⟨c, hc, hl⟩ := hs
        exact ⟨c, hIxs c s A B hc hst, (hSt A B hst).same _ _ hl rfl⟩)
      ?_ ⟨iV, recV⟩).mono ?_
    · rintro pre x rest W vals hx ⟨hi, hl⟩ hE
      have hy := run_yield (P := P) (args := vals) hl (by rw [hR]; exact hps x W vals hE)
      rw [hR] at hy
      refine ⟨fn, _, assign, body, hy, roundIn_of_wpIn hfn (hassign _ pre x vals W _ hi hE ?_)⟩
      intro a' W' k1 kp1 i1 ax1
      have hl1 : W'.heap[w.heap.size]? = some (.loop (R .ready none)) := k1.same _ _ hl rfl
      have hlt : w.heap.size < W'.heap.size := (Array.getElem?_eq_some_iff.1 hl1).1
      refine ⟨_, run_beginRound hl1 (by rw [hR]), ?_⟩
      have hl2 : (W'.putObj (w.heap.size) (.loop { R .ready none with state := .busy })).heap[w.heap.size]? = some (.loop { R .ready none with state := .busy }) := World.putObj_heap_same hlt
      have hw2 : Kp W (W'.putObj (w.heap.size) (.loop { R .ready none with state := .busy })) := hKt kp1 (hKb _ _ _ _ (by omega) hl1 rfl)
      refine wpIn_mono (hbody _ pre x rest a' _ (by omega) ⟨_, hl2⟩ hx (hI.putObj _ i1 (by omega) hl1 rfl) ((hAx x a').putObj (s := ()) _ ax1 (by omega) hl1 rfl)) ?_
      have ends : ∀ (jump : Option Code) (W3 : World), KeepsOthers (W'.putObj (w.heap.size) (.loop { R .ready none with state := .busy })) W3 →
          (Instr.endRound (w.heap.size) jump).run P W3 = .ok (.bool jump.isNone) (W3.putObj (w.heap.size) (.loop (R (if jump.isNone then .ready else .done) jump))) ∧
          W3.heap[w.heap.size]? = some (.loop { R .ready none with state := .busy }) ∧
          (W3.putObj (w.heap.size) (.loop (R (if jump.isNone then .ready else .done) jump))).heap[w.heap.size]? = some (.loop (R (if jump.isNone then .ready else .done) jump)) := fun jump W3 k3 => by
        have hl3 := k3.same _ _ hl2 rfl
        have := run_endRound (P := P) jump hl3
        rw [hR] at this ⊢
        exact ⟨this, by rw [hR] at hl3; exact hl3, World.putObj_heap_same (Array.getElem?_eq_some_iff.1 hl3).1⟩
      rintro e a3 W3 hp
      cases e with
      | normal =>
        obtain ⟨k3, kp3, i3⟩ := hp
        obtain ⟨hr, hl3, hl4⟩ := ends none W3 k3
        exact ⟨_, _, hr, .inl ⟨rfl, ⟨hI.putObj _ i3 (by omega) hl3 rfl, hl4⟩, hKt (hKt hw2 kp3) (hKb _ _ _ _ (by omega) hl3 rfl)⟩⟩
      | ret =>
        obtain ⟨k3, i3⟩ := hp
        obtain ⟨hr, hl3, hl4⟩ := ends (some .ret) W3 k3
        exact ⟨_, _, hr, .inr ⟨rfl, .ret, (hIx _).putObj _ i3 (by omega) hl3 rfl, hl4⟩⟩
      | exit id =>
        obtain ⟨k3, i3⟩ := hp
        obtain ⟨hr, hl3, hl4⟩ := ends (some (.exit id)) W3 k3
        exact ⟨_, _, hr, .inr ⟨rfl, .exit id, (hIx _).putObj _ i3 (by omega) hl3 rfl, hl4⟩⟩
      | goto t => exact hp.elim
      | panic ch => exact hp.elim
      | outgrown => exact hp.elim
    · rintro e W2 ⟨⟨v, rfl⟩, (⟨hi, hl⟩ | ⟨pre, rest, hx, c, hi, hl⟩)⟩
      · exact ⟨none, _, by have := run_endLoop (P := P) hl (by rw [hR]; simp); rw [hR] at this; exact this, hdone _ (hI.putObj _ hi (by omega) hl rfl)⟩
      · exact ⟨some c, _, by have := run_endLoop (P := P) hl (by rw [hR]; simp); rw [hR] at this; exact this, hstop c pre rest _ hx ((hIx _).putObj _ hi (by omega) hl rfl)⟩
end Go.Proofs.Ytpfjnpbcnlbhaaa.P
namespace Go.Proofs.Ytpfjnpbcnlbhaaa.P
open Go.RowKit Go.Proofs.YtpfjnpbcnlbhaaaW.PrintWords Go.Proofs.YtpfjnpbcnlbhaaaW.PrintLast Go.Proofs.YtpfjnpbcnlbhaaaW.PrintMore
attribute [local go_sem] max2_int min2_int max_two min_two max_three min_three max_four min_four   -- for this text's walks alone
set_option linter.unusedVariables false
set_option linter.unusedSimpArgs false

/-! ### slices_Equal_int_int: function 20 -/
def slices_Equal_int_int.l0 : Nat → List Int → List Int → Int → Int → Option (Bool)
  | 0, _, _, _, _ => none
  | k + 1, x0, x1, x12, x13 => if x13 < x12 then (if 0 ≤ x13 then (if x13 < (x0.length : Int) then (if x13 < (x1.length : Int) then (if (rd x0 x13) = (rd x1 x13) then (slices_Equal_int_int.l0 k x0 x1 x12 (wrap64 (x13 + 1))) else (some false)) else (none)) else (none)) else (none)) else (some true)
def slices_Equal_int_int.f (k : Nat) (l0 : List Int) (l1 : List Int) : Option (Bool) := if (l0.length : Int) = (l1.length : Int) then (slices_Equal_int_int.l0 k l0 l1 (l0.length : Int) 0) else (some false)
theorem slices_Equal_int_int.mono_l : ∀ k, (∀ y0 y1 y2 y3, LeO (slices_Equal_int_int.l0 k y0 y1 y2 y3) (slices_Equal_int_int.l0 (k + 1) y0 y1 y2 y3))
  | 0 => fun _ _ _ _ r h => by simp [slices_Equal_int_int.l0] at h
  | k + 1 => by
    have ih0 := slices_Equal_int_int.mono_l k
    · intro y0 y1 y2 y3
      unfold slices_Equal_int_int.l0
      repeat' first
      | (with_reducible exact ih0 _ _ _ _)
      | (with_reducible exact LeO.refl _)
      | (with_reducible exact LeO.none _)
      | (with_reducible refine LeO.ite ?_ ?_)
      | (with_reducible refine LeO.bind ?_ (fun _ => ?_))
      | exact ih0 _ _ _ _
      | exact LeO.none _
      | refine LeO.ite ?_ ?_
      | refine LeO.bind ?_ (fun _ => ?_)
theorem slices_Equal_int_int.mono : ∀ a0 a1 k, LeO (slices_Equal_int_int.f k a0 a1) (slices_Equal_int_int.f (k + 1) a0 a1) := by
  intro a0 a1 k
  have ih0 := slices_Equal_int_int.mono_l k
  unfold slices_Equal_int_int.f
  repeat' first
      | (with_reducible exact ih0 _ _ _ _)
      | (with_reducible exact LeO.refl _)
      | (with_reducible exact LeO.none _)
      | (with_reducible refine LeO.ite ?_ ?_)
      | (with_reducible refine LeO.bind ?_ (fun _ => ?_))
      | exact ih0 _ _ _ _
      | exact LeO.none _
      | refine LeO.ite ?_ ?_
      | refine LeO.bind ?_ (fun _ => ?_)
set_option maxHeartbeats 8000000 in
set_option maxRecDepth 100000 in
theorem slices_Equal_int_int.calls (k : Nat) (A0 : Option Addr) (c0 : Nat) (l0 : List Int) (A1 : Option Addr) (c1 : Nat) (l1 : List Int) (r : Bool) (w : World) (hr0 : Kd.C (Kd.int .i64) w A0 l0.length l0) (hc0 : l0.length ≤ c0) (hr1 : Kd.C (Kd.int .i64) w A1 l1.length l1) (hc1 : l1.length ≤ c1) (h : slices_Equal_int_int.f k l0 l1 = some r) :
    Calls Try.prog 20 #[.slice A0 l0.length c0, .slice A1 l1.length c1] w fun e w' => e = .returned (.bool r) ∧ Drawn0 w w' := by
  have HR0 := Aside0.mk hr0
  have HC0 := Aside0.mk hc0
  clear hr0 hc0
  have HR1 := Aside0.mk hr1
  have HC1 := Aside0.mk hc1
  clear hr1 hc1
  have H : (if (l0.length : Int) = (l1.length : Int) then (slices_Equal_int_int.l0 k l0 l1 (l0.length : Int) 0) else (some false)) = some r := h
  clear h
  by_cases c3 : (l0.length : Int) = (l1.length : Int)
  · rw [if_pos c3] at H
    have c3b0 : ((l0.length : Int) == (l1.length : Int)) = true := beq_iff_eq.mpr c3
    have c3b1 : ((l0.length : Int) != (l1.length : Int)) = false := bne_eq_false_iff_eq.mpr c3
    have c3b2 : (l0.length == l1.length) = true := by first | simpa using c3 | (simp at c3 ⊢; omega)
    clear c3
    have H' := Aside0.mk H
    clear H
    go_enter Try.func20, Try.ntmps20
    go_wp2
    repeat (go_quiet (fail); try go_wp2)
    go_loopg [13] k (fun kq v13 w' => ∃ (x13_1 : Int), v13 = .int .i64 x13_1 ∧ Aside0 (slices_Equal_int_int.l0 kq l0 l1 (l0.length : Int) x13_1 = some r) ∧ Aside0 (kq ≤ k) ∧ Drawn0 w w')
    case atStart => exact ⟨(0), (by first | rfl | (simp; done) | (simp [*]; done)), H', ⟨Nat.le_refl _⟩, by repeat (first | exact Drawn0.refl _ | apply Drawn0.step)⟩
    case round =>
      clear H'
      try clear c1
      try clear c2
      try clear p2
      try clear c3
      try clear c3b0
      try clear c3b1
      try clear c3b2
      obtain ⟨x13_1, rfl, HA, HK1, ⟨m1, rfl⟩⟩ := hrel
      cases gk with
      | zero => exact absurd HA.out (by simp [slices_Equal_int_int.l0])
      | succ k1 =>
        have H := HA.out
        clear HA
        simp only [slices_Equal_int_int.l0] at H
        by_cases c4 : x13_1 < (l0.length : Int)
        · rw [if_pos c4] at H
          have c4b0 : decide (x13_1 < (l0.length : Int)) = true := decide_eq_true c4
          clear c4
          by_cases c5 : 0 ≤ x13_1
          · rw [if_pos c5] at H
            have c5b0 : decide (0 ≤ x13_1) = true := decide_eq_true c5
            clear c5
            by_cases c6 : x13_1 < (l0.length : Int)
            · rw [if_pos c6] at H
              have c6b0 : decide (x13_1 < (l0.length : Int)) = true := decide_eq_true c6
              clear c6
              by_cases c7 : x13_1 < (l1.length : Int)
              · rw [if_pos c7] at H
                have c7b0 : decide (x13_1 < (l1.length : Int)) = true := decide_eq_true c7
                clear c7
                by_cases c8 : (rd l0 x13_1) = (rd l1 x13_1)
                · rw [if_pos c8] at H
                  have c8b0 : ((rd l0 x13_1) == (rd l1 x13_1)) = true := beq_iff_eq.mpr c8
                  have c8b1 : ((rd l0 x13_1) != (rd l1 x13_1)) = false := bne_eq_false_iff_eq.mpr c8
                  clear c8
                  have H' := Aside0.mk H
                  clear H
                  have p1001 : 0 ≤ (x13_1 : Int) := of_decide_eq_true (by first | (with_reducible assumption) | assumption)
                  have q1001 : x13_1 < (l0.length : Int) := of_decide_eq_true (by first | (with_reducible assumption) | assumption)
                  obtain ⟨ad1001, e1001, hx1001_0⟩ := Kd.at_int HR0.out x13_1 p1001 q1001
                  cases e1001
                  replace p1001 := eq_true p1001
                  replace q1001 := eq_true q1001
                  have p1002 : 0 ≤ (x13_1 : Int) := of_decide_eq_true (by first | (with_reducible assumption) | assumption)
                  have q1002 : x13_1 < (l1.length : Int) := of_decide_eq_true (by first | (with_reducible assumption) | assumption)
                  obtain ⟨ad1002, e1002, hx1002_0⟩ := Kd.at_int HR1.out x13_1 p1002 q1002
                  cases e1002
                  replace p1002 := eq_true p1002
                  replace q1002 := eq_true q1002
                  go_wp2
                  repeat (go_quiet (fail); try go_wp2)
                  go_roundg k1
                  case measure => have := HK1.out; omega
                  case rel => exact ⟨(wrap64 (x13_1 + 1)), (by first | rfl | (simp; done) | (simp [*]; done)), H', ⟨by have := HK1.out; omega⟩, by repeat (first | exact Drawn0.refl _ | apply Drawn0.step)⟩
                · rw [if_neg c8] at H
                  have c8b0 : ((rd l0 x13_1) == (rd l1 x13_1)) = false := beq_eq_false_iff_ne.mpr c8
                  have c8b1 : ((rd l0 x13_1) != (rd l1 x13_1)) = true := bne_iff_ne.mpr c8
                  obtain rfl := Option.some.inj H
                  have p1001 : 0 ≤ (x13_1 : Int) := of_decide_eq_true (by first | (with_reducible assumption) | assumption)
                  have q1001 : x13_1 < (l0.length : Int) := of_decide_eq_true (by first | (with_reducible assumption) | assumption)
                  obtain ⟨ad1001, e1001, hx1001_0⟩ := Kd.at_int HR0.out x13_1 p1001 q1001
                  cases e1001
                  replace p1001 := eq_true p1001
                  replace q1001 := eq_true q1001
                  have p1002 : 0 ≤ (x13_1 : Int) := of_decide_eq_true (by first | (with_reducible assumption) | assumption)
                  have q1002 : x13_1 < (l1.length : Int) := of_decide_eq_true (by first | (with_reducible assumption) | assumption)
                  obtain ⟨ad1002, e1002, hx1002_0⟩ := Kd.at_int HR1.out x13_1 p1002 q1002
                  cases e1002
                  replace p1002 := eq_true p1002
                  replace q1002 := eq_true q1002
                  go_wp2
                  repeat (go_quiet (fail); try go_wp2)
                  go_ret
                  exact ⟨by first | rfl | (simp; done) | (simp [*]; done), by repeat (first | exact Drawn0.refl _ | apply Drawn0.step)⟩
              · rw [if_neg c7] at H
                exact absurd H (by simp)
            · rw [if_neg c6] at H
              exact absurd H (by simp)
          · rw [if_neg c5] at H
            exact absurd H (by simp)
        · rw [if_neg c4] at H
          have c4b0 : decide (x13_1 < (l0.length : Int)) = false := decide_eq_false c4
          clear c4
          obtain rfl := Option.some.inj H
          go_wp2
          repeat (go_quiet (fail); try go_wp2)
          go_ret
          exact ⟨by first | rfl | (simp; done) | (simp [*]; done), by repeat (first | exact Drawn0.refl _ | apply Drawn0.step)⟩
  · rw [if_neg c3] at H
    have c3b0 : ((l0.length : Int) == (l1.length : Int)) = false := beq_eq_false_iff_ne.mpr c3
    have c3b1 : ((l0.length : Int) != (l1.length : Int)) = true := bne_iff_ne.mpr c3
    have c3b2 : (l0.length == l1.length) = false := by first | simpa using c3 | (simp at c3 ⊢; omega)
    obtain rfl := Option.some.inj H
    go_enter Try.func20, Try.ntmps20
    go_wp2
    repeat (go_quiet (fail); try go_wp2)
    go_ret
    exact ⟨by first | rfl | (simp; done) | (simp [*]; done), by repeat (first | exact Drawn0.refl _ | apply Drawn0.step)⟩

end Go.Proofs.Ytpfjnpbcnlbhaaa.P
namespace Go.Proofs.Ytpfjnpbcnlbhaaa.P
open Go.RowKit Go.Proofs.YtpfjnpbcnlbhaaaW.PrintWords Go.Proofs.YtpfjnpbcnlbhaaaW.PrintLast Go.Proofs.YtpfjnpbcnlbhaaaW.PrintMore
attribute [local go_sem] max2_int min2_int max_two min_two max_three min_three max_four min_four   -- for this text's walks alone
set_option linter.unusedVariables false
set_option linter.unusedSimpArgs false

/-! slices.Equal -/
theorem Equal_loop (l0 l1 : List Int) (hlen : l0.length = l1.length) (hb : l0.length < 9223372036854775807) : ∀ (xs ys pre pre1 : List Int), l0 = pre ++ xs → l1 = pre1 ++ ys → pre.length = pre1.length →
    Ev (fun k => slices_Equal_int_int.l0 k l0 l1 (l0.length : Int) (pre.length : Int)) (decide (xs = ys)) := by
  intro xs
  induction xs with
  | nil =>
    intro ys pre pre1 h0 h1 hp
    have hy : ys = [] := by
      have := congrArg List.length h0; have := congrArg List.length h1
      simp at *
      exact List.eq_nil_of_length_eq_zero (by omega)
    subst hy
    refine Ev.succ ?_
    simp only [slices_Equal_int_int.l0, if_neg (mid_end h0)]
    simpa using Ev.some true
  | cons x xs ih =>
    intro ys pre pre1 h0 h1 hp
    cases ys with
    | nil => exfalso; have := congrArg List.length h0; have := congrArg List.length h1; simp at *; omega
    | cons y ys =>
      have r1 : rd l1 (pre.length : Int) = y := by rw [hp]; exact mid_rd h1
      have l1' : (pre.length : Int) < (l1.length : Int) := by rw [hp]; exact mid_lt h1
      refine Ev.succ ?_
      simp only [slices_Equal_int_int.l0, if_pos (mid_lt h0), if_pos (show (0 : Int) ≤ (pre.length : Int) by omega), if_pos l1', mid_rd h0, r1, mid_next h0 hb]
      refine Ev.ite (fun e => ?_) (fun e => ?_)
      · have := ih ys (pre ++ [x]) (pre1 ++ [y]) (mid_mv h0) (mid_mv h1) (by simp [hp])
        simpa [e] using this
      · simpa [e] using Ev.some false
theorem Equal_ev (l0 l1 : List Int) (hb : l0.length < 9223372036854775807) : Ev (fun k => slices_Equal_int_int.f k l0 l1) (decide (l0 = l1)) := by
  unfold slices_Equal_int_int.f
  refine Ev.ite (fun e => ?_) (fun e => ?_)
  · exact Equal_loop l0 l1 (by omega) hb l0 l1 [] [] rfl rfl rfl
  · have : l0 ≠ l1 := fun h => e (by rw [h])
    simpa [this] using Ev.some false


end Go.Proofs.Ytpfjnpbcnlbhaaa.P
namespace Go.Proofs.Ytpfjnpbcnlbhaaa.P
open Go.RowKit Go.Proofs.YtpfjnpbcnlbhaaaW.PrintWords Go.Proofs.YtpfjnpbcnlbhaaaW.PrintLast Go.Proofs.YtpfjnpbcnlbhaaaW.PrintMore
attribute [local go_sem] max2_int min2_int max_two min_two max_three min_three max_four min_four   -- for this text's walks alone
set_option linter.unusedVariables false
set_option linter.unusedSimpArgs false

attribute [local go_sem] Oper.semAt_some
/-! rows.Made -/
def chunkAt (l : List Int) (d i : Nat) : List Int := (l.drop (i * d)).take d
def partOk (l : List Int) (d i : Nat) : Bool := (formPairs l.length).any fun p => decide (formOf l.length p.1 p.2 (l.take d) = chunkAt l d i)
def madeL (l : List Int) (d : Nat) : Bool := (List.range (l.length / d)).all (partOk l d)
def LenOk (n d : Int) : Prop := 2 ≤ d ∧ 2 * d ≤ n ∧ n % d = 0
instance (n d : Int) : Decidable (LenOk n d) := by unfold LenOk; infer_instance
def rows_Made.f (l0 : List Int) (a1 : Int) : Option (Bool × Int) := if IsRow l0 ∧ LenOk l0.length a1 then some (madeL l0 a1.toNat, 0) else some (false, 2)
theorem results_bi {fn : Func} {p q : Tmp} (h : fn.results = #[.cell p 4, .cell q 23]) (tmps : Array Value) (w : World) (b1 b2 : Nat) (x : Bool) (z : Int)
    (hp : tmps.getD p undef = .pointer (some ⟨b1, 0, none⟩)) (hq : tmps.getD q undef = .pointer (some ⟨b2, 0, none⟩))
    (c0 : w.cell? ⟨b1, 0, none⟩ = some (.bool x)) (c1 : w.cell? ⟨b2, 0, none⟩ = some (.int .i64 z)) :
    (results fn tmps).run Try.prog w = .ok (.tuple #[.bool x, .int .i64 z]) w := by
  have hp' : tmps[p]?.getD undef = .pointer (some ⟨b1, 0, none⟩) := by simpa using hp
  have hq' : tmps[q]?.getD undef = .pointer (some ⟨b2, 0, none⟩) := by simpa using hq
  unfold results
  simp only [h]
  go_simp
theorem row_ad {l : List Int} {w : World} {A : Option Addr} (h : Kd.C (Kd.int .i64) w A l.length l) (hl : 0 < l.length) : ∃ ad, A = some ad := by
  obtain ⟨ad, e, _⟩ := h.2.2 hl
  exact ⟨ad, e⟩
theorem C_ltM {w : World} {A : Option Addr} {m : Nat} {xs : List Int} (h : Kd.C (Kd.int .i64) w A m xs) : ∀ a, A = some a → 0 < m → a.block < w.heap.size := fun a ha hm => by
  rcases Nat.lt_or_ge a.block w.heap.size with h1 | h1
  · exact h1
  · exact absurd rfl (Kd.far_C 0 h h1 a ha hm)
theorem C_chunk {l : List Int} {w : World} {ad : Addr} {d i : Nat} (h : Kd.C (Kd.int .i64) w (some ad) l.length l) (hd : 1 ≤ d) (hi : (i + 1) * d ≤ l.length) : (chunkAt l d i).length = d ∧ Kd.C (Kd.int .i64) w (some (ad.add (i * d))) (chunkAt l d i).length (chunkAt l d i) := by
  rw [Nat.add_mul, Nat.one_mul] at hi
  have e : (l.take (i * d + d)).drop (i * d) = chunkAt l d i := by
    unfold chunkAt; rw [List.drop_take]; congr 1; omega
  have := Kd.C_mid (lo := i * d) (hi := i * d + d) (c := l.length) h (by omega) hi (Nat.le_refl _)
  rw [if_neg (by omega), e] at this
  refine ⟨by unfold chunkAt; rw [List.length_take, List.length_drop]; omega, ?_⟩
  simpa [Kd.int, Kd.scalar] using this
theorem made_boxes {w W1 w' : World} {S n d c : Nat} {ad : Addr} (y0 : BoxAt W1 S [.bool false]) (y1 : BoxAt W1 (S + 1) [.int .i64 0]) (y3 : Below S w W1) (hz : W1.heap.size = S + 1 + 1)
    (hw : w' = ((W1.alloc (.cells #[.int .i64 (n : Int), .slice (some ad) d c] 65)).alloc (.cells #[.slice (some ad) n c] 22)).alloc (.cells #[.int .i64 (d : Int)] 3)) :
    BoxAt w' S [.bool false] ∧ BoxAt w' (S + 1) [.int .i64 0] ∧ BoxAt w' (S + 1 + 1) [.int .i64 (n : Int), .slice (some ad) d c] ∧ BoxAt w' (S + 1 + 1 + 1) [.slice (some ad) n c] ∧ BoxAt w' (S + 1 + 1 + 1 + 1) [.int .i64 (d : Int)] ∧ Below S w w' ∧ S + 5 ≤ w'.heap.size := by
  subst hw
  have x2 := BoxAt.new W1 [.int .i64 (n : Int), .slice (some ad) d c] 65
  have x3 := BoxAt.new (W1.alloc (.cells #[.int .i64 (n : Int), .slice (some ad) d c] 65)) [.slice (some ad) n c] 22
  have x4 := BoxAt.new ((W1.alloc (.cells #[.int .i64 (n : Int), .slice (some ad) d c] 65)).alloc (.cells #[.slice (some ad) n c] 22)) [.int .i64 (d : Int)] 3
  simp only [World.size_alloc] at x3 x4
  rw [hz] at x2 x3 x4
  exact ⟨((y0.alloc _).alloc _).alloc _, ((y1.alloc _).alloc _).alloc _, (x2.alloc _).alloc _, x3.alloc _, x4, ((y3.alloc (by omega) _).alloc (by simp only [World.size_alloc]; omega) _).alloc (by simp only [World.size_alloc]; omega) _, by simp only [World.size_alloc]; omega⟩
/-- two boxes behind two stores -/
theorem stores2 {w W : World} {S : Nat} {u v : Value} (y0 : BoxAt W S [u]) (y1 : BoxAt W (S + 1) [v]) (y3 : Below S w W) (x y : Value) :
    KeepsOthers W ((W.setCell ⟨S, 0, none⟩ x).setCell ⟨S + 1, 0, none⟩ y) ∧ BoxAt ((W.setCell ⟨S, 0, none⟩ x).setCell ⟨S + 1, 0, none⟩ y) S [x] ∧ BoxAt ((W.setCell ⟨S, 0, none⟩ x).setCell ⟨S + 1, 0, none⟩ y) (S + 1) [y] ∧ Below S w ((W.setCell ⟨S, 0, none⟩ x).setCell ⟨S + 1, 0, none⟩ y) := by
  refine ⟨(KeepsOthers.setCell _ _ _).trans (KeepsOthers.setCell _ _ _), (y0.put1 x).far (by simp) y, (y1.far (by simp) x).put1 y, ?_⟩
  exact (y3.setCell (p := ⟨S, 0, none⟩) (by simp) _).setCell (p := ⟨S + 1, 0, none⟩) (by simp) _
/-- what stays while the forms come -/
structure MadeR (S n d c : Nat) (ad t : Addr) (Bp : Nat) (w W V : World) : Prop where
  bp : BoxAt V Bp [.slice (some t) d d]
  b0 : ∃ u, BoxAt V S [u]
  b1 : ∃ v, BoxAt V (S + 1) [v]
  bf : BoxAt V (S + 1 + 1) [.int .i64 (n : Int), .slice (some ad) d c]
  be : Below S w V
  ko : KeepsOthers W V
  kp : KpC (fun b _ => b = S ∨ b = S + 1) W V
theorem KpC.trans' {X : Nat → Obj → Prop} {A B : World} {p : Addr} {x : Value} (h : KpC X A B) (k : ∀ (b : Nat) (o : Obj), A.heap[b]? = some o → (B.setCell p x).heap[b]? = B.heap[b]?) : KpC X A (B.setCell p x) :=
  ⟨by rw [World.size_setCell]; exact h.1, fun b o hx ho hc => (k b o ho).trans (h.2 b o hx ho hc)⟩
theorem KpC.of_false {X : Nat → Obj → Prop} {A B : World} (h : KpC (fun _ _ => False) A B) : KpC X A B := ⟨h.1, fun b o _ ho hc => h.2 b o (fun h => h) ho hc⟩
theorem MadeR.own {S n d c : Nat} {ad t : Addr} {Bp Bs : Nat} {w W A B : World} {row : Option Nat} (h : MadeR S n d c ad t Bp w W A) (hg : A.grownBy B row) (hr : ∀ r, row = some r → Bs ≤ r ∧ ∃ o : Obj, A.heap[r]? = some o ∧ o.isCells = false) (hB : W.heap.size ≤ Bs) (hS : S ≤ Bs) : MadeR S n d c ad t Bp w W B := by
  obtain ⟨bp, ⟨u, b0⟩, ⟨v, b1⟩, bf, be, ko, kp⟩ := h
  refine ⟨bp.own hg (fun r e => (hr r e).2), ⟨u, b0.own hg (fun r e => (hr r e).2)⟩, ⟨v, b1.own hg (fun r e => (hr r e).2)⟩, bf.own hg (fun r e => (hr r e).2), be.grown hg (Nat.le_of_lt b0.lt) (fun k e => by have := (hr k e).1; omega), ?_, kp.trans (own_kpc hg hr).of_false⟩
  refine ⟨Nat.le_trans ko.1 hg.size, fun j o hj hc => ?_⟩
  have h1 := ko.2 j o hj hc
  refine (hg.block j (Array.getElem?_eq_some_iff.1 h1).1 (fun e => ?_)).trans h1
  have := (hr j e.symm).1
  have := (Array.getElem?_eq_some_iff.1 hj).1
  omega
theorem MadeR.grown {S n d c : Nat} {ad t : Addr} {Bp : Nat} {w W A B : World} (h : MadeR S n d c ad t Bp w W A) (hg : A.grownBy B none) : MadeR S n d c ad t Bp w W B := h.own (Bs := max W.heap.size S) hg (fun r e => by cases e) (Nat.le_max_left _ _) (Nat.le_max_right _ _)
theorem MadeR.put {S n d c : Nat} {ad t : Addr} {Bp : Nat} {w W V : World} (h : MadeR S n d c ad t Bp w W V) (hp : Bp < W.heap.size) (hS : S + 1 + 1 < W.heap.size) (x : Value) : MadeR S n d c ad t Bp w W (V.setCell ⟨W.heap.size, 0, none⟩ x) := by
  obtain ⟨bp, ⟨u, b0⟩, ⟨v, b1⟩, bf, be, ko, kp⟩ := h
  refine ⟨bp.far (by simp only [ne_eq]; omega) _, ⟨u, b0.far (by simp only [ne_eq]; omega) _⟩, ⟨v, b1.far (by simp only [ne_eq]; omega) _⟩, bf.far (by simp only [ne_eq]; omega) _, be.setCell (by simp only; omega) _, ko.trans (KeepsOthers.setCell _ _ _), kp.trans' (fun b o hb => ?_)⟩
  have := (Array.getElem?_eq_some_iff.1 hb).1
  exact Below.heap_setCell _ _ _ _ (by simp only [ne_eq]; omega)
set_option maxHeartbeats 8000000 in
set_option maxRecDepth 100000 in
theorem rows_Made.calls (A0 : Option Addr) (c0 : Nat) (l0 : List Int) (a1 : Int) (r1 : Bool) (r2 : Int) (w : World) (hr0 : Kd.C (Kd.int .i64) w A0 l0.length l0) (hc0 : l0.length ≤ c0) (h : rows_Made.f l0 a1 = some (r1, r2)) :
    Calls Try.prog 37 #[.slice A0 l0.length c0, .int .i64 a1] w fun e w' => e = .returned (.tuple #[.bool r1, .int .i64 r2]) ∧ Below w.heap.size w w' := by
  have HR0 := Aside0.mk hr0
  have HC0 := Aside0.mk hc0
  obtain ⟨kv0, hv0⟩ := Ev.rounds (g := fun k => rows_row_valid.f k l0) (valid_ev l0)
  have HV0 := Aside0.mk (fun W (hb : Below w.heap.size w W) => rows_row_valid.calls kv0 A0 c0 l0 _ W (Kd.C_below hr0 hb) hc0 hv0)
  have H := Aside0.mk h
  clear hr0 hc0 hv0 h
  refine (callsIn_wide (n := 5)).1 ?_
  refine callsIn_of_wp_marks Try.func37 rfl trivial ?_ rfl
  simp only [Try.ntmps37, List.size_toArray, List.length_cons, List.length_nil, Nat.reduceAdd, Nat.reduceSub, Array.replicate_succ, Array.replicate_zero, List.push_toArray, List.append_toArray, List.nil_append, List.cons_append]
  obtain ⟨S, hS⟩ : ∃ S, S = w.heap.size := ⟨_, rfl⟩
  obtain ⟨W0, hW0⟩ : ∃ W0, ((w.alloc (.cells #[.bool false] 4)).alloc (.cells #[.int .i64 0] 23)) = W0 := ⟨_, rfl⟩
  have HW0 := Aside0.mk hW0
  have HB0 : Aside0 (Below w.heap.size w W0) := ⟨by rw [← hW0]; exact below_alloc (below_alloc (Below.refl _ _) _) _⟩
  have HX0 : Aside0 (BoxAt W0 w.heap.size [.bool false] ∧ BoxAt W0 (w.heap.size + 1) [.int .i64 0] ∧ W0.heap.size = w.heap.size + 1 + 1) := ⟨by
    have x1 := BoxAt.new (w.alloc (.cells #[.bool false] 4)) [.int .i64 0] 23
    rw [World.size_alloc] at x1
    rw [← HW0.out]
    exact ⟨(BoxAt.new w [.bool false] 4).alloc _, x1, by simp⟩⟩
  have q0 := HX0.out.1.cell 0 _ rfl
  have qf0 := HX0.out.1.frozen 0
  have q1 := HX0.out.2.1.cell 0 _ rfl
  have qf1 := HX0.out.2.1.frozen 0
  have HBAD := Aside0.mk (show ¬ (IsRow l0 ∧ LenOk l0.length a1) → r1 = false ∧ r2 = 2 from fun hb => by
    have h := H.out
    unfold rows_Made.f at h
    rw [if_neg hb] at h
    simp only [Option.some.injEq, Prod.mk.injEq] at h
    exact ⟨h.1.symm, h.2.symm⟩)
  by_cases hr0 : IsRow l0
  · have e0 : decide (IsRow l0) = true := decide_eq_true hr0
    rw [e0] at HV0
    have hn2 := hr0.1
    have hn10 := hr0.2.1
    by_cases hd : LenOk l0.length a1
    · obtain ⟨d, rfl⟩ : ∃ d : Nat, a1 = (d : Int) := ⟨a1.toNat, by have := hd.1; omega⟩
      obtain ⟨h2, h2n, hmod⟩ := hd
      obtain ⟨ad, rfl⟩ := row_ad HR0.out (by omega)
      obtain ⟨n, hn⟩ : ∃ n, l0.length = n := ⟨_, rfl⟩
      rw [hn] at h2n hmod hn2 hn10
      have f1 : ¬ (d : Int) < 2 := by omega
      have f2 : IntKind.i64.wrap (2 * (d : Int)) = 2 * (d : Int) := by rw [i64_id (by omega) (by omega)]
      have f2' : wrap64 (2 * (d : Int)) = 2 * (d : Int) := by rw [wrap_id (by omega) (by omega)]
      have f3 : ¬ 2 * (d : Int) > (n : Int) := by omega
      have f3' : ¬ (n : Int) < 2 * (d : Int) := by omega
      have f4 : Int.tmod (n : Int) (d : Int) = 0 := by rw [Int.tmod_eq_emod_of_nonneg (by omega)]; exact hmod
      have f5 : ((d : Int) == 0) = false := beq_eq_false_iff_ne.2 (by omega)
      have f6 : (d : Int) ≤ (n : Int) := by omega
      have f8 : d ≤ c0 := by have := HC0.out; omega
      have f9 : (n : Int) % (d : Int) = 0 := hmod
      have f7 : (0 : Int) ≤ (d : Int) := by omega
      rw [hn] at HV0 ⊢
      have HN := Aside0.mk hn
      have HDM := Aside0.mk (And.intro h2 (And.intro h2n hmod))
      clear hn h2 h2n hmod
      clear q0 qf0 q1 qf1
      gi_wp2_with (first | (refine ⟨trivial, ?_⟩; (try rw [hW0]); gi_at_call 46; (with_reducible refine (callsIn_wide.2 (HV0.out _ HB0.out)).mono ?_); rintro e W1 ⟨rfl, hq⟩; have HX1 : Aside0 (BoxAt W1 w.heap.size [.bool false] ∧ BoxAt W1 (w.heap.size + 1) [.int .i64 0] ∧ Below w.heap.size w W1) := ⟨by obtain ⟨q, rfl⟩ := hq; exact ⟨HX0.out.1.drewN q, HX0.out.2.1.drewN q, pw_below_drewN HB0.out q⟩⟩; have zW1 : W1.heap.size = w.heap.size + 1 + 1 := (by obtain ⟨q, rfl⟩ := hq; exact HX0.out.2.2); clear HV0 hW0 hq) | (refine ⟨trivial, ?_⟩; gi_at_call 64; (with_reducible refine (callsIn_wide.2 (chunk_calls _ _ _ d (by have := HDM.out.1; omega) (by have := HDM.out.2.1; omega) _)).mono ?_); rintro e w' ⟨rfl, hw'⟩; have HX2 : Aside0 (BoxAt w' w.heap.size [.bool false] ∧ BoxAt w' (w.heap.size + 1) [.int .i64 0] ∧ BoxAt w' (w.heap.size + 1 + 1) [.int .i64 (n : Int), .slice (some ad) d c0] ∧ BoxAt w' (w.heap.size + 1 + 1 + 1) [.slice (some ad) n c0] ∧ BoxAt w' (w.heap.size + 1 + 1 + 1 + 1) [.int .i64 (d : Int)] ∧ Below w.heap.size w w' ∧ w.heap.size + 5 ≤ w'.heap.size) := ⟨made_boxes HX1.out.1 HX1.out.2.1 HX1.out.2.2 zW1 hw'⟩; clear hw'))
      have HC : Aside0 (Kd.C (Kd.int .i64) w (some ad) l0.length l0) := HR0
      clear f1 f2 f2' f3 f3' f4 f5 f6 f7 f8 f9 zW1
      obtain ⟨m, hm⟩ : ∃ m, n / d = m := ⟨_, rfl⟩
      have hmd : m * d = n := by
        have h3 := HDM.out.2.2
        have : n % d = 0 := by omega
        rw [← hm]; exact Nat.div_mul_cancel (Nat.dvd_of_mod_eq_zero this)
      have HMD := Aside0.mk (And.intro hm hmd)
      have HX3 := Aside0.mk (show ∀ W, KpC (fun b _ => b = w.heap.size ∨ b = w.heap.size + 1) w' W → True from fun _ _ => trivial)
      refine range_fs rfl (by omega) (gf := 73) (fs := #[]) (lb := #[.pointer (some ⟨w.heap.size + 1 + 1 + 1, 0, none⟩), .pointer (some ⟨w.heap.size + 1 + 1 + 1 + 1, 0, none⟩)]) rfl trivial (enters_of Try.func73 (by kernel_rfl) rfl)
        (chunk_seq (fun b _ => b = w.heap.size ∨ b = w.heap.size + 1) ad n c0 d m (w.heap.size + 1 + 1 + 1) (w.heap.size + 1 + 1 + 1 + 1) (by have := HDM.out.1; omega) hmd (by omega) (by have := HC0.out; have := HN.out; omega) w' HX2.out.2.2.2.1 HX2.out.2.2.2.2.1 (fun _ h => by rcases h with h | h <;> omega) (fun _ h => by rcases h with h | h <;> omega))
        (fun x W vals hE => by unfold ChunkEnc at hE; subst hE; rfl)
        (fun A B h => KeepsOthers.of_grownBy h (fun j o e => by cases e))
        (fun h k => h.trans k)
        (fun W l o o' hl ho hc => KpC.putObj W ho hc)
        (fun pre W => (∃ u, BoxAt W w.heap.size [u]) ∧ (∃ v, BoxAt W (w.heap.size + 1) [v]) ∧ BoxAt W (w.heap.size + 1 + 1) [.int .i64 (n : Int), .slice (some ad) d c0] ∧ Below w.heap.size w W ∧ ∀ i ∈ pre, partOk l0 d i = true)
        (fun c pre W => c = .ret ∧ BoxAt W w.heap.size [.bool false] ∧ BoxAt W (w.heap.size + 1) [.int .i64 0] ∧ Below w.heap.size w W ∧ ∃ i ∈ pre, partOk l0 d i = false)
        ?hI ?hIx ?hIs ?hIxs ?h0
        (fun x a' W => ∃ Bp, a' = { tmps := #[.slice (some ad) n c0, .int .i64 (d : Int), undef, undef, .pointer (some ⟨w.heap.size, 0, none⟩), .pointer (some ⟨w.heap.size + 1, 0, none⟩), .slice (some ad) n c0, .pointer (some ⟨w.heap.size + 1 + 1, 0, none⟩), .pointer (some ⟨Bp, 0, none⟩), undef, undef, .slice (some ad) n c0, .slice (some ad) n c0, .bool true, .bool false, .bool false, .int .i64 (d : Int), .bool (decide ((d : Int) < 2)), .bool (decide ((d : Int) < 2)), .bool (decide ((d : Int) < 2)), .int .i64 (d : Int), .int .i64 (2 * (d : Int)), .slice (some ad) n c0, .int .i64 (n : Int), .bool (decide ((n : Int) < 2 * (d : Int))), .bool (decide ((d : Int) < 2) || decide ((n : Int) < 2 * (d : Int))), .bool (decide ((d : Int) < 2) || decide ((n : Int) < 2 * (d : Int))), .slice (some ad) n c0, .int .i64 (n : Int), .int .i64 (d : Int), .int .i64 0, .bool false, .bool (decide ((d : Int) < 2) || decide ((n : Int) < 2 * (d : Int))), .slice (some ad) n c0, .int .i64 (n : Int), .slice (some ad) n c0, .int .i64 (d : Int), .slice (some ad) d c0, .agg #[.int .i64 (n : Int), .slice (some ad) d c0], .slice (some ad) n c0, .int .i64 (d : Int), .func (.func 73) #[] #[.pointer (some ⟨w.heap.size + 1 + 1 + 1, 0, none⟩), .pointer (some ⟨w.heap.size + 1 + 1 + 1 + 1, 0, none⟩)], .slice (some (ad.add (x * d))) d d, undef, undef, undef, undef, undef, undef, undef, undef, undef], defers := [] } ∧ BoxAt W Bp [.slice (some (ad.add (x * d))) d d])
        ?hAx ?assign ?body ?done ?stop
      case hI =>
        rintro s A B row ⟨⟨u, y0⟩, ⟨v, y1⟩, yf, y3, yp⟩ hg hr
        exact ⟨⟨u, y0.own hg (fun r e => (hr r e).2)⟩, ⟨v, y1.own hg (fun r e => (hr r e).2)⟩, yf.own hg (fun r e => (hr r e).2), y3.grown hg y3.size (fun k e => by have := (hr k e).1; have := HX2.out.2.2.2.2.2.1.size; omega), yp⟩
      case hIx =>
        rintro c s A B row ⟨hc, y0, y1, y3, yp⟩ hg hr
        exact ⟨hc, y0.own hg (fun r e => (hr r e).2), y1.own hg (fun r e => (hr r e).2), y3.grown hg y3.size (fun k e => by have := (hr k e).1; have := HX2.out.2.2.2.2.2.1.size; omega), yp⟩
      case hIs =>
        rintro s A B ⟨⟨u, y0⟩, ⟨v, y1⟩, yf, y3, yp⟩ hg
        exact ⟨⟨u, y0.grown hg⟩, ⟨v, y1.grown hg⟩, yf.grown hg, y3.grown hg y3.size (fun k e => by cases e), yp⟩
      case hIxs =>
        rintro c s A B ⟨hc, y0, y1, y3, yp⟩ hg
        exact ⟨hc, y0.grown hg, y1.grown hg, y3.grown hg y3.size (fun k e => by cases e), yp⟩
      case h0 => exact ⟨⟨_, HX2.out.1⟩, ⟨_, HX2.out.2.1⟩, HX2.out.2.2.1, HX2.out.2.2.2.2.2.1, by simp⟩
      case hAx =>
        rintro x a' s A B row ⟨Bp, e, hb⟩ hg hr
        exact ⟨Bp, e, hb.own hg (fun r e => (hr r e).2)⟩
      case assign =>
        rintro l pre x vals W K hI hE hK
        unfold ChunkEnc at hE
        subst hE
        have HK := Aside0.mk hK
        have HI := Aside0.mk hI
        clear hK hI
        obtain ⟨t, ht⟩ : ∃ t, ad.add (x * d) = t := ⟨_, rfl⟩
        rw [ht]
        have HT := Aside0.mk ht
        clear ht
        gi_wp2
        have g1 : W.grownBy (W.alloc (.cells #[.slice (some t) d d] 22)) none := World.grownBy_alloc W _ none
        obtain ⟨⟨u, y0⟩, ⟨v, y1⟩, yf, y3, yp⟩ := HI.out
        exact HK.out _ _ (KeepsOthers.of_grownBy g1 (fun j o e => by cases e)) (KpC.of_grown g1)
          ⟨⟨u, y0.grown g1⟩, ⟨v, y1.grown g1⟩, yf.grown g1, y3.grown g1 y3.size (fun k e => by cases e), yp⟩
          ⟨W.heap.size, by rw [HT.out], by rw [HT.out]; exact BoxAt.new W _ _⟩
      case body =>
        rintro l pre x rest a' W hlw hloop hx ⟨⟨u, y0⟩, ⟨v, y1⟩, yf, y3, yp⟩ ⟨Bp, rfl, hb⟩
        have hxm : x < m := by
          have : x ∈ List.range m := by rw [hx]; simp
          exact List.mem_range.1 this
        have hcn : (x + 1) * d ≤ l0.length := by
          have h1 : (x + 1) * d ≤ m * d := Nat.mul_le_mul_right d hxm
          have := HN.out; have := HMD.out.2; omega
        obtain ⟨t, ht⟩ : ∃ t, ad.add (x * d) = t := ⟨_, rfl⟩
        rw [ht] at hb ⊢
        have hd2 := HDM.out.1
        have hdn := HDM.out.2.1
        have HCH := Aside0.mk (fun V (hb : Below w.heap.size w V) => C_chunk (i := x) (Kd.C_below HC.out hb) (show 1 ≤ d by omega) hcn)
        rw [ht] at HCH
        obtain ⟨xs, hxs⟩ : ∃ xs, l0.take d = xs := ⟨_, rfl⟩
        have hxl : xs.length = d := by rw [← hxs, List.length_take]; have := HN.out; omega
        have hxr : ∀ y ∈ xs, 0 ≤ y ∧ y < 62 := fun y hy => row_small hr0 y (List.mem_of_mem_take (by rw [hxs]; exact hy))
        have HXC := Aside0.mk (fun V (hb : Below w.heap.size w V) => by
          have := Kd.C_take (m := d) (Kd.C_below HC.out hb) (by have := HN.out; omega)
          rw [hxs] at this
          exact this)
        have HXS := Aside0.mk (And.intro hxs (And.intro hxl hxr))
        have f0 := yf.cell 0 _ rfl
        have f1 := yf.cell 1 _ rfl
        obtain ⟨r0, hl0⟩ := hloop
        obtain ⟨V, hV⟩ : ∃ V, W.alloc (.cells #[.bool false] 4) = V := ⟨_, rfl⟩
        have gV : W.grownBy V none := by rw [← hV]; exact World.grownBy_alloc W _ none
        have hlV : V.heap[l]? = some (.loop r0) := (gV.block l (Array.getElem?_eq_some_iff.1 hl0).1 (by simp)).trans hl0
        have hVs : V.heap.size = W.heap.size + 1 := by rw [← hV]; simp
        have hM0 : MadeR w.heap.size n d c0 ad t Bp w W V := (MadeR.mk hb ⟨u, y0⟩ ⟨v, y1⟩ yf y3 ⟨Nat.le_refl _, fun _ _ h _ => h⟩ (KpC.refl _ _)).grown gV
        have hF0 : BoxAt V W.heap.size [.bool false] := by rw [← hV]; exact BoxAt.new W _ _
        have HM0 := Aside0.mk (And.intro hM0 hF0)
        have HPL := Aside0.mk (And.intro hb.lt yf.lt)
        have HXX := Aside0.mk hx
        have HYP := Aside0.mk yp
        have HVS := Aside0.mk hVs
        have HW5 := Aside0.mk (show w.heap.size + 5 ≤ l by have := HX2.out.2.2.2.2.2.2; omega)
        have HV := Aside0.mk hV
        clear y0 y1 y3 yp hb gV hM0 hF0 hx hlw yf hxs hxr ht hV hVs f0 f1
        have g0 : (W.alloc (.cells #[.bool false] 4)).cell? ⟨w.heap.size + 1 + 1, 0, none⟩ = some (.int .i64 (n : Int)) := by rw [HV.out]; exact HM0.out.1.bf.cell 0 _ rfl
        have g1 : (W.alloc (.cells #[.bool false] 4)).cell? ⟨w.heap.size + 1 + 1, 1, none⟩ = some (.slice (some ad) d c0) := by rw [HV.out]; exact HM0.out.1.bf.cell 1 _ rfl
        gi_wp2
        clear g0 g1
        rw [HV.out]
        have hFS := forms_seq (fun b _ => b = W.heap.size) n (by omega) (by omega) (some ad) c0 xs (by have := HXS.out.2.1; omega) HXS.out.2.2 (by have := HXS.out.2.1; have := HC0.out; have := HN.out; omega) V (fun b cs hb => by have := HVS.out; omega) (fun V' hk => C_kpc (HXC.out V HM0.out.1.be) hk (fun a o ha hm hb => by
          have h1 : W.heap.size ≤ V.heap.size := by have := HVS.out; omega
          cases ha
          have h2 : ad.block < w.heap.size := C_ltM HC.out ad rfl (by have := HN.out; omega)
          have := HPL.out.2
          omega))
        rw [HXS.out.2.1] at hFS
        refine range_fsN rfl hlV (by omega) (gf := 53) (fs := #[.agg #[.int .i64 (n : Int), .slice (some ad) d c0]]) (lb := #[]) rfl trivial (enters_of Try.func53 (by kernel_rfl) rfl)
          hFS
          (fun q V vals hE => by obtain ⟨A, c, rfl, _⟩ := hE; rfl)
          (fun A B h => KeepsOthers.of_grownBy h (fun j o e => by cases e))
          (fun h k => h.trans k)
          (fun V l o o' hl ho hc => KpC.putObj V ho hc)
          (fun pre' V' => BoxAt V' W.heap.size [.bool false] ∧ MadeR w.heap.size n d c0 ad t Bp w W V' ∧ ∀ q ∈ pre', formOf n q.1 q.2 xs ≠ chunkAt l0 d x)
          (fun c pre' V' => c = .exit 2 ∧ BoxAt V' W.heap.size [.bool true] ∧ MadeR w.heap.size n d c0 ad t Bp w W V' ∧ ∃ q ∈ pre', formOf n q.1 q.2 xs = chunkAt l0 d x)
          ?iI ?iIx ?iIs ?iIxs ?i0
          (fun q a' V' => ∃ B9 A9 c9, a' = { tmps := #[.slice (some ad) n c0, .int .i64 (d : Int), undef, undef, .pointer (some ⟨w.heap.size, 0, none⟩), .pointer (some ⟨w.heap.size + 1, 0, none⟩), .slice (some ad) n c0, .pointer (some ⟨w.heap.size + 1 + 1, 0, none⟩), .pointer (some ⟨Bp, 0, none⟩), .pointer (some ⟨W.heap.size, 0, none⟩), .pointer (some ⟨B9, 0, none⟩), .slice (some ad) n c0, .slice (some ad) n c0, .bool true, .bool false, .bool false, .int .i64 (d : Int), .bool (decide ((d : Int) < 2)), .bool (decide ((d : Int) < 2)), .bool (decide ((d : Int) < 2)), .int .i64 (d : Int), .int .i64 (2 * (d : Int)), .slice (some ad) n c0, .int .i64 (n : Int), .bool (decide ((n : Int) < 2 * (d : Int))), .bool (decide ((d : Int) < 2) || decide ((n : Int) < 2 * (d : Int))), .bool (decide ((d : Int) < 2) || decide ((n : Int) < 2 * (d : Int))), .slice (some ad) n c0, .int .i64 (n : Int), .int .i64 (d : Int), .int .i64 0, .bool false, .bool (decide ((d : Int) < 2) || decide ((n : Int) < 2 * (d : Int))), .slice (some ad) n c0, .int .i64 (n : Int), .slice (some ad) n c0, .int .i64 (d : Int), .slice (some ad) d c0, .agg #[.int .i64 (n : Int), .slice (some ad) d c0], .slice (some ad) n c0, .int .i64 (d : Int), .func (.func 73) #[] #[.pointer (some ⟨w.heap.size + 1 + 1 + 1, 0, none⟩), .pointer (some ⟨w.heap.size + 1 + 1 + 1 + 1, 0, none⟩)], .slice (some t) d d, .agg #[.int .i64 (n : Int), .slice (some ad) d c0], .func (.func 53) #[.agg #[.int .i64 (n : Int), .slice (some ad) d c0]] #[], .agg #[.int .i64 (q.1 : Int), .int .i64 (q.2 : Int), .slice A9 (formOf n q.1 q.2 xs).length c9], undef, undef, undef, undef, undef, undef], defers := [] } ∧
            BoxAt V' B9 [.int .i64 (q.1 : Int), .int .i64 (q.2 : Int), .slice A9 (formOf n q.1 q.2 xs).length c9] ∧ Kd.C (Kd.int .i64) V' A9 (formOf n q.1 q.2 xs).length (formOf n q.1 q.2 xs) ∧ (formOf n q.1 q.2 xs).length ≤ c9)
          ?iAx ?iassign ?ibody ?idone ?istop
        case iI =>
          rintro s A B row ⟨z0, zM, zp⟩ hg hr
          exact ⟨z0.own hg (fun r e => (hr r e).2), zM.own hg hr (by have := HVS.out; omega) (by have := HVS.out; have := HPL.out.2; omega), zp⟩
        case iIx =>
          rintro c s A B row ⟨hc, z0, zM, zp⟩ hg hr
          exact ⟨hc, z0.own hg (fun r e => (hr r e).2), zM.own hg hr (by have := HVS.out; omega) (by have := HVS.out; have := HPL.out.2; omega), zp⟩
        case iIs =>
          rintro s A B ⟨z0, zM, zp⟩ hg
          exact ⟨z0.grown hg, zM.grown hg, zp⟩
        case iIxs =>
          rintro c s A B ⟨hc, z0, zM, zp⟩ hg
          exact ⟨hc, z0.grown hg, zM.grown hg, zp⟩
        case i0 => exact ⟨HM0.out.2, HM0.out.1, by simp⟩
        case iAx =>
          rintro q a' s A B row ⟨B9, A9, c9, e, hb, hC, hl⟩ hg hr
          exact ⟨B9, A9, c9, e, hb.own hg (fun r e => (hr r e).2), C_kpc hC (own_kpc hg hr) (fun _ _ _ _ h => h), hl⟩
        case iassign =>
          rintro l' pre' q vals V' K hI ⟨A9, c9, rfl, hCv, hlv⟩ hK
          have HK := Aside0.mk hK
          have HI := Aside0.mk hI
          have HCV := Aside0.mk hCv
          have HLV := Aside0.mk hlv
          clear hK hI hCv hlv hFS
          gi_wp2
          have g1 : V'.grownBy (V'.alloc (.cells #[.int .i64 (q.1 : Int), .int .i64 (q.2 : Int), .slice A9 (formOf n q.1 q.2 xs).length c9] 68)) none := World.grownBy_alloc V' _ none
          obtain ⟨z0, zM, zp⟩ := HI.out
          exact HK.out _ _ (KeepsOthers.of_grownBy g1 (fun j o e => by cases e)) (KpC.of_grown g1) ⟨z0.grown g1, zM.grown g1, zp⟩
            ⟨V'.heap.size, A9, c9, rfl, BoxAt.new V' _ _, C_kpc HCV.out (KpC.of_grown (X := fun _ _ => False) g1) (fun _ _ _ _ h => h), HLV.out⟩
        case ibody =>
          rintro l' pre' q rest' a' V' hlw' hloop' hx' ⟨z0, zM, zp⟩ ⟨B9, A9, c9, rfl, hb9, hC9, hl9⟩
          have hfl : (formOf n q.1 q.2 xs).length = d := by rw [formOf_length]; exact HXS.out.2.1
          have hch := HCH.out V' zM.be
          obtain ⟨ke, hke⟩ := Ev.rounds (g := fun k => slices_Equal_int_int.f k (formOf n q.1 q.2 xs) (chunkAt l0 d x)) (Equal_ev _ _ (by rw [hfl]; omega))
          have hEQ := slices_Equal_int_int.calls ke A9 c9 _ (some t) d (chunkAt l0 d x) _ V' hC9 hl9 hch.2 (by rw [hch.1]; exact Nat.le_refl _) hke
          rw [hch.1] at hEQ
          have HEQ := Aside0.mk hEQ
          have b2 := hb9.cell 2 _ rfl
          have bp := zM.bp.cell 0 _ rfl
          have u0 := z0.cell 0 _ rfl
          have uf := z0.frozen 0
          have HZ := Aside0.mk (And.intro z0 (And.intro zM zp))
          clear hb9 z0 zM zp hC9 hl9 hke hEQ hch hfl hFS
          by_cases hdd : formOf n q.1 q.2 xs = chunkAt l0 d x
          · have HD := Aside0.mk hdd
            rw [decide_eq_true hdd] at HEQ
            clear hdd
            gi_wp2_with (refine ⟨trivial, ?_⟩; gi_at_call 20; (with_reducible refine (CallsIn.inRound l' (CallsIn.inRound l (callsIn_wide.2 HEQ.out))).mono ?_); rintro e w2 ⟨rfl, ⟨q5, rfl⟩⟩)
            obtain ⟨z0, zM, zp⟩ := HZ.out
            refine ⟨(show KeepsOthers V' (V'.drewN q5) from ⟨Nat.le_refl _, fun _ _ h _ => h⟩).trans (KeepsOthers.setCell _ _ _), rfl, (z0.drewN q5).put1 _, (zM.grown (grown_of_below (pw_below_drewN (Below.refl _ V') q5) none)).put HPL.out.1 HPL.out.2 _, q, by simp, HD.out⟩
          · have HD := Aside0.mk hdd
            rw [decide_eq_false hdd] at HEQ
            clear hdd
            gi_wp2_with (refine ⟨trivial, ?_⟩; gi_at_call 20; (with_reducible refine (CallsIn.inRound l' (CallsIn.inRound l (callsIn_wide.2 HEQ.out))).mono ?_); rintro e w2 ⟨rfl, ⟨q5, rfl⟩⟩)
            obtain ⟨z0, zM, zp⟩ := HZ.out
            refine ⟨⟨Nat.le_refl _, fun _ _ h _ => h⟩, ⟨Nat.le_refl _, fun _ _ _ h _ => h⟩, z0.drewN q5, zM.grown (grown_of_below (pw_below_drewN (Below.refl _ V') q5) none), ?_⟩
            intro p hp
            rcases List.mem_append.1 hp with h | h
            · exact zp p h
            · rw [List.mem_singleton] at h; subst h; exact HD.out
        case idone =>
          rintro V' ⟨z0, zM, zp⟩
          have hbad : partOk l0 d x = false := by
            unfold partOk
            rw [List.any_eq_false]
            intro p hp
            have := zp p (by rw [← HN.out]; exact hp)
            rw [HXS.out.1, HN.out]; simpa using this
          have u0 := z0.cell 0 _ rfl
          obtain ⟨ux, hux⟩ := zM.b0
          obtain ⟨vx, hvx⟩ := zM.b1
          have s0 := hux.cell 0 _ rfl
          have sf := hux.frozen 0
          have s1 := hvx.cell 0 _ rfl
          have sf1 := hvx.frozen 0
          have HZ := Aside0.mk (And.intro hux (And.intro hvx zM))
          have HBD := Aside0.mk hbad
          clear z0 zM zp hux hvx hbad hFS
          gi_wp2
          have hs := stores2 HZ.out.1 HZ.out.2.1 HZ.out.2.2.be (.bool false) (.int .i64 0)
          exact ⟨HZ.out.2.2.ko.trans hs.1, rfl, hs.2.1, hs.2.2.1, hs.2.2.2, x, by simp, HBD.out⟩
        case istop =>
          rintro c pre' rest' V' hx' ⟨rfl, z0, zM, q, hq, hqe⟩
          have hok : partOk l0 d x = true := by
            unfold partOk
            rw [List.any_eq_true]
            refine ⟨q, by rw [HN.out, hx']; exact List.mem_append_left _ hq, ?_⟩
            rw [HXS.out.1, HN.out]; exact decide_eq_true hqe
          have u0 := z0.cell 0 _ rfl
          have HZ := Aside0.mk (And.intro z0 zM)
          have HOK := Aside0.mk hok
          clear z0 zM hok hFS hqe
          gi_wp2
          obtain ⟨z0, zM⟩ := HZ.out
          refine ⟨zM.ko, zM.kp, zM.b0, zM.b1, zM.bf, zM.be, ?_⟩
          intro i hi
          rcases List.mem_append.1 hi with h | h
          · exact HYP.out i h
          · rw [List.mem_singleton] at h; subst h; exact HOK.out
      case done =>
        rintro D W hD ⟨⟨u, y0⟩, ⟨v, y1⟩, yf, y3, yp⟩ hK
        have t0 := y0.cell 0 _ rfl
        have tf0 := y0.frozen 0
        have t1 := y1.cell 0 _ rfl
        have tf1 := y1.frozen 0
        have HY := Aside0.mk (And.intro y0 (And.intro y1 (And.intro y3 yp)))
        have HK := Aside0.mk hK
        clear y0 y1 y3 yp hK yf
        gi_wp2
        obtain ⟨y0, y1, y3, yp⟩ := HY.out
        have hs := stores2 y0 y1 y3 (.bool true) (.int .i64 0)
        have hkk := hs.1.same D _ HK.out rfl
        refine ⟨by simp, .inl ⟨_, _, rfl, run_takeDeferred hkk, ?_⟩⟩
        have hk := KpC.putObj (X := fun _ _ => False) (o' := .deferred none) _ hkk rfl
        refine ⟨_, results_bi rfl _ _ w.heap.size (w.heap.size + 1) true 0 rfl rfl (hk.cell (fun _ _ h => h) (hs.2.1.cell 0 _ rfl)) (hk.cell (fun _ _ h => h) (hs.2.2.1.cell 0 _ rfl)), ?_, ?_⟩
        · have hmt : madeL l0 d = true := by
            unfold madeL
            rw [HN.out, HMD.out.1, List.all_eq_true]
            exact yp
          have h := H.out
          unfold rows_Made.f at h
          rw [if_pos ⟨hr0, by rw [HN.out]; exact ⟨by have := HDM.out.1; omega, HDM.out.2.1, HDM.out.2.2⟩⟩, Int.toNat_natCast, hmt] at h
          cases h; rfl
        · exact hs.2.2.2.grown (grownBy_putObj' _ D _) hs.2.2.2.size (fun k e => by cases e; have := HX2.out.2.2.2.2.2.1.size; omega)
      case stop =>
        rintro D cc pre rest W hD hx ⟨rfl, y0, y1, y3, i, hi, hif⟩ hK
        have HY := Aside0.mk (And.intro y0 (And.intro y1 y3))
        have HK := Aside0.mk hK
        have hmf : madeL l0 d = false := by
          unfold madeL
          rw [HN.out, HMD.out.1, List.all_eq_false]
          exact ⟨i, by rw [hx]; exact List.mem_append_left _ hi, by simp [hif]⟩
        have HMF := Aside0.mk hmf
        clear y0 y1 y3 hK hmf hif
        gi_wp2
        obtain ⟨y0, y1, y3⟩ := HY.out
        refine ⟨by simp, .inl ⟨_, _, rfl, run_takeDeferred HK.out, ?_⟩⟩
        have hk := KpC.putObj (X := fun _ _ => False) (o' := .deferred none) _ HK.out rfl
        refine ⟨_, results_bi rfl _ _ w.heap.size (w.heap.size + 1) false 0 rfl rfl (hk.cell (fun _ _ h => h) (y0.cell 0 _ rfl)) (hk.cell (fun _ _ h => h) (y1.cell 0 _ rfl)), ?_, ?_⟩
        · have h := H.out
          unfold rows_Made.f at h
          rw [if_pos ⟨hr0, by rw [HN.out]; exact ⟨by have := HDM.out.1; omega, HDM.out.2.1, HDM.out.2.2⟩⟩, Int.toNat_natCast, HMF.out] at h
          cases h; rfl
        · exact y3.grown (grownBy_putObj' _ D _) y3.size (fun k e => by cases e; have := HX2.out.2.2.2.2.2.1.size; omega)
    · obtain ⟨rfl, rfl⟩ := HBAD.out (fun h => hd h.2)
      by_cases f1 : a1 < 2
      · gi_wp2_with (refine ⟨trivial, ?_⟩; (try rw [hW0]); gi_at_call 46; (with_reducible refine (callsIn_wide.2 (HV0.out _ HB0.out)).mono ?_); rintro e w' ⟨rfl, ⟨q, rfl⟩⟩; clear HV0 hW0)
        have hs := stores2 (HX0.out.1.drewN q) (HX0.out.2.1.drewN q) (pw_below_drewN HB0.out q) (.bool false) (.int .i64 2)
        exact ⟨_, results_bi rfl _ _ w.heap.size (w.heap.size + 1) false 2 rfl rfl (hs.2.1.cell 0 _ rfl) (hs.2.2.1.cell 0 _ rfl), rfl, hs.2.2.2⟩
      · by_cases f2 : wrap64 (2 * a1) > (l0.length : Int)
        · have f2' : (l0.length : Int) < wrap64 (2 * a1) := f2
          gi_wp2_with (refine ⟨trivial, ?_⟩; (try rw [hW0]); gi_at_call 46; (with_reducible refine (callsIn_wide.2 (HV0.out _ HB0.out)).mono ?_); rintro e w' ⟨rfl, ⟨q, rfl⟩⟩; clear HV0 hW0)
          have hs := stores2 (HX0.out.1.drewN q) (HX0.out.2.1.drewN q) (pw_below_drewN HB0.out q) (.bool false) (.int .i64 2)
          exact ⟨_, results_bi rfl _ _ w.heap.size (w.heap.size + 1) false 2 rfl rfl (hs.2.1.cell 0 _ rfl) (hs.2.2.1.cell 0 _ rfl), rfl, hs.2.2.2⟩
        · have f2' : ¬ (l0.length : Int) < wrap64 (2 * a1) := f2
          have f5 : (a1 == 0) = false := beq_eq_false_iff_ne.2 (by omega)
          have f4 : Int.tmod (l0.length : Int) a1 ≠ 0 := by
            rw [Int.tmod_eq_emod_of_nonneg (by omega)]
            intro hm
            refine hd ⟨by omega, ?_, hm⟩
            by_cases hbig : a1 ≤ (l0.length : Int)
            · rw [wrap_id (by omega) (by omega)] at f2; omega
            · rw [Int.emod_eq_of_lt (by omega) (by omega)] at hm; omega
          have f6 : ¬ (l0.length : Int) % a1 = 0 := by rw [Int.tmod_eq_emod_of_nonneg (by omega)] at f4; exact f4
          have f6' : ((l0.length : Int) % a1 != 0) = true := bne_iff_ne.2 f6
          have f6'' : ((l0.length : Int) % a1 == 0) = false := beq_eq_false_iff_ne.2 f6
          clear f4
          gi_wp2_with (refine ⟨trivial, ?_⟩; (try rw [hW0]); gi_at_call 46; (with_reducible refine (callsIn_wide.2 (HV0.out _ HB0.out)).mono ?_); rintro e w' ⟨rfl, ⟨q, rfl⟩⟩; clear HV0 hW0)
          have hs := stores2 (HX0.out.1.drewN q) (HX0.out.2.1.drewN q) (pw_below_drewN HB0.out q) (.bool false) (.int .i64 2)
          exact ⟨_, results_bi rfl _ _ w.heap.size (w.heap.size + 1) false 2 rfl rfl (hs.2.1.cell 0 _ rfl) (hs.2.2.1.cell 0 _ rfl), rfl, hs.2.2.2⟩
  · have e0 : decide (IsRow l0) = false := decide_eq_false hr0
    rw [e0] at HV0
    obtain ⟨rfl, rfl⟩ := HBAD.out (fun h => hr0 h.1)
    gi_wp2_with (refine ⟨trivial, ?_⟩; (try rw [hW0]); gi_at_call 46; (with_reducible refine (callsIn_wide.2 (HV0.out _ HB0.out)).mono ?_); rintro e w' ⟨rfl, ⟨q, rfl⟩⟩; clear HV0 hW0)
    have hs := stores2 (HX0.out.1.drewN q) (HX0.out.2.1.drewN q) (pw_below_drewN HB0.out q) (.bool false) (.int .i64 2)
    exact ⟨_, results_bi rfl _ _ w.heap.size (w.heap.size + 1) false 2 rfl rfl (hs.2.1.cell 0 _ rfl) (hs.2.2.1.cell 0 _ rfl), rfl, hs.2.2.2⟩

end Go.Proofs.Ytpfjnpbcnlbhaaa.P
namespace Go.Proofs.Ytpfjnpbcnlbhaaa.P
open Go.RowKit Go.Proofs.YtpfjnpbcnlbhaaaW.PrintWords Go.Proofs.YtpfjnpbcnlbhaaaW.PrintLast Go.Proofs.YtpfjnpbcnlbhaaaW.PrintMore
attribute [local go_sem] max2_int min2_int max_two min_two max_three min_three max_four min_four   -- for this text's walks alone
set_option linter.unusedVariables false
set_option linter.unusedSimpArgs false

/-! ### sackbutlaw05_list: function 16 -/
def sackbutlaw05_list.f (l0 : List Int) : Option (List Int) := if 0 ≤ (mn (l0.length : Int) 13) then (if (mn (l0.length : Int) 13) ≤ (l0.length : Int) then ((slices_Clone_int_int.f (l0.take ((mn (l0.length : Int) 13) : Int).toNat)).bind fun t1003 => (some t1003)) else (none)) else (none)
set_option maxHeartbeats 8000000 in
set_option maxRecDepth 100000 in
theorem sackbutlaw05_list.calls (A0 : Option Addr) (c0 : Nat) (l0 : List Int) (r : List Int) (w : World) (hr0 : Kd.C (Kd.int .i64) w A0 l0.length l0) (hc0 : l0.length ≤ c0) (h : sackbutlaw05_list.f l0 = some r) :
    Calls Try.prog 16 #[.slice A0 l0.length c0] w fun e w' => ∃ v0_ : Value, e = .returned (v0_) ∧ Kd.R (Kd.int .i64) 3 w' w.heap.size (fun _ => True) v0_ r ∧ Below w.heap.size w w' := by
  have HR0 := Aside0.mk hr0
  have HC0 := Aside0.mk hc0
  clear hr0 hc0
  have HB := Aside0.mk (Below.refl w.heap.size w)
  have H : (if 0 ≤ (mn (l0.length : Int) 13) then (if (mn (l0.length : Int) 13) ≤ (l0.length : Int) then ((slices_Clone_int_int.f (l0.take ((mn (l0.length : Int) 13) : Int).toNat)).bind fun t1003 => (some t1003)) else (none)) else (none)) = some r := h
  clear h
  obtain ⟨ji2, hji2⟩ : ∃ j_ : Int, (mn (l0.length : Int) 13) = j_ := ⟨_, rfl⟩
  replace H : (if 0 ≤ (ji2) then (if (ji2) ≤ (l0.length : Int) then ((slices_Clone_int_int.f (l0.take ((ji2) : Int).toNat)).bind fun t1003 => (some t1003)) else (none)) else (none)) = some r := by first | (rw [hji2] at H; exact H) | (simp only [hji2] at H ⊢; exact H)
  (try (have hji2h : ji2 ≤ 13 := by (rw [← hji2]; unfold mn; (repeat' split) <;> omega)))
  (try (have hji2g : ji2 ≤ 64 := by omega))
  (try (have hji2l : 0 ≤ ji2 := by (rw [← hji2]; unfold mn; (repeat' split) <;> omega)))
  (try (have hji2m : 0 ≤ ji2 := by omega))
  have hji2_ : (if 13 < (l0.length : Int) then 13 else (l0.length : Int)) = ji2 := hji2
  by_cases c3 : 0 ≤ (ji2)
  · rw [if_pos c3] at H
    have c3b0 := eq_true c3
    have c3b1 : decide (0 ≤ (ji2)) = true := decide_eq_true c3
    clear c3
    by_cases c4 : (ji2) ≤ (l0.length : Int)
    · rw [if_pos c4] at H
      have c4b0 := eq_true c4
      have c4b1 : decide ((ji2) ≤ (l0.length : Int)) = true := decide_eq_true c4
      clear c4
      obtain ⟨y1001, hy1001⟩ : ∃ y_ : List Int, y_ = (l0.take ((ji2) : Int).toNat) := ⟨_, rfl⟩
      replace H : ((slices_Clone_int_int.f y1001).bind fun t1003 => (some t1003)) = some r := by first | (rw [hy1001]; with_reducible exact H) | (have H2_ := (Option.bind_some _ _).symm.trans H; rw [hy1001]; with_reducible exact H2_) | (have H2_ := (Option.bind_some _ _).symm.trans H; with_reducible exact H2_) | with_reducible exact H | (rw [hy1001]; exact H) | exact H
      have Ny1001 := Aside0.mk hy1001
      clear hy1001
      replace H := Option.bind_eq_some_iff.mp H
      obtain ⟨t1003, A50, H⟩ := H
      replace H : (some t1003) = some r := H
      have A5 := Aside0.mk A50
      clear A50
      obtain rfl := Option.some.inj H
      obtain ⟨i06, hi06, _, hsz6, _⟩ := info_parts info3
      obtain ⟨hcut6, hA6, hC6⟩ := print_take_of (P := Try.prog) (Value.int .i64) 0 22 3 .i64 Try.underlying22 hi06 hsz6 A0 c0 l0 (ji2) (of_decide_eq_true (by first | (with_reducible assumption) | assumption)) (of_decide_eq_true (by first | (with_reducible assumption) | assumption)) HC0.out
      (first | rw [← Ny1001.out] at hcut6 hA6 hC6 | (simp only [Int.reduceToNat] at hcut6 hA6 hC6; rw [← Ny1001.out] at hcut6 hA6 hC6))
      have HR1002 := Aside0.mk (Kd.C_of_reads (h1 := fun _ => rfl) (hA6 _ (Kd.reads_of_C HR0.out)))
      have HC1002 := Aside0.mk hC6
      clear hA6 hC6 hi06 hsz6
      go_enter Try.func16, Try.ntmps16
      go_wp2_with (first | ((with_reducible refine gate_callee (f := 36) rfl ?_); refine goesL_ (some 8) rfl rfl Try.func36 (by kernel_rfl) rfl #[.slice A0 y1001.length c0] rfl (by (try simp only [List.map_toArray, List.map_cons, List.map_nil]); first | done | rfl | (simp only [List.length_drop, List.length_take]; rfl)) ?_; (with_reducible refine (slices_Clone_int_int.calls _ _ y1001 t1003 _ ?side1 ?side2 A5.out).mono ?_); (case side1 => repeat (first | exact HR1002.out | (with_reducible refine Kd.C_alloc ?_ _) | (with_reducible refine Kd.C_drewN ?_ _) | (with_reducible refine Kd.C_drew ?_))); (case side2 => exact HC1002.out); rintro e w7 ⟨v1004, rfl, ho0, hb⟩; refine ⟨_, rfl, ?_⟩; have n0_ := Aside0.mk (Kd.R_lower ho0 (below_size (by repeat (first | (with_reducible first | exact HB.out | apply below_alloc | apply pw_below_drewN | apply below_drew1) | exact HB.out)))); have n1_ := Aside0.mk (below_step (by repeat (first | (with_reducible first | exact HB.out | apply below_alloc | apply pw_below_drewN | apply below_drew1) | exact HB.out)) hb); clear HB; have HO1005 := n0_; have HB := n1_; clear n0_ n1_; (try clear hb); (try clear hb2); (try clear hk); (try clear hi); (try clear ho0)))
      go_ret
      exact ⟨_, by first | rfl | (simp [errW_none, errW_some] <;> rfl) | (simp only [← hji2]; first | rfl | (simp [errW_none, errW_some] <;> rfl)) | (simp [*, errW_none, errW_some] <;> rfl), by (with_reducible repeat (first | apply Kd.R_alloc | apply Kd.R_drewN | apply Kd.R_drew)); exact HO1005.out, by repeat (first | (with_reducible first | exact HB.out | apply below_alloc | apply pw_below_drewN | apply below_drew1) | exact HB.out)⟩
    · rw [if_neg c4] at H
      exact absurd H (by simp)
  · rw [if_neg c3] at H
    exact absurd H (by simp)

end Go.Proofs.Ytpfjnpbcnlbhaaa.P
