/- Proved here: the Go function sackbutlaw05.RowsForms returns true for every input (its printed form comes to true), whatever its arguments. Conditions: none beyond the row's own reach in memory. -/
import Derived.Test.YtknchioabngbiaaRows
import Derived.WalkKit
import Derived.ProofKit
import Derived.OpenShut
import Derived.ShutString
import Derived.ChangeOld
import Derived.Below
import Derived.SizedLaws
import Derived.Test.YtknchioabngbiaaWSized
import Derived.Test.YtknchioabngbiaaCRowsForms1
import Derived.Test.YtknchioabngbiaaCRowsForms2
import Derived.Test.YtknchioabngbiaaCRowsForms3
import Derived.Test.YtknchioabngbiaaCRowsForms4
import Derived.Test.YtknchioabngbiaaCRowsForms5
import Derived.Test.YtknchioabngbiaaCRowsForms6
import Derived.Test.YtknchioabngbiaaCRowsForms7
import Derived.Test.YtknchioabngbiaaCRowsForms8
namespace Go.Proofs.Ytknchioabngbiaa.P
open Go.RowKit Go.Proofs.YtknchioabngbiaaW.PrintWords Go.Proofs.YtknchioabngbiaaW.PrintLast Go.Proofs.YtknchioabngbiaaW.PrintMore
attribute [local go_sem] max2_int min2_int max_two min_two max_three min_three max_four min_four   -- for this text's walks alone
set_option linter.unusedVariables false
set_option linter.unusedSimpArgs false

theorem Form_ev (l : List Int) (kind k : Int) : Ev (fun q => rows_Form.f q l kind k) (if IsRow l ∧ 0 ≤ kind ∧ kind < 4 then (formOf l.length kind k l, 0) else ([], 2)) := by
  unfold rows_Form.f
  refine Ev.bind (valid_ev l) ?_
  have bad : ∀ (r : List Int × Int), r = ([], 2) → Ev (fun q => rows_Form.j0 q l kind k true) r := by
    rintro r rfl
    refine Ev.succ ?_
    simp only [rows_Form.j0, if_true]
    exact Ev.some _
  by_cases h : IsRow l
  · have h1 := h.1; have h2 := h.2.1
    simp only [h, decide_true, if_true, true_and]
    refine Ev.ite (fun e => bad _ (if_neg (by omega))) (fun e => ?_)
    by_cases e2 : kind ≥ 4
    · simp only [decide_eq_true e2]
      exact bad _ (if_neg (by omega))
    · simp only [decide_eq_false e2]
      rw [if_pos (show 0 ≤ kind ∧ kind < 4 by omega)]
      refine Ev.succ ?_
      simp only [rows_Form.j0, Bool.false_eq_true, if_false, rows_row_whole.f, Option.bind_some]
      exact Ev.bind (pieceForm_ev l.length (by omega) (by omega) kind k (by omega) (by omega) l (by omega) (row_small h)) (Ev.some _)
  · simp only [h, decide_false, Bool.false_eq_true, if_false, false_and]
    exact bad _ rfl

end Go.Proofs.Ytknchioabngbiaa.P
namespace Go.Proofs.Ytknchioabngbiaa.P
open Go.RowKit Go.Proofs.YtknchioabngbiaaW.PrintWords Go.Proofs.YtknchioabngbiaaW.PrintLast Go.Proofs.YtknchioabngbiaaW.PrintMore
attribute [local go_sem] max2_int min2_int max_two min_two max_three min_three max_four min_four   -- for this text's walks alone
set_option linter.unusedVariables false
set_option linter.unusedSimpArgs false

/-! the reference's Forms -/
theorem rdL_midF {pre rest : List (List Int)} {v : List Int} : rd_L1 (pre ++ v :: rest) (pre.length : Int) = v := by
  unfold rd_L1; simp
theorem refForms_l2 (l f : List Int) (kind k : Int) (n : Int) (r : List (List Int)) (hf : f.length < 1000) : ∀ (suf pre : List (List Int)), (∀ x ∈ pre ++ suf, x.length = f.length) → (pre ++ suf).length < 1000 →
    Ev (fun q => sackbutref05_Forms.l1 q l (pre ++ insC f suf) kind kind n (wrap64 (k + 1))) r →
    Ev (fun q => sackbutref05_Forms.l2 q l (pre ++ suf) kind f (pre.length : Int) kind n k) r := by
  intro suf
  induction suf with
  | nil =>
    intro pre hm hl hend
    simp only [List.append_nil] at hl ⊢
    refine Ev.succ ?_
    simp only [sackbutref05_Forms.l2, if_neg (show ¬ (pre.length : Int) < (pre.length : Int) by omega), if_true, if_pos (show (0 : Int) ≤ (pre.length : Int) by omega), if_pos (show (pre.length : Int) ≤ (pre.length : Int) by omega), Option.bind_some, Int.toNat_natCast, List.take_length, List.drop_length, List.nil_append, List.append_nil]
    simp only [List.length_nil, List.length_append, List.length_cons, if_pos (show 0 + pre.length < 5864062014805 by omega), if_pos (show pre.length + (0 + 1) < 5864062014805 by omega), if_pos (show pre.length + (0 + 1) + 0 < 5864062014805 by omega)]
    exact hend
  | cons x s ih =>
    intro pre hm hl hend
    have hlen : (pre ++ x :: s).length = pre.length + (s.length + 1) := by simp
    have hxl : x.length = f.length := hm x (by simp)
    have hw : wrap64 ((pre.length : Int) + 1) = ((pre ++ [x]).length : Int) := by rw [wrap_id (by omega) (by omega)]; simp
    have go := ih (pre ++ [x]) (by simpa using hm) (by simpa using hl)
    rw [List.append_assoc, List.append_assoc] at go
    refine Ev.succ ?_
    simp only [sackbutref05_Forms.l2, if_pos (show (pre.length : Int) < ((pre ++ x :: s).length : Int) by omega), if_pos (show (0 : Int) ≤ (pre.length : Int) by omega), rdL_midF, hw]
    refine Ev.bind (less_ev x f hxl (by omega)) ?_
    unfold insC at hend
    by_cases c : lessL x f = true
    · rw [if_pos c] at hend
      simp only [c, if_true]
      exact go hend
    · rw [if_neg c] at hend
      rw [Bool.not_eq_true] at c
      simp only [c, Bool.false_eq_true, if_false, if_neg (show ¬ (pre.length : Int) = ((pre ++ x :: s).length : Int) by omega)]
      refine Ev.bind (same_ev x f hxl (by omega)) ?_
      by_cases e : x = f
      · rw [if_pos e] at hend
        simp only [e, decide_true, if_true]
        rw [e] at hend
        exact hend
      · rw [if_neg e] at hend
        simp only [e, decide_false, Bool.false_eq_true, if_false, if_pos (show (pre.length : Int) ≤ ((pre ++ x :: s).length : Int) by omega), Option.bind_some, Int.toNat_natCast, List.take_left, List.drop_left, List.nil_append]
        simp only [List.length_nil, List.length_append, List.length_cons, if_pos (show 0 + pre.length < 5864062014805 by omega), if_pos (show pre.length + (0 + 1) < 5864062014805 by omega), if_pos (show pre.length + (0 + 1) + (s.length + 1) < 5864062014805 by omega)]
        rw [List.append_assoc]
        exact hend
theorem insC_len (f : List Int) : ∀ xs : List (List Int), (insC f xs).length ≤ xs.length + 1
  | [] => by simp [insC]
  | x :: xs => by
    have := insC_len f xs
    unfold insC
    split
    · simp; omega
    · split <;> simp
theorem canonTo_len (l : List Int) : ∀ ps : List (Nat × Nat), (canonTo l ps).length ≤ ps.length := by
  intro ps
  generalize hr : ps.reverse = zs
  induction zs generalizing ps with
  | nil => have : ps = [] := by simpa using hr
           subst this; simp [canonTo]
  | cons z zs ih =>
    have e : ps = zs.reverse ++ [z] := by rw [← List.reverse_cons, ← hr, List.reverse_reverse]
    subst e
    have := ih zs.reverse (by simp)
    rw [canonTo_snoc]
    refine Nat.le_trans (insC_len _ _) ?_
    simp at this ⊢; omega
theorem canonTo_lens (l : List Int) (ps : List (Nat × Nat)) : ∀ x ∈ canonTo l ps, x.length = l.length := fun x hx => by
  obtain ⟨p, _, rfl⟩ := ((canonTo_spec l ps).2 x).1 hx
  exact formOf_len5 _ _ _ _
theorem pairsTo_len (n kind k : Nat) : (pairsTo n kind k).length = kind * n + k := by
  have h0 : ∀ m, ((List.range m).flatMap (fun q => (List.range n).map fun j => (q, j))).length = m * n := by
    intro m
    induction m with
    | zero => simp
    | succ m ih => rw [List.range_succ, List.flatMap_append, List.length_append, ih, Nat.add_mul]; simp
  unfold pairsTo
  rw [List.length_append, h0, List.length_map, List.length_range]
theorem refForms_l1 (l : List Int) (hr : IsRow l) (kind : Nat) (hk : kind < 4) (r : List (List Int)) (hend : Ev (fun q => sackbutref05_Forms.l0 q l (canonTo l (pairsTo l.length (kind + 1) 0)) (wrap64 ((kind : Int) + 1))) r) : ∀ (m k : Nat), k + m = l.length →
    Ev (fun q => sackbutref05_Forms.l1 q l (canonTo l (pairsTo l.length kind k)) (kind : Int) (kind : Int) (l.length : Int) (k : Int)) r := by
  have h1 := hr.1; have h2 := hr.2.1
  intro m
  induction m with
  | zero =>
    intro k hkm
    have hkn : k = l.length := by omega
    refine Ev.succ ?_
    simp only [sackbutref05_Forms.l1, if_neg (show ¬ (k : Int) < (l.length : Int) by omega)]
    rw [hkn, pairsTo_kind]
    exact hend
  | succ m ih =>
    intro k hkm
    have hw : wrap64 ((k : Int) + 1) = ((k + 1 : Nat) : Int) := by rw [wrap_id (by omega) (by omega)]; omega
    refine Ev.succ ?_
    simp only [sackbutref05_Forms.l1, if_pos (show (k : Int) < (l.length : Int) by omega)]
    refine Ev.bind (refForm_ev l.length (by omega) (by omega) kind k (by omega) (by omega) l (by omega) (row_small hr)) ?_
    have hlen : (canonTo l (pairsTo l.length kind k)).length < 1000 := by
      have := canonTo_len l (pairsTo l.length kind k)
      rw [pairsTo_len] at this
      have : kind * l.length ≤ 4 * 10 := Nat.mul_le_mul (by omega) h2
      omega
    have := refForms_l2 l (formOf l.length kind k l) (kind : Int) (k : Int) (l.length : Int) r (by rw [formOf_len5]; omega) (canonTo l (pairsTo l.length kind k)) [] (fun x hx => by rw [formOf_len5]; exact canonTo_lens l _ x hx) hlen
    refine this ?_
    rw [List.nil_append, hw]
    have go := ih (k + 1) (by omega)
    rw [← pairsTo_next, canonTo_snoc] at go
    exact go
theorem refForms_l0 (l : List Int) (hr : IsRow l) : ∀ (m kind : Nat), kind + m = 4 → Ev (fun q => sackbutref05_Forms.l0 q l (canonTo l (pairsTo l.length kind 0)) (kind : Int)) (canonF l) := by
  have h1 := hr.1; have h2 := hr.2.1
  intro m
  induction m with
  | zero =>
    intro kind hk
    have : kind = 4 := by omega
    subst this
    refine Ev.succ ?_
    simp only [sackbutref05_Forms.l0, if_neg (show ¬ ((4 : Nat) : Int) < 4 by decide)]
    exact Ev.some _
  | succ m ih =>
    intro kind hk
    have hw : wrap64 ((kind : Int) + 1) = ((kind + 1 : Nat) : Int) := by rw [wrap_id (by omega) (by omega)]; omega
    refine Ev.succ ?_
    simp only [sackbutref05_Forms.l0, if_pos (show (kind : Int) < 4 by omega)]
    refine refForms_l1 l hr kind (by omega) _ ?_ l.length 0 (by omega)
    rw [hw]
    exact ih (kind + 1) (by omega)
theorem refForms_ev (l : List Int) (hr : IsRow l) : Ev (fun q => sackbutref05_Forms.f q l) (canonF l) := by
  unfold sackbutref05_Forms.f
  have := refForms_l0 l hr 4 0 (by omega)
  have e : canonTo l (pairsTo l.length 0 0) = [] := by simp [pairsTo, canonTo]
  rw [e] at this
  exact this

end Go.Proofs.Ytknchioabngbiaa.P
namespace Go.Proofs.Ytknchioabngbiaa.P
open Go.RowKit Go.Proofs.YtknchioabngbiaaW.PrintWords Go.Proofs.YtknchioabngbiaaW.PrintLast Go.Proofs.YtknchioabngbiaaW.PrintMore
attribute [local go_sem] max2_int min2_int max_two min_two max_three min_three max_four min_four   -- for this text's walks alone
set_option linter.unusedVariables false
set_option linter.unusedSimpArgs false

/-! steps -/
def stepsOf (n : Int) : List Int → List Int
  | x :: y :: r => (y - x) % n :: stepsOf n (y :: r)
  | _ => []
theorem row_bounds {l : List Int} (h : IsRow l) : ∀ x ∈ l, 0 ≤ x ∧ x < 4611686018427387904 := fun x hx => by have := h.2.2.1 x hx; have := h.2.1; omega
theorem steps_loop (l : List Int) (n : Nat) (hn : n = l.length) (h1 : 1 ≤ n) (hb : n ≤ 62) (hr : ∀ x ∈ l, 0 ≤ x ∧ x < 4611686018427387904) : ∀ (xs pre : List Int) (p : Int) (acc : List Int), l = pre ++ p :: xs → acc.length = pre.length →
    Ev (fun k => rows_row_steps.l0 k l acc ((pre.length : Int) + 1)) (acc ++ stepsOf n (p :: xs)) := by
  intro xs
  induction xs with
  | nil =>
    intro pre p acc h0 ha
    refine Ev.succ ?_
    have : ¬ ((pre.length : Int) + 1 < (l.length : Int)) := by subst h0; simp
    simp only [rows_row_steps.l0, if_neg this, stepsOf, List.append_nil]
    exact Ev.some _
  | cons x xs ih =>
    intro pre p acc h0 ha
    have hm : l = (pre ++ [p]) ++ x :: xs := mid_mv h0
    have hi : ((pre.length : Int) + 1) = ((pre ++ [p]).length : Int) := by simp
    have hlen : pre.length + 1 < l.length := by rw [h0]; simp
    have hw : wrap64 ((pre.length : Int) + 1 - 1) = (pre.length : Int) := by rw [wrap_id (by omega) (by omega)]; omega
    have hx := hr x (by rw [hm]; simp)
    have hp := hr p (by rw [h0]; simp)
    have hs : wrap64 (x - p) = x - p := wrap_id (by omega) (by omega)
    have hlt : ((pre.length : Int) + 1 < (l.length : Int)) := by omega
    refine Ev.succ ?_
    simp only [rows_row_steps.l0, if_pos hlt, if_pos (show (0 : Int) ≤ (pre.length : Int) + 1 by omega), hw, if_pos (show (0 : Int) ≤ (pre.length : Int) by omega), if_pos (mid_lt h0), mid_rd h0]
    rw [hi]
    simp only [mid_rd hm, hs, rows_mod_f (show (0 : Int) < (l.length : Int) by omega) (show (l.length : Int) < 4611686018427387904 by omega), Option.bind_some, if_pos (show acc.length < 17592186044416 by omega), mid_next hm (by omega)]
    have := ih (pre ++ [p]) x (acc ++ [(x - p) % (l.length : Int)]) hm (by simp [ha])
    have e : ((pre ++ [p] ++ [x]).length : Int) = ((pre ++ [p]).length : Int) + 1 := by simp; omega
    rw [e]
    simpa [stepsOf, hn] using this
theorem steps_ev (l : List Int) (h1 : 1 ≤ l.length) (hb : l.length ≤ 62) (hr : ∀ x ∈ l, 0 ≤ x ∧ x < 4611686018427387904) : Ev (fun k => rows_row_steps.f k l) (stepsOf l.length l) := by
  cases l with
  | nil => simp at h1
  | cons p xs => exact steps_loop (p :: xs) _ rfl h1 hb hr xs [] p [] rfl rfl
theorem Steps_ev (l : List Int) : Ev (fun k => rows_Steps.f k l) (if IsRow l then (stepsOf l.length l, 0) else ([], 2)) := by
  unfold rows_Steps.f
  refine Ev.bind (valid_ev l) ?_
  by_cases h : IsRow l
  · simp only [h, decide_true, if_true]
    have h1 := h.1; have h2 := h.2.1
    exact Ev.bind (steps_ev l (by omega) (by omega) (row_bounds h)) (Ev.some _)
  · simp only [h, decide_false, if_false]
    exact Ev.some _

end Go.Proofs.Ytknchioabngbiaa.P
namespace Go.Proofs.Ytknchioabngbiaa.P
open Go.RowKit Go.Proofs.YtknchioabngbiaaW.PrintWords Go.Proofs.YtknchioabngbiaaW.PrintLast Go.Proofs.YtknchioabngbiaaW.PrintMore
attribute [local go_sem] max2_int min2_int max_two min_two max_three min_three max_four min_four   -- for this text's walks alone
set_option linter.unusedVariables false
set_option linter.unusedSimpArgs false

/-! list -/
theorem list_f (l : List Int) : sackbutlaw05_list.f l = some (l.take 13) := by
  unfold sackbutlaw05_list.f
  rw [mn_eq, if_pos (by omega), if_pos (by omega)]
  have e : (min (l.length : Int) 13).toNat = min l.length 13 := by omega
  have e2 : l.take (min l.length 13) = l.take 13 := by
    rw [Nat.min_comm]; exact (List.take_eq_take_min ..).symm
  rw [e, e2]
  unfold slices_Clone_int_int.f
  rw [if_pos (by rw [List.length_take]; omega)]
  rfl
theorem isRow_take (l : List Int) : IsRow (l.take 13) ↔ IsRow l := by
  rcases Nat.lt_or_ge 13 l.length with h | h
  · constructor
    · intro hr; have := hr.2.1; rw [List.length_take] at this; omega
    · intro hr; have := hr.2.1; omega
  · rw [List.take_of_length_le h]
theorem row_take {l : List Int} (h : IsRow l) : l.take 13 = l := List.take_of_length_le (by have := h.2.1; omega)

theorem awake_ev : Ev (fun k => sackbutlaw05_awake.f k) true := by
  unfold sackbutlaw05_awake.f
  refine Ev.bind (Steps_ev [0, 1, 3, 2]) ?_
  have h : IsRow [0, 1, 3, 2] := by decide
  have e : stepsOf ([0, 1, 3, 2] : List Int).length [0, 1, 3, 2] = [1, 2, 3] := by decide
  simp only [h, if_true, e]
  exact Ev.bind (Equal_ev [1, 2, 3] [1, 2, 3] (by decide)) (Ev.some _)

end Go.Proofs.Ytknchioabngbiaa.P
namespace Go.Proofs.Ytknchioabngbiaa.P
open Go.RowKit Go.Proofs.YtknchioabngbiaaW.PrintWords Go.Proofs.YtknchioabngbiaaW.PrintLast Go.Proofs.YtknchioabngbiaaW.PrintMore
attribute [local go_sem] max2_int min2_int max_two min_two max_three min_three max_four min_four   -- for this text's walks alone
set_option linter.unusedVariables false
set_option linter.unusedSimpArgs false

theorem canonF_ne {l : List Int} (hr : IsRow l) : ∃ c cs, canonF l = c :: cs := by
  have h1 := hr.1
  have : formOf l.length ((0 : Nat) : Int) ((0 : Nat) : Int) l ∈ canonF l := by
    rw [mem_canonF]
    refine ⟨(0, 0), ?_, rfl⟩
    unfold formPairs pairsTo
    simp only [List.range_zero, List.map_nil, List.append_nil, List.mem_flatMap, List.mem_range, List.mem_map, Prod.mk.injEq]
    exact ⟨0, by decide, 0, by omega, rfl, rfl⟩
  cases h : canonF l with
  | nil => rw [h] at this; cases this
  | cons c cs => exact ⟨c, cs, rfl⟩
theorem canonF_lens (l : List Int) : ∀ x ∈ canonF l, x.length = l.length := canonTo_lens l _
theorem rdL_head (c : List Int) (cs : List (List Int)) : rd_L1 (c :: cs) 0 = c := by
  have := rdL_midF (pre := []) (rest := cs) (v := c)
  simpa using this
theorem Forms_f (l : List Int) : rows_Forms.f l = some (if IsRow l then (canonF l, 0) else ([], 2)) := by
  unfold rows_Forms.f; split <;> rfl
theorem Prime_row {l : List Int} (hr : IsRow l) {c : List Int} {cs : List (List Int)} (h : canonF l = c :: cs) : rows_Prime.f l = some (c, 0) := by
  unfold rows_Prime.f
  rw [Forms_f, if_pos hr, h]
  simp only [Option.bind_some, if_true, List.length_cons, rdL_head]
  rw [if_pos (by omega)]
theorem Prime_not {l : List Int} (hr : ¬ IsRow l) : rows_Prime.f l = some ([], 2) := by
  unfold rows_Prime.f
  rw [Forms_f, if_neg hr]
  simp
theorem RowsForms : sackbutlaw05_RowsForms.Pure := by
  intro l kind k _ _ _ _ _
  refine Ev.rounds (g := fun q => sackbutlaw05_RowsForms.f q l kind k) ?_
  unfold sackbutlaw05_RowsForms.f
  refine Ev.bind_some (list_f l) ?_
  refine Ev.bind (Form_ev _ _ _) ?_
  refine Ev.bind_some (list_f l) ?_
  refine Ev.bind_some (Forms_f _) ?_
  refine Ev.bind_some (list_f l) ?_
  by_cases hr : IsRow l
  · obtain ⟨c, cs, hc⟩ := canonF_ne hr
    have hcl : c.length = l.length := canonF_lens l c (by rw [hc]; simp)
    have h10 := hr.2.1
    have hE : slices_EqualFunc_int_int_int_int.f (canonF l) (canonF l) = some true := by
      unfold slices_EqualFunc_int_int_int_int.f
      rw [if_pos (fun x hx => by rw [canonF_lens l x hx]; omega)]
      simp
    simp only [isRow_take, hr, row_take hr, true_and, if_true]
    refine Ev.bind_some (Prime_row hr hc) ?_
    refine Ev.bind (Row_ev l) ?_
    simp only [hr, decide_true, if_true]
    refine Ev.bind (refForms_ev l hr) ?_
    refine Ev.bind_some hE ?_
    simp only [if_true]
    rw [hc]
    simp only [List.length_cons, rdL_head, if_pos (show (0 : Int) < ((cs.length + 1 : Nat) : Int) by omega)]
    refine Ev.bind (Equal_ev c c (by omega)) ?_
    simp only [decide_true, if_true]
    refine Ev.bind awake_ev ?_
    refine Ev.succ ?_
    simp only [sackbutlaw05_RowsForms.j0, Bool.not_true, Bool.false_eq_true, if_false]
    have hbad : ¬ (0 ≤ kind ∧ kind < 4) → Ev (fun q => sackbutlaw05_RowsForms.j1 q l kind k ([] : List Int) 2 true) true := fun _ => by
      refine Ev.succ ?_
      simp only [sackbutlaw05_RowsForms.j1, if_true, List.length_nil]
      exact Ev.some _
    by_cases h0 : kind < 0
    · simp only [if_pos h0, if_neg (show ¬ (0 ≤ kind ∧ kind < 4) by omega)]
      exact hbad (by omega)
    · simp only [if_neg h0]
      by_cases h3 : kind > 3
      · simp only [if_neg (show ¬ (0 ≤ kind ∧ kind < 4) by omega), decide_eq_true h3]
        exact hbad (by omega)
      · simp only [if_pos (show 0 ≤ kind ∧ kind < 4 by omega), decide_eq_false h3]
        refine Ev.succ ?_
        simp only [sackbutlaw05_RowsForms.j1, Bool.false_eq_true, if_false]
        refine Ev.bind (refForm_ev l.length (by have := hr.1; omega) (by omega) kind k (by omega) (by omega) l (by omega) (row_small hr)) ?_
        refine Ev.bind (Equal_ev _ _ (by rw [formOf_len5]; omega)) ?_
        simp only [decide_true, if_true, beq_self_eq_true]
        exact Ev.some _
  · simp only [isRow_take, hr, false_and, if_false]
    refine Ev.bind_some (Prime_not (fun h => hr ((isRow_take l).1 h))) ?_
    refine Ev.bind (Row_ev l) ?_
    simp only [hr, decide_false, Bool.false_eq_true, if_false, List.length_nil]
    have e0 : wrap64 0 = 0 := wrap_id (by omega) (by omega)
    have e : wrap64 (wrap64 (((0 : Nat) : Int) + ((0 : Nat) : Int)) + ((0 : Nat) : Int)) = 0 := by
      simp only [Int.natCast_zero, Int.add_zero, e0]
    rw [e]
    simp only [if_true]
    exact Ev.bind awake_ev (Ev.some _)

end Go.Proofs.Ytknchioabngbiaa.P
namespace Go.Proofs.Ytknchioabngbiaa.Pure
theorem RowsForms : Go.Proofs.Ytknchioabngbiaa.P.sackbutlaw05_RowsForms.Pure := Go.Proofs.Ytknchioabngbiaa.P.RowsForms
end Go.Proofs.Ytknchioabngbiaa.Pure
namespace Go.Proofs.Ytknchioabngbiaa.rowsForms
open Go.ChangeShapes Go.WideShapes Go.ChangeAt Go.RowKit
open Go.ChangeMaps (open_string shut_string)
set_option linter.unusedVariables false
theorem own : ownKnob Try.prog.godebug = none := by kernel_rfl
theorem laidOut : laidOutB Try.prog = true := by kernel_rfl
def IsRow (k : IntKind) (w : World) (a : Option Addr) (len cap : Nat) (zs : List Int) : Prop :=
  (a = none ∧ len = 0 ∧ cap = 0 ∧ zs = []) ∨
  ∃ x, a = some x ∧ len ≤ cap ∧ cap ≤ maxLen ∧ zs.length = cap ∧ (∀ i, i < zs.length → w.cell? (x.add i) = some (.int k (zs.getD i 0))) ∧ ∀ n ∈ zs, (Lit.int k n).wf = true
set_option maxRecDepth 100000 in
theorem lifted (os : Os) (started : os.Started) (H : Type) (enc : TypeId × Value → H) :
    ReturnsInHanded {} Try.checked os 5 .any (Rows.rowsFormsSpec.pre6 enc Try.prog Try.f5 Rows.rowsFormsRow.domain false) (Rows.rowsFormsSpec.post enc Try.prog Try.f5 false true false false) := by
  refine returnsInHanded_of_change_sized (C := Try.checked) own started (by kernel_rfl) Try.func5
    (ChangeSpec.witness6 (enc := enc) (C := Try.checked) false ⟨#[], #[.slice none 0 0, .int .i64 0, .int .i64 0], []⟩ 8 (by kernel_rfl) (by kernel_rfl) (by kernel_rfl) (by kernel_rfl)) ?_
  intro W base args ds gs before hval0 hW hcnd hsz0 _
  have hsz : (DataW.weightsEach Try.prog (Try.f5.params.toList ++ Rows.rowsFormsSpec.plain.varTypes Try.prog) (ds ++ gs)).all (· ≤ reachBytes) = true := hsz0
  have hval : ∀ (j : Nat) t v, Try.f5.params[j]? = some t → args[j]? = some v → Value.okWide Try.prog W .any base t v := hval0
  have hW' := hW
  obtain ⟨p, q, hA0, hV, rfl, hfz, hnd⟩ := hW
  have hA : DataW.TrodAll enc Try.prog W 0 (fun _ => true) true Try.f5.params.toList args.toList ds p := hA0
  rw [Try.params5] at hA hval hsz
  obtain ⟨v0, vs0, d0, ds0, p0, q0, hargs, rfl, rfl, h0, r0⟩ := trodAll_cons hA
  obtain ⟨v1, vs1, d1, ds1, p1, q1, rfl, rfl, rfl, h1, r1⟩ := trodAll_cons r0
  obtain ⟨v2, vs2, d2, ds2, p2, q2, rfl, rfl, rfl, h2, r2⟩ := trodAll_cons r1
  obtain ⟨rfl, rfl, rfl⟩ := trodAll_nil r2
  obtain rfl : args = #[v0, v1, v2] := by cases args; simp_all
  obtain ⟨rfl, rfl⟩ := trodVars_none hV
  obtain ⟨a0, len0, cap0, rfl⟩ := okWide_slice Try.underlying27 (hval 0 27 v0 rfl rfl)
  have k0 := h0
  have lt0 : ∀ x ∈ p0, x.block < W.heap.size := by obtain ⟨m, hm⟩ := k0; exact DataW.trod_lt m _ _ _ hm
  obtain ⟨z0, w0⟩ : ∃ zs, IsRow .i64 W a0 len0 cap0 zs := by
    obtain ⟨fuel, hf⟩ := h0
    rcases open_ints Try.underlying27 Try.underlying3 (by kernel_rfl) hf with ⟨hcs, _⟩ | ⟨x, l, c, zs, hcs, _, hl, hm, hz, _, hcell, hwz⟩
    · simp [Value.cells] at hcs
      obtain ⟨rfl, rfl, rfl⟩ := hcs
      exact ⟨[], .inl ⟨rfl, rfl, rfl, rfl⟩⟩
    · simp [Value.cells] at hcs
      obtain ⟨rfl, rfl, rfl⟩ := hcs
      exact ⟨zs, .inr ⟨_, rfl, hl, hm, by simpa using hz, hcell, hwz⟩⟩
  have y0 : len0 * 8 ≤ 140737488351232 := Go.Proofs.YtknchioabngbiaaW.PrintWords.sized_ints hsz (j := 0) (t := 27) rfl rfl Try.underlying27 Try.underlying3 (by kernel_rfl) (by kernel_rfl) h0
  obtain ⟨a1, rfl, rfl, rfl, w1⟩ := open_int Try.underlying3 (hval 1 3 v1 rfl rfl) h1
  obtain ⟨a2, rfl, rfl, rfl, w2⟩ := open_int Try.underlying3 (hval 2 3 v2 rfl rfl) h2
  clear hA0 hval0 hsz0 hsz
  refine (P.sackbutlaw05_RowsForms.walk Pure.RowsForms a0 len0 cap0 z0 a1 a2 W w0 y0 w1 w2).mono fun e W' ⟨he, bel⟩ => ?_
  subst he
  exact ⟨_, rfl, _, _, _, [], _, [], hW', trodAll_mk1 (shut_bool Try.underlying4 _), (trodAll_cons_mk (Below.trod laidOut (by kernel_rfl) (of_decide_eq_true (by kernel_rfl)) k0 bel lt0) (trodAll_cons_mk (shut_int Try.underlying3 w1) (trodAll_cons_mk (shut_int Try.underlying3 w2) trodAll_mk0))), rfl, bel.frame _, fun h => by cases h⟩
theorem over : Rows.rowsFormsRow.holds Try.pinned (OpenSpec.ofChange Rows.rowsFormsSpec) :=
  OpenClaim.holds_of_wide 5 Try.f5 rfl rfl rfl rfl rfl rfl rfl ⟨rfl, rfl, rfl, rfl, rfl⟩ rfl rfl rfl rfl rfl (by kernel_rfl) Try.func5 (by kernel_rfl)
    (of_decide_eq_true (by kernel_rfl)) (by unfold Func.isWrapper; first | (rw [if_pos (by decide +kernel)]; kernel_rfl) | (rw [if_neg (by decide +kernel)]; exact ⟨rfl, rfl⟩))
    (fun os started H enc _ => lifted os started H enc)
theorem proved : Rows.RowsFormsSaid := over
#print axioms proved
end Go.Proofs.Ytknchioabngbiaa.rowsForms
namespace Go.Proofs.Ytknchioabngbiaa
/-- The row, under a short name, for the claim. -/
theorem rowsForms_holds : Rows.RowsFormsSaid := rowsForms.proved
end Go.Proofs.Ytknchioabngbiaa
