/- Proved here: the Go function sackbutlaw05.RowsClosed returns true for every input (its printed form comes to true), whatever its arguments. Conditions: none beyond the row's own reach in memory. -/
import Derived.Test.YtknchioabngbiaaRows
import Derived.WalkKit
import Derived.ProofKit
import Derived.OpenShut
import Derived.ShutString
import Derived.ChangeOld
import Derived.Below
import Derived.SizedLaws
import Derived.Test.YtknchioabngbiaaWSized
import Derived.Test.YtknchioabngbiaaCRowsClosed1
import Derived.Test.YtknchioabngbiaaCRowsClosed2
import Derived.Test.YtknchioabngbiaaCRowsClosed3
import Derived.Test.YtknchioabngbiaaCRowsClosed4
import Derived.Test.YtknchioabngbiaaCRowsClosed5
import Derived.Test.YtknchioabngbiaaCRowsClosed6
namespace Go.Proofs.Ytknchioabngbiaa.P
open Go.RowKit Go.Proofs.YtknchioabngbiaaW.PrintWords Go.Proofs.YtknchioabngbiaaW.PrintLast Go.Proofs.YtknchioabngbiaaW.PrintMore
attribute [local go_sem] max2_int min2_int max_two min_two max_three min_three max_four min_four   -- for this text's walks alone
set_option linter.unusedVariables false
set_option linter.unusedSimpArgs false

/-! the list of forms, and the prime form -/
theorem rdL_midF {pre rest : List (List Int)} {v : List Int} : rd_L1 (pre ++ v :: rest) (pre.length : Int) = v := by
  unfold rd_L1; simp
theorem insC_len (f : List Int) : ∀ xs : List (List Int), (insC f xs).length ≤ xs.length + 1
  | [] => by simp [insC]
  | x :: xs => by
    have := insC_len f xs
    unfold insC
    split
    · simp; omega
    · split <;> simp
theorem canonTo_len (l : List Int) : ∀ ps : List (Nat × Nat), (canonTo l ps).length ≤ ps.length := by
  intro ps
  generalize hr : ps.reverse = zs
  induction zs generalizing ps with
  | nil => have : ps = [] := by simpa using hr
           subst this; simp [canonTo]
  | cons z zs ih =>
    have e : ps = zs.reverse ++ [z] := by rw [← List.reverse_cons, ← hr, List.reverse_reverse]
    subst e
    have := ih zs.reverse (by simp)
    rw [canonTo_snoc]
    refine Nat.le_trans (insC_len _ _) ?_
    simp at this ⊢; omega
theorem canonTo_lens (l : List Int) (ps : List (Nat × Nat)) : ∀ x ∈ canonTo l ps, x.length = l.length := fun x hx => by
  obtain ⟨p, _, rfl⟩ := ((canonTo_spec l ps).2 x).1 hx
  exact formOf_len5 _ _ _ _
theorem canonF_ne {l : List Int} (hr : IsRow l) : ∃ c cs, canonF l = c :: cs := by
  have h1 := hr.1
  have : formOf l.length ((0 : Nat) : Int) ((0 : Nat) : Int) l ∈ canonF l := by
    rw [mem_canonF]
    refine ⟨(0, 0), ?_, rfl⟩
    unfold formPairs pairsTo
    simp only [List.range_zero, List.map_nil, List.append_nil, List.mem_flatMap, List.mem_range, List.mem_map, Prod.mk.injEq]
    exact ⟨0, by decide, 0, by omega, rfl, rfl⟩
  cases h : canonF l with
  | nil => rw [h] at this; cases this
  | cons c cs => exact ⟨c, cs, rfl⟩
theorem canonF_lens (l : List Int) : ∀ x ∈ canonF l, x.length = l.length := canonTo_lens l _
theorem rdL_head (c : List Int) (cs : List (List Int)) : rd_L1 (c :: cs) 0 = c := by
  have := rdL_midF (pre := []) (rest := cs) (v := c)
  simpa using this
theorem Forms_f (l : List Int) : rows_Forms.f l = some (if IsRow l then (canonF l, 0) else ([], 2)) := by
  unfold rows_Forms.f; split <;> rfl
theorem Prime_row {l : List Int} (hr : IsRow l) {c : List Int} {cs : List (List Int)} (h : canonF l = c :: cs) : rows_Prime.f l = some (c, 0) := by
  unfold rows_Prime.f
  rw [Forms_f, if_pos hr, h]
  simp only [Option.bind_some, if_true, List.length_cons, rdL_head]
  rw [if_pos (by omega)]
theorem Prime_not {l : List Int} (hr : ¬ IsRow l) : rows_Prime.f l = some ([], 2) := by
  unfold rows_Prime.f
  rw [Forms_f, if_neg hr]
  simp

end Go.Proofs.Ytknchioabngbiaa.P
namespace Go.Proofs.Ytknchioabngbiaa.P
open Go.RowKit Go.Proofs.YtknchioabngbiaaW.PrintWords Go.Proofs.YtknchioabngbiaaW.PrintLast Go.Proofs.YtknchioabngbiaaW.PrintMore
attribute [local go_sem] max2_int min2_int max_two min_two max_three min_three max_four min_four   -- for this text's walks alone
set_option linter.unusedVariables false
set_option linter.unusedSimpArgs false

theorem Form_ev (l : List Int) (kind k : Int) : Ev (fun q => rows_Form.f q l kind k) (if IsRow l ∧ 0 ≤ kind ∧ kind < 4 then (formOf l.length kind k l, 0) else ([], 2)) := by
  unfold rows_Form.f
  refine Ev.bind (valid_ev l) ?_
  have bad : ∀ (r : List Int × Int), r = ([], 2) → Ev (fun q => rows_Form.j0 q l kind k true) r := by
    rintro r rfl
    refine Ev.succ ?_
    simp only [rows_Form.j0, if_true]
    exact Ev.some _
  by_cases h : IsRow l
  · have h1 := h.1; have h2 := h.2.1
    simp only [h, decide_true, if_true, true_and]
    refine Ev.ite (fun e => bad _ (if_neg (by omega))) (fun e => ?_)
    by_cases e2 : kind ≥ 4
    · simp only [decide_eq_true e2]
      exact bad _ (if_neg (by omega))
    · simp only [decide_eq_false e2]
      rw [if_pos (show 0 ≤ kind ∧ kind < 4 by omega)]
      refine Ev.succ ?_
      simp only [rows_Form.j0, Bool.false_eq_true, if_false, rows_row_whole.f, Option.bind_some]
      exact Ev.bind (pieceForm_ev l.length (by omega) (by omega) kind k (by omega) (by omega) l (by omega) (row_small h)) (Ev.some _)
  · simp only [h, decide_false, Bool.false_eq_true, if_false, false_and]
    exact bad _ rfl

end Go.Proofs.Ytknchioabngbiaa.P
namespace Go.Proofs.Ytknchioabngbiaa.P
open Go.RowKit Go.Proofs.YtknchioabngbiaaW.PrintWords Go.Proofs.YtknchioabngbiaaW.PrintLast Go.Proofs.YtknchioabngbiaaW.PrintMore
attribute [local go_sem] max2_int min2_int max_two min_two max_three min_three max_four min_four   -- for this text's walks alone
set_option linter.unusedVariables false
set_option linter.unusedSimpArgs false

/-! the forms of a row: a form of a form is a form, each can be undone -/
theorem emod_same {n X Y : Int} (h : ∃ t, X = Y + n * t) : X % n = Y % n := by
  obtain ⟨t, rfl⟩ := h
  exact Int.add_mul_emod_self_left _ _ _
theorem emod_as (n a : Int) : ∃ d, a % n = a + n * d := ⟨-(a / n), by have := Int.emod_add_mul_ediv a n; rw [Int.mul_neg]; omega⟩
def compK (p1 q1 : Int) : Int := (p1 + q1) % 2 + 2 * ((p1 / 2 + q1 / 2) % 2)
def compM (p1 p2 q2 : Int) : Int := (if p1 % 2 = 1 then -q2 else q2) + p2
theorem tone_comp (n p1 p2 q1 q2 x : Int) : toneOf n p1 p2 (toneOf n q1 q2 x) = toneOf n (compK p1 q1) (compM p1 p2 q2) x := by
  have hk : compK p1 q1 % 2 = (p1 + q1) % 2 := by unfold compK; omega
  unfold toneOf compM
  rw [hk]
  obtain ⟨a, ha⟩ := emod_as n q2
  obtain ⟨b, hb⟩ := emod_as n p2
  apply emod_same
  by_cases h1 : p1 % 2 = 1 <;> by_cases h2 : q1 % 2 = 1
  · rw [if_pos h1, if_pos h2, if_neg (show ¬ (p1 + q1) % 2 = 1 by omega), if_pos h1]
    obtain ⟨c, hc⟩ := emod_as n (-x + q2 % n)
    obtain ⟨d, hd⟩ := emod_as n (-q2 + p2)
    refine ⟨-c - a + b - d, ?_⟩
    rw [Int.mul_sub, Int.mul_add, Int.mul_sub, Int.mul_neg]; omega
  · rw [if_pos h1, if_neg h2, if_pos (show (p1 + q1) % 2 = 1 by omega), if_pos h1]
    obtain ⟨c, hc⟩ := emod_as n (x + q2 % n)
    obtain ⟨d, hd⟩ := emod_as n (-q2 + p2)
    refine ⟨-c - a + b - d, ?_⟩
    rw [Int.mul_sub, Int.mul_add, Int.mul_sub, Int.mul_neg]; omega
  · rw [if_neg h1, if_pos h2, if_pos (show (p1 + q1) % 2 = 1 by omega), if_neg h1]
    obtain ⟨c, hc⟩ := emod_as n (-x + q2 % n)
    obtain ⟨d, hd⟩ := emod_as n (q2 + p2)
    refine ⟨c + a + b - d, ?_⟩
    rw [Int.mul_sub, Int.mul_add, Int.mul_add]; omega
  · rw [if_neg h1, if_neg h2, if_neg (show ¬ (p1 + q1) % 2 = 1 by omega), if_neg h1]
    obtain ⟨c, hc⟩ := emod_as n (x + q2 % n)
    obtain ⟨d, hd⟩ := emod_as n (q2 + p2)
    refine ⟨c + a + b - d, ?_⟩
    rw [Int.mul_sub, Int.mul_add, Int.mul_add]; omega
theorem form_comp (n p1 p2 q1 q2 : Int) (l : List Int) : formOf n p1 p2 (formOf n q1 q2 l) = formOf n (compK p1 q1) (compM p1 p2 q2) l := by
  have hk : compK p1 q1 / 2 % 2 = (p1 / 2 + q1 / 2) % 2 := by unfold compK; omega
  have hm : (l.map (toneOf n q1 q2)).map (toneOf n p1 p2) = l.map (toneOf n (compK p1 q1) (compM p1 p2 q2)) := by
    rw [List.map_map]; exact List.map_congr_left (fun x _ => tone_comp n p1 p2 q1 q2 x)
  unfold formOf
  rw [hk]
  by_cases h1 : p1 / 2 % 2 = 1 <;> by_cases h2 : q1 / 2 % 2 = 1
  · rw [if_pos h1, if_pos h2, if_neg (show ¬ (p1 / 2 + q1 / 2) % 2 = 1 by omega), List.map_reverse, List.reverse_reverse, hm]
  · rw [if_pos h1, if_neg h2, if_pos (show (p1 / 2 + q1 / 2) % 2 = 1 by omega), hm]
  · rw [if_neg h1, if_pos h2, if_pos (show (p1 / 2 + q1 / 2) % 2 = 1 by omega), List.map_reverse, hm]
  · rw [if_neg h1, if_neg h2, if_neg (show ¬ (p1 / 2 + q1 / 2) % 2 = 1 by omega), hm]
theorem form_norm (n k1 k2 k : Int) (l : List Int) (h1 : k1 % 2 = k2 % 2) (h2 : k1 / 2 % 2 = k2 / 2 % 2) : formOf n k1 k l = formOf n k2 (k % n) l := by
  have ht : toneOf n k1 k = toneOf n k2 (k % n) := by
    funext x; unfold toneOf; rw [h1, Int.emod_emod]
  unfold formOf; rw [h2, ht]
theorem form_id (n k : Int) (l : List Int) (hk : k % n = 0) (hr : ∀ x ∈ l, 0 ≤ x ∧ x < n) : formOf n 0 k l = l := by
  unfold formOf
  rw [if_neg (by decide)]
  conv => rhs; rw [← List.map_id l]
  refine List.map_congr_left (fun x hx => ?_)
  have := hr x hx
  unfold toneOf
  rw [if_neg (by decide), hk, Int.add_zero, Int.emod_eq_of_lt this.1 this.2]; rfl
/-- the move that undoes one -/
def invM (p1 p2 : Int) : Int := if p1 % 2 = 1 then p2 else -p2
theorem form_inv (n p1 p2 : Int) (l : List Int) (hr : ∀ x ∈ l, 0 ≤ x ∧ x < n) : formOf n p1 (invM p1 p2) (formOf n p1 p2 l) = l := by
  rw [form_comp, form_norm n (compK p1 p1) 0 (compM p1 (invM p1 p2) p2) l (by unfold compK; omega) (by unfold compK; omega)]
  have e : compM p1 (invM p1 p2) p2 = 0 := by unfold compM invM; split <;> omega
  rw [e, Int.zero_emod]
  exact form_id n 0 l (by simp) hr
theorem form_inj {n p1 p2 : Int} {a b : List Int} (ha : ∀ x ∈ a, 0 ≤ x ∧ x < n) (hb : ∀ x ∈ b, 0 ≤ x ∧ x < n) (h : formOf n p1 p2 a = formOf n p1 p2 b) : a = b := by
  rw [← form_inv n p1 p2 a ha, h, form_inv n p1 p2 b hb]
theorem mem_formPairs {n : Nat} (p : Nat × Nat) : p ∈ formPairs n ↔ p.1 < 4 ∧ p.2 < n := by
  obtain ⟨a, b⟩ := p
  unfold formPairs pairsTo
  simp only [List.range_zero, List.map_nil, List.append_nil, List.mem_flatMap, List.mem_range, List.mem_map, Prod.mk.injEq]
  constructor
  · rintro ⟨q, hq, j, hj, rfl, rfl⟩; exact ⟨hq, hj⟩
  · rintro ⟨h1, h2⟩; exact ⟨a, h1, b, h2, rfl, rfl⟩
/-- any form is one with a kind below 4 and a move below n -/
theorem form_pair {n : Nat} (hn : 1 ≤ n) (k1 k2 : Int) : ∃ p ∈ formPairs n, ∀ l, formOf n k1 k2 l = formOf n p.1 p.2 l := by
  refine ⟨((k1 % 2 + 2 * (k1 / 2 % 2)).toNat, (k2 % (n : Int)).toNat), ?_, fun l => ?_⟩
  · rw [mem_formPairs]
    have := Int.emod_nonneg k2 (show (n : Int) ≠ 0 by omega)
    have := Int.emod_lt_of_pos k2 (show (0 : Int) < n by omega)
    exact ⟨by simp only; omega, by simp only; omega⟩
  · have h0 := Int.emod_nonneg k2 (show (n : Int) ≠ 0 by omega)
    simp only
    rw [Int.toNat_of_nonneg h0, Int.toNat_of_nonneg (show 0 ≤ k1 % 2 + 2 * (k1 / 2 % 2) by omega)]
    exact form_norm n _ _ k2 l (by omega) (by omega)
theorem emod_eq_as {n X Y : Int} (h : X % n = Y % n) : ∃ t, X = Y + n * t := by
  obtain ⟨a, ha⟩ := emod_as n X
  obtain ⟨b, hb⟩ := emod_as n Y
  exact ⟨b - a, by rw [Int.mul_sub]; omega⟩

end Go.Proofs.Ytknchioabngbiaa.P
namespace Go.Proofs.Ytknchioabngbiaa.P
open Go.RowKit Go.Proofs.YtknchioabngbiaaW.PrintWords Go.Proofs.YtknchioabngbiaaW.PrintLast Go.Proofs.YtknchioabngbiaaW.PrintMore
attribute [local go_sem] max2_int min2_int max_two min_two max_three min_three max_four min_four   -- for this text's walks alone
set_option linter.unusedVariables false
set_option linter.unusedSimpArgs false

/-! the forms of a row make a group: a form of a form is a form, each can be undone -/
def IsForm (l y : List Int) : Prop := ∃ k1 k2 : Int, formOf l.length k1 k2 l = y
theorem isForm_iff {l y : List Int} (hn : 1 ≤ l.length) : IsForm l y ↔ ∃ p ∈ formPairs l.length, formOf l.length p.1 p.2 l = y := by
  constructor
  · rintro ⟨k1, k2, rfl⟩
    obtain ⟨p, hp, h⟩ := form_pair hn k1 k2
    exact ⟨p, hp, (h l).symm⟩
  · rintro ⟨p, _, h⟩; exact ⟨p.1, p.2, h⟩
theorem mem_canon_iff {l y : List Int} (hn : 1 ≤ l.length) : y ∈ canonF l ↔ IsForm l y := by rw [mem_canonF, isForm_iff hn]
theorem IsForm.trans {a b c : List Int} (h : IsForm a b) (k : IsForm b c) : IsForm a c := by
  obtain ⟨q1, q2, rfl⟩ := h
  obtain ⟨p1, p2, rfl⟩ := k
  rw [formOf_len5]
  exact ⟨_, _, (form_comp _ _ _ _ _ _).symm⟩
theorem IsForm.symm {a b : List Int} (ha : ∀ x ∈ a, 0 ≤ x ∧ x < (a.length : Int)) (h : IsForm a b) : IsForm b a := by
  obtain ⟨q1, q2, rfl⟩ := h
  refine ⟨q1, invM q1 q2, ?_⟩
  rw [formOf_len5]
  exact form_inv _ _ _ _ ha
theorem canonF_form {a b : List Int} (hn : 1 ≤ a.length) (ha : ∀ x ∈ a, 0 ≤ x ∧ x < (a.length : Int)) (h : IsForm a b) : canonF b = canonF a := by
  have hb : 1 ≤ b.length := by obtain ⟨q1, q2, rfl⟩ := h; rw [formOf_len5]; exact hn
  refine strictL_unique _ _ (canonF_strict _) (canonF_strict _) (fun x => ?_)
  rw [mem_canon_iff hb, mem_canon_iff hn]
  exact ⟨fun k => h.trans k, fun k => (h.symm ha).trans k⟩
/-! how many -/
theorem nodup_len_le {α : Type} [DecidableEq α] : ∀ (l l' : List α), l.Nodup → (∀ c, c ∈ l → c ∈ l') → l.length ≤ l'.length
  | [], _, _, _ => by simp
  | x :: l, l', h, hs => by
    rw [List.nodup_cons] at h
    have hx : x ∈ l' := hs x (by simp)
    have h2 := nodup_len_le l (l'.erase x) h.2 (fun c hc => (List.mem_erase_of_ne (fun e => h.1 (by rw [← e]; exact hc))).2 (hs c (by simp [hc])))
    rw [List.length_erase_of_mem hx] at h2
    have := List.length_pos_of_mem hx
    simp; omega
theorem formPairs_nodup (n : Nat) : (formPairs n).Nodup := by
  unfold formPairs pairsTo
  simp only [List.range_zero, List.map_nil, List.append_nil]
  rw [show List.range 4 = [0, 1, 2, 3] from rfl]
  simp only [List.flatMap_cons, List.flatMap_nil, List.append_nil]
  have inj : ∀ a : Nat, ((List.range n).map fun j => (a, j)).Nodup := fun a => by
    rw [List.Nodup, List.pairwise_map]
    exact (List.nodup_range (n := n)).imp (fun h e => h (Prod.mk.inj e).2)
  have apart : ∀ a b : Nat, a ≠ b → ∀ x ∈ (List.range n).map (fun j => (a, j)), ∀ y ∈ (List.range n).map (fun j => (b, j)), x ≠ y := fun a b hab x hx y hy e => by
    obtain ⟨i, _, rfl⟩ := List.mem_map.1 hx
    obtain ⟨j, _, rfl⟩ := List.mem_map.1 hy
    exact hab (Prod.mk.inj e).1
  refine List.nodup_append.2 ⟨inj 0, List.nodup_append.2 ⟨inj 1, List.nodup_append.2 ⟨inj 2, inj 3, apart 2 3 (by decide)⟩, fun x hx y hy => ?_⟩, fun x hx y hy => ?_⟩
  · rcases List.mem_append.1 hy with h | h
    · exact apart 1 2 (by decide) x hx y h
    · exact apart 1 3 (by decide) x hx y h
  · rcases List.mem_append.1 hy with h | h
    · exact apart 0 1 (by decide) x hx y h
    · rcases List.mem_append.1 h with h | h
      · exact apart 0 2 (by decide) x hx y h
      · exact apart 0 3 (by decide) x hx y h
def waysTo (l y : List Int) : List (Nat × Nat) := (formPairs l.length).filter fun p => decide (formOf l.length p.1 p.2 l = y)
def actP (n : Nat) (p1 p2 : Int) (q : Nat × Nat) : Nat × Nat := ((compK p1 q.1).toNat, (compM p1 p2 q.2 % (n : Int)).toNat)
theorem actP_mem {n : Nat} (hn : 1 ≤ n) (p1 p2 : Int) (q : Nat × Nat) : actP n p1 p2 q ∈ formPairs n := by
  rw [mem_formPairs]
  have h1 := Int.emod_nonneg (compM p1 p2 q.2) (show (n : Int) ≠ 0 by omega)
  have h2 := Int.emod_lt_of_pos (compM p1 p2 q.2) (show (0 : Int) < n by omega)
  unfold actP compK
  exact ⟨by simp only; omega, by simp only; omega⟩
theorem actP_form {n : Nat} (hn : 1 ≤ n) (p1 p2 : Int) (q : Nat × Nat) (l : List Int) : formOf n p1 p2 (formOf n q.1 q.2 l) = formOf n (actP n p1 p2 q).1 (actP n p1 p2 q).2 l := by
  have h0 := Int.emod_nonneg (compM p1 p2 q.2) (show (n : Int) ≠ 0 by omega)
  rw [form_comp]
  unfold actP
  simp only
  rw [Int.toNat_of_nonneg h0, Int.toNat_of_nonneg (show 0 ≤ compK p1 q.1 by unfold compK; omega)]
  exact form_norm n _ _ _ l rfl rfl
theorem actP_inj {n : Nat} (hn : 1 ≤ n) (p1 p2 : Int) {q q' : Nat × Nat} (hq : q ∈ formPairs n) (hq' : q' ∈ formPairs n) (e : actP n p1 p2 q = actP n p1 p2 q') : q = q' := by
  rw [mem_formPairs] at hq hq'
  obtain ⟨a, b⟩ := q
  obtain ⟨a', b'⟩ := q'
  simp only at hq hq'
  unfold actP at e
  simp only [Prod.mk.injEq] at e
  have ea : a = a' := by have := e.1; unfold compK at this; omega
  have g0 := Int.emod_nonneg (compM p1 p2 b) (show (n : Int) ≠ 0 by omega)
  have g1 := Int.emod_nonneg (compM p1 p2 b') (show (n : Int) ≠ 0 by omega)
  obtain ⟨t, ht⟩ := emod_eq_as (show compM p1 p2 b % (n : Int) = compM p1 p2 b' % (n : Int) by omega)
  have eb : (b : Int) % n = (b' : Int) % n := by
    unfold compM at ht
    by_cases h1 : p1 % 2 = 1
    · rw [if_pos h1, if_pos h1] at ht
      exact emod_same ⟨-t, by rw [Int.mul_neg]; omega⟩
    · rw [if_neg h1, if_neg h1] at ht
      exact emod_same ⟨t, by omega⟩
  rw [Int.emod_eq_of_lt (by omega) (by omega), Int.emod_eq_of_lt (by omega) (by omega)] at eb
  have eb' : b = b' := by omega
  rw [ea, eb']
theorem ways_le {l y z : List Int} (hn : 1 ≤ l.length) {p1 p2 : Int} (h : formOf l.length p1 p2 y = z) : (waysTo l y).length ≤ (waysTo l z).length := by
  have hlm : ((waysTo l y).map (actP l.length p1 p2)).length = (waysTo l y).length := List.length_map _
  rw [← hlm]
  refine nodup_len_le _ _ ?_ (fun c hc => ?_)
  · rw [List.Nodup, List.pairwise_map]
    refine List.Pairwise.imp_of_mem (fun {a b} ha hb hab e => hab ?_) ((formPairs_nodup l.length).filter _)
    exact actP_inj hn p1 p2 (List.mem_filter.1 ha).1 (List.mem_filter.1 hb).1 e
  · obtain ⟨q, hq, rfl⟩ := List.mem_map.1 hc
    have hq2 := of_decide_eq_true (List.mem_filter.1 hq).2
    refine List.mem_filter.2 ⟨actP_mem hn _ _ _, decide_eq_true ?_⟩
    rw [← actP_form hn, hq2, h]
theorem ways_same {l y : List Int} (hn : 1 ≤ l.length) (hr : ∀ x ∈ l, 0 ≤ x ∧ x < (l.length : Int)) (h : IsForm l y) : (waysTo l y).length = (waysTo l l).length := by
  obtain ⟨k1, k2, hk⟩ := h
  refine Nat.le_antisymm (ways_le hn (p1 := k1) (p2 := invM k1 k2) ?_) (ways_le hn hk)
  rw [← hk]; exact form_inv _ _ _ _ hr
theorem fibres {α β : Type} [DecidableEq β] (f : α → β) (m : Nat) : ∀ (L : List β) (P : List α), L.Nodup → (∀ p ∈ P, f p ∈ L) → (∀ y ∈ L, (P.filter fun p => decide (f p = y)).length = m) → P.length = L.length * m
  | [], [], _, _, _ => by simp
  | [], p :: P, _, h, _ => absurd (h p (by simp)) (by simp)
  | y :: L, P, hd, h, hm => by
    rw [List.nodup_cons] at hd
    have ih := fibres f m L (P.filter fun p => !decide (f p = y)) hd.2 (fun p hp => by
      obtain ⟨h1, h2⟩ := List.mem_filter.1 hp
      rcases List.mem_cons.1 (h p h1) with e | e
      · simp [e] at h2
      · exact e) (fun z hz => by
      rw [← hm z (List.mem_cons_of_mem _ hz), List.filter_filter]
      congr 1
      refine List.filter_congr (fun p _ => ?_)
      by_cases e : f p = z
      · have : f p ≠ y := fun e2 => hd.1 (by rw [← e2, e]; exact hz)
        simp only [e, decide_true, Bool.true_and, Bool.and_true]
        simp
        exact fun e3 => this (e.trans e3)
      · simp [e])
    have hs : P.length = (P.filter fun p => decide (f p = y)).length + (P.filter fun p => !decide (f p = y)).length := by
      clear ih h hm
      induction P with
      | nil => rfl
      | cons p P ihp => by_cases e : f p = y <;> simp [e] at ihp ⊢ <;> omega
    rw [hs, hm y (by simp), ih]
    simp only [List.length_cons]
    rw [Nat.add_mul, Nat.one_mul]; omega
theorem formPairs_len (n : Nat) : (formPairs n).length = 4 * n := by simp [formPairs, pairsTo, List.range_succ]; omega
theorem forms_divide {l : List Int} (hn : 1 ≤ l.length) (hr : ∀ x ∈ l, 0 ≤ x ∧ x < (l.length : Int)) : 4 * l.length = (canonF l).length * (waysTo l l).length := by
  rw [← formPairs_len]
  refine fibres (fun p : Nat × Nat => formOf l.length p.1 p.2 l) _ _ _ ?_ (fun p hp => (mem_canonF l _).2 ⟨p, hp, rfl⟩) (fun y hy => (ways_same hn hr ((mem_canon_iff hn).1 hy)))
  exact (canonF_strict l).imp (fun h e => by rw [e, lessL_irr] at h; cases h)

end Go.Proofs.Ytknchioabngbiaa.P
namespace Go.Proofs.Ytknchioabngbiaa.P
open Go.RowKit Go.Proofs.YtknchioabngbiaaW.PrintWords Go.Proofs.YtknchioabngbiaaW.PrintLast Go.Proofs.YtknchioabngbiaaW.PrintMore
attribute [local go_sem] max2_int min2_int max_two min_two max_three min_three max_four min_four   -- for this text's walks alone
set_option linter.unusedVariables false
set_option linter.unusedSimpArgs false

/-! a form of a row is a row -/
/-- a form of a row is a row -/
theorem tone_inj {n kind k x y : Int} (hn : 0 < n) (hx : 0 ≤ x ∧ x < n) (hy : 0 ≤ y ∧ y < n) (h : toneOf n kind k x = toneOf n kind k y) : x = y := by
  unfold toneOf at h
  have red : ∀ u v : Int, (u + k % n) % n = (v + k % n) % n → (u - v) % n = 0 := fun u v e => by
    have : u - v = (u + k % n) - (v + k % n) := by omega
    rw [this, Int.sub_emod, e]; simp
  have small : ∀ z : Int, -n < z → z < n → z % n = 0 → z = 0 := fun z h1 h2 h3 => by
    obtain ⟨t, ht⟩ := Int.dvd_of_emod_eq_zero h3
    have c1 : t < 1 := Int.lt_of_not_ge fun hge => by
      have : n * 1 ≤ n * t := Int.mul_le_mul_of_nonneg_left hge (by omega)
      omega
    have c2 : -1 < t := Int.lt_of_not_ge fun hge => by
      have : n * t ≤ n * (-1) := Int.mul_le_mul_of_nonneg_left hge (by omega)
      omega
    have : t = 0 := by omega
    rw [this] at ht; omega
  split at h
  · have := small _ (by omega) (by omega) (red _ _ h); omega
  · have := small _ (by omega) (by omega) (red _ _ h); omega
theorem nodup_map_on' {f : Int → Int} : ∀ {l : List Int}, (∀ x ∈ l, ∀ y ∈ l, f x = f y → x = y) → l.Nodup → (l.map f).Nodup
  | [], _, _ => by simp
  | a :: l, hi, hd => by
    rw [List.map_cons, List.nodup_cons]
    rw [List.nodup_cons] at hd
    refine ⟨fun hm => ?_, nodup_map_on' (fun x hx y hy => hi x (List.mem_cons_of_mem _ hx) y (List.mem_cons_of_mem _ hy)) hd.2⟩
    obtain ⟨y, hy, e⟩ := List.mem_map.1 hm
    have := hi y (List.mem_cons_of_mem _ hy) a (by simp) e
    subst this
    exact hd.1 hy
theorem form_row {l : List Int} (h : IsRow l) (kind k : Int) : IsRow (formOf l.length kind k l) := by
  have h1 := h.1
  have hl := formOf_length l.length kind k l
  refine ⟨by omega, by rw [hl]; exact h.2.1, ?_, ?_⟩
  · rw [hl]; exact formOf_range (by omega) kind k l
  · have hn := nodup_map_on' (f := toneOf l.length kind k) (fun x hx y hy e => tone_inj (by omega) (h.2.2.1 x hx) (h.2.2.1 y hy) e) h.2.2.2
    unfold formOf
    split
    · exact (List.reverse_perm _).nodup_iff.2 hn
    · exact hn
theorem formOf_turnback {l : List Int} (h : IsRow l) : formOf l.length 2 0 l = l.reverse := by
  have h1 := h.1
  have hm : l.map (toneOf l.length 2 0) = l := by
    have : ∀ x ∈ l, toneOf l.length 2 0 x = x := fun x hx => by
      have := h.2.2.1 x hx
      unfold toneOf
      rw [if_neg (by decide), Int.zero_emod, Int.add_zero, Int.emod_eq_of_lt this.1 this.2]
    exact (List.map_congr_left this).trans (List.map_id _)
  unfold formOf
  rw [if_pos (by decide), hm]

end Go.Proofs.Ytknchioabngbiaa.P
namespace Go.Proofs.Ytknchioabngbiaa.P
open Go.RowKit Go.Proofs.YtknchioabngbiaaW.PrintWords Go.Proofs.YtknchioabngbiaaW.PrintLast Go.Proofs.YtknchioabngbiaaW.PrintMore
attribute [local go_sem] max2_int min2_int max_two min_two max_three min_three max_four min_four   -- for this text's walks alone
set_option linter.unusedVariables false
set_option linter.unusedSimpArgs false

/-! ### sackbutref05_Steps: function 36 -/
def sackbutref05_Steps.l0 : Nat → List Int → Int → List Int → Int → Option (List Int)
  | 0, _, _, _, _ => none
  | k + 1, x0, x1, x5, x6 => if x6 < (x0.length : Int) then (if 0 ≤ x6 then (if 0 ≤ (wrap64 (x6 - 1)) then (if (wrap64 (x6 - 1)) < (x0.length : Int) then ((sackbutref05_mod.f (wrap64 ((rd x0 x6) - (rd x0 (wrap64 (x6 - 1))))) x1).bind fun t1003 => (if x5.length < 17592186044416 then (sackbutref05_Steps.l0 k x0 x1 (x5 ++ [t1003]) (wrap64 (x6 + 1))) else (none))) else (none)) else (none)) else (none)) else (some x5)
def sackbutref05_Steps.f (k : Nat) (l0 : List Int) (a1 : Int) : Option (List Int) := sackbutref05_Steps.l0 k l0 a1 ([] : List Int) 1
theorem sackbutref05_Steps.mono_l : ∀ k, (∀ y0 y1 y2 y3, LeO (sackbutref05_Steps.l0 k y0 y1 y2 y3) (sackbutref05_Steps.l0 (k + 1) y0 y1 y2 y3))
  | 0 => fun _ _ _ _ r h => by simp [sackbutref05_Steps.l0] at h
  | k + 1 => by
    have ih0 := sackbutref05_Steps.mono_l k
    · intro y0 y1 y2 y3
      unfold sackbutref05_Steps.l0
      repeat' first
      | (with_reducible exact ih0 _ _ _ _)
      | (with_reducible exact LeO.refl _)
      | (with_reducible exact LeO.none _)
      | (with_reducible refine LeO.ite ?_ ?_)
      | (with_reducible refine LeO.bind ?_ (fun _ => ?_))
      | exact ih0 _ _ _ _
      | exact LeO.none _
      | refine LeO.ite ?_ ?_
      | refine LeO.bind ?_ (fun _ => ?_)
theorem sackbutref05_Steps.mono : ∀ a0 a1 k, LeO (sackbutref05_Steps.f k a0 a1) (sackbutref05_Steps.f (k + 1) a0 a1) := by
  intro a0 a1 k
  have ih0 := sackbutref05_Steps.mono_l k
  unfold sackbutref05_Steps.f
  repeat' first
      | (with_reducible exact ih0 _ _ _ _)
      | (with_reducible exact LeO.refl _)
      | (with_reducible exact LeO.none _)
      | (with_reducible refine LeO.ite ?_ ?_)
      | (with_reducible refine LeO.bind ?_ (fun _ => ?_))
      | exact ih0 _ _ _ _
      | exact LeO.none _
      | refine LeO.ite ?_ ?_
      | refine LeO.bind ?_ (fun _ => ?_)
def sackbutref05_Steps.T5 : Bool × List (List Nat × List Nat) := (true, [([], []), ([], []), ([], []), ([1, 2], [1, 2]), ([3], [3]), ([], []), ([], []), ([6], [6]), ([5, 7], [5, 7]), ([8], [8]), ([4, 9], [4, 9]), ([], []), ([10, 11], [10, 11]), ([12], [12]), ([0, 13, 12], [0, 13]), ([14, 14, 0, 1, 2, 3, 4, 5, 6, 7, 8, 9, 10, 11, 12, 13, 14], [0, 14])])
def sackbutref05_Steps.B5 : List Nat := [0, 0, 0, 6, 14, 0, 0, 64, 224, 480, 1022, 0, 4094, 8190, 16383, 32767]
theorem sackbutref05_Steps.tab5 : rtab .any (opsOf Try.f36 5) = sackbutref05_Steps.T5 := by kernel_rfl
theorem sackbutref05_Steps.bits5 : waitsOk sackbutref05_Steps.T5.2 sackbutref05_Steps.B5 = true := by kernel_rfl
set_option maxHeartbeats 8000000 in
set_option maxRecDepth 100000 in
theorem sackbutref05_Steps.calls (k : Nat) (A0 : Option Addr) (c0 : Nat) (l0 : List Int) (a1 : Int) (r : List Int) (w : World) (hr0 : Kd.C (Kd.int .i64) w A0 l0.length l0) (hc0 : l0.length ≤ c0) (h : sackbutref05_Steps.f k l0 a1 = some r) :
    Calls Try.prog 36 #[.slice A0 l0.length c0, .int .i64 a1] w fun e w' => ∃ v0_ : Value, e = .returned (v0_) ∧ Kd.R (Kd.int .i64) 3 w' w.heap.size (fun _ => True) v0_ r ∧ Below w.heap.size w w' := by
  have HR0 := Aside0.mk hr0
  have HC0 := Aside0.mk hc0
  clear hr0 hc0
  have HB := Aside0.mk (Below.refl w.heap.size w)
  have H : (sackbutref05_Steps.l0 k l0 a1 ([] : List Int) 1) = some r := h
  clear h
  have H' := Aside0.mk H
  clear H
  go_enter Try.func36, Try.ntmps36
  go_wp2
  go_loopg [5, 6] k (fun kq v5 v6 w' => ∃ (x5_1 : List Int) (x6_1 : Int), v6 = .int .i64 x6_1 ∧ Aside0 (sackbutref05_Steps.l0 kq l0 a1 x5_1 x6_1 = some r) ∧ Aside0 (kq ≤ k) ∧ Aside0 (Kd.R (Kd.int .i64) 3 w' w.heap.size (fun _ => True) v5 x5_1) ∧ Aside0 (Below w.heap.size w w'))
  case atStart => exact ⟨(([] : List Int)), (1), (by first | rfl | (simp; done) | (simp [*]; done)), H', ⟨Nat.le_refl _⟩, ⟨by first | exact Kd.R_nil _ _ _ _ _ | exact Kd.N_nil _ _ _ _ _ | exact Kd.V_nil _ _ _ _ _ | exact Kd.Q_nil _ _ _ _ _ | exact Kd.S_nil _ _ _ _ _⟩, ⟨by repeat (first | (with_reducible first | exact HB.out | apply below_alloc | apply pw_below_drewN | apply below_drew1) | exact HB.out)⟩⟩
  case round =>
    clear H'
    try clear p2
    obtain ⟨x5_1, x6_1, rfl, HA, HK1, HO_5, HB⟩ := hrel
    cases gk with
    | zero => exact absurd HA.out (by simp [sackbutref05_Steps.l0])
    | succ k1 =>
      have H := HA.out
      clear HA
      simp only [sackbutref05_Steps.l0] at H
      by_cases c3 : x6_1 < (l0.length : Int)
      · rw [if_pos c3] at H
        have c3b0 : decide (x6_1 < (l0.length : Int)) = true := decide_eq_true c3
        clear c3
        by_cases c4 : 0 ≤ x6_1
        · rw [if_pos c4] at H
          have c4b0 : decide (0 ≤ x6_1) = true := decide_eq_true c4
          clear c4
          obtain ⟨ji5, hji5⟩ : ∃ j_ : Int, (wrap64 (x6_1 - 1)) = j_ := ⟨_, rfl⟩
          replace H : (if 0 ≤ (ji5) then (if (ji5) < (l0.length : Int) then ((sackbutref05_mod.f (wrap64 ((rd l0 x6_1) - (rd l0 (ji5)))) a1).bind fun t1003 => (if x5_1.length < 17592186044416 then (sackbutref05_Steps.l0 k1 l0 a1 (x5_1 ++ [t1003]) (wrap64 (x6_1 + 1))) else (none))) else (none)) else (none)) = some r := by first | (rw [hji5] at H; exact H) | (simp only [hji5] at H ⊢; exact H)
          have hji5w : (IntKind.i64.wrap (x6_1 - 1)) = ji5 := (i64_w _).trans hji5
          by_cases c6 : 0 ≤ (ji5)
          · rw [if_pos c6] at H
            have c6b0 : decide (0 ≤ (ji5)) = true := decide_eq_true c6
            clear c6
            by_cases c7 : (ji5) < (l0.length : Int)
            · rw [if_pos c7] at H
              have c7b0 : decide ((ji5) < (l0.length : Int)) = true := decide_eq_true c7
              clear c7
              replace H := Option.bind_eq_some_iff.mp H
              obtain ⟨t1003, A80, H⟩ := H
              replace H : (if x5_1.length < 17592186044416 then (sackbutref05_Steps.l0 k1 l0 a1 (x5_1 ++ [t1003]) (wrap64 (x6_1 + 1))) else (none)) = some r := H
              have A8 := Aside0.mk A80
              clear A80
              by_cases c9 : x5_1.length < 17592186044416
              · rw [if_pos c9] at H
                have LMc9 := Aside0.mk c9
                clear c9
                obtain ⟨y1004, hy1004⟩ : ∃ y_ : List Int, y_ = (x5_1 ++ [t1003]) := ⟨_, rfl⟩
                replace H : (sackbutref05_Steps.l0 k1 l0 a1 y1004 (wrap64 (x6_1 + 1))) = some r := by first | (rw [hy1004]; with_reducible exact H) | (have H2_ := (Option.bind_some _ _).symm.trans H; rw [hy1004]; with_reducible exact H2_) | (have H2_ := (Option.bind_some _ _).symm.trans H; with_reducible exact H2_) | with_reducible exact H | (rw [hy1004]; exact H) | exact H
                have Ny1004 := Aside0.mk hy1004
                clear hy1004
                have H' := Aside0.mk H
                clear H
                try go_wp2
                have n0_ := Aside0.mk (Kd.R_drew HO_5.out)
                have n1_ := Aside0.mk (below_drew1 HB.out)
                clear HO_5
                clear HB
                have HO_5 := n0_
                have HB := n1_
                clear n0_ n1_
                have p1001 : 0 ≤ (x6_1 : Int) := of_decide_eq_true (by first | (with_reducible assumption) | assumption)
                have q1001 : x6_1 < (l0.length : Int) := of_decide_eq_true (by first | (with_reducible assumption) | assumption)
                obtain ⟨ad1001, e1001, hx1001_0⟩ := Kd.at_int HR0.out x6_1 p1001 q1001
                have hw1001_0 := hx1001_0
                cases e1001
                replace hx1001_0 := (HB.out.cell (World.block_lt_of_cell? w _ hx1001_0)).trans hx1001_0
                replace p1001 := eq_true p1001
                replace q1001 := eq_true q1001
                have p1002 : 0 ≤ ((ji5) : Int) := of_decide_eq_true (by first | (with_reducible assumption) | assumption)
                have q1002 : (ji5) < (l0.length : Int) := of_decide_eq_true (by first | (with_reducible assumption) | assumption)
                obtain ⟨ad1002, e1002, hx1002_0⟩ := Kd.at_int HR0.out (ji5) p1002 q1002
                have hw1002_0 := hx1002_0
                obtain rfl : ad1001 = ad1002 := (by injection e1002)
                replace hx1002_0 := (HB.out.cell (World.block_lt_of_cell? w _ hx1002_0)).trans hx1002_0
                replace p1002 := eq_true p1002
                replace q1002 := eq_true q1002
                refine start_ (n := 16) (S := fun w' => w'.cell? (ad1001.add (x6_1).toNat) = some (.int .i64 (rd l0 x6_1)) ∧ w'.cell? (ad1001.add ((ji5)).toNat) = some (.int .i64 (rd l0 (ji5)))) (ds := []) #[false, false, false, false, false, false, false, false, false, false, false, false, false, false, false, false] (by kernel_rfl) rfl rfl ⟨((HB.out.cell (World.block_lt_of_cell? w _ hw1001_0)).trans hw1001_0), ((HB.out.cell (World.block_lt_of_cell? w _ hw1002_0)).trans hw1002_0)⟩ (fun hHeld => ?_); refine with_tabW sackbutref05_Steps.tab5 sackbutref05_Steps.bits5 (fun HT_ HW_ => ?_)
                generalize wr.drew = w10 at HO_5 HB hx1001_0 hx1002_0 hHeld ⊢
                refine pure_ (i := 0) (N := some 13) (v := ?_) (a' := ?_) #[true, false, false, false, false, false, false, false, false, false, false, false, false, false, false, false] rfl rfl (any_of HT_.out (by kernel_rfl)) (fun _ _ _ h => h) (Or.inl ⟨by rfl, ?_⟩) ?_ ?_
                rotate_left
                · intro w'
                  go_simp
                  with_reducible rfl
                rotate_left
                · simp only [Act.put, List.setIfInBounds_toArray, List.set_cons_zero, List.set_cons_succ, i64_w, i32_w]
                  rfl
                refine pure_ (i := 1) (N := some 14) (v := ?_) (a' := ?_) #[true, true, false, false, false, false, false, false, false, false, false, false, false, false, false, false] rfl rfl (any_of HT_.out (by kernel_rfl)) (fun _ _ _ h => h) (Or.inl ⟨by rfl, ?_⟩) ?_ ?_
                rotate_left
                · intro w'
                  go_simp
                  with_reducible rfl
                rotate_left
                · simp only [Act.put, List.setIfInBounds_toArray, List.set_cons_zero, List.set_cons_succ, i64_w, i32_w]
                  rfl
                refine pure_ (i := 2) (N := some 15) (v := ?_) (a' := ?_) #[true, true, true, false, false, false, false, false, false, false, false, false, false, false, false, false] rfl rfl (any_of HT_.out (by kernel_rfl)) (fun _ _ _ h => h) (Or.inl ⟨by rfl, ?_⟩) ?_ ?_
                rotate_left
                · intro w'
                  go_simp
                  with_reducible rfl
                rotate_left
                · simp only [Act.put, List.setIfInBounds_toArray, List.set_cons_zero, List.set_cons_succ, i64_w, i32_w]
                  rfl
                refine pure_ (i := 3) (N := some 16) (v := ?_) (a' := ?_) #[true, true, true, true, false, false, false, false, false, false, false, false, false, false, false, false] rfl rfl (any_of HT_.out (by kernel_rfl)) (fun _ _ _ h => h) (Or.inl ⟨by rfl, ?_⟩) ?_ ?_
                rotate_left
                · intro w'
                  go_simp
                  with_reducible rfl
                rotate_left
                · simp only [Act.put, List.setIfInBounds_toArray, List.set_cons_zero, List.set_cons_succ, i64_w, i32_w]
                  rfl
                refine pure_ (i := 5) (N := some 18) (v := ?_) (a' := ?_) #[true, true, true, true, false, true, false, false, false, false, false, false, false, false, false, false] rfl rfl (any_of HT_.out (by kernel_rfl)) (fun _ _ _ h => h) (Or.inl ⟨by rfl, ?_⟩) ?_ ?_
                rotate_left
                · intro w'
                  go_simp
                  with_reducible rfl
                rotate_left
                · simp only [Act.put, List.setIfInBounds_toArray, List.set_cons_zero, List.set_cons_succ, i64_w, i32_w]
                  rfl
                refine pure_ (i := 6) (N := some 19) (v := ?_) (a' := ?_) #[true, true, true, true, false, true, true, false, false, false, false, false, false, false, false, false] rfl rfl (any_of HT_.out (by kernel_rfl)) (fun _ _ _ h => h) (Or.inl ⟨by rfl, ?_⟩) ?_ ?_
                rotate_left
                · intro w'
                  go_simp
                  with_reducible rfl
                rotate_left
                · simp only [Act.put, List.setIfInBounds_toArray, List.set_cons_zero, List.set_cons_succ, i64_w, i32_w]
                  rfl
                refine pure_ (i := 7) (N := some 20) (v := ?_) (a' := ?_) #[true, true, true, true, false, true, true, true, false, false, false, false, false, false, false, false] rfl rfl (any_of HT_.out (by kernel_rfl)) (fun _ _ _ h => h) (Or.inl ⟨by rfl, ?_⟩) ?_ ?_
                rotate_left
                · intro w'
                  go_simp
                  with_reducible rfl
                rotate_left
                · simp only [Act.put, List.setIfInBounds_toArray, List.set_cons_zero, List.set_cons_succ, i64_w, i32_w]
                  rfl
                refine pure_ (i := 8) (N := some 21) (v := ?_) (a' := ?_) #[true, true, true, true, false, true, true, true, true, false, false, false, false, false, false, false] rfl rfl (any_of HT_.out (by kernel_rfl)) (fun _ _ _ h => h) (Or.inl ⟨by rfl, ?_⟩) ?_ ?_
                rotate_left
                · intro w'
                  go_simp
                  with_reducible rfl
                rotate_left
                · simp only [Act.put, List.setIfInBounds_toArray, List.set_cons_zero, List.set_cons_succ, i64_w, i32_w]
                  rfl
                refine pure_ (i := 11) (N := some 24) (v := ?_) (a' := ?_) #[true, true, true, true, false, true, true, true, true, false, false, true, false, false, false, false] rfl rfl (any_of HT_.out (by kernel_rfl)) (fun _ _ _ h => h) (Or.inl ⟨by rfl, ?_⟩) ?_ ?_
                rotate_left
                · intro w'
                  go_simp
                  with_reducible rfl
                rotate_left
                · simp only [Act.put, List.setIfInBounds_toArray, List.set_cons_zero, List.set_cons_succ, i64_w, i32_w]
                  rfl
                refine take_ (i := 4) (N := some 17) (v := ?_) (a' := ?_) #[true, true, true, true, true, true, true, true, true, false, false, true, false, false, false, false] rfl rfl (take_ofW HT_.out HW_.out (by kernel_rfl)) (fun _ _ _ h => h) (Or.inl ⟨by rfl, ?_⟩) hHeld ?_ ?_
                rotate_left
                · rintro w' ⟨s0, s1⟩
                  go_simp
                  with_reducible rfl
                rotate_left
                · simp only [Act.put, List.setIfInBounds_toArray, List.set_cons_zero, List.set_cons_succ, i64_w, i32_w]
                  rfl
                refine take_ (i := 9) (N := some 22) (v := ?_) (a' := ?_) #[true, true, true, true, true, true, true, true, true, true, false, true, false, false, false, false] rfl rfl (take_ofW HT_.out HW_.out (by kernel_rfl)) (fun _ _ _ h => h) (Or.inl ⟨by rfl, ?_⟩) hHeld ?_ ?_
                rotate_left
                · rintro w' ⟨s0, s1⟩
                  go_simp
                  with_reducible rfl
                rotate_left
                · simp only [Act.put, List.setIfInBounds_toArray, List.set_cons_zero, List.set_cons_succ, i64_w, i32_w]
                  rfl
                refine pure_ (i := 10) (N := some 23) (v := ?_) (a' := ?_) #[true, true, true, true, true, true, true, true, true, true, true, true, false, false, false, false] rfl rfl (any_of HT_.out (by kernel_rfl)) (fun _ _ _ h => h) (Or.inl ⟨by rfl, ?_⟩) ?_ ?_
                rotate_left
                · intro w'
                  go_simp
                  with_reducible rfl
                rotate_left
                · simp only [Act.put, List.setIfInBounds_toArray, List.set_cons_zero, List.set_cons_succ, i64_w, i32_w]
                  rfl
                refine one_ (i := 12) (N := some 25) #[true, true, true, true, true, true, true, true, true, true, true, true, true, false, false, false] rfl rfl (one_of HT_.out (by kernel_rfl)) (by decide) (fun K hK => ?_)
                refine goes_ Try.func50 (by kernel_rfl) rfl #[.int .i64 (wrap64 ((rd l0 x6_1) - (rd l0 (ji5)))), .int .i64 a1] (by rfl) rfl rfl (by (try simp only [List.map_toArray, List.map_cons, List.map_nil]); first | done | (simp only [hji5]; rfl) | rfl | (simp only [List.length_drop, List.length_take]; rfl)) ?_
                with_reducible refine (sackbutref05_mod.calls (wrap64 ((rd l0 x6_1) - (rd l0 (ji5)))) a1 t1003 _ A8.out).mono ?_
                rintro e w' ⟨rfl, ⟨nd, rfl⟩⟩
                refine ⟨_, rfl, ?_⟩
                refine hK.out _ _ ⟨((HB.out.cell (World.block_lt_of_cell? w _ hw1001_0)).trans hw1001_0), ((HB.out.cell (World.block_lt_of_cell? w _ hw1002_0)).trans hw1002_0)⟩ (fun hHeld => ?_)
                clear hK K
                refine norm_ (a' := ?_) ?_ ?_
                rotate_left
                · show Act.put _ (some 25) _ = _
                  simp only [Act.put, List.setIfInBounds_toArray, List.set_cons_zero, List.set_cons_succ, i64_w, i32_w]
                  rfl
                refine one_ (i := 13) (N := some 26) #[true, true, true, true, true, true, true, true, true, true, true, true, true, true, false, false] rfl rfl (one_of HT_.out (by kernel_rfl)) (by decide) (fun K hK => ?_)
                refine value_ (w1 := ?_) (v := ?_) (by rfl) rfl ?_ ?_
                rotate_left 2
                · go_simp
                  constructor
                  · rfl
                  · rfl
                refine hK.out _ _ ⟨(World.cell?_alloc_lt _ _ _ (World.block_lt_of_cell? _ _ (((HB.out.cell (World.block_lt_of_cell? w _ hw1001_0)).trans hw1001_0)))).trans (((HB.out.cell (World.block_lt_of_cell? w _ hw1001_0)).trans hw1001_0)), (World.cell?_alloc_lt _ _ _ (World.block_lt_of_cell? _ _ (((HB.out.cell (World.block_lt_of_cell? w _ hw1002_0)).trans hw1002_0)))).trans (((HB.out.cell (World.block_lt_of_cell? w _ hw1002_0)).trans hw1002_0))⟩ (fun hHeld => ?_)
                clear hK K
                refine norm_ (a' := ?_) ?_ ?_
                rotate_left
                · show Act.put _ (some 26) _ = _
                  simp only [Act.put, List.setIfInBounds_toArray, List.set_cons_zero, List.set_cons_succ, i64_w, i32_w]
                  rfl
                refine one_ (i := 14) (N := some 27) #[true, true, true, true, true, true, true, true, true, true, true, true, true, true, true, false] rfl rfl (one_of HT_.out (by kernel_rfl)) (by decide) (fun K hK => ?_)
                refine Kd.R_append_step (Kd.int .i64) (w0 := w) w.heap.size (by rfl) (.tmp 13) (.tmp 26) 27 3 (.int .i64 0) 8 rfl Try.underlying27 info3 rfl (by decide) (by omega) u5 x5_1 t1003 [.int .i64 t1003] (fun _ => True) (fun _ => False) rfl rfl ?aP (fun _ hk => hk.elim) ?aF ?aO ?aB ?aS ?aL ?_
                (case aP => exact rfl)
                (case aB => exact (by repeat (first | (with_reducible first | exact HB.out | apply below_alloc | apply pw_below_drewN | apply below_drew1) | exact HB.out)))
                (case aF => exact (fun _ _ => trivial))
                (case aO => exact (by (with_reducible repeat (first | apply Kd.R_alloc | apply Kd.R_drewN | apply Kd.R_drew)); exact HO_5.out))
                (case aS => exact (below_size (by repeat (first | (with_reducible first | exact HB.out | apply below_alloc | apply pw_below_drewN | apply below_drew1) | exact HB.out))))
                (case aL => have := LMc9.out; omega)
                intro v1005 w11 ho hb hg hat
                rw [← Ny1004.out] at ho
                have n0_ := Aside0.mk (hb)
                have n1_ := Aside0.mk (ho)
                clear HB
                clear HO_5
                have HB := n0_
                have HO1006 := n1_
                clear n0_ n1_
                clear ho hb hg hat
                refine hK.out _ _ ⟨((HB.out.cell (World.block_lt_of_cell? w _ hw1001_0)).trans hw1001_0), ((HB.out.cell (World.block_lt_of_cell? w _ hw1002_0)).trans hw1002_0)⟩ (fun hHeld => ?_)
                clear hK K
                refine norm_ (a' := ?_) ?_ ?_
                rotate_left
                · show Act.put _ (some 27) _ = _
                  simp only [Act.put, List.setIfInBounds_toArray, List.set_cons_zero, List.set_cons_succ, i64_w, i32_w]
                  rfl
                refine pure_ (i := 15) (N := some 5) (v := ?_) (a' := ?_) #[true, true, true, true, true, true, true, true, true, true, true, true, true, true, true, true] rfl rfl (any_of HT_.out (by kernel_rfl)) (fun _ _ _ h => h) (Or.inl ⟨by rfl, ?_⟩) ?_ ?_
                rotate_left
                · intro w'
                  go_simp
                  with_reducible rfl
                rotate_left
                · simp only [Act.put, List.setIfInBounds_toArray, List.set_cons_zero, List.set_cons_succ, i64_w, i32_w]
                  rfl
                refine done_ (done_of HT_.out (by kernel_rfl)) ?_
                try go_wp2
                go_roundg k1
                case measure => have := HK1.out; omega
                case rel => exact ⟨(y1004), (wrap64 (x6_1 + 1)), (by first | rfl | (simp; done) | (simp [*]; done)), H', ⟨by have := HK1.out; omega⟩, ⟨by (with_reducible repeat (first | apply Kd.R_alloc | apply Kd.R_drewN | apply Kd.R_drew)); exact HO1006.out⟩, ⟨by repeat (first | (with_reducible first | exact HB.out | apply below_alloc | apply pw_below_drewN | apply below_drew1) | exact HB.out)⟩⟩
              · rw [if_neg c9] at H
                exact absurd H (by simp)
            · rw [if_neg c7] at H
              exact absurd H (by simp)
          · rw [if_neg c6] at H
            exact absurd H (by simp)
        · rw [if_neg c4] at H
          exact absurd H (by simp)
      · rw [if_neg c3] at H
        have c3b0 : decide (x6_1 < (l0.length : Int)) = false := decide_eq_false c3
        clear c3
        obtain rfl := Option.some.inj H
        go_wp2
        go_ret
        exact ⟨_, by first | rfl | (simp [errW_none, errW_some] <;> rfl) | (simp [*, errW_none, errW_some] <;> rfl), by (with_reducible repeat (first | apply Kd.R_alloc | apply Kd.R_drewN | apply Kd.R_drew)); exact HO_5.out, by repeat (first | (with_reducible first | exact HB.out | apply below_alloc | apply pw_below_drewN | apply below_drew1) | exact HB.out)⟩

end Go.Proofs.Ytknchioabngbiaa.P
namespace Go.Proofs.Ytknchioabngbiaa.P
open Go.RowKit Go.Proofs.YtknchioabngbiaaW.PrintWords Go.Proofs.YtknchioabngbiaaW.PrintLast Go.Proofs.YtknchioabngbiaaW.PrintMore
attribute [local go_sem] max2_int min2_int max_two min_two max_three min_three max_four min_four   -- for this text's walks alone
set_option linter.unusedVariables false
set_option linter.unusedSimpArgs false

/-! ### sackbutref05_Every: function 13 -/
def sackbutref05_Every.l0 : Nat → Int → List Int → Int → Int → Option (Bool)
  | 0, _, _, _, _ => none
  | k + 1, x5, x10, x11, x12 => if x12 < x11 then (if 0 ≤ x12 then (if x12 < (x10.length : Int) then (if 0 ≤ (rd x10 x12) then (if (Go.bits .and .i64 (shr .i64 x5 (rd x10 x12)) 1) = 1 then (some false) else (sackbutref05_Every.l0 k (Go.bits .or .i64 x5 (shl .i64 1 (rd x10 x12))) x10 x11 (wrap64 (x12 + 1)))) else (none)) else (none)) else (none)) else (some true)
def sackbutref05_Every.f (k : Nat) (l0 : List Int) (a1 : Int) : Option (Bool) := (sackbutref05_Steps.f k l0 a1).bind fun t1001 => (sackbutref05_Every.l0 k 0 t1001 (t1001.length : Int) 0)
theorem sackbutref05_Every.mono_l : ∀ k, (∀ y0 y1 y2 y3, LeO (sackbutref05_Every.l0 k y0 y1 y2 y3) (sackbutref05_Every.l0 (k + 1) y0 y1 y2 y3))
  | 0 => fun _ _ _ _ r h => by simp [sackbutref05_Every.l0] at h
  | k + 1 => by
    have ih0 := sackbutref05_Every.mono_l k
    · intro y0 y1 y2 y3
      unfold sackbutref05_Every.l0
      repeat' first
      | (with_reducible exact ih0 _ _ _ _)
      | (with_reducible exact sackbutref05_Steps.mono _ _ _)
      | (with_reducible exact LeO.refl _)
      | (with_reducible exact LeO.none _)
      | (with_reducible refine LeO.ite ?_ ?_)
      | (with_reducible refine LeO.bind ?_ (fun _ => ?_))
      | exact ih0 _ _ _ _
      | exact sackbutref05_Steps.mono _ _ _
      | exact LeO.none _
      | refine LeO.ite ?_ ?_
      | refine LeO.bind ?_ (fun _ => ?_)
theorem sackbutref05_Every.mono : ∀ a0 a1 k, LeO (sackbutref05_Every.f k a0 a1) (sackbutref05_Every.f (k + 1) a0 a1) := by
  intro a0 a1 k
  have ih0 := sackbutref05_Every.mono_l k
  unfold sackbutref05_Every.f
  repeat' first
      | (with_reducible exact ih0 _ _ _ _)
      | (with_reducible exact sackbutref05_Steps.mono _ _ _)
      | (with_reducible exact LeO.refl _)
      | (with_reducible exact LeO.none _)
      | (with_reducible refine LeO.ite ?_ ?_)
      | (with_reducible refine LeO.bind ?_ (fun _ => ?_))
      | exact ih0 _ _ _ _
      | exact sackbutref05_Steps.mono _ _ _
      | exact LeO.none _
      | refine LeO.ite ?_ ?_
      | refine LeO.bind ?_ (fun _ => ?_)
set_option maxHeartbeats 8000000 in
set_option maxRecDepth 100000 in
theorem sackbutref05_Every.calls (k : Nat) (A0 : Option Addr) (c0 : Nat) (l0 : List Int) (a1 : Int) (r : Bool) (w : World) (hr0 : Kd.C (Kd.int .i64) w A0 l0.length l0) (hc0 : l0.length ≤ c0) (h : sackbutref05_Every.f k l0 a1 = some r) :
    Calls Try.prog 13 #[.slice A0 l0.length c0, .int .i64 a1] w fun e w' => e = .returned (.bool r) ∧ Below w.heap.size w w' := by
  have HR0 := Aside0.mk hr0
  have HC0 := Aside0.mk hc0
  clear hr0 hc0
  have HB := Aside0.mk (Below.refl w.heap.size w)
  have H : ((sackbutref05_Steps.f k l0 a1).bind fun t1001 => (sackbutref05_Every.l0 k 0 t1001 (t1001.length : Int) 0)) = some r := h
  clear h
  replace H := Option.bind_eq_some_iff.mp H
  obtain ⟨t1001, A30, H⟩ := H
  replace H : (sackbutref05_Every.l0 k 0 t1001 (t1001.length : Int) 0) = some r := H
  have A3 := Aside0.mk A30
  clear A30
  have H' := Aside0.mk H
  clear H
  go_enter Try.func13, Try.ntmps13
  go_wp2_with (first | ((with_reducible refine gate_callee (f := 36) rfl ?_); refine goesL_ (some 10) rfl rfl Try.func36 (by kernel_rfl) rfl #[.slice A0 l0.length c0, .int .i64 a1] rfl (by (try simp only [List.map_toArray, List.map_cons, List.map_nil]); first | done | rfl | (simp only [List.length_drop, List.length_take]; rfl)) ?_; (with_reducible refine (sackbutref05_Steps.calls k _ _ l0 a1 t1001 _ ?side1 ?side2 A3.out).mono ?_); (case side1 => repeat (first | exact HR0.out | (with_reducible refine Kd.C_alloc ?_ _) | (with_reducible refine Kd.C_drewN ?_ _) | (with_reducible refine Kd.C_drew ?_))); (case side2 => exact HC0.out); rintro e w4 ⟨v1002, rfl, ho0, hb⟩; refine ⟨_, rfl, ?_⟩; have n0_ := Aside0.mk (Kd.R_lower ho0 (below_size (by repeat (first | (with_reducible first | exact HB.out | apply below_alloc | apply pw_below_drewN | apply below_drew1) | exact HB.out)))); have n1_ := Aside0.mk (below_step (by repeat (first | (with_reducible first | exact HB.out | apply below_alloc | apply pw_below_drewN | apply below_drew1) | exact HB.out)) hb); clear HB; have HO1003 := n0_; have HB := n1_; clear n0_ n1_; (try clear hb); (try clear hb2); (try clear hk); (try clear hi); (try clear ho0); obtain ⟨Ao5, co5, eo5⟩ := Kd.R_slice HO1003.out; subst eo5))
  go_loopg [5, 12] k (fun kq v5 v12 w' => ∃ (x5_1 : Int) (x12_1 : Int), v5 = .int .i64 x5_1 ∧ v12 = .int .i64 x12_1 ∧ Aside0 (sackbutref05_Every.l0 kq x5_1 t1001 (t1001.length : Int) x12_1 = some r) ∧ Aside0 (kq ≤ k) ∧ Aside0 (Kd.R (Kd.int .i64) 3 w' w.heap.size (fun _ => True) (.slice Ao5 t1001.length co5) t1001) ∧ Aside0 (Below w.heap.size w w'))
  case atStart => exact ⟨(0), (0), (by first | rfl | (simp; done) | (simp [*]; done)), (by first | rfl | (simp; done) | (simp [*]; done)), H', ⟨Nat.le_refl _⟩, ⟨by (with_reducible repeat (first | apply Kd.R_alloc | apply Kd.R_drewN | apply Kd.R_drew)); exact HO1003.out⟩, ⟨by repeat (first | (with_reducible first | exact HB.out | apply below_alloc | apply pw_below_drewN | apply below_drew1) | exact HB.out)⟩⟩
  case round =>
    clear H'
    try clear c1
    try clear p2
    try clear c3
    obtain ⟨x5_1, x12_1, rfl, rfl, HA, HK1, HO_10, HB⟩ := hrel
    cases gk with
    | zero => exact absurd HA.out (by simp [sackbutref05_Every.l0])
    | succ k1 =>
      have H := HA.out
      clear HA
      simp only [sackbutref05_Every.l0] at H
      by_cases c6 : x12_1 < (t1001.length : Int)
      · rw [if_pos c6] at H
        have c6b0 : decide (x12_1 < (t1001.length : Int)) = true := decide_eq_true c6
        clear c6
        by_cases c7 : 0 ≤ x12_1
        · rw [if_pos c7] at H
          have c7b0 : decide (0 ≤ x12_1) = true := decide_eq_true c7
          clear c7
          by_cases c8 : x12_1 < (t1001.length : Int)
          · rw [if_pos c8] at H
            have c8b0 : decide (x12_1 < (t1001.length : Int)) = true := decide_eq_true c8
            clear c8
            by_cases c9 : 0 ≤ (rd t1001 x12_1)
            · rw [if_pos c9] at H
              have c9b0 := eq_true c9
              have c9b1 : decide (0 ≤ (rd t1001 x12_1)) = true := decide_eq_true c9
              clear c9
              obtain ⟨ji10, hji10⟩ : ∃ j_ : Int, (shr .i64 x5_1 (rd t1001 x12_1)) = j_ := ⟨_, rfl⟩
              replace H : (if (Go.bits .and .i64 (ji10) 1) = 1 then (some false) else (sackbutref05_Every.l0 k1 (Go.bits .or .i64 x5_1 (shl .i64 1 (rd t1001 x12_1))) t1001 (t1001.length : Int) (wrap64 (x12_1 + 1)))) = some r := by first | (rw [hji10] at H; exact H) | (simp only [hji10] at H ⊢; exact H)
              have hji10_ : (x5_1 / 2 ^ min (rd t1001 x12_1).toNat 64) = ji10 := hji10
              have hji10z : (rd t1001 x12_1) ≤ 64 → (x5_1 / 2 ^ (rd t1001 x12_1).toNat) = ji10 := shr_small hji10
              by_cases c11 : (Go.bits .and .i64 (ji10) 1) = 1
              · rw [if_pos c11] at H
                have c11b0 : ((Go.bits .and .i64 (ji10) 1) == 1) = true := beq_iff_eq.mpr c11
                have c11b1 : ((Go.bits .and .i64 (ji10) 1) != 1) = false := bne_eq_false_iff_eq.mpr c11
                clear c11
                obtain rfl := Option.some.inj H
                have p1004 : 0 ≤ (x12_1 : Int) := of_decide_eq_true (by first | (with_reducible assumption) | assumption)
                have q1004 : x12_1 < (t1001.length : Int) := of_decide_eq_true (by first | (with_reducible assumption) | assumption)
                obtain ⟨ad1004, e1004, hx1004_0⟩ := Kd.at_int (Kd.R_reads' HO_10.out).2.2 x12_1 p1004 q1004
                cases e1004
                replace p1004 := eq_true p1004
                replace q1004 := eq_true q1004
                go_wp2
                go_ret
                exact ⟨by first | rfl | (simp [errW_none, errW_some] <;> rfl) | (simp only [← hji10]; first | rfl | (simp [errW_none, errW_some] <;> rfl)) | (simp [*, errW_none, errW_some] <;> rfl), by repeat (first | (with_reducible first | exact HB.out | apply below_alloc | apply pw_below_drewN | apply below_drew1) | exact HB.out)⟩
              · rw [if_neg c11] at H
                have c11b0 : ((Go.bits .and .i64 (ji10) 1) == 1) = false := beq_eq_false_iff_ne.mpr c11
                have c11b1 : ((Go.bits .and .i64 (ji10) 1) != 1) = true := bne_iff_ne.mpr c11
                have c12b0 := eq_true (of_decide_eq_true (by first | (with_reducible assumption) | assumption) : 0 ≤ (rd t1001 x12_1))
                obtain ⟨ji13, hji13⟩ : ∃ j_ : Int, (shl .i64 1 (rd t1001 x12_1)) = j_ := ⟨_, rfl⟩
                replace H : (sackbutref05_Every.l0 k1 (Go.bits .or .i64 x5_1 (ji13)) t1001 (t1001.length : Int) (wrap64 (x12_1 + 1))) = some r := by first | (rw [hji13] at H; exact H) | (simp only [hji13] at H ⊢; exact H)
                have hji13_ : (IntKind.i64.wrap (1 * 2 ^ min (rd t1001 x12_1).toNat 64)) = ji13 := hji13
                have hji13z : (rd t1001 x12_1) ≤ 64 → (IntKind.i64.wrap (1 * 2 ^ (rd t1001 x12_1).toNat)) = ji13 := shl_small hji13
                have hji13u : (IntKind.i64.wrap (2 ^ min (rd t1001 x12_1).toNat 64)) = ji13 := by have h_ := hji13_; rw [Int.one_mul] at h_; exact h_
                have hji13v : (rd t1001 x12_1) ≤ 64 → (IntKind.i64.wrap (2 ^ (rd t1001 x12_1).toNat)) = ji13 := fun hle_ => by have h_ := hji13z hle_; rw [Int.one_mul] at h_; exact h_
                have hji13y : (wrap64 (1 * 2 ^ min (rd t1001 x12_1).toNat 64)) = ji13 := (i64_w _).symm.trans hji13_
                have hji13x : (rd t1001 x12_1) ≤ 64 → (wrap64 (1 * 2 ^ (rd t1001 x12_1).toNat)) = ji13 := fun h_ => (i64_w _).symm.trans (hji13z h_)
                have H' := Aside0.mk H
                clear H
                have p1004 : 0 ≤ (x12_1 : Int) := of_decide_eq_true (by first | (with_reducible assumption) | assumption)
                have q1004 : x12_1 < (t1001.length : Int) := of_decide_eq_true (by first | (with_reducible assumption) | assumption)
                obtain ⟨ad1004, e1004, hx1004_0⟩ := Kd.at_int (Kd.R_reads' HO_10.out).2.2 x12_1 p1004 q1004
                cases e1004
                replace p1004 := eq_true p1004
                replace q1004 := eq_true q1004
                go_wp2
                go_roundg k1
                case measure => have := HK1.out; omega
                case rel => exact ⟨(Go.bits .or .i64 x5_1 (ji13)), (wrap64 (x12_1 + 1)), (by first | rfl | (simp; done) | (simp only [← hji13] <;> (first | rfl | simp)) | (simp [*]; done)), (by first | rfl | (simp; done) | (simp [*]; done)), H', ⟨by have := HK1.out; omega⟩, ⟨by (with_reducible repeat (first | apply Kd.R_alloc | apply Kd.R_drewN | apply Kd.R_drew)); exact HO_10.out⟩, ⟨by repeat (first | (with_reducible first | exact HB.out | apply below_alloc | apply pw_below_drewN | apply below_drew1) | exact HB.out)⟩⟩
            · rw [if_neg c9] at H
              exact absurd H (by simp)
          · rw [if_neg c8] at H
            exact absurd H (by simp)
        · rw [if_neg c7] at H
          exact absurd H (by simp)
      · rw [if_neg c6] at H
        have c6b0 : decide (x12_1 < (t1001.length : Int)) = false := decide_eq_false c6
        clear c6
        obtain rfl := Option.some.inj H
        go_wp2
        go_ret
        exact ⟨by first | rfl | (simp [errW_none, errW_some] <;> rfl) | (simp [*, errW_none, errW_some] <;> rfl), by repeat (first | (with_reducible first | exact HB.out | apply below_alloc | apply pw_below_drewN | apply below_drew1) | exact HB.out)⟩

end Go.Proofs.Ytknchioabngbiaa.P
namespace Go.Proofs.Ytknchioabngbiaa.P
open Go.RowKit Go.Proofs.YtknchioabngbiaaW.PrintWords Go.Proofs.YtknchioabngbiaaW.PrintLast Go.Proofs.YtknchioabngbiaaW.PrintMore
attribute [local go_sem] max2_int min2_int max_two min_two max_three min_three max_four min_four   -- for this text's walks alone
set_option linter.unusedVariables false
set_option linter.unusedSimpArgs false

/-! steps -/
def stepsOf (n : Int) : List Int → List Int
  | x :: y :: r => (y - x) % n :: stepsOf n (y :: r)
  | _ => []
theorem row_bounds {l : List Int} (h : IsRow l) : ∀ x ∈ l, 0 ≤ x ∧ x < 4611686018427387904 := fun x hx => by have := h.2.2.1 x hx; have := h.2.1; omega
theorem steps_loop (l : List Int) (n : Nat) (hn : n = l.length) (h1 : 1 ≤ n) (hb : n ≤ 62) (hr : ∀ x ∈ l, 0 ≤ x ∧ x < 4611686018427387904) : ∀ (xs pre : List Int) (p : Int) (acc : List Int), l = pre ++ p :: xs → acc.length = pre.length →
    Ev (fun k => rows_row_steps.l0 k l acc ((pre.length : Int) + 1)) (acc ++ stepsOf n (p :: xs)) := by
  intro xs
  induction xs with
  | nil =>
    intro pre p acc h0 ha
    refine Ev.succ ?_
    have : ¬ ((pre.length : Int) + 1 < (l.length : Int)) := by subst h0; simp
    simp only [rows_row_steps.l0, if_neg this, stepsOf, List.append_nil]
    exact Ev.some _
  | cons x xs ih =>
    intro pre p acc h0 ha
    have hm : l = (pre ++ [p]) ++ x :: xs := mid_mv h0
    have hi : ((pre.length : Int) + 1) = ((pre ++ [p]).length : Int) := by simp
    have hlen : pre.length + 1 < l.length := by rw [h0]; simp
    have hw : wrap64 ((pre.length : Int) + 1 - 1) = (pre.length : Int) := by rw [wrap_id (by omega) (by omega)]; omega
    have hx := hr x (by rw [hm]; simp)
    have hp := hr p (by rw [h0]; simp)
    have hs : wrap64 (x - p) = x - p := wrap_id (by omega) (by omega)
    have hlt : ((pre.length : Int) + 1 < (l.length : Int)) := by omega
    refine Ev.succ ?_
    simp only [rows_row_steps.l0, if_pos hlt, if_pos (show (0 : Int) ≤ (pre.length : Int) + 1 by omega), hw, if_pos (show (0 : Int) ≤ (pre.length : Int) by omega), if_pos (mid_lt h0), mid_rd h0]
    rw [hi]
    simp only [mid_rd hm, hs, rows_mod_f (show (0 : Int) < (l.length : Int) by omega) (show (l.length : Int) < 4611686018427387904 by omega), Option.bind_some, if_pos (show acc.length < 17592186044416 by omega), mid_next hm (by omega)]
    have := ih (pre ++ [p]) x (acc ++ [(x - p) % (l.length : Int)]) hm (by simp [ha])
    have e : ((pre ++ [p] ++ [x]).length : Int) = ((pre ++ [p]).length : Int) + 1 := by simp; omega
    rw [e]
    simpa [stepsOf, hn] using this
theorem steps_ev (l : List Int) (h1 : 1 ≤ l.length) (hb : l.length ≤ 62) (hr : ∀ x ∈ l, 0 ≤ x ∧ x < 4611686018427387904) : Ev (fun k => rows_row_steps.f k l) (stepsOf l.length l) := by
  cases l with
  | nil => simp at h1
  | cons p xs => exact steps_loop (p :: xs) _ rfl h1 hb hr xs [] p [] rfl rfl
theorem Steps_ev (l : List Int) : Ev (fun k => rows_Steps.f k l) (if IsRow l then (stepsOf l.length l, 0) else ([], 2)) := by
  unfold rows_Steps.f
  refine Ev.bind (valid_ev l) ?_
  by_cases h : IsRow l
  · simp only [h, decide_true, if_true]
    have h1 := h.1; have h2 := h.2.1
    exact Ev.bind (steps_ev l (by omega) (by omega) (row_bounds h)) (Ev.some _)
  · simp only [h, decide_false, if_false]
    exact Ev.some _

end Go.Proofs.Ytknchioabngbiaa.P
namespace Go.Proofs.Ytknchioabngbiaa.P
open Go.RowKit Go.Proofs.YtknchioabngbiaaW.PrintWords Go.Proofs.YtknchioabngbiaaW.PrintLast Go.Proofs.YtknchioabngbiaaW.PrintMore
attribute [local go_sem] max2_int min2_int max_two min_two max_three min_three max_four min_four   -- for this text's walks alone
set_option linter.unusedVariables false
set_option linter.unusedSimpArgs false

/-! steps -/
theorem refSteps_loop (l : List Int) (n : Nat) (h1 : 1 ≤ n) (hb : n ≤ 62) (hlb : l.length < 17592186044416) (hr : ∀ x ∈ l, 0 ≤ x ∧ x < 4611686018427387904) : ∀ (xs pre : List Int) (p : Int) (acc : List Int), l = pre ++ p :: xs → acc.length = pre.length →
    Ev (fun k => sackbutref05_Steps.l0 k l (n : Int) acc ((pre.length : Int) + 1)) (acc ++ stepsOf n (p :: xs)) := by
  intro xs
  induction xs with
  | nil =>
    intro pre p acc h0 ha
    refine Ev.succ ?_
    have : ¬ ((pre.length : Int) + 1 < (l.length : Int)) := by subst h0; simp
    simp only [sackbutref05_Steps.l0, if_neg this, stepsOf, List.append_nil]
    exact Ev.some _
  | cons x xs ih =>
    intro pre p acc h0 ha
    have hm : l = (pre ++ [p]) ++ x :: xs := mid_mv h0
    have hi : ((pre.length : Int) + 1) = ((pre ++ [p]).length : Int) := by simp
    have hlen : pre.length + 1 < l.length := by rw [h0]; simp
    have hw : wrap64 ((pre.length : Int) + 1 - 1) = (pre.length : Int) := by rw [wrap_id (by omega) (by omega)]; omega
    have hx := hr x (by rw [hm]; simp)
    have hp := hr p (by rw [h0]; simp)
    have hs : wrap64 (x - p) = x - p := wrap_id (by omega) (by omega)
    have hlt : ((pre.length : Int) + 1 < (l.length : Int)) := by omega
    have hmod : sackbutref05_mod.f (x - p) (n : Int) = some ((x - p) % (n : Int)) := by
      unfold sackbutref05_mod.f
      rw [if_neg (by omega), tmod_mod (by omega) (by omega)]
    refine Ev.succ ?_
    simp only [sackbutref05_Steps.l0, if_pos hlt, if_pos (show (0 : Int) ≤ (pre.length : Int) + 1 by omega), hw, if_pos (show (0 : Int) ≤ (pre.length : Int) by omega), if_pos (mid_lt h0), mid_rd h0]
    rw [hi]
    simp only [mid_rd hm, hs, hmod, Option.bind_some, if_pos (show acc.length < 17592186044416 by omega), mid_next hm (by omega)]
    have := ih (pre ++ [p]) x (acc ++ [(x - p) % (n : Int)]) hm (by simp [ha])
    have e : ((pre ++ [p] ++ [x]).length : Int) = ((pre ++ [p]).length : Int) + 1 := by simp; omega
    rw [e]
    simpa [stepsOf] using this
theorem refSteps_ev (l : List Int) (n : Nat) (h1 : 1 ≤ n) (hb : n ≤ 62) (hlb : l.length < 17592186044416) (hr : ∀ x ∈ l, 0 ≤ x ∧ x < 4611686018427387904) : Ev (fun k => sackbutref05_Steps.f k l (n : Int)) (stepsOf n l) := by
  cases l with
  | nil =>
    unfold sackbutref05_Steps.f
    refine Ev.succ ?_
    simp only [sackbutref05_Steps.l0]
    simpa [stepsOf] using Ev.some _
  | cons p xs => exact refSteps_loop (p :: xs) n h1 hb hlb hr xs [] p [] rfl rfl

theorem stepsOf_range {n : Int} (hn : 0 < n) : ∀ (l : List Int), ∀ s ∈ stepsOf n l, 0 ≤ s ∧ s < n
  | x :: y :: r => by
    intro s hs
    rcases List.mem_cons.1 hs with rfl | hs
    · exact ⟨Int.emod_nonneg _ (by omega), Int.emod_lt_of_pos _ hn⟩
    · exact stepsOf_range hn (y :: r) s hs
  | [] => by simp [stepsOf]
  | [x] => by simp [stepsOf]
theorem stepsOf_length (n : Int) : ∀ (l : List Int), (stepsOf n l).length = l.length - 1
  | x :: y :: r => by have := stepsOf_length n (y :: r); simp [stepsOf] at *; omega
  | [] => by simp [stepsOf]
  | [x] => by simp [stepsOf]
/-- the steps of different tones are none of them 0 -/
theorem stepsOf_pos {n : Int} (hn : 0 < n) : ∀ (l : List Int), (∀ x ∈ l, 0 ≤ x ∧ x < n) → l.Nodup → ∀ s ∈ stepsOf n l, 1 ≤ s
  | x :: y :: r => by
    intro hr hd s hs
    rcases List.mem_cons.1 hs with rfl | hs
    · have hx := hr x (by simp); have hy := hr y (by simp)
      have hne : x ≠ y := fun e => by subst e; simp at hd
      have h0 := Int.emod_nonneg (y - x) (show n ≠ 0 by omega)
      rcases Int.lt_or_eq_of_le h0 with h | h
      · omega
      · exfalso
        have := Int.emod_add_mul_ediv (y - x) n
        rw [← h] at this
        have hq : -1 < (y - x) / n ∨ (y - x) / n ≤ -1 := by omega
        have hq2 : (y - x) / n = 0 ∨ 1 ≤ (y - x) / n ∨ (y - x) / n ≤ -1 := by omega
        rcases hq2 with h2 | h2 | h2
        · rw [h2] at this; omega
        · have : n * 1 ≤ n * ((y - x) / n) := Int.mul_le_mul_of_nonneg_left h2 (by omega)
          omega
        · have : n * ((y - x) / n) ≤ n * (-1) := Int.mul_le_mul_of_nonneg_left h2 (by omega)
          omega
    · exact stepsOf_pos hn (y :: r) (fun z hz => hr z (List.mem_cons_of_mem _ hz)) (List.nodup_cons.1 hd).2 s hs
  | [] => by simp [stepsOf]
  | [x] => by simp [stepsOf]

/-! every -/
theorem every_loop (l0 l : List Int) (hl0 : 1 ≤ l0.length ∧ l0.length ≤ 62) (hl : l.length < 9223372036854775807) (hr : ∀ x ∈ l, 0 ≤ x ∧ x < l0.length) : ∀ (xs pre : List Int) (s : Nat), l = pre ++ xs → s < 2 ^ l0.length →
    Ev (fun k => rows_row_every.l0 k l0 (s : Int) l (l.length : Int) (pre.length : Int)) (decide (orAll s (xs.map Int.toNat) = 2 ^ l0.length - 2)) := by
  intro xs
  induction xs with
  | nil =>
    intro pre s h0 hs
    refine Ev.succ ?_
    have hsh := shl1_i64 (x := l0.length) (by omega)
    have hp : 2 ≤ 2 ^ l0.length := Nat.pow_le_pow_right (show 0 < 2 by omega) hl0.1
    have hp2 := two_pow_lt63 (x := l0.length) (by omega)
    have hw : wrap64 (shl .i64 1 (l0.length : Int) - 2) = ((2 ^ l0.length - 2 : Nat) : Int) := by
      rw [hsh, wrap_id (by omega) (by have : (2 : Nat) ^ 63 = 9223372036854775808 := by decide
                                      omega)]
      omega
    simp only [rows_row_every.l0, if_neg (mid_end h0), hw, List.map_nil, orAll_nil]
    have e : ((s : Int) == ((2 ^ l0.length - 2 : Nat) : Int)) = decide (s = 2 ^ l0.length - 2) := by
      by_cases h : s = 2 ^ l0.length - 2
      · simp only [← h]; simp
      · simp only [h, decide_false, beq_eq_false_iff_ne]; omega
    rw [e]
    exact Ev.some _
  | cons x xs ih =>
    intro pre s h0 hs
    refine Ev.succ ?_
    have hx := hr x (by rw [h0]; simp)
    obtain ⟨m, rfl⟩ := Int.eq_ofNat_of_zero_le (show 0 ≤ x by omega)
    have hp2 := two_pow_lt63 (x := l0.length) (by omega)
    have hm2 : 2 ^ m < 2 ^ l0.length := Nat.pow_lt_pow_right (by omega) (by omega)
    have hs2 : s ||| 2 ^ m < 2 ^ l0.length := Nat.or_lt_two_pow hs hm2
    simp only [rows_row_every.l0, if_pos (mid_lt h0), if_pos (show (0 : Int) ≤ (pre.length : Int) by omega), mid_rd h0, mid_next h0 hl, if_pos (show (0 : Int) ≤ (m : Int) by omega), shl1_i64 (x := m) (by omega), or_i64 (a := s) (b := 2 ^ m) (by omega) (by omega), List.map_cons, orAll_cons, Int.toNat_natCast]
    exact ih (pre ++ [(m : Int)]) (s ||| 2 ^ m) (mid_mv h0) hs2
/-- every step comes: all are different -/
theorem every_iff {l : List Int} (h : IsRow l) : orAll 0 ((stepsOf l.length l).map Int.toNat) = 2 ^ l.length - 2 ↔ (stepsOf l.length l).Nodup := by
  have hn : 0 < (l.length : Int) := by have := h.1; omega
  have h1 := stepsOf_range hn l
  have h2 := stepsOf_pos hn l h.2.2.1 h.2.2.2
  have hr : ∀ x ∈ (stepsOf l.length l).map Int.toNat, 1 ≤ x ∧ x < l.length := by
    intro x hx
    obtain ⟨y, hy, rfl⟩ := List.mem_map.1 hx
    have := h1 y hy; have := h2 y hy
    omega
  rw [orAll_full2 (by have := h.1; omega) _ hr, ← nodup_toNat (fun x hx => (h1 x hx).1)]
  have hl : ((stepsOf l.length l).map Int.toNat).length = l.length - 1 := by rw [List.length_map, stepsOf_length]
  generalize (stepsOf l.length l).map Int.toNat = ys at hl hr ⊢
  -- with 0 before them they are a whole row
  have hy : ∀ i, i < l.length → (i ∈ 0 :: ys ↔ i = 0 ∨ i ∈ ys) := fun i _ => List.mem_cons
  constructor
  · intro hf
    have hd : (0 :: ys).Nodup := nodup_of_full (n := l.length) (by simp [hl]; have := h.1; omega) (fun i hi => by
      rcases Nat.eq_zero_or_pos i with e | e
      · simp [e]
      · exact List.mem_cons_of_mem _ (hf i e hi))
    exact (List.nodup_cons.1 hd).2
  · intro hd i hi1 hi2
    have hd0 : (0 :: ys).Nodup := List.nodup_cons.2 ⟨fun h0 => by have := (hr 0 h0).1; omega, hd⟩
    have := full_of_nodup (n := l.length) (by simp [hl]; have := h.1; omega) (fun x hx => by
      rcases List.mem_cons.1 hx with e | e
      · have := h.1; omega
      · exact (hr x e).2) hd0 i hi2
    rcases List.mem_cons.1 this with e | e
    · omega
    · exact e
theorem every_ev {l : List Int} (h : IsRow l) : Ev (fun k => rows_row_every.f k l) (decide (stepsOf l.length l).Nodup) := by
  unfold rows_row_every.f
  have h1 := h.1; have h2 := h.2.1
  refine Ev.bind (steps_ev l (by omega) (by omega) (row_bounds h)) ?_
  have := every_loop l (stepsOf l.length l) ⟨by omega, by omega⟩ (by rw [stepsOf_length]; omega) (stepsOf_range (by omega) l) (stepsOf l.length l) [] 0 rfl (Nat.two_pow_pos _)
  have e : decide (orAll 0 ((stepsOf l.length l).map Int.toNat) = 2 ^ l.length - 2) = decide (stepsOf l.length l).Nodup := by congr 1; rw [eq_iff_iff]; exact every_iff h
  rw [e] at this
  exact this

/-! the reference's Every: of different tones modulo n -/
def seenRun : Nat → List Int → Bool
  | _, [] => true
  | s, x :: xs => if s.testBit x.toNat then false else seenRun (s ||| 2 ^ x.toNat) xs
theorem refEvery_loop (l : List Int) (n : Nat) (hn : n ≤ 62) (hl : l.length < 9223372036854775807) (hr : ∀ x ∈ l, 0 ≤ x ∧ x < n) : ∀ (xs pre : List Int) (s : Nat), l = pre ++ xs → s < 2 ^ n →
    Ev (fun k => sackbutref05_Every.l0 k (s : Int) l (l.length : Int) (pre.length : Int)) (seenRun s xs) := by
  intro xs
  induction xs with
  | nil =>
    intro pre s h0 hs
    refine Ev.succ ?_
    simp only [sackbutref05_Every.l0, if_neg (mid_end h0)]
    exact Ev.some _
  | cons x xs ih =>
    intro pre s h0 hs
    refine Ev.succ ?_
    have hx := hr x (by rw [h0]; simp)
    obtain ⟨m, rfl⟩ := Int.eq_ofNat_of_zero_le (show 0 ≤ x by omega)
    have hp2 := two_pow_lt63 (x := n) (by omega)
    have hm2 : 2 ^ m < 2 ^ n := Nat.pow_lt_pow_right (by omega) (by omega)
    have hs2 : s ||| 2 ^ m < 2 ^ n := Nat.or_lt_two_pow hs hm2
    simp only [sackbutref05_Every.l0, if_pos (mid_lt h0), if_pos (show (0 : Int) ≤ (pre.length : Int) by omega), mid_rd h0, mid_next h0 hl, if_pos (show (0 : Int) ≤ (m : Int) by omega), bit1_i64 (a := s) (x := m) (by omega) (by omega), shl1_i64 (x := m) (by omega), or_i64 (a := s) (b := 2 ^ m) (by omega) (by omega), seenRun, Int.toNat_natCast]
    refine Ev.ite (fun e3 => by simpa [e3] using Ev.some false) (fun e3 => ?_)
    simpa [e3] using ih (pre ++ [(m : Int)]) (s ||| 2 ^ m) (mid_mv h0) hs2
theorem seenRun_iff : ∀ (xs : List Int) (s : Nat), (∀ x ∈ xs, 0 ≤ x) → seenRun s xs = decide ((∀ x ∈ xs, s.testBit x.toNat = false) ∧ xs.Nodup) := by
  intro xs
  induction xs with
  | nil => intro s _; simp [seenRun]
  | cons x xs ih =>
    intro s h
    have hx := h x (by simp)
    have h' : ∀ y ∈ xs, 0 ≤ y := fun y hy => h y (List.mem_cons_of_mem _ hy)
    simp only [seenRun, ih _ h', List.forall_mem_cons, List.nodup_cons]
    by_cases h3 : s.testBit x.toNat = true
    · simp [h3]
    · rw [if_neg h3, decide_eq_decide]
      simp only [testBit_or_two_pow, Bool.or_eq_false_iff, decide_eq_false_iff_not]
      constructor
      · rintro ⟨a, b⟩
        exact ⟨⟨by simpa using h3, fun y hy => (a y hy).1⟩, fun hx => (a x hx).2 rfl, b⟩
      · rintro ⟨⟨_, a⟩, b, c⟩
        refine ⟨fun y hy => ⟨a y hy, fun e => b ?_⟩, c⟩
        have := h' y hy
        obtain rfl : x = y := by omega
        exact hy
theorem refEvery_ev (l : List Int) (n : Nat) (h1 : 1 ≤ n) (hb : n ≤ 62) (hlb : l.length < 17592186044416) (hr : ∀ x ∈ l, 0 ≤ x ∧ x < 4611686018427387904) : Ev (fun k => sackbutref05_Every.f k l (n : Int)) (decide (stepsOf n l).Nodup) := by
  unfold sackbutref05_Every.f
  refine Ev.bind (refSteps_ev l n h1 hb hlb hr) ?_
  have hs := stepsOf_range (n := (n : Int)) (by omega) l
  have := refEvery_loop (stepsOf n l) n hb (by rw [stepsOf_length]; omega) hs (stepsOf n l) [] 0 rfl (Nat.two_pow_pos _)
  rw [seenRun_iff _ _ (fun x hx => (hs x hx).1)] at this
  simpa using this

theorem Every_ev (l : List Int) : Ev (fun k => rows_Every.f k l) (if IsRow l then (decide (stepsOf l.length l).Nodup, 0) else (false, 2)) := by
  unfold rows_Every.f
  refine Ev.bind (valid_ev l) ?_
  by_cases h : IsRow l
  · simp only [h, decide_true, if_true]
    exact Ev.bind (every_ev h) (Ev.some _)
  · simp only [h, decide_false, if_false]
    exact Ev.some _

end Go.Proofs.Ytknchioabngbiaa.P
namespace Go.Proofs.Ytknchioabngbiaa.P
open Go.RowKit Go.Proofs.YtknchioabngbiaaW.PrintWords Go.Proofs.YtknchioabngbiaaW.PrintLast Go.Proofs.YtknchioabngbiaaW.PrintMore
attribute [local go_sem] max2_int min2_int max_two min_two max_three min_three max_four min_four   -- for this text's walks alone
set_option linter.unusedVariables false
set_option linter.unusedSimpArgs false

/-! every step comes in a form exactly if it comes in the row -/
theorem steps_map {n : Int} (f g : Int → Int) (hf : ∀ x y, (f y - f x) % n = g ((y - x) % n)) : ∀ l : List Int, stepsOf n (l.map f) = (stepsOf n l).map g
  | [] => rfl
  | [x] => rfl
  | x :: y :: r => by
    have ih := steps_map f g hf (y :: r)
    simp only [List.map_cons, stepsOf] at ih ⊢
    rw [hf, ih]
theorem steps_snoc (n a b : Int) : ∀ A : List Int, stepsOf n (A ++ [a, b]) = stepsOf n (A ++ [a]) ++ [(b - a) % n]
  | [] => rfl
  | [x] => rfl
  | x :: y :: r => by
    have ih := steps_snoc n a b (y :: r)
    simp only [List.cons_append, stepsOf] at ih ⊢
    rw [ih]
theorem steps_rev (n : Int) : ∀ l : List Int, stepsOf n l.reverse = ((stepsOf n l).map fun s => (-s) % n).reverse
  | [] => rfl
  | [x] => rfl
  | x :: y :: r => by
    have ih := steps_rev n (y :: r)
    have e : (x :: y :: r).reverse = r.reverse ++ [y, x] := by simp
    rw [e, steps_snoc, show r.reverse ++ [y] = (y :: r).reverse by simp, ih]
    simp only [stepsOf, List.map_cons, List.reverse_cons]
    have h : (x - y) % n = -((y - x) % n) % n := by
      obtain ⟨a, ha⟩ := emod_as n (y - x)
      refine emod_same ⟨a, ?_⟩
      omega
    rw [h]
theorem neg_inj {n s t : Int} (hs : 0 ≤ s ∧ s < n) (ht : 0 ≤ t ∧ t < n) (h : (-s) % n = (-t) % n) : s = t := by
  obtain ⟨a, ha⟩ := emod_eq_as h
  have : s % n = t % n := emod_same ⟨-a, by rw [Int.mul_neg]; omega⟩
  rwa [Int.emod_eq_of_lt hs.1 hs.2, Int.emod_eq_of_lt ht.1 ht.2] at this
theorem steps_form {l : List Int} (hn : 1 ≤ l.length) (kind k : Int) (h : (stepsOf l.length l).Nodup) : (stepsOf l.length (formOf l.length kind k l)).Nodup := by
  have hr := stepsOf_range (n := (l.length : Int)) (by omega) l
  have hneg : ((stepsOf l.length l).map fun s => (-s) % (l.length : Int)).Nodup := nodup_map_on' (fun x hx y hy e => neg_inj (hr x hx) (hr y hy) e) h
  have hmap : (stepsOf l.length (l.map (toneOf l.length kind k))).Nodup := by
    by_cases h1 : kind % 2 = 1
    · rw [steps_map (toneOf l.length kind k) (fun s => (-s) % (l.length : Int)) (fun x y => by
        unfold toneOf
        rw [if_pos h1, if_pos h1]
        obtain ⟨a, ha⟩ := emod_as (l.length : Int) (-y + k % (l.length : Int))
        obtain ⟨b, hb⟩ := emod_as (l.length : Int) (-x + k % (l.length : Int))
        obtain ⟨c, hc⟩ := emod_as (l.length : Int) (y - x)
        exact emod_same ⟨a - b + c, by rw [Int.mul_add, Int.mul_sub]; omega⟩)]
      exact hneg
    · rw [steps_map (toneOf l.length kind k) id (fun x y => by
        unfold toneOf
        rw [if_neg h1, if_neg h1]
        obtain ⟨a, ha⟩ := emod_as (l.length : Int) (y + k % (l.length : Int))
        obtain ⟨b, hb⟩ := emod_as (l.length : Int) (x + k % (l.length : Int))
        exact emod_same ⟨a - b, by rw [Int.mul_sub]; omega⟩), List.map_id]
      exact h
  unfold formOf
  split
  · rw [steps_rev, List.Nodup, List.pairwise_reverse]
    have hr2 := stepsOf_range (n := (l.length : Int)) (by omega) (l.map (toneOf l.length kind k))
    exact (nodup_map_on' (fun x hx y hy e => neg_inj (hr2 x hx) (hr2 y hy) e) hmap).imp (fun h e => h e.symm)
  · exact hmap
theorem steps_form_iff {a b : List Int} (ha : IsRow a) (h : IsForm a b) : (stepsOf b.length b).Nodup ↔ (stepsOf a.length a).Nodup := by
  have hs := h.symm ha.2.2.1
  obtain ⟨q1, q2, rfl⟩ := h
  obtain ⟨p1, p2, hp⟩ := hs
  have h1 := ha.1
  rw [formOf_len5] at hp ⊢
  constructor
  · intro hd
    have := steps_form (l := formOf a.length q1 q2 a) (by rw [formOf_len5]; omega) p1 p2 (by rw [formOf_len5]; exact hd)
    rw [formOf_len5, hp] at this; exact this
  · intro hd; exact steps_form (by omega) q1 q2 hd

end Go.Proofs.Ytknchioabngbiaa.P
namespace Go.Proofs.Ytknchioabngbiaa.P
open Go.RowKit Go.Proofs.YtknchioabngbiaaW.PrintWords Go.Proofs.YtknchioabngbiaaW.PrintLast Go.Proofs.YtknchioabngbiaaW.PrintMore
attribute [local go_sem] max2_int min2_int max_two min_two max_three min_three max_four min_four   -- for this text's walks alone
set_option linter.unusedVariables false
set_option linter.unusedSimpArgs false

/-! list -/
theorem list_f (l : List Int) : sackbutlaw05_list.f l = some (l.take 13) := by
  unfold sackbutlaw05_list.f
  rw [mn_eq, if_pos (by omega), if_pos (by omega)]
  have e : (min (l.length : Int) 13).toNat = min l.length 13 := by omega
  have e2 : l.take (min l.length 13) = l.take 13 := by
    rw [Nat.min_comm]; exact (List.take_eq_take_min ..).symm
  rw [e, e2]
  unfold slices_Clone_int_int.f
  rw [if_pos (by rw [List.length_take]; omega)]
  rfl
theorem isRow_take (l : List Int) : IsRow (l.take 13) ↔ IsRow l := by
  rcases Nat.lt_or_ge 13 l.length with h | h
  · constructor
    · intro hr; have := hr.2.1; rw [List.length_take] at this; omega
    · intro hr; have := hr.2.1; omega
  · rw [List.take_of_length_le h]
theorem row_take {l : List Int} (h : IsRow l) : l.take 13 = l := List.take_of_length_le (by have := h.2.1; omega)

theorem awake_ev : Ev (fun k => sackbutlaw05_awake.f k) true := by
  unfold sackbutlaw05_awake.f
  refine Ev.bind (Steps_ev [0, 1, 3, 2]) ?_
  have h : IsRow [0, 1, 3, 2] := by decide
  have e : stepsOf ([0, 1, 3, 2] : List Int).length [0, 1, 3, 2] = [1, 2, 3] := by decide
  simp only [h, if_true, e]
  exact Ev.bind (Equal_ev [1, 2, 3] [1, 2, 3] (by decide)) (Ev.some _)

end Go.Proofs.Ytknchioabngbiaa.P
namespace Go.Proofs.Ytknchioabngbiaa.P
open Go.RowKit Go.Proofs.YtknchioabngbiaaW.PrintWords Go.Proofs.YtknchioabngbiaaW.PrintLast Go.Proofs.YtknchioabngbiaaW.PrintMore
attribute [local go_sem] max2_int min2_int max_two min_two max_three min_three max_four min_four   -- for this text's walks alone
set_option linter.unusedVariables false
set_option linter.unusedSimpArgs false

theorem clone_f5 {l : List Int} (h : l.length < 1000) : slices_Clone_int_int.f l = some l := by unfold slices_Clone_int_int.f; rw [if_pos (by omega)]
theorem way_of {l b : List Int} (hl : IsRow l) (hb : IsRow b) (hlen : b.length = l.length) (h : IsForm l b) : ∃ p : Nat × Nat, p.1 < 4 ∧ formOf l.length p.1 p.2 l = b ∧ rows_Way.f l b = some ((p.1 : Int), (p.2 : Int), 0) := by
  have h1 := hl.1
  obtain ⟨q, hq, he⟩ := (isForm_iff (by omega)).1 h
  have hs : (wayOf l b).isSome = true := by
    unfold wayOf
    rw [List.find?_isSome]
    exact ⟨q, hq, decide_eq_true he⟩
  obtain ⟨p, hp⟩ := Option.isSome_iff_exists.1 hs
  have hp2 := hp
  unfold wayOf at hp
  have hm := List.mem_of_find?_eq_some hp
  have hd := of_decide_eq_true (List.find?_some (p := fun p : Nat × Nat => decide (formOf l.length p.1 p.2 l = b)) hp)
  refine ⟨p, ((mem_formPairs p).1 hm).1, hd, ?_⟩
  unfold rows_Way.f
  rw [if_pos ⟨hl, hb, hlen.symm⟩, hp2]
theorem RowsClosed : sackbutlaw05_RowsClosed.Pure := by
  intro l kind k other j _ _ _ _ _ _ _
  refine Ev.rounds (g := fun q => sackbutlaw05_RowsClosed.f q l kind k other j) ?_
  unfold sackbutlaw05_RowsClosed.f
  refine Ev.bind_some (list_f l) ?_
  refine Ev.bind (Form_ev _ _ _) ?_
  by_cases hr : IsRow l
  · have h1 := hr.1
    have h10 := hr.2.1
    simp only [isRow_take, hr, row_take hr, true_and]
    by_cases hk : 0 ≤ kind ∧ kind < 4
    · simp only [if_pos hk]
      have ha := form_row hr kind k
      have hla := formOf_length l.length kind k l
      obtain ⟨a, hae⟩ : ∃ a, formOf l.length kind k l = a := ⟨_, rfl⟩
      rw [hae] at ha hla ⊢
      refine Ev.bind_some (clone_f5 (by omega)) ?_
      refine Ev.bind (Form_ev a other j) ?_
      refine Ev.bind_some (list_f l) ?_
      rw [row_take hr]
      refine Ev.bind_some (Forms_f l) ?_
      simp only [hr, ha, true_and, if_true]
      by_cases ho : 0 ≤ other ∧ other < 4
      · simp only [if_pos ho]
        have hb := form_row ha other j
        have hlb := formOf_length a.length other j a
        obtain ⟨b, hbe⟩ : ∃ b, formOf a.length other j a = b := ⟨_, rfl⟩
        rw [hbe] at hb hlb ⊢
        have hf : IsForm l b := by
          refine ⟨compK other kind, compM other j k, ?_⟩
          rw [← form_comp, hae, ← hla, hbe]
        obtain ⟨p, hp4, hpb, hway⟩ := way_of hr hb (by omega) hf
        obtain ⟨c, cs, hc⟩ := canonF_ne hr
        have hcb : canonF b = c :: cs := by rw [canonF_form (by omega) hr.2.2.1 hf]; exact hc
        have hcl : c.length = l.length := canonF_lens l c (by rw [hc]; simp)
        have hdiv := forms_divide (l := l) (by omega) hr.2.2.1
        have hst := steps_form_iff hr hf
        simp only [if_true]
        refine Ev.bind (Row_ev l) ?_
        simp only [hr, decide_true, if_true]
        refine Ev.bind (Row_ev a) ?_
        simp only [ha, decide_true, if_true]
        refine Ev.bind (Row_ev b) ?_
        simp only [hb, decide_true, if_true]
        have hne : ((b.length : Int) != (l.length : Int)) = false := bne_eq_false_iff_eq.2 (by omega)
        rw [hne]
        refine Ev.succ ?_
        simp only [sackbutlaw05_RowsClosed.j0, Bool.false_eq_true, if_false]
        refine Ev.bind_some (list_f l) ?_
        rw [row_take hr]
        refine Ev.bind_some (clone_f5 (by omega)) ?_
        refine Ev.bind_some hway ?_
        refine Ev.bind_some (list_f l) ?_
        rw [row_take hr]
        refine Ev.bind (Form_ev l _ _) ?_
        rw [if_pos ⟨hr, by omega, by simp only; omega⟩]
        refine Ev.bind_some (list_f l) ?_
        rw [row_take hr]
        refine Ev.bind (Every_ev l) ?_
        rw [if_pos hr]
        refine Ev.bind_some (clone_f5 (by omega)) ?_
        refine Ev.bind (Every_ev b) ?_
        rw [if_pos hb]
        refine Ev.bind_some (list_f l) ?_
        rw [row_take hr]
        refine Ev.bind_some (Prime_row hr hc) ?_
        refine Ev.bind_some (clone_f5 (by omega)) ?_
        refine Ev.bind_some (Prime_row hb hcb) ?_
        simp only [if_true, hpb]
        refine Ev.bind (Equal_ev b b (by omega)) ?_
        have hxy : (decide (stepsOf l.length l).Nodup == decide (stepsOf b.length b).Nodup) = true := by
          rw [beq_iff_eq, decide_eq_decide]; exact hst.symm
        simp only [decide_true, if_true, hxy]
        refine Ev.bind (Equal_ev c c (by omega)) ?_
        rw [hc] at hdiv ⊢
        have hlen : 0 < (c :: cs).length := by simp
        obtain ⟨L, hL⟩ : ∃ L, (c :: cs).length = L := ⟨_, rfl⟩
        rw [hL] at hdiv hlen ⊢
        have hw : wrap64 (4 * (l.length : Int)) = 4 * (l.length : Int) := wrap_id (by omega) (by omega)
        have hm : Int.tmod (4 * (l.length : Int)) (L : Int) = 0 := by
          have : (4 * (l.length : Int)) = ((4 * l.length : Nat) : Int) := by simp
          rw [this, hdiv, Int.tmod_eq_emod_of_nonneg (by omega), ← Int.natCast_emod, Nat.mul_mod_right]; rfl
        simp only [decide_true, if_true, hw, hm, if_pos (show (L : Int) > 0 by omega), if_neg (show ¬ (L : Int) = 0 by omega), if_pos (show (0 : Int) < (L : Int) by omega), rdL_head]
        refine Ev.bind (Equal_ev c c (by omega)) ?_
        simp only [decide_true, if_true]
        exact Ev.bind awake_ev (Ev.some _)
      · simp only [if_neg ho, show ¬ ((2 : Int) = 0) by decide, if_false, if_true]
        refine Ev.succ ?_
        simp only [sackbutlaw05_RowsClosed.j0, if_true, show ¬ ((0 : Int) = 2) by decide, if_false]
        refine Ev.bind (Row_ev a) ?_
        simp only [ha, decide_true, if_true]
        exact Ev.bind awake_ev (Ev.some _)
    · simp only [if_neg hk]
      refine Ev.bind_some (clone_f5 (by simp)) ?_
      refine Ev.bind (Form_ev [] other j) ?_
      refine Ev.bind_some (list_f l) ?_
      refine Ev.bind_some (Forms_f _) ?_
      simp only [show ¬ ((2 : Int) = 0) by decide, if_false]
      refine Ev.succ ?_
      simp only [sackbutlaw05_RowsClosed.j0, if_true]
      exact Ev.bind awake_ev (Ev.some _)
  · simp only [isRow_take, hr, false_and, if_false]
    refine Ev.bind_some (clone_f5 (by simp)) ?_
    refine Ev.bind (Form_ev [] other j) ?_
    refine Ev.bind_some (list_f l) ?_
    refine Ev.bind_some (Forms_f _) ?_
    simp only [show ¬ ((2 : Int) = 0) by decide, if_false]
    refine Ev.succ ?_
    simp only [sackbutlaw05_RowsClosed.j0, if_true]
    exact Ev.bind awake_ev (Ev.some _)

end Go.Proofs.Ytknchioabngbiaa.P
namespace Go.Proofs.Ytknchioabngbiaa.Pure
theorem RowsClosed : Go.Proofs.Ytknchioabngbiaa.P.sackbutlaw05_RowsClosed.Pure := Go.Proofs.Ytknchioabngbiaa.P.RowsClosed
end Go.Proofs.Ytknchioabngbiaa.Pure
namespace Go.Proofs.Ytknchioabngbiaa.rowsClosed
open Go.ChangeShapes Go.WideShapes Go.ChangeAt Go.RowKit
open Go.ChangeMaps (open_string shut_string)
set_option linter.unusedVariables false
theorem own : ownKnob Try.prog.godebug = none := by kernel_rfl
theorem laidOut : laidOutB Try.prog = true := by kernel_rfl
def IsRow (k : IntKind) (w : World) (a : Option Addr) (len cap : Nat) (zs : List Int) : Prop :=
  (a = none ∧ len = 0 ∧ cap = 0 ∧ zs = []) ∨
  ∃ x, a = some x ∧ len ≤ cap ∧ cap ≤ maxLen ∧ zs.length = cap ∧ (∀ i, i < zs.length → w.cell? (x.add i) = some (.int k (zs.getD i 0))) ∧ ∀ n ∈ zs, (Lit.int k n).wf = true
set_option maxRecDepth 100000 in
theorem lifted (os : Os) (started : os.Started) (H : Type) (enc : TypeId × Value → H) :
    ReturnsInHanded {} Try.checked os 6 .any (Rows.rowsClosedSpec.pre6 enc Try.prog Try.f6 Rows.rowsClosedRow.domain false) (Rows.rowsClosedSpec.post enc Try.prog Try.f6 false true false false) := by
  refine returnsInHanded_of_change_sized (C := Try.checked) own started (by kernel_rfl) Try.func6
    (ChangeSpec.witness6 (enc := enc) (C := Try.checked) false ⟨#[], #[.slice none 0 0, .int .i64 0, .int .i64 0, .int .i64 0, .int .i64 0], []⟩ 8 (by kernel_rfl) (by kernel_rfl) (by kernel_rfl) (by kernel_rfl)) ?_
  intro W base args ds gs before hval0 hW hcnd hsz0 _
  have hsz : (DataW.weightsEach Try.prog (Try.f6.params.toList ++ Rows.rowsClosedSpec.plain.varTypes Try.prog) (ds ++ gs)).all (· ≤ reachBytes) = true := hsz0
  have hval : ∀ (j : Nat) t v, Try.f6.params[j]? = some t → args[j]? = some v → Value.okWide Try.prog W .any base t v := hval0
  have hW' := hW
  obtain ⟨p, q, hA0, hV, rfl, hfz, hnd⟩ := hW
  have hA : DataW.TrodAll enc Try.prog W 0 (fun _ => true) true Try.f6.params.toList args.toList ds p := hA0
  rw [Try.params6] at hA hval hsz
  obtain ⟨v0, vs0, d0, ds0, p0, q0, hargs, rfl, rfl, h0, r0⟩ := trodAll_cons hA
  obtain ⟨v1, vs1, d1, ds1, p1, q1, rfl, rfl, rfl, h1, r1⟩ := trodAll_cons r0
  obtain ⟨v2, vs2, d2, ds2, p2, q2, rfl, rfl, rfl, h2, r2⟩ := trodAll_cons r1
  obtain ⟨v3, vs3, d3, ds3, p3, q3, rfl, rfl, rfl, h3, r3⟩ := trodAll_cons r2
  obtain ⟨v4, vs4, d4, ds4, p4, q4, rfl, rfl, rfl, h4, r4⟩ := trodAll_cons r3
  obtain ⟨rfl, rfl, rfl⟩ := trodAll_nil r4
  obtain rfl : args = #[v0, v1, v2, v3, v4] := by cases args; simp_all
  obtain ⟨rfl, rfl⟩ := trodVars_none hV
  obtain ⟨a0, len0, cap0, rfl⟩ := okWide_slice Try.underlying27 (hval 0 27 v0 rfl rfl)
  have k0 := h0
  have lt0 : ∀ x ∈ p0, x.block < W.heap.size := by obtain ⟨m, hm⟩ := k0; exact DataW.trod_lt m _ _ _ hm
  obtain ⟨z0, w0⟩ : ∃ zs, IsRow .i64 W a0 len0 cap0 zs := by
    obtain ⟨fuel, hf⟩ := h0
    rcases open_ints Try.underlying27 Try.underlying3 (by kernel_rfl) hf with ⟨hcs, _⟩ | ⟨x, l, c, zs, hcs, _, hl, hm, hz, _, hcell, hwz⟩
    · simp [Value.cells] at hcs
      obtain ⟨rfl, rfl, rfl⟩ := hcs
      exact ⟨[], .inl ⟨rfl, rfl, rfl, rfl⟩⟩
    · simp [Value.cells] at hcs
      obtain ⟨rfl, rfl, rfl⟩ := hcs
      exact ⟨zs, .inr ⟨_, rfl, hl, hm, by simpa using hz, hcell, hwz⟩⟩
  have y0 : len0 * 8 ≤ 140737488351232 := Go.Proofs.YtknchioabngbiaaW.PrintWords.sized_ints hsz (j := 0) (t := 27) rfl rfl Try.underlying27 Try.underlying3 (by kernel_rfl) (by kernel_rfl) h0
  obtain ⟨a1, rfl, rfl, rfl, w1⟩ := open_int Try.underlying3 (hval 1 3 v1 rfl rfl) h1
  obtain ⟨a2, rfl, rfl, rfl, w2⟩ := open_int Try.underlying3 (hval 2 3 v2 rfl rfl) h2
  obtain ⟨a3, rfl, rfl, rfl, w3⟩ := open_int Try.underlying3 (hval 3 3 v3 rfl rfl) h3
  obtain ⟨a4, rfl, rfl, rfl, w4⟩ := open_int Try.underlying3 (hval 4 3 v4 rfl rfl) h4
  clear hA0 hval0 hsz0 hsz
  refine (P.sackbutlaw05_RowsClosed.walk Pure.RowsClosed a0 len0 cap0 z0 a1 a2 a3 a4 W w0 y0 w1 w2 w3 w4).mono fun e W' ⟨he, bel⟩ => ?_
  subst he
  exact ⟨_, rfl, _, _, _, [], _, [], hW', trodAll_mk1 (shut_bool Try.underlying4 _), (trodAll_cons_mk (Below.trod laidOut (by kernel_rfl) (of_decide_eq_true (by kernel_rfl)) k0 bel lt0) (trodAll_cons_mk (shut_int Try.underlying3 w1) (trodAll_cons_mk (shut_int Try.underlying3 w2) (trodAll_cons_mk (shut_int Try.underlying3 w3) (trodAll_cons_mk (shut_int Try.underlying3 w4) trodAll_mk0))))), rfl, bel.frame _, fun h => by cases h⟩
theorem over : Rows.rowsClosedRow.holds Try.pinned (OpenSpec.ofChange Rows.rowsClosedSpec) :=
  OpenClaim.holds_of_wide 6 Try.f6 rfl rfl rfl rfl rfl rfl rfl ⟨rfl, rfl, rfl, rfl, rfl⟩ rfl rfl rfl rfl rfl (by kernel_rfl) Try.func6 (by kernel_rfl)
    (of_decide_eq_true (by kernel_rfl)) (by unfold Func.isWrapper; first | (rw [if_pos (by decide +kernel)]; kernel_rfl) | (rw [if_neg (by decide +kernel)]; exact ⟨rfl, rfl⟩))
    (fun os started H enc _ => lifted os started H enc)
theorem proved : Rows.RowsClosedSaid := over
#print axioms proved
end Go.Proofs.Ytknchioabngbiaa.rowsClosed
namespace Go.Proofs.Ytknchioabngbiaa
/-- The row, under a short name, for the claim. -/
theorem rowsClosed_holds : Rows.RowsClosedSaid := rowsClosed.proved
end Go.Proofs.Ytknchioabngbiaa
