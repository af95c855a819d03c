/- A part of a proof that a law's Go function returns true for every input, laid by this session's program mp.py (which drives the kit's print). Conditions: as each theorem states them. -/
import Derived.Test.YtkidgakjeahebaaMCirc
import Derived.Test.YtkidgakjeahebaaMTile
import Derived.Test.YtkidgakjeahebaaP0
import Derived.Test.YtkidgakjeahebaaPf9
import Derived.Test.YtkidgakjeahebaaQBase
import Derived.Test.YtkidgakjeahebaaQCanon
namespace Go.Proofs.Ytkidgakjeahebaa.P
open Go.RowKit Go.Proofs.YtkidgakjeahebaaW.PrintWords Go.Proofs.YtkidgakjeahebaaW.PrintLast Go.Proofs.YtkidgakjeahebaaW.PrintMore
attribute [local go_sem] max2_int min2_int max_two min_two max_three min_three max_four min_four   -- for this text's walks alone
set_option linter.unusedVariables false
set_option linter.unusedSimpArgs false

theorem enter_loop {n a b x y : Nat} (hn : n ≤ 24) (ha : a < 2 ^ n) (hb : b < 2 ^ n) (hx : x < n) (hy : y < n) (h1 : b.testBit y = true) (h2 : (moveN n a y).testBit x = true) (h3 : ∀ z, z < y → ¬ (b.testBit z = true ∧ (moveN n a z).testBit x = true)) : ∀ (m d : Nat), d + m = y →
    Ev (fun k => canon_Enter.l0 k (a : Int) (b : Int) (x : Int) (n : Int) (d : Int)) ((y : Int), 0) := by
  intro m
  have px : (0 : Int) ≤ (x : Int) := Int.natCast_nonneg x
  induction m with
  | zero =>
    intro d hd
    have hdy : d = y := by omega
    subst hdy
    have p0 : (0 : Int) ≤ (d : Int) := Int.natCast_nonneg d
    have hbit := bit_not hn hb (show d ≤ 64 by omega)
    have hbit2 := bit_not hn (moveN_lt n a d) (show x ≤ 64 by omega)
    have q1 : ¬ Go.bits .and .i64 (shr .i64 (b : Int) (d : Int)) 1 = 0 := by rw [hbit]; simp [h1]
    have q2 : ¬ Go.bits .and .i64 (shr .i64 ((moveN n a d : Nat) : Int) (x : Int)) 1 = 0 := by rw [hbit2]; simp [h2]
    refine Ev.succ ?_
    simp only [canon_Enter.l0, if_pos p0, if_neg q1]
    refine Ev.bind_some (move_f hn (by omega) ha) ?_
    simp only [if_pos px, if_neg q2]
    exact Ev.some _
  | succ m ih =>
    intro d hd
    have p0 : (0 : Int) ≤ (d : Int) := Int.natCast_nonneg d
    have hbit := bit_not hn hb (show d ≤ 64 by omega)
    have hbit2 := bit_not hn (moveN_lt n a d) (show x ≤ 64 by omega)
    have go := ih (d + 1) (by omega)
    have hz := h3 d (by omega)
    have hw := next_w (d := d) (by omega)
    refine Ev.succ ?_
    simp only [canon_Enter.l0, if_pos p0, hw]
    refine Ev.ite (fun _ => go) (fun e => ?_)
    refine Ev.bind_some (move_f hn (by omega) ha) ?_
    simp only [if_pos px]
    refine Ev.ite (fun _ => go) (fun e2 => ?_)
    exfalso
    rw [hbit, Classical.not_not] at e
    rw [hbit2, Classical.not_not] at e2
    exact hz ⟨e, e2⟩
theorem Enter_ev (n a b x : Int) (hv : ValidR n a ∧ ValidR n b) (h0 : 0 ≤ x) (h1 : x < n) : Ev (fun k => canon_Enter.f k n a b x) (if h : Tiled n.toNat a.toNat b.toNat then (((tiled_enter h (show x.toNat < n.toNat by omega)).choose : Int), 0) else (0, 4)) := by
  obtain ⟨N, A, rfl, rfl, h2, h24, hA, _⟩ := validR_nat hv.1
  obtain ⟨N', B, e, rfl, _, _, hB, _⟩ := validR_nat hv.2
  obtain rfl : N = N' := by omega
  obtain ⟨X, rfl⟩ := Int.eq_ofNat_of_zero_le h0
  have q0 : ¬ (X : Int) < 0 := by omega
  have q1 : decide ((X : Int) ≥ (N : Int)) = false := decide_eq_false (by omega)
  unfold canon_Enter.f
  refine Ev.bind_some (valid2_f _ _ _) ?_
  simp only [hv, and_self, decide_true, if_true, if_neg q0, q1, Int.toNat_natCast]
  refine Ev.succ ?_
  simp only [canon_Enter.j0, Bool.false_eq_true, if_false]
  refine Ev.bind (tiles_ev h24 hA hB) ?_
  by_cases h : Tiled N A B
  · simp only [h, decide_true, if_true, dite_true]
    have hs := (tiled_enter h (show X < N by omega)).choose_spec
    exact enter_loop h24 hA hB (by omega) hs.1 hs.2.1 hs.2.2.1 hs.2.2.2.1 _ 0 (Nat.zero_add _)
  · simp only [h, decide_false, Bool.false_eq_true, if_false, dite_false]
    exact Ev.some _
theorem Enter_bad (n a b x : Int) (hv : ¬ (ValidR n a ∧ ValidR n b ∧ 0 ≤ x ∧ x < n)) : Ev (fun k => canon_Enter.f k n a b x) (0, 2) := by
  unfold canon_Enter.f
  refine Ev.bind_some (valid2_f _ _ _) ?_
  by_cases h : ValidR n a ∧ ValidR n b
  · simp only [h, and_self, decide_true, if_true]
    refine Ev.ite (fun _ => ?_) (fun e => ?_)
    · refine Ev.succ ?_
      simp only [canon_Enter.j0, if_true]
      exact Ev.some _
    · have q1 : decide (x ≥ n) = true := decide_eq_true (by
        rcases Int.lt_or_le x n with c | c
        · exact absurd ⟨h.1, h.2, by omega, c⟩ hv
        · exact c)
      refine Ev.succ ?_
      simp only [canon_Enter.j0, q1, if_true]
      exact Ev.some _
  · simp only [h, decide_false, Bool.false_eq_true, if_false]
    refine Ev.succ ?_
    simp only [canon_Enter.j0, if_true]
    exact Ev.some _

end Go.Proofs.Ytkidgakjeahebaa.P
