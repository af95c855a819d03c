/- A part of a proof that a law's Go function returns true for every input, laid by this session's program mp.py (which drives the kit's print). Conditions: as each theorem states them. -/
import Derived.Test.YtkidgakjeahebaaMCirc
import Derived.Test.YtkidgakjeahebaaMTile
import Derived.Test.YtkidgakjeahebaaP0
import Derived.Test.YtkidgakjeahebaaPf10
import Derived.Test.YtkidgakjeahebaaPf13
import Derived.Test.YtkidgakjeahebaaPf3
import Derived.Test.YtkidgakjeahebaaPf9
import Derived.Test.YtkidgakjeahebaaQBase
import Derived.Test.YtkidgakjeahebaaQCanon
import Derived.Test.YtkidgakjeahebaaQEnter
namespace Go.Proofs.Ytkidgakjeahebaa.P
open Go.RowKit Go.Proofs.YtkidgakjeahebaaW.PrintWords Go.Proofs.YtkidgakjeahebaaW.PrintLast Go.Proofs.YtkidgakjeahebaaW.PrintMore
attribute [local go_sem] max2_int min2_int max_two min_two max_three min_three max_four min_four   -- for this text's walks alone
set_option linter.unusedVariables false
set_option linter.unusedSimpArgs false

theorem refEnter_loop {n a b x y : Nat} (hn : n ≤ 24) (ha : a < 2 ^ n) (hb : b < 2 ^ n) (hx : x < n) (hy : y < n) (h1 : b.testBit y = true) (h2 : (moveN n a y).testBit x = true) (h3 : ∀ z, z < y → ¬ (b.testBit z = true ∧ (moveN n a z).testBit x = true)) : ∀ (m d : Nat), d + m = y →
    Ev (fun k => sackbutref02_Enter.l0 k (n : Int) (a : Int) (b : Int) (x : Int) (d : Int)) ((y : Int), 0) := by
  intro m
  have px : (0 : Int) ≤ (x : Int) := Int.natCast_nonneg x
  induction m with
  | zero =>
    intro d hd
    have hdy : d = y := by omega
    subst hdy
    have p0 : (0 : Int) ≤ (d : Int) := Int.natCast_nonneg d
    have hbit := bit_not hn hb (show d ≤ 64 by omega)
    have hbit2 := bit_not hn (moveN_lt n a d) (show x ≤ 64 by omega)
    have q1 : ¬ Go.bits .and .i64 (shr .i64 (b : Int) (d : Int)) 1 = 0 := by rw [hbit]; simp [h1]
    have q2 : ¬ Go.bits .and .i64 (shr .i64 ((moveN n a d : Nat) : Int) (x : Int)) 1 = 0 := by rw [hbit2]; simp [h2]
    refine Ev.succ ?_
    simp only [sackbutref02_Enter.l0, if_pos p0, if_neg q1]
    refine Ev.bind_some (moved_f hn (by omega) ha) ?_
    simp only [if_pos px, if_neg q2]
    exact Ev.some _
  | succ m ih =>
    intro d hd
    have p0 : (0 : Int) ≤ (d : Int) := Int.natCast_nonneg d
    have hbit := bit_not hn hb (show d ≤ 64 by omega)
    have hbit2 := bit_not hn (moveN_lt n a d) (show x ≤ 64 by omega)
    have go := ih (d + 1) (by omega)
    have hz := h3 d (by omega)
    have hw := next_w (d := d) (by omega)
    refine Ev.succ ?_
    simp only [sackbutref02_Enter.l0, if_pos p0, hw]
    refine Ev.ite (fun _ => go) (fun e => ?_)
    refine Ev.bind_some (moved_f hn (by omega) ha) ?_
    simp only [if_pos px]
    refine Ev.ite (fun _ => go) (fun e2 => ?_)
    exfalso
    rw [hbit, Classical.not_not] at e
    rw [hbit2, Classical.not_not] at e2
    exact hz ⟨e, e2⟩
theorem refEnter_ev {n a b x : Nat} (hn : n ≤ 24) (ha : a < 2 ^ n) (hb : b < 2 ^ n) (hx : x < n) : Ev (fun k => sackbutref02_Enter.f k (n : Int) (a : Int) (b : Int) (x : Int)) (if h : Tiled n a b then (((tiled_enter h hx).choose : Int), 0) else (0, 4)) := by
  unfold sackbutref02_Enter.f
  refine Ev.bind (refTiles_ev hn ha hb) ?_
  by_cases h : Tiled n a b
  · simp only [h, decide_true, if_true, dite_true]
    have hs := (tiled_enter h hx).choose_spec
    exact refEnter_loop hn ha hb hx hs.1 hs.2.1 hs.2.2.1 hs.2.2.2.1 _ 0 (Nat.zero_add _)
  · simp only [h, decide_false, Bool.false_eq_true, if_false, dite_false]
    exact Ev.some _
theorem CanonTiles : sackbutlaw02_CanonTiles.Pure := by
  intro n a b x _ _ _ _
  refine Ev.rounds (g := fun k => sackbutlaw02_CanonTiles.f k n a b x) ?_
  unfold sackbutlaw02_CanonTiles.f
  refine Ev.bind (Tiles_ev n a b) ?_
  have hr1 := rhythm_f n a; have hr2 := rhythm_f n b
  by_cases hv : ValidR n a ∧ ValidR n b
  · simp only [hv, and_self, if_true]
    have fin : ∀ y f : Int, Ev (fun k => canon_Enter.f k n a b x) (y, f) → (x < 0 ∨ x ≥ n → y = 0 ∧ f = 2) → (¬ (x < 0 ∨ x ≥ n) → Ev (fun k => sackbutref02_Enter.f k n a b x) (y, f)) →
        Ev (fun k => (canon_Enter.f k n a b x).bind fun bt1003 => (sackbutref02_Rhythm.f n a).bind fun t1005 => if t1005 = true then (sackbutref02_Rhythm.f n b).bind fun t1006 => sackbutlaw02_CanonTiles.j0 k n a b x (decide (Tiled n.toNat a.toNat b.toNat)) 0 bt1003.1 bt1003.2 (!t1006) else sackbutlaw02_CanonTiles.j0 k n a b x (decide (Tiled n.toNat a.toNat b.toNat)) 0 bt1003.1 bt1003.2 true) true := by
      intro y f h1 h2 h3
      refine Ev.bind h1 ?_
      refine Ev.bind_some hr1 ?_
      simp only [hv, decide_true, if_true]
      refine Ev.bind_some hr2 ?_
      simp only [hv, decide_true, Bool.not_true]
      refine Ev.succ ?_
      simp only [sackbutlaw02_CanonTiles.j0, Bool.false_eq_true, if_false]
      obtain ⟨N, A, rfl, rfl, h2', h24, hA, _⟩ := validR_nat hv.1
      obtain ⟨N', B, e, rfl, _, _, hB, _⟩ := validR_nat hv.2
      obtain rfl : N = N' := by omega
      refine Ev.bind (refTiles_ev h24 hA hB) ?_
      simp only [Int.toNat_natCast, bne_self_eq_false, Bool.false_eq_true, if_false, if_true]
      refine Ev.bind awake_ev ?_
      refine Ev.succ ?_
      simp only [sackbutlaw02_CanonTiles.j1, Bool.not_true, Bool.false_eq_true, if_false]
      refine Ev.ite (fun e => ?_) (fun e => ?_)
      · obtain ⟨rfl, rfl⟩ := h2 (Or.inl e)
        exact Ev.some _
      · refine Ev.ite (fun e2 => ?_) (fun e2 => ?_)
        · obtain ⟨rfl, rfl⟩ := h2 (Or.inr e2)
          exact Ev.some _
        · refine Ev.bind (h3 (fun h => h.elim e e2)) ?_
          simp only [if_true, beq_self_eq_true]
          exact Ev.some _
    by_cases hx : 0 ≤ x ∧ x < n
    · refine fin _ _ (Enter_ev n a b x hv hx.1 hx.2) (fun h => by omega) (fun _ => ?_)
      obtain ⟨N, A, rfl, rfl, h2', h24, hA, _⟩ := validR_nat hv.1
      obtain ⟨N', B, e, rfl, _, _, hB, _⟩ := validR_nat hv.2
      obtain rfl : N = N' := by omega
      obtain ⟨X, rfl⟩ := Int.eq_ofNat_of_zero_le hx.1
      exact refEnter_ev h24 hA hB (by omega)
    · refine fin 0 2 (Enter_bad n a b x (fun h => hx h.2.2)) (fun _ => ⟨rfl, rfl⟩) (fun h => ?_)
      exact absurd ⟨by omega, by omega⟩ hx
  · simp only [if_neg hv]
    refine Ev.bind (Enter_bad n a b x (fun h => hv ⟨h.1, h.2.1⟩)) ?_
    have fin : Ev (fun k => sackbutlaw02_CanonTiles.j0 k n a b x false 2 0 2 true) true := by
      refine Ev.succ ?_
      simp only [sackbutlaw02_CanonTiles.j0, Bool.false_eq_true, if_false, if_true]
      exact Ev.bind awake_ev (Ev.some _)
    refine Ev.bind_some hr1 ?_
    by_cases ha : ValidR n a
    · simp only [ha, decide_true, if_true]
      refine Ev.bind_some hr2 ?_
      have hb : ¬ ValidR n b := fun h => hv ⟨ha, h⟩
      simp only [hb, decide_false, Bool.not_false]
      exact fin
    · simp only [ha, decide_false, Bool.false_eq_true, if_false]
      exact fin

end Go.Proofs.Ytkidgakjeahebaa.P
