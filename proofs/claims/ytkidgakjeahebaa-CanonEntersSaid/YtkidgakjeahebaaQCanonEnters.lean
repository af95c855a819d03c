/- A part of a proof that a law's Go function returns true for every input, laid by this session's program mp.py (which drives the kit's print). Conditions: as each theorem states them. -/
import Derived.Test.YtkidgakjeahebaaMCirc
import Derived.Test.YtkidgakjeahebaaMTile
import Derived.Test.YtkidgakjeahebaaP0
import Derived.Test.YtkidgakjeahebaaPf4
import Derived.Test.YtkidgakjeahebaaQBase
import Derived.Test.YtkidgakjeahebaaQCanon
import Derived.Test.YtkidgakjeahebaaQEnter
namespace Go.Proofs.Ytkidgakjeahebaa.P
open Go.RowKit Go.Proofs.YtkidgakjeahebaaW.PrintWords Go.Proofs.YtkidgakjeahebaaW.PrintLast Go.Proofs.YtkidgakjeahebaaW.PrintMore
attribute [local go_sem] max2_int min2_int max_two min_two max_three min_three max_four min_four   -- for this text's walks alone
set_option linter.unusedVariables false
set_option linter.unusedSimpArgs false

theorem back_mod {n x y : Nat} (hn : n ≤ 24) (hx : x < n) (hy : y < n) : Int.tmod (wrap64 (wrap64 ((x : Int) - (y : Int)) + (n : Int))) (n : Int) = (((x + (n - y)) % n : Nat) : Int) := by
  rw [wrap_id (n := (x : Int) - (y : Int)) (by omega) (by omega), wrap_id (by omega) (by omega)]
  rw [show (x : Int) - (y : Int) + (n : Int) = ((x + (n - y) : Nat) : Int) by omega, Int.tmod_eq_emod_of_nonneg (by omega)]
  exact (Int.natCast_emod _ _).symm
theorem enters_loop {n a b x y : Nat} (hn : n ≤ 24) (ha : a < 2 ^ n) (hb : b < 2 ^ n) (hx : x < n) (hu : ∀ z, z < n → b.testBit z = true → (moveN n a z).testBit x = true → z = y) : ∀ (m d : Nat), d + m = n →
    Ev (fun k => sackbutlaw02_CanonEnters.l0 k (n : Int) (a : Int) (b : Int) (x : Int) (y : Int) (n : Int) (d : Int)) true := by
  intro m
  induction m with
  | zero =>
    intro d hd
    have p1 : ¬ (d : Int) < (n : Int) := by omega
    refine Ev.succ ?_
    simp only [sackbutlaw02_CanonEnters.l0, if_neg p1]
    exact Ev.bind awake_ev (Ev.some _)
  | succ m ih =>
    intro d hd
    have p0 : (0 : Int) ≤ (d : Int) := Int.natCast_nonneg d
    have p1 : (d : Int) < (n : Int) := by omega
    have p2 : d < n := by omega
    have pn : ¬ (n : Int) = 0 := by omega
    have hm := Nat.mod_lt (x + (n - d)) (show n > 0 by omega)
    have pm : (0 : Int) ≤ (((x + (n - d)) % n : Nat) : Int) := Int.natCast_nonneg _
    have hbit := bit_is hn hb (show d ≤ 64 by omega)
    have hbit2 := bit_is hn ha (show (x + (n - d)) % n ≤ 64 by omega)
    have htm := testBit_moveN ha p2 hx
    have go := ih (d + 1) (by omega)
    have hz := hu d p2
    have hback := back_mod hn hx p2
    have hw := next_w (d := d) (by omega)
    refine Ev.succ ?_
    simp only [sackbutlaw02_CanonEnters.l0, if_pos p1, if_pos p0, if_neg pn, hback, if_pos pm, hw]
    refine Ev.ite (fun _ => go) (fun e => ?_)
    refine Ev.ite (fun e2 => ?_) (fun _ => go)
    refine Ev.ite (fun e3 => ?_) (fun _ => go)
    exfalso
    rw [hbit] at e2
    rw [hbit2, ← htm] at e3
    exact e (by rw [hz e2 e3])
theorem CanonEnters : sackbutlaw02_CanonEnters.Pure := by
  intro n a b x _ _ _ _
  refine Ev.rounds (g := fun k => sackbutlaw02_CanonEnters.f k n a b x) ?_
  unfold sackbutlaw02_CanonEnters.f
  by_cases hv : ValidR n a ∧ ValidR n b ∧ 0 ≤ x ∧ x < n
  · refine Ev.bind (Enter_ev n a b x ⟨hv.1, hv.2.1⟩ hv.2.2.1 hv.2.2.2) ?_
    have hr1 := rhythm_f n a; have hr2 := rhythm_f n b
    simp only [hv.1, decide_true] at hr1
    simp only [hv.2.1, decide_true] at hr2
    obtain ⟨N, A, rfl, rfl, h2, h24, hA, _⟩ := validR_nat hv.1
    obtain ⟨N', B, e, rfl, _, _, hB, _⟩ := validR_nat hv.2.1
    obtain rfl : N = N' := by omega
    obtain ⟨X, rfl⟩ := Int.eq_ofNat_of_zero_le hv.2.2.1
    have q0 : ¬ (X : Int) < 0 := by omega
    have q1 : decide ((X : Int) ≥ (N : Int)) = false := decide_eq_false (by omega)
    simp only [Int.toNat_natCast]
    by_cases h : Tiled N A B
    · have hX : X < N := by omega
      have hs := (tiled_enter h hX).choose_spec
      simp only [h, dite_true]
      generalize (tiled_enter h hX).choose = y at hs ⊢
      obtain ⟨hy, h1, h2', _, h4⟩ := hs
      have pn : ¬ (N : Int) = 0 := by omega
      have hm := Nat.mod_lt (X + (N - y)) (show N > 0 by omega)
      have pm : (0 : Int) ≤ (((X + (N - y)) % N : Nat) : Int) := Int.natCast_nonneg _
      have p0 : (0 : Int) ≤ (y : Int) := Int.natCast_nonneg y
      have p1 : ¬ (y : Int) < 0 := by omega
      have p2 : ¬ (y : Int) ≥ (N : Int) := by omega
      have hbit := bit_not h24 hB (show y ≤ 64 by omega)
      have hb1 : ¬ Go.bits .and .i64 (shr .i64 (B : Int) (y : Int)) 1 = 0 := by rw [hbit]; simp [h1]
      have hb2 := bit_r h24 hA (show (X + (N - y)) % N ≤ 64 by omega)
      rw [testBit_moveN hA hy hX] at h2'
      rw [h2', if_pos rfl] at hb2
      have hback := back_mod h24 hX hy
      have hone : ((1 : Int) == 0) = false := rfl
      simp only [if_true]
      refine Ev.bind_some hr1 ?_
      simp only [if_true]
      refine Ev.bind_some hr2 ?_
      simp only [if_true, if_neg q0, q1]
      refine Ev.succ ?_
      simp only [sackbutlaw02_CanonEnters.j0, Bool.false_eq_true, if_false, if_neg p1, if_neg p2, if_pos p0, if_neg hb1, if_neg pn, hback, if_pos pm, hb2, hone]
      refine Ev.succ ?_
      simp only [sackbutlaw02_CanonEnters.j1, Bool.false_eq_true, if_false]
      exact enters_loop h24 hA hB hX h4 N 0 (by omega)
    · simp only [h, dite_false, if_neg (show ¬ (4 : Int) = 0 by decide)]
      refine Ev.succ ?_
      simp only [sackbutlaw02_CanonEnters.j0, if_true, if_neg (show ¬ (4 : Int) = 2 by decide)]
      exact Ev.bind awake_ev (Ev.some _)
  · refine Ev.bind (Enter_bad n a b x hv) ?_
    simp only [if_neg (show ¬ (2 : Int) = 0 by decide)]
    refine Ev.succ ?_
    simp only [sackbutlaw02_CanonEnters.j0, if_true]
    exact Ev.bind awake_ev (Ev.some _)

end Go.Proofs.Ytkidgakjeahebaa.P
