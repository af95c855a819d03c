/- A part of a proof that a law's Go function returns true for every input, laid by this session's program mp.py (which drives the kit's print). Conditions: as each theorem states them. -/
import Derived.Test.YtkidgakjeahebaaMPeriod
import Derived.Test.YtkidgakjeahebaaP0
import Derived.Test.YtkidgakjeahebaaPf10
import Derived.Test.YtkidgakjeahebaaPf11
import Derived.Test.YtkidgakjeahebaaPf14
import Derived.Test.YtkidgakjeahebaaPf15
import Derived.Test.YtkidgakjeahebaaPf16
import Derived.Test.YtkidgakjeahebaaPf17
import Derived.Test.YtkidgakjeahebaaPf18
import Derived.Test.YtkidgakjeahebaaPf34
import Derived.Test.YtkidgakjeahebaaPf35
import Derived.Test.YtkidgakjeahebaaPf5
import Derived.Test.YtkidgakjeahebaaQBase
import Derived.Test.YtkidgakjeahebaaQCanon
namespace Go.Proofs.Ytkidgakjeahebaa.P
open Go.RowKit Go.Proofs.YtkidgakjeahebaaW.PrintWords Go.Proofs.YtkidgakjeahebaaW.PrintLast Go.Proofs.YtkidgakjeahebaaW.PrintMore
attribute [local go_sem] max2_int min2_int max_two min_two max_three min_three max_four min_four   -- for this text's walks alone
set_option linter.unusedVariables false
set_option linter.unusedSimpArgs false

theorem isPer_mod {n d : Nat} : (Int.tmod (n : Int) (d : Int) = 0) ↔ n % d = 0 := by
  rw [Int.tmod_eq_emod_of_nonneg (by omega), ← Int.natCast_emod]; omega
theorem isPeriod_f {n a d : Nat} (hn : n ≤ 24) (hn1 : 1 ≤ n) (ha : a < 2 ^ n) (h1 : 1 ≤ d) : canon_circle_isPeriod.f (n : Int) (a : Int) (d : Int) = some (decide (IsPer n a d)) := by
  unfold canon_circle_isPeriod.f
  rw [if_pos (by omega), if_neg (by omega)]
  by_cases hm : n % d = 0
  · have hdn : d ≤ n := Nat.le_of_dvd (by omega) (Nat.dvd_of_mod_eq_zero hm)
    rw [if_pos (isPer_mod.2 hm), move_f hn hdn ha, Option.bind_some]
    congr 1
    rw [Bool.eq_iff_iff, beq_iff_eq, decide_eq_true_eq]
    unfold IsPer
    omega
  · rw [if_neg (fun h => hm (isPer_mod.1 h))]
    have : ¬ IsPer n a d := fun h => hm h.2.2.1
    rw [decide_eq_false this]
theorem refIs_f {n a d : Nat} (hn : n ≤ 24) (hn1 : 1 ≤ n) (ha : a < 2 ^ n) (h1 : 1 ≤ d) : sackbutref02_Is.f (n : Int) (a : Int) (d : Int) = some (decide (IsPer n a d)) := by
  unfold sackbutref02_Is.f
  rw [if_pos (by omega)]
  by_cases hdn : d ≤ n
  · rw [if_pos (by omega), if_neg (by omega)]
    by_cases hm : n % d = 0
    · rw [if_pos (isPer_mod.2 hm)]
      by_cases e : d = n
      · subst e
        rw [if_pos rfl, decide_eq_true (isPer_all hn1 ha)]
      · rw [if_neg (by omega), moved_f hn hdn ha, Option.bind_some]
        congr 1
        rw [Bool.eq_iff_iff, beq_iff_eq, decide_eq_true_eq]
        unfold IsPer
        omega
    · rw [if_neg (fun h => hm (isPer_mod.1 h))]
      have : ¬ IsPer n a d := fun h => hm h.2.2.1
      rw [decide_eq_false this]
  · rw [if_neg (by omega)]
    have : ¬ IsPer n a d := fun h => hdn h.2.1
    rw [decide_eq_false this]
theorem period_ev {n a p : Nat} (hn : n ≤ 24) (hn1 : 1 ≤ n) (ha : a < 2 ^ n) (hp : IsPer n a p) (hl : ∀ d, d < p → ¬ IsPer n a d) : ∀ (m d : Nat), 1 ≤ d → d + m = p →
    Ev (fun k => canon_circle_period.l0 k (n : Int) (a : Int) (d : Int)) (p : Int) := by
  intro m
  have hpn := hp.2.1
  induction m with
  | zero =>
    intro d h1 hd
    have hdp : d = p := by omega
    subst hdp
    refine Ev.succ ?_
    simp only [canon_circle_period.l0]
    refine Ev.bind_some (isPeriod_f hn hn1 ha h1) ?_
    simp only [hp, decide_true, if_true]
    exact Ev.some _
  | succ m ih =>
    intro d h1 hd
    have go := ih (d + 1) (by omega) (by omega)
    have hw := next_w (d := d) (by omega)
    have hnot := hl d (by omega)
    refine Ev.succ ?_
    simp only [canon_circle_period.l0, hw]
    refine Ev.bind_some (isPeriod_f hn hn1 ha h1) ?_
    simp only [hnot, decide_false, Bool.false_eq_true, if_false]
    exact go
theorem refPeriod_ev {n a p : Nat} (hn : n ≤ 24) (hn1 : 1 ≤ n) (ha : a < 2 ^ n) (hp : IsPer n a p) (hl : ∀ d, d < p → ¬ IsPer n a d) : ∀ (m d : Nat), 1 ≤ d → d + m = p →
    Ev (fun k => sackbutref02_Period.l0 k (n : Int) (a : Int) (d : Int)) (p : Int) := by
  intro m
  have hpn := hp.2.1
  induction m with
  | zero =>
    intro d h1 hd
    have hdp : d = p := by omega
    subst hdp
    refine Ev.succ ?_
    simp only [sackbutref02_Period.l0]
    refine Ev.bind_some (refIs_f hn hn1 ha h1) ?_
    simp only [hp, decide_true, if_true]
    exact Ev.some _
  | succ m ih =>
    intro d h1 hd
    have go := ih (d + 1) (by omega) (by omega)
    have hw := next_w (d := d) (by omega)
    have hnot := hl d (by omega)
    refine Ev.succ ?_
    simp only [sackbutref02_Period.l0, hw]
    refine Ev.bind_some (refIs_f hn hn1 ha h1) ?_
    simp only [hnot, decide_false, Bool.false_eq_true, if_false]
    exact go
theorem fold_loop {n a d : Nat} (hn : n ≤ 24) (ha : a < 2 ^ n) (h1 : 1 ≤ d) (h2 : d ≤ n) : ∀ (m x : Nat), x + m = n →
    Ev (fun k => sackbutref02_Fold.l0 k (a : Int) (d : Int) (foldTo a d x : Int) (n : Int) (x : Int)) (foldTo a d n : Int) := by
  intro m
  induction m with
  | zero =>
    intro x hd
    have hxn : x = n := by omega
    subst hxn
    have p1 : ¬ (x : Int) < (x : Int) := by omega
    refine Ev.succ ?_
    simp only [sackbutref02_Fold.l0, if_neg p1]
    exact Ev.some _
  | succ m ih =>
    intro x hd
    have p0 : (0 : Int) ≤ (x : Int) := Int.natCast_nonneg x
    have p1 : (x : Int) < (n : Int) := by omega
    have pd : ¬ (d : Int) = 0 := by omega
    have hmd := Nat.mod_lt x (show d > 0 by omega)
    have pm : (0 : Int) ≤ ((x % d : Nat) : Int) := Int.natCast_nonneg _
    have hbit := bit_is hn ha (show x ≤ 64 by omega)
    have hmod : Int.tmod (x : Int) (d : Int) = ((x % d : Nat) : Int) := by rw [Int.tmod_eq_emod_of_nonneg (by omega)]; exact (Int.natCast_emod _ _).symm
    have hsh := shl1_i64 (x := x % d) (by omega)
    have hor := or_r (n := n) (b := 2 ^ (x % d)) hn (foldTo_lt (n := n) (a := a) h1 h2 x) (Nat.pow_lt_pow_right (by omega) (by omega))
    have go := ih (x + 1) (by omega)
    have hw := next_w (d := x) (by omega)
    refine Ev.succ ?_
    simp only [sackbutref02_Fold.l0, if_pos p1, if_pos p0, if_neg pd, hmod, if_pos pm, hsh, hor, hw]
    refine Ev.ite (fun e => ?_) (fun e => ?_)
    · rw [hbit] at e
      simp only [foldTo, if_pos e] at go
      exact go
    · rw [hbit] at e
      simp only [foldTo, if_neg e] at go
      exact go
theorem refFold_ev {n a d : Nat} (hn : n ≤ 24) (ha : a < 2 ^ n) (h : IsPer n a d) : Ev (fun k => sackbutref02_Fold.f k (n : Int) (a : Int) (d : Int)) ((a &&& (2 ^ d - 1) : Nat) : Int) := by
  have := fold_loop hn ha h.1 h.2.1 n 0 (by omega)
  rw [foldTo_all ha h] at this
  simpa [sackbutref02_Fold.f, foldTo] using this
theorem Fold_bad (n a d : Int) (hv : ¬ (ValidR n a ∧ 2 ≤ d ∧ IsPer n.toNat a.toNat d.toNat)) : canon_Fold.f n a d = some (0, 2) := by
  unfold canon_Fold.f
  rw [valid1_f, Option.bind_some]
  by_cases h : ValidR n a
  · simp only [h, decide_true, if_true]
    by_cases h2 : d < 2
    · rw [if_pos h2]
    · rw [if_neg h2]
      by_cases h3 : d > n
      · rw [if_pos h3]
      · rw [if_neg h3]
        obtain ⟨N, A, rfl, rfl, h2', h24, hA, _⟩ := validR_nat h
        obtain ⟨D, rfl⟩ := Int.eq_ofNat_of_zero_le (show 0 ≤ d by omega)
        rw [isPeriod_f h24 (by omega) hA (by omega), Option.bind_some]
        have : ¬ IsPer N A D := fun hp => hv ⟨h, by omega, hp⟩
        simp only [this, decide_false, Bool.false_eq_true, if_false]
  · simp only [h, decide_false, Bool.false_eq_true, if_false]
theorem Fold_f {n a d : Nat} (hv : ValidR n a) (h2 : 2 ≤ d) (hp : IsPer n a d) : canon_Fold.f (n : Int) (a : Int) (d : Int) = some (((a &&& (2 ^ d - 1) : Nat) : Int), 0) := by
  unfold canon_Fold.f
  have hn := hv.2.1
  have hA : a < 2 ^ n := by
    have := hv.2.2.2.1
    rw [Int.toNat_natCast, ← pow_cast] at this
    omega
  have hn24 : n ≤ 24 := by omega
  have hdn := hp.2.1
  have h1 := hv.1
  have hpd : 2 ^ d ≤ 2 ^ n := Nat.pow_le_pow_right (by omega) hdn
  rw [valid1_f, Option.bind_some]
  simp only [hv, decide_true, if_true]
  rw [if_neg (by omega), if_neg (by omega), isPeriod_f hn24 (by omega) hA (by omega), Option.bind_some]
  simp only [hp, decide_true, if_true]
  have hpos := Nat.two_pow_pos d
  rw [if_pos (by omega), full_w (by omega), and_r hn24 hA (by omega)]
theorem CanonPeriods : sackbutlaw02_CanonPeriods.Pure := by
  intro n a d _ _ _
  refine Ev.rounds (g := fun k => sackbutlaw02_CanonPeriods.f k n a d) ?_
  unfold sackbutlaw02_CanonPeriods.f
  have hr := rhythm_f n a
  by_cases hv : ValidR n a
  · obtain ⟨N, A, rfl, rfl, h2, h24, hA, _⟩ := validR_nat hv
    have hn1 : 1 ≤ N := by omega
    obtain ⟨p, hp, hl⟩ := least_per hn1 hA
    have hP : Ev (fun k => canon_Period.f k (N : Int) (A : Int)) ((p : Int), 0) := by
      unfold canon_Period.f
      refine Ev.bind_some (valid1_f _ _) ?_
      simp only [hv, decide_true, if_true]
      exact Ev.bind (period_ev h24 hn1 hA hp hl (p - 1) 1 (by omega) (by have := hp.1; omega)) (Ev.some _)
    have hQ : Ev (fun k => sackbutref02_Period.f k (N : Int) (A : Int)) (p : Int) := refPeriod_ev h24 hn1 hA hp hl (p - 1) 1 (by omega) (by have := hp.1; omega)
    refine Ev.bind hP ?_
    have fin : ∀ y f : Int, canon_Fold.f (N : Int) (A : Int) d = some (y, f) → (¬ (2 ≤ d ∧ IsPer N A d.toNat) → y = 0 ∧ f = 2) → ((2 ≤ d ∧ IsPer N A d.toNat) → f = 0 ∧ Ev (fun k => sackbutref02_Fold.f k (N : Int) (A : Int) d) y) →
        Ev (fun k => (canon_Fold.f (N : Int) (A : Int) d).bind fun bt1003 => (sackbutref02_Rhythm.f (N : Int) (A : Int)).bind fun t1005 => if t1005 = true then (sackbutref02_Period.f k (N : Int) (A : Int)).bind fun t1007 => if (p : Int) = t1007 then if (0 : Int) = 0 then (sackbutlaw02_awake.f k).bind fun t1008 => sackbutlaw02_CanonPeriods.j0 k (N : Int) (A : Int) d bt1003.1 bt1003.2 (!t1008) else sackbutlaw02_CanonPeriods.j0 k (N : Int) (A : Int) d bt1003.1 bt1003.2 true else sackbutlaw02_CanonPeriods.j0 k (N : Int) (A : Int) d bt1003.1 bt1003.2 true else if (p : Int) = 0 then if bt1003.1 = 0 then if (0:Int) = 2 then if bt1003.2 = 2 then (sackbutlaw02_awake.f k).bind fun t1006 => some t1006 else some false else some false else some false else some false) true := by
      intro y f h1 h2' h3
      refine Ev.bind_some h1 ?_
      refine Ev.bind_some hr ?_
      simp only [hv, decide_true, if_true]
      refine Ev.bind hQ ?_
      simp only [if_true]
      refine Ev.bind awake_ev ?_
      refine Ev.succ ?_
      simp only [sackbutlaw02_CanonPeriods.j0, Bool.not_true, Bool.false_eq_true, if_false]
      refine Ev.ite (fun e => ?_) (fun e => ?_)
      · obtain ⟨rfl, rfl⟩ := h2' (fun h => by omega)
        exact Ev.some _
      · obtain ⟨D, rfl⟩ := Int.eq_ofNat_of_zero_le (show 0 ≤ d by omega)
        refine Ev.bind_some (refIs_f h24 hn1 hA (d := D) (by omega)) ?_
        rw [Int.toNat_natCast] at h2' h3
        by_cases hD : IsPer N A D
        · obtain ⟨rfl, h4⟩ := h3 ⟨by omega, hD⟩
          simp only [hD, decide_true, if_true]
          refine Ev.bind h4 ?_
          simp only [if_true]
          exact Ev.some _
        · obtain ⟨rfl, rfl⟩ := h2' (fun h => hD h.2)
          simp only [hD, decide_false, Bool.false_eq_true, if_false, if_true]
          exact Ev.some _
    by_cases hd : 2 ≤ d ∧ IsPer N A d.toNat
    · obtain ⟨D, rfl⟩ := Int.eq_ofNat_of_zero_le (show 0 ≤ d by omega)
      rw [Int.toNat_natCast] at hd
      refine fin _ _ (Fold_f hv (by omega) hd.2) (fun h => absurd (by rw [Int.toNat_natCast]; exact hd) h) (fun _ => ⟨rfl, refFold_ev h24 hA hd.2⟩)
    · exact fin 0 2 (Fold_bad _ _ _ (fun h => hd ⟨h.2.1, by simpa using h.2.2⟩)) (fun _ => ⟨rfl, rfl⟩) (fun h => absurd h hd)
  · have hP : Ev (fun k => canon_Period.f k n a) (0, 2) := by
      unfold canon_Period.f
      refine Ev.bind_some (valid1_f _ _) ?_
      simp only [hv, decide_false, Bool.false_eq_true, if_false]
      exact Ev.some _
    refine Ev.bind hP ?_
    refine Ev.bind_some (Fold_bad n a d (fun h => hv h.1)) ?_
    refine Ev.bind_some hr ?_
    simp only [hv, decide_false, Bool.false_eq_true, if_false, if_true]
    exact Ev.bind awake_ev (Ev.some _)

end Go.Proofs.Ytkidgakjeahebaa.P
