/- A part of a proof that a law's Go function returns true for every input, laid by this session's program mp.py (which drives the kit's print). Conditions: as each theorem states them. -/
import Derived.Test.YtnjmiodnkjabgaaMCirc
import Derived.Test.YtnjmiodnkjabgaaMCirc2
import Derived.Test.YtnjmiodnkjabgaaP0
import Derived.Test.YtnjmiodnkjabgaaPf4
import Derived.Test.YtnjmiodnkjabgaaQBase
import Derived.Test.YtnjmiodnkjabgaaQChords
import Derived.Test.YtnjmiodnkjabgaaQCommon
namespace Go.Proofs.Ytnjmiodnkjabgaa.P
open Go.RowKit Go.Proofs.YtnjmiodnkjabgaaW.PrintWords Go.Proofs.YtnjmiodnkjabgaaW.PrintLast Go.Proofs.YtnjmiodnkjabgaaW.PrintMore
attribute [local go_sem] max2_int min2_int max_two min_two max_three min_three max_four min_four   -- for this text's walks alone
set_option linter.unusedVariables false
set_option linter.unusedSimpArgs false

theorem sums1_nums {d n c S S' : Nat} (hd : d < n) (hn : n ≤ 16) (hS : S ≤ d * 16) (hc : c ≤ 16) (hS' : S' = S + c) :
    wrap64 ((d : Int) + 1) = ((d + 1 : Nat) : Int) ∧ wrap64 ((S : Int) + (c : Int)) = (S' : Int) := by
  subst hS'
  refine ⟨?_, ?_⟩
  · rw [wrap_id (by omega) (by omega)]; omega
  · rw [wrap_id (by omega) (by omega)]; omega
theorem sums_end {k s u t : Nat} (hk : k ≤ 16) (hu : u ≤ 16) (hs : 2 * s + k = k * k) (ht : t = k * u) :
    (s : Int) = wrap64 (Int.tdiv (wrap64 ((k : Int) * (wrap64 ((k : Int) - 1)))) 2) ∧ (t : Int) = wrap64 ((k : Int) * (u : Int)) := by
  have hkk : k * k ≤ 16 * 16 := Nat.mul_le_mul hk hk
  have hku : k * u ≤ 16 * 16 := Nat.mul_le_mul hk hu
  have e1 : (k : Int) * ((k : Int) - 1) = 2 * (s : Int) := by
    rw [Int.mul_sub, Int.mul_one, ← Int.natCast_mul]; omega
  refine ⟨?_, ?_⟩
  · rw [wrap_id (n := (k : Int) - 1) (by omega) (by omega), e1, wrap_id (n := 2 * (s : Int)) (by omega) (by omega), Int.tdiv_eq_ediv_of_nonneg (by omega)]
    rw [show (2 * (s : Int)) / 2 = (s : Int) by omega, wrap_id (by omega) (by omega)]
  · rw [ht, Int.natCast_mul, wrap_id]
    · rw [← Int.natCast_mul]; omega
    · rw [← Int.natCast_mul]; omega
theorem Sums_loop1 {n a b k : Nat} (hn : 2 ≤ n) (hn2 : n ≤ 16) (ha : a < 2 ^ n) (hb : b < 2 ^ n) (hk : k = chSize n a) (s : Nat) (hs : 2 * s + k = k * k) : ∀ (m d : Nat), d + m = n →
    Ev (fun q => sackbutlaw01_ChordsSums.l1 q (b : Int) (comOf n a a) (comOf n a b) (k : Int) (s : Int) ((sumTo (common n a b) d : Nat) : Int) ((comOf n a b).length : Int) (d : Int)) true := by
  have hkn : k ≤ 16 := by have := chSize_le n a; omega
  intro m
  induction m with
  | zero =>
    intro d hd
    have hdn : d = n := by omega
    subst hdn
    have hl := comOf_length d a b; have hl2 := comOf_length d a a
    have p1 : ¬ (d : Int) < (d : Int) := by omega
    have p2 : (0 : Int) < (d : Int) := by omega
    have p3 : d ≤ 24 := by omega
    have hkb := Nat.le_trans (chSize_le d b) hn2
    have r0 : rd (comOf d a a) ((0 : Nat) : Int) = (k : Int) := by rw [comOf_rd (by omega), common_zero, hk]
    have hsum := common_sum (n := d) (a := a) (b := b)
    rw [← hk] at hsum
    obtain ⟨hw, hw2⟩ := sums_end hkn hkb hs hsum
    refine Ev.succ ?_
    simp only [sackbutlaw01_ChordsSums.l1, hl, hl2, if_neg p1, if_pos p2, if_pos hw]
    rw [show rd (comOf d a a) 0 = (k : Int) from r0]
    simp only [if_true]
    refine Ev.bind (Size_ev (n := d) p3 hb) ?_
    simp only [if_pos hw2, awake_f]
    exact Ev.some _
  | succ m ih =>
    intro d hd
    have p0 : (0 : Int) ≤ (d : Int) := Int.natCast_nonneg d
    have p1 : (d : Int) < (n : Int) := by omega
    have p2 : d < n := by omega
    have hl := comOf_length n a b
    have hr := comOf_rd (a := a) (b := b) p2
    have hc := Nat.le_trans (common_le n a b d) hn2
    have hsl := sumTo_le (f := common n a b) (c := 16) d (fun i _ => Nat.le_trans (common_le n a b i) hn2)
    have go := ih (d + 1) (by omega)
    rw [hl] at go
    obtain ⟨hw, hw2⟩ := sums1_nums (S' := sumTo (common n a b) (d + 1)) p2 hn2 hsl hc rfl
    refine Ev.succ ?_
    simp only [sackbutlaw01_ChordsSums.l1, hl, if_pos p0, if_pos p1, hr, hw, hw2]
    exact go
theorem sums_nums {n d v : Nat} (hd : d + 1 ≤ n / 2) (hn : n ≤ 16) (hv : v ≤ 16) :
    wrap64 ((d : Int) + 1) = ((d + 1 : Nat) : Int) ∧ wrap64 (2 * ((d + 1 : Nat) : Int)) = 2 * ((d + 1 : Nat) : Int) ∧ wrap64 (wrap64 ((n : Int) - (d : Int)) - 1) = ((n - (d + 1) : Nat) : Int) ∧ wrap64 ((v : Int) * 2) = ((2 * v : Nat) : Int) := by
  refine ⟨?_, wrap_id (by omega) (by omega), ?_, ?_⟩
  · rw [wrap_id (by omega) (by omega)]; omega
  · rw [wrap_id (n := (n : Int) - d) (by omega) (by omega), wrap_id (by omega) (by omega)]; omega
  · rw [wrap_id (by omega) (by omega)]; omega
theorem Sums_loop {n a b k : Nat} (hn : 2 ≤ n) (hn2 : n ≤ 16) (ha : a < 2 ^ n) (hb : b < 2 ^ n) (hk : k = chSize n a) : ∀ (m d : Nat), d + m = n / 2 →
    Ev (fun q => sackbutlaw01_ChordsSums.l0 q (n : Int) (b : Int) (vecOf n a) (comOf n a a) (comOf n a b) (k : Int) ((sumTo (fun i => vecAt n a (i + 1)) d : Nat) : Int) 0 ((vecOf n a).length : Int) (d : Int)) true := by
  have hlv := vecOf_length n a; have hlc := comOf_length n a a
  intro m
  induction m with
  | zero =>
    intro d hd
    have p1 : ¬ (d : Int) < ((n / 2 : Nat) : Int) := by omega
    have hdn : d = n / 2 := by omega
    have hs := vec_sum (n := n) (c := a) (by omega)
    rw [← hk, ← hdn] at hs
    refine Ev.succ ?_
    simp only [sackbutlaw01_ChordsSums.l0, hlv, if_neg p1]
    exact Sums_loop1 hn hn2 ha hb hk _ hs n 0 (by omega)
  | succ m ih =>
    intro d hd
    have p0 : (0 : Int) ≤ (d : Int) := Int.natCast_nonneg d
    have p1 : (d : Int) < ((n / 2 : Nat) : Int) := by omega
    have q0 : (0 : Int) ≤ ((d + 1 : Nat) : Int) := by omega
    have q1 : ((d + 1 : Nat) : Int) < (n : Int) := by omega
    have q2 : (0 : Int) ≤ ((n - (d + 1) : Nat) : Int) := by omega
    have q3 : ((n - (d + 1) : Nat) : Int) < (n : Int) := by omega
    have hv := vecAt_le n a (d + 1)
    have r1 := vecOf_rd (n := n) (c := a) (i := d) (by omega)
    have r2 := comOf_rd (n := n) (a := a) (b := a) (k := d + 1) (by omega)
    have r3 := comOf_rd (n := n) (a := a) (b := a) (k := n - (d + 1)) (by omega)
    rw [common_back (by omega)] at r3
    have p16 : d < 16 := by omega
    have p17 : vecAt n a (d + 1) ≤ 16 := by omega
    have hsl := sumTo_le (f := fun i => vecAt n a (i + 1)) (c := 16) d (fun i _ => by have := vecAt_le n a (i + 1); omega)
    have go := ih (d + 1) (by omega)
    rw [hlv] at go
    have cases1 : 2 * ((d + 1 : Nat) : Int) = (n : Int) → common n a a (d + 1) = 2 * vecAt n a (d + 1) := fun e => vecAt_twice (by omega)
    have cases2 : ¬ 2 * ((d + 1 : Nat) : Int) = (n : Int) → common n a a (d + 1) = vecAt n a (d + 1) := fun e => by unfold vecAt; rw [if_neg (by omega)]
    have hw5 := (sums1_nums (S' := sumTo (fun i => vecAt n a (i + 1)) (d + 1)) p16 (Nat.le_refl _) hsl p17 rfl).2
    obtain ⟨hw1, hw2, hw3, hw4⟩ := sums_nums (n := n) (d := d) (v := vecAt n a (d + 1)) (by omega) hn2 (by omega)
    refine Ev.succ ?_
    simp only [sackbutlaw01_ChordsSums.l0, hlv, hlc, if_pos p0, if_pos p1, hw1, hw2, hw3, if_pos q0, if_pos q1, if_pos q2, if_pos q3, r1, r2, r3, hw4, hw5]
    refine Ev.ite (fun e => ?_) (fun e => ?_)
    · rw [cases1 e]
      simp only [if_true]
      exact go
    · rw [cases2 e]
      simp only [if_true]
      exact go
theorem ChordsSums : sackbutlaw01_ChordsSums.Pure := by
  intro n a b _ _ _
  refine Ev.rounds (g := fun k => sackbutlaw01_ChordsSums.f k n a b) ?_
  unfold sackbutlaw01_ChordsSums.f
  refine Ev.bind (Vector_ev n a) ?_
  by_cases h : ValidC n a
  · simp only [h, if_true]
    refine Ev.bind_some (refValid_f n a) ?_
    simp only [h, decide_true, if_true]
    refine Ev.bind_some (refValid_f n b) ?_
    refine Ev.succ ?_
    by_cases hb : ValidC n b
    · simp only [hb, decide_true, Bool.not_true]
      simp only [sackbutlaw01_ChordsSums.j0, Bool.false_eq_true, if_false]
      refine Ev.bind (Common_ev n a a) ?_
      refine Ev.bind (Common_ev n a b) ?_
      simp only [h, hb, and_self, if_true]
      obtain ⟨N, A, rfl, rfl, h2, h16, hA⟩ := validC_nat h
      obtain ⟨N', B, e, rfl, _, _, hB⟩ := validC_nat hb
      obtain rfl : N = N' := by omega
      simp only [Int.toNat_natCast, vecOf_length, comOf_length, half_f N (by omega), if_true]
      refine Ev.succ ?_
      have hbq : ((N : Int) != (N : Int)) = false := by simp
      simp only [sackbutlaw01_ChordsSums.j1, hbq, Bool.false_eq_true, if_false]
      refine Ev.bind (Size_ev (n := N) (by omega) hA) ?_
      exact Sums_loop h2 h16 hA hB rfl (N / 2) 0 (by omega)
    · simp only [hb, decide_false, Bool.not_false]
      simp only [sackbutlaw01_ChordsSums.j0, if_true, if_neg (show ¬ ((0 : Int) = 2) by decide), awake_f]
      exact Ev.some _
  · simp only [h, if_false]
    simp only [if_neg (show ¬ ((2 : Int) = 0) by decide)]
    refine Ev.succ ?_
    simp only [sackbutlaw01_ChordsSums.j0, if_true, awake_f]
    exact Ev.some _

end Go.Proofs.Ytnjmiodnkjabgaa.P
