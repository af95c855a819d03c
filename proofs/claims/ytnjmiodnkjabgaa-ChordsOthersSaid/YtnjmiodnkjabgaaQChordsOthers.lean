/- A part of a proof that a law's Go function returns true for every input, laid by this session's program mp.py (which drives the kit's print). Conditions: as each theorem states them. -/
import Derived.Test.YtnjmiodnkjabgaaMCirc
import Derived.Test.YtnjmiodnkjabgaaP0
import Derived.Test.YtnjmiodnkjabgaaPf3
import Derived.Test.YtnjmiodnkjabgaaQBase
import Derived.Test.YtnjmiodnkjabgaaQChords
namespace Go.Proofs.Ytnjmiodnkjabgaa.P
open Go.RowKit Go.Proofs.YtnjmiodnkjabgaaW.PrintWords Go.Proofs.YtnjmiodnkjabgaaW.PrintLast Go.Proofs.YtnjmiodnkjabgaaW.PrintMore
attribute [local go_sem] max2_int min2_int max_two min_two max_three min_three max_four min_four   -- for this text's walks alone
set_option linter.unusedVariables false
set_option linter.unusedSimpArgs false

theorem common_compl {n c d : Nat} (hc : c < 2 ^ n) (hd : d < n) : common n (compl n c) (compl n c) d + 2 * chSize n c = n + common n c c d := by
  have h1 : common n (compl n c) (compl n c) d = cnt n (fun i => !c.testBit i && !c.testBit ((i + (n - d)) % n)) := by
    rw [common_cnt]
    exact cnt_congr (fun i hi => by rw [testBit_compl hc hi, testBit_compl hc (Nat.mod_lt _ (by omega))])
  have h2 := cnt_neither (n := n) c.testBit (fun i => c.testBit ((i + (n - d)) % n))
  have h3 := cnt_shift (n := n) (n - d) c.testBit
  have h4 := chSize_cnt n c
  have h5 := common_cnt n c c d
  omega
theorem vecAt_compl {n c d : Nat} (hc : c < 2 ^ n) (hd : d < n) :
    (vecAt n (compl n c) d : Int) - vecAt n c d = if 2 * (d : Int) = (n : Int) then ((n / 2 : Nat) : Int) - (chSize n c : Int) else (n : Int) - 2 * (chSize n c : Int) := by
  have h := common_compl hc hd
  unfold vecAt
  by_cases e : 2 * d = n
  · rw [if_pos e, if_pos e, if_pos (by omega)]; omega
  · rw [if_neg e, if_neg e, if_neg (by omega)]; omega
theorem others_nums {n d v w k : Nat} (hd : d < 16) (hn : n ≤ 16) (hv : v ≤ n) (hw : w ≤ n) (hk : k ≤ n) :
    wrap64 ((d : Int) + 1) = ((d + 1 : Nat) : Int) ∧ wrap64 (2 * ((d + 1 : Nat) : Int)) = 2 * ((d + 1 : Nat) : Int) ∧ wrap64 ((v : Int) - (w : Int)) = (v : Int) - (w : Int) ∧
    wrap64 (((n / 2 : Nat) : Int) - (k : Int)) = ((n / 2 : Nat) : Int) - (k : Int) ∧ wrap64 (2 * (k : Int)) = 2 * (k : Int) ∧ wrap64 ((n : Int) - 2 * (k : Int)) = (n : Int) - 2 * (k : Int) := by
  refine ⟨?_, wrap_id (by omega) (by omega), wrap_id (by omega) (by omega), wrap_id (by omega) (by omega), wrap_id (by omega) (by omega), wrap_id (by omega) (by omega)⟩
  rw [wrap_id (by omega) (by omega)]; omega
theorem Others_loop {n c : Nat} (hn : 2 ≤ n) (hn2 : n ≤ 16) (hc : c < 2 ^ n) : ∀ (m d : Nat), d + m = n / 2 →
    Ev (fun k => sackbutlaw01_ChordsOthers.l0 k (n : Int) (vecOf n c) (vecOf n (compl n c)) (chSize n c : Int) ((vecOf n c).length : Int) (d : Int)) true := by
  have hl : (vecOf n c).length = n / 2 := vecOf_length n c
  have hl2 : (vecOf n (compl n c)).length = n / 2 := vecOf_length n _
  have hk := chSize_le n c
  intro m
  induction m with
  | zero =>
    intro d hd
    refine Ev.succ ?_
    simp only [sackbutlaw01_ChordsOthers.l0, hl, if_neg (show ¬ (d : Int) < ((n / 2 : Nat) : Int) by omega), awake_f]
    exact Ev.some _
  | succ m ih =>
    intro d hd
    have hget : ∀ a : Nat, rd (vecOf n a) (d : Int) = (vecAt n a (d + 1) : Int) := by
      intro a
      rw [rd_nat, List.getD_eq_getElem?_getD, vecOf_get (by omega)]
      rfl
    have p0 : (0 : Int) ≤ (d : Int) := Int.natCast_nonneg d
    have p1 : (d : Int) < ((n / 2 : Nat) : Int) := by omega
    have p2 : d < 16 := by omega
    have p3 : d + 1 < n := by omega
    have p4 : n ≤ 24 := by omega
    have hv := vecAt_compl (d := d + 1) hc p3
    have go := ih (d + 1) (by omega)
    rw [hl] at go
    have hf := half_f n p4
    obtain ⟨hw, hw2, hw3, hw4, hw5, hw6⟩ := others_nums p2 hn2 (vecAt_le n (compl n c) (d + 1)) (vecAt_le n c (d + 1)) hk
    refine Ev.succ ?_
    simp only [sackbutlaw01_ChordsOthers.l0, hl, hl2, if_pos p1, if_pos p0, hw, hw2, hget, hw3, hf, hw4, hw5, hw6]
    refine Ev.ite (fun e => ?_) (fun e => ?_)
    · rw [if_pos e] at hv
      simp only [if_pos hv]
      exact go
    · rw [if_neg e] at hv
      simp only [if_pos hv]
      exact go
theorem ChordsOthers : sackbutlaw01_ChordsOthers.Pure := by
  intro n c _ _
  refine Ev.rounds (g := fun k => sackbutlaw01_ChordsOthers.f k n c) ?_
  unfold sackbutlaw01_ChordsOthers.f
  refine Ev.bind (Vector_ev n c) ?_
  by_cases h : ValidC n c
  · simp only [h, if_true]
    refine Ev.bind_some (refValid_f n c) ?_
    simp only [h, decide_true, Bool.not_true]
    refine Ev.succ ?_
    obtain ⟨N, C, rfl, rfl, h2, h16, hC⟩ := validC_nat h
    have hw : wrap64 (wrap64 (shl .i64 1 (N : Int) - 1) - (C : Int)) = ((compl N C : Nat) : Int) := by
      have hp := pow16 h16
      have := Nat.two_pow_pos N
      rw [shl1_i64 (by omega), wrap_id (n := ((2 ^ N : Nat) : Int) - 1) (by omega) (by omega), wrap_id (by omega) (by omega)]
      unfold compl
      omega
    simp only [sackbutlaw01_ChordsOthers.j0, Bool.false_eq_true, if_false, if_pos (show (0 : Int) ≤ (N : Int) by omega), hw, Int.toNat_natCast]
    refine Ev.bind (Vector_ev N ((compl N C : Nat) : Int)) ?_
    have h' : ValidC (N : Int) ((compl N C : Nat) : Int) := by
      have := compl_lt N C
      refine ⟨by omega, by omega, by omega, ?_⟩
      rw [Int.toNat_natCast, ← pow_cast]; omega
    simp only [h', if_true, Int.toNat_natCast, half_f N (by omega), vecOf_length, if_true]
    refine Ev.succ ?_
    have hb : (((N / 2 : Nat) : Int) != ((N / 2 : Nat) : Int)) = false := by simp
    simp only [sackbutlaw01_ChordsOthers.j1, hb, Bool.false_eq_true, if_false]
    refine Ev.bind (Size_ev (n := N) (by omega) hC) ?_
    exact Others_loop h2 h16 hC (N / 2) 0 (by omega)
  · simp only [h, if_false]
    simp only [if_neg (show ¬ ((2 : Int) = 0) by decide)]
    refine Ev.succ ?_
    simp only [sackbutlaw01_ChordsOthers.j0, if_true, awake_f]
    exact Ev.some _

end Go.Proofs.Ytnjmiodnkjabgaa.P
