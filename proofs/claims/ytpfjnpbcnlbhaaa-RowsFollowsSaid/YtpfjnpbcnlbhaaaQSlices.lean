/- A part of a proof that a law's Go function returns true for every input, laid by this session's program mp.py (which drives the kit's print). Conditions: as each theorem states them. -/
import Derived.Test.YtpfjnpbcnlbhaaaP0
import Derived.Test.YtpfjnpbcnlbhaaaPf50
import Derived.Test.YtpfjnpbcnlbhaaaPf58
import Derived.Test.YtpfjnpbcnlbhaaaQBase
namespace Go.Proofs.Ytpfjnpbcnlbhaaa.P
open Go.RowKit Go.Proofs.YtpfjnpbcnlbhaaaW.PrintWords Go.Proofs.YtpfjnpbcnlbhaaaW.PrintLast Go.Proofs.YtpfjnpbcnlbhaaaW.PrintMore
attribute [local go_sem] max2_int min2_int max_two min_two max_three min_three max_four min_four   -- for this text's walks alone
set_option linter.unusedVariables false
set_option linter.unusedSimpArgs false

/-! slices.Index, slices.Contains at ints -/
theorem Index_loop (l : List Int) (v : Int) (hb : l.length < 9223372036854775807) : ∀ (xs pre : List Int), l = pre ++ xs →
    Ev (fun k => slices_Index_int_int.l0 k l v (l.length : Int) (pre.length : Int)) (if v ∈ xs then ((pre.length + xs.idxOf v : Nat) : Int) else -1) := by
  intro xs
  induction xs with
  | nil =>
    intro pre h0
    refine Ev.succ ?_
    simp only [slices_Index_int_int.l0, if_neg (mid_end h0)]
    simpa using Ev.some (-1 : Int)
  | cons x xs ih =>
    intro pre h0
    refine Ev.succ ?_
    simp only [slices_Index_int_int.l0, if_pos (mid_lt h0), if_pos (show (0 : Int) ≤ (pre.length : Int) by omega), mid_rd h0, mid_next h0 hb]
    refine Ev.ite (fun e => ?_) (fun e => ?_)
    · subst e
      simpa using Ev.some _
    · have h := ih (pre ++ [x]) (mid_mv h0)
      have e1 : (v ∈ x :: xs) ↔ v ∈ xs := by simp [e]
      have e2 : (x :: xs).idxOf v = xs.idxOf v + 1 := by
        rw [List.idxOf_cons]
        have : (x == v) = false := by simpa using fun h => e h.symm
        rw [this]; rfl
      have e3 : ((pre ++ [x]).length + xs.idxOf v : Nat) = pre.length + (xs.idxOf v + 1) := by simp; omega
      simp only [e1, e2]
      rw [e3] at h
      exact h
theorem Index_ev (l : List Int) (v : Int) (hb : l.length < 9223372036854775807) : Ev (fun k => slices_Index_int_int.f k l v) (if v ∈ l then (l.idxOf v : Int) else -1) := by
  have := Index_loop l v hb l [] rfl
  simpa [slices_Index_int_int.f] using this
theorem Contains_ev (l : List Int) (v : Int) (hb : l.length < 9223372036854775807) : Ev (fun k => slices_Contains_int_int.f k l v) (decide (v ∈ l)) := by
  unfold slices_Contains_int_int.f
  refine Ev.bind (Index_ev l v hb) ?_
  have : decide ((if v ∈ l then (l.idxOf v : Int) else -1) ≥ 0) = decide (v ∈ l) := by
    rw [decide_eq_decide]; split <;> simp_all
  rw [this]
  exact Ev.some _

end Go.Proofs.Ytpfjnpbcnlbhaaa.P
