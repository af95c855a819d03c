/- A part of a proof that a law's Go function returns true for every input, laid by this session's program mp.py (which drives the kit's print). Conditions: as each theorem states them. -/
import Derived.Test.YtpfjnpbcnlbhaaaP0
import Derived.Test.YtpfjnpbcnlbhaaaPf3
import Derived.Test.YtpfjnpbcnlbhaaaQBase
import Derived.Test.YtpfjnpbcnlbhaaaQRows
namespace Go.Proofs.Ytpfjnpbcnlbhaaa.P
open Go.RowKit Go.Proofs.YtpfjnpbcnlbhaaaW.PrintWords Go.Proofs.YtpfjnpbcnlbhaaaW.PrintLast Go.Proofs.YtpfjnpbcnlbhaaaW.PrintMore
attribute [local go_sem] max2_int min2_int max_two min_two max_three min_three max_four min_four   -- for this text's walks alone
set_option linter.unusedVariables false
set_option linter.unusedSimpArgs false

theorem RowsSteps : sackbutlaw05_RowsSteps.Pure := by
  intro l _ _ _
  refine Ev.rounds (g := fun k => sackbutlaw05_RowsSteps.f k l) ?_
  unfold sackbutlaw05_RowsSteps.f
  refine Ev.bind_some (list_f l) ?_
  refine Ev.bind (Steps_ev (l.take 13)) ?_
  refine Ev.bind_some (list_f l) ?_
  refine Ev.bind (Every_ev (l.take 13)) ?_
  refine Ev.bind (Row_ev l) ?_
  by_cases h : IsRow l
  · have h1 := h.1; have h2 := h.2.1
    simp only [isRow_take, h, decide_true, if_true, row_take h]
    refine Ev.bind (refSteps_ev l l.length (by omega) (by omega) (by omega) (row_bounds h)) ?_
    refine Ev.bind (Equal_ev _ _ (by rw [stepsOf_length]; omega)) ?_
    simp only [decide_true, if_true]
    refine Ev.bind (refEvery_ev l l.length (by omega) (by omega) (by omega) (row_bounds h)) ?_
    simp only [beq_self_eq_true, if_true]
    exact Ev.bind awake_ev (Ev.some _)
  · simp only [isRow_take, h, decide_false, if_false]
    simp only [List.length_nil, Int.ofNat_zero, Int.natCast_zero, if_true, Bool.false_eq_true, if_false]
    exact Ev.bind awake_ev (Ev.some _)

end Go.Proofs.Ytpfjnpbcnlbhaaa.P
