/- A part of a proof that a law's Go function returns true for every input, laid by this session's program mp.py (which drives the kit's print). Conditions: as each theorem states them. -/
import Derived.Test.YtpfjnpbcnlbhaaaP0
import Derived.Test.YtpfjnpbcnlbhaaaPf4
import Derived.Test.YtpfjnpbcnlbhaaaQBase
import Derived.Test.YtpfjnpbcnlbhaaaQFollow
import Derived.Test.YtpfjnpbcnlbhaaaQRows
namespace Go.Proofs.Ytpfjnpbcnlbhaaa.P
open Go.RowKit Go.Proofs.YtpfjnpbcnlbhaaaW.PrintWords Go.Proofs.YtpfjnpbcnlbhaaaW.PrintLast Go.Proofs.YtpfjnpbcnlbhaaaW.PrintMore
attribute [local go_sem] max2_int min2_int max_two min_two max_three min_three max_four min_four   -- for this text's walks alone
set_option linter.unusedVariables false
set_option linter.unusedSimpArgs false

theorem RowsFollows : sackbutlaw05_RowsFollows.Pure := by
  intro l k _ _ _ _
  refine Ev.rounds (g := fun q => sackbutlaw05_RowsFollows.f q l k) ?_
  unfold sackbutlaw05_RowsFollows.f
  refine Ev.bind_some (list_f l) ?_
  refine Ev.bind (Follow_ev (l.take 13) k) ?_
  refine Ev.bind (Row_ev l) ?_
  simp only [followOk_take]
  have bad : ¬ FollowOk l k → Ev (fun q => sackbutlaw05_RowsFollows.j0 q l k (if FollowOk l k then ((followOf (l.take 13).length k (l.take 13) : Int), (0 : Int)) else (0, 2)).1 (if FollowOk l k then ((followOf (l.take 13).length k (l.take 13) : Int), (0 : Int)) else (0, 2)).2 true) true := by
    intro hn
    refine Ev.succ ?_
    simp only [sackbutlaw05_RowsFollows.j0, if_true, hn, if_false]
    exact Ev.bind awake_ev (Ev.some _)
  by_cases h : IsRow l
  · have h1 := h.1; have h2 := h.2.1
    simp only [h, decide_true, if_true]
    refine Ev.ite (fun e => bad (fun hh => by have := hh.2.1; omega)) (fun e => ?_)
    have hw : wrap64 ((l.length : Int) - 1) = (l.length : Int) - 1 := wrap_id (by omega) (by omega)
    rw [hw]
    by_cases e2 : k > (l.length : Int) - 1
    · simp only [decide_eq_true e2]
      exact bad (fun hh => by have := hh.2.2; omega)
    · simp only [decide_eq_false e2]
      have hy : FollowOk l k := ⟨h, by omega, by omega⟩
      refine Ev.succ ?_
      simp only [sackbutlaw05_RowsFollows.j0, Bool.false_eq_true, if_false, hy, if_true, row_take h]
      refine Ev.bind (refFollow_ev hy) ?_
      simp only [if_true]
      exact Ev.bind awake_ev (Ev.some _)
  · simp only [h, decide_false, Bool.false_eq_true, if_false]
    exact bad (fun hh => h hh.1)

end Go.Proofs.Ytpfjnpbcnlbhaaa.P
