/- Proved here: the Go function sackbutlaw02.CanonPartners returns true for every input (its printed form comes to true), whatever its arguments. Conditions: none beyond the row's own reach in memory. -/
import Derived.LaidMore
import Derived.Stop.Joined
import Derived.ProofKit
import Derived.OpenShut
import Derived.Test.YtkidgakjeahebaaDoorRows
import Derived.WalkKit
import Derived.ShutString
import Derived.ChangeOld
import Derived.Below
import Derived.SizedLaws
import Derived.SevenTiedAt
import Derived.Test.YtkidgakjeahebaaDoorCards
import Derived.Test.YtkidgakjeahebaaDoorTie
import Derived.Test.YtkidgakjeahebaaDoorCCanonPartners1
import Derived.Test.YtkidgakjeahebaaDoorCCanonPartners2
import Derived.Test.YtkidgakjeahebaaDoorCCanonPartners3
import Derived.Test.YtkidgakjeahebaaDoorCCanonPartners4
namespace Go.Proofs.YtkidgakjeahebaaDoor.P
open Go.RowKit Go.Proofs.YtkidgakjeahebaaDoorW.PrintWords Go.Proofs.YtkidgakjeahebaaDoorW.PrintLast Go.Proofs.YtkidgakjeahebaaDoorW.PrintMore
attribute [local go_sem] max2_int min2_int max_two min_two max_three min_three max_four min_four   -- for this text's walks alone
set_option linter.unusedVariables false
set_option linter.unusedSimpArgs false

/-! ### sackbutlaw02_CanonFolds: function 3 -/
mutual
def sackbutlaw02_CanonFolds.j0 : Nat → Int → Int → Int → Int → Int → Bool → Option (Bool)
  | 0, _, _, _, _, _, _ => none
  | k + 1, x0, x1, x2, x7, x8, x43 => if x43 = true then (if x8 = 2 then ((sackbutlaw02_awake.f k).bind fun t1004 => (some t1004)) else (some false)) else (sackbutlaw02_CanonFolds.l0 k x0 x1 x2 x7 x0 0)
def sackbutlaw02_CanonFolds.l0 : Nat → Int → Int → Int → Int → Int → Int → Option (Bool)
  | 0, _, _, _, _, _, _ => none
  | k + 1, x0, x1, x2, x7, x49, x50 => if x50 < x49 then (if 0 ≤ x50 then (if x0 = 0 then (none) else (if 0 ≤ (Int.tmod (wrap64 (x50 + x2)) x0) then (if (Go.bits .and .i64 (shr .i64 x1 x50) 1) = (Go.bits .and .i64 (shr .i64 x1 (Int.tmod (wrap64 (x50 + x2)) x0)) 1) then (if x2 = 0 then (none) else (if 0 ≤ (Int.tmod x50 x2) then (if (Go.bits .and .i64 (shr .i64 x1 x50) 1) = (Go.bits .and .i64 (shr .i64 x7 (Int.tmod x50 x2)) 1) then (sackbutlaw02_CanonFolds.l0 k x0 x1 x2 x7 x49 (wrap64 (x50 + 1))) else (some false)) else (none))) else (some false)) else (none))) else (none)) else ((canon_Partner.f x0 x1).bind fun bt1005 => ((canon_Partner.f x2 x7).bind fun bt1007 => (if bt1005.2 = 0 then (if bt1005.2 = bt1007.2 then ((sackbutlaw02_awake.f k).bind fun t1009 => (some t1009)) else (some false)) else (if bt1005.2 = 4 then (if bt1005.2 = bt1007.2 then ((sackbutlaw02_awake.f k).bind fun t1010 => (some t1010)) else (some false)) else (some false)))))
end
def sackbutlaw02_CanonFolds.f (k : Nat) (a0 : Int) (a1 : Int) (a2 : Int) : Option (Bool) := (canon_Fold.f a0 a1 a2).bind fun bt1001 => (if bt1001.2 = 0 then ((sackbutref02_Rhythm.f a0 a1).bind fun t1003 => (if t1003 = true then (if a2 < 2 then (sackbutlaw02_CanonFolds.j0 k a0 a1 a2 bt1001.1 bt1001.2 true) else (if a2 > a0 then (sackbutlaw02_CanonFolds.j0 k a0 a1 a2 bt1001.1 bt1001.2 true) else (if a2 = 0 then (none) else (sackbutlaw02_CanonFolds.j0 k a0 a1 a2 bt1001.1 bt1001.2 ((Int.tmod a0 a2) != 0))))) else (sackbutlaw02_CanonFolds.j0 k a0 a1 a2 bt1001.1 bt1001.2 true))) else (sackbutlaw02_CanonFolds.j0 k a0 a1 a2 bt1001.1 bt1001.2 true))
theorem sackbutlaw02_CanonFolds.mono_l : ∀ k, (∀ y0 y1 y2 y3 y4 y5, LeO (sackbutlaw02_CanonFolds.j0 k y0 y1 y2 y3 y4 y5) (sackbutlaw02_CanonFolds.j0 (k + 1) y0 y1 y2 y3 y4 y5)) ∧ (∀ y0 y1 y2 y3 y4 y5, LeO (sackbutlaw02_CanonFolds.l0 k y0 y1 y2 y3 y4 y5) (sackbutlaw02_CanonFolds.l0 (k + 1) y0 y1 y2 y3 y4 y5))
  | 0 => ⟨fun _ _ _ _ _ _ r h => by simp [sackbutlaw02_CanonFolds.j0] at h, fun _ _ _ _ _ _ r h => by simp [sackbutlaw02_CanonFolds.l0] at h⟩
  | k + 1 => by
    obtain ⟨ih0, ih1⟩ := sackbutlaw02_CanonFolds.mono_l k
    refine ⟨?_, ?_⟩
    · intro y0 y1 y2 y3 y4 y5
      unfold sackbutlaw02_CanonFolds.j0
      repeat' first
      | (with_reducible exact ih0 _ _ _ _ _ _)
      | (with_reducible exact ih1 _ _ _ _ _ _)
      | (with_reducible exact sackbutlaw02_awake.mono _)
      | (with_reducible exact LeO.refl _)
      | (with_reducible exact LeO.none _)
      | (with_reducible refine LeO.ite ?_ ?_)
      | (with_reducible refine LeO.bind ?_ (fun _ => ?_))
      | exact ih0 _ _ _ _ _ _
      | exact ih1 _ _ _ _ _ _
      | exact sackbutlaw02_awake.mono _
      | exact LeO.none _
      | refine LeO.ite ?_ ?_
      | refine LeO.bind ?_ (fun _ => ?_)
    · intro y0 y1 y2 y3 y4 y5
      unfold sackbutlaw02_CanonFolds.l0
      repeat' first
      | (with_reducible exact ih0 _ _ _ _ _ _)
      | (with_reducible exact ih1 _ _ _ _ _ _)
      | (with_reducible exact sackbutlaw02_awake.mono _)
      | (with_reducible exact LeO.refl _)
      | (with_reducible exact LeO.none _)
      | (with_reducible refine LeO.ite ?_ ?_)
      | (with_reducible refine LeO.bind ?_ (fun _ => ?_))
      | exact ih0 _ _ _ _ _ _
      | exact ih1 _ _ _ _ _ _
      | exact sackbutlaw02_awake.mono _
      | exact LeO.none _
      | refine LeO.ite ?_ ?_
      | refine LeO.bind ?_ (fun _ => ?_)
theorem sackbutlaw02_CanonFolds.mono : ∀ a0 a1 a2 k, LeO (sackbutlaw02_CanonFolds.f k a0 a1 a2) (sackbutlaw02_CanonFolds.f (k + 1) a0 a1 a2) := by
  intro a0 a1 a2 k
  obtain ⟨ih0, ih1⟩ := sackbutlaw02_CanonFolds.mono_l k
  unfold sackbutlaw02_CanonFolds.f
  repeat' first
      | (with_reducible exact ih0 _ _ _ _ _ _)
      | (with_reducible exact ih1 _ _ _ _ _ _)
      | (with_reducible exact sackbutlaw02_awake.mono _)
      | (with_reducible exact LeO.refl _)
      | (with_reducible exact LeO.none _)
      | (with_reducible refine LeO.ite ?_ ?_)
      | (with_reducible refine LeO.bind ?_ (fun _ => ?_))
      | exact ih0 _ _ _ _ _ _
      | exact ih1 _ _ _ _ _ _
      | exact sackbutlaw02_awake.mono _
      | exact LeO.none _
      | refine LeO.ite ?_ ?_
      | refine LeO.bind ?_ (fun _ => ?_)
set_option maxHeartbeats 8000000 in
set_option maxRecDepth 100000 in
theorem sackbutlaw02_CanonFolds.calls (k : Nat) (a0 : Int) (a1 : Int) (a2 : Int) (r : Bool) (w : World) (hT : Tabs w) (h : sackbutlaw02_CanonFolds.f k a0 a1 a2 = some r) :
    Calls Tryd.prog 3 #[.int .i64 a0, .int .i64 a1, .int .i64 a2] w fun e w' => e = .returned (.bool r) ∧ Below w.heap.size w w' := by
  have HB := Aside0.mk (Below.refl w.heap.size w)
  have HT0 := Aside0.mk hT
  clear hT
  have H : ((canon_Fold.f a0 a1 a2).bind fun bt1001 => (if bt1001.2 = 0 then ((sackbutref02_Rhythm.f a0 a1).bind fun t1003 => (if t1003 = true then (if a2 < 2 then (sackbutlaw02_CanonFolds.j0 k a0 a1 a2 bt1001.1 bt1001.2 true) else (if a2 > a0 then (sackbutlaw02_CanonFolds.j0 k a0 a1 a2 bt1001.1 bt1001.2 true) else (if a2 = 0 then (none) else (sackbutlaw02_CanonFolds.j0 k a0 a1 a2 bt1001.1 bt1001.2 ((Int.tmod a0 a2) != 0))))) else (sackbutlaw02_CanonFolds.j0 k a0 a1 a2 bt1001.1 bt1001.2 true))) else (sackbutlaw02_CanonFolds.j0 k a0 a1 a2 bt1001.1 bt1001.2 true))) = some r := h
  clear h
  replace H := Option.bind_eq_some_iff.mp H
  obtain ⟨⟨t1001, t1002⟩, A40, H⟩ := H
  replace H : (if t1002 = 0 then ((sackbutref02_Rhythm.f a0 a1).bind fun t1003 => (if t1003 = true then (if a2 < 2 then (sackbutlaw02_CanonFolds.j0 k a0 a1 a2 t1001 t1002 true) else (if a2 > a0 then (sackbutlaw02_CanonFolds.j0 k a0 a1 a2 t1001 t1002 true) else (if a2 = 0 then (none) else (sackbutlaw02_CanonFolds.j0 k a0 a1 a2 t1001 t1002 ((Int.tmod a0 a2) != 0))))) else (sackbutlaw02_CanonFolds.j0 k a0 a1 a2 t1001 t1002 true))) else (sackbutlaw02_CanonFolds.j0 k a0 a1 a2 t1001 t1002 true)) = some r := H
  have A4 := Aside0.mk A40
  clear A40
  have HC5 := Aside0.mk H
  clear H
  go_enter Tryd.func3, Tryd.ntmps3
  go_upto_region 2 with (first | (go_at_call 9; (with_reducible refine (canon_Fold.calls a0 a1 a2 t1001 t1002 _ A4.out).mono ?_); rintro e w6 ⟨rfl, hb⟩; have n0_ := Aside0.mk (below_step (by repeat (first | (with_reducible first | exact HB.out | apply below_alloc | apply pw_below_drewN | apply below_drew1) | exact HB.out)) hb); clear HB; have HB := n0_; clear n0_; (try clear hb); (try clear hb2); (try clear hk); (try clear hi)))
  repeat (go_quiet (first | (go_at_call 9; (with_reducible refine (canon_Fold.calls a0 a1 a2 t1001 t1002 _ A4.out).mono ?_); rintro e w6 ⟨rfl, hb⟩; have n0_ := Aside0.mk (below_step (by repeat (first | (with_reducible first | exact HB.out | apply below_alloc | apply pw_below_drewN | apply below_drew1) | exact HB.out)) hb); clear HB; have HB := n0_; clear n0_; (try clear hb); (try clear hb2); (try clear hk); (try clear hi))); go_upto_region 2 with (first | (go_at_call 9; (with_reducible refine (canon_Fold.calls a0 a1 a2 t1001 t1002 _ A4.out).mono ?_); rintro e w6 ⟨rfl, hb⟩; have n0_ := Aside0.mk (below_step (by repeat (first | (with_reducible first | exact HB.out | apply below_alloc | apply pw_below_drewN | apply below_drew1) | exact HB.out)) hb); clear HB; have HB := n0_; clear n0_; (try clear hb); (try clear hb2); (try clear hk); (try clear hi))))
  (try simp only [Act.put, List.setIfInBounds_toArray, List.set_cons_zero, List.set_cons_succ])
  go_cut [43] (fun v43 wc => ∃ (kq : Nat) (x43_4 : Bool), v43 = .bool x43_4 ∧ Aside0 (sackbutlaw02_CanonFolds.j0 kq a0 a1 a2 t1001 t1002 x43_4 = some r) ∧ Aside0 (kq ≤ k) ∧ Aside0 (Below w.heap.size w wc))
  case first =>
    have H := HC5.out
    clear HC5
    by_cases c7 : t1002 = 0
    · rw [if_pos c7] at H
      have c7b0 : (t1002 == 0) = true := beq_iff_eq.mpr c7
      have c7b1 : (t1002 != 0) = false := bne_eq_false_iff_eq.mpr c7
      clear c7
      (first | rw [c7b0] | (simp only [i64_w, i32_w]; rw [c7b0]) | skip)
      replace H := Option.bind_eq_some_iff.mp H
      obtain ⟨t1003, A80, H⟩ := H
      replace H : (if t1003 = true then (if a2 < 2 then (sackbutlaw02_CanonFolds.j0 k a0 a1 a2 t1001 t1002 true) else (if a2 > a0 then (sackbutlaw02_CanonFolds.j0 k a0 a1 a2 t1001 t1002 true) else (if a2 = 0 then (none) else (sackbutlaw02_CanonFolds.j0 k a0 a1 a2 t1001 t1002 ((Int.tmod a0 a2) != 0))))) else (sackbutlaw02_CanonFolds.j0 k a0 a1 a2 t1001 t1002 true)) = some r := H
      have A8 := Aside0.mk A80
      clear A80
      by_cases c9 : t1003 = true
      · subst c9
        have H1 : (if a2 < 2 then (sackbutlaw02_CanonFolds.j0 k a0 a1 a2 t1001 t1002 true) else (if a2 > a0 then (sackbutlaw02_CanonFolds.j0 k a0 a1 a2 t1001 t1002 true) else (if a2 = 0 then (none) else (sackbutlaw02_CanonFolds.j0 k a0 a1 a2 t1001 t1002 ((Int.tmod a0 a2) != 0))))) = some r := by rw [if_pos rfl] at H; exact H
        clear H
        have H := H1
        clear H1
        by_cases c10 : a2 < 2
        · rw [if_pos c10] at H
          have c10b0 : decide (a2 < 2) = true := decide_eq_true c10
          clear c10
          have H' := Aside0.mk H
          clear H
          go_wp2_with (first | (go_at_call 10; (with_reducible refine (sackbutref02_Rhythm.calls a0 a1 true _ A8.out).mono ?_); rintro e w' ⟨rfl, ⟨nd, rfl⟩⟩; (try first | exact ⟨rfl, _, World.drewN_drewN _ _ _⟩ | exact ⟨rfl, _, Eq.trans (World.drewN_drewN _ _ _) (congrArg (World.drewN _) (Nat.add_assoc _ _ _))⟩)))
          repeat (go_quiet (first | (go_at_call 10; (with_reducible refine (sackbutref02_Rhythm.calls a0 a1 true _ A8.out).mono ?_); rintro e w' ⟨rfl, ⟨nd, rfl⟩⟩; (try first | exact ⟨rfl, _, World.drewN_drewN _ _ _⟩ | exact ⟨rfl, _, Eq.trans (World.drewN_drewN _ _ _) (congrArg (World.drewN _) (Nat.add_assoc _ _ _))⟩))); try go_wp2_with (first | (go_at_call 10; (with_reducible refine (sackbutref02_Rhythm.calls a0 a1 true _ A8.out).mono ?_); rintro e w' ⟨rfl, ⟨nd, rfl⟩⟩; (try first | exact ⟨rfl, _, World.drewN_drewN _ _ _⟩ | exact ⟨rfl, _, Eq.trans (World.drewN_drewN _ _ _) (congrArg (World.drewN _) (Nat.add_assoc _ _ _))⟩))))
          go_meet
          case rel => exact ⟨_, (true), (by first | rfl | (simp; done) | (simp [*]; done)), H', ⟨by first | omega | exact Nat.le_refl _⟩, ⟨by repeat (first | (with_reducible first | exact HB.out | apply below_alloc | apply pw_below_drewN | apply below_drew1) | exact HB.out)⟩⟩
        · rw [if_neg c10] at H
          have c10b0 : decide (a2 < 2) = false := decide_eq_false c10
          clear c10
          by_cases c11 : a2 > a0
          · rw [if_pos c11] at H
            have c11b0 : decide (a0 < a2) = true := decide_eq_true c11
            clear c11
            have H' := Aside0.mk H
            clear H
            go_wp2_with (first | (go_at_call 10; (with_reducible refine (sackbutref02_Rhythm.calls a0 a1 true _ A8.out).mono ?_); rintro e w' ⟨rfl, ⟨nd, rfl⟩⟩; (try first | exact ⟨rfl, _, World.drewN_drewN _ _ _⟩ | exact ⟨rfl, _, Eq.trans (World.drewN_drewN _ _ _) (congrArg (World.drewN _) (Nat.add_assoc _ _ _))⟩)))
            repeat (go_quiet (first | (go_at_call 10; (with_reducible refine (sackbutref02_Rhythm.calls a0 a1 true _ A8.out).mono ?_); rintro e w' ⟨rfl, ⟨nd, rfl⟩⟩; (try first | exact ⟨rfl, _, World.drewN_drewN _ _ _⟩ | exact ⟨rfl, _, Eq.trans (World.drewN_drewN _ _ _) (congrArg (World.drewN _) (Nat.add_assoc _ _ _))⟩))); try go_wp2_with (first | (go_at_call 10; (with_reducible refine (sackbutref02_Rhythm.calls a0 a1 true _ A8.out).mono ?_); rintro e w' ⟨rfl, ⟨nd, rfl⟩⟩; (try first | exact ⟨rfl, _, World.drewN_drewN _ _ _⟩ | exact ⟨rfl, _, Eq.trans (World.drewN_drewN _ _ _) (congrArg (World.drewN _) (Nat.add_assoc _ _ _))⟩))))
            go_meet
            case rel => exact ⟨_, (true), (by first | rfl | (simp; done) | (simp [*]; done)), H', ⟨by first | omega | exact Nat.le_refl _⟩, ⟨by repeat (first | (with_reducible first | exact HB.out | apply below_alloc | apply pw_below_drewN | apply below_drew1) | exact HB.out)⟩⟩
          · rw [if_neg c11] at H
            have c11b0 : decide (a0 < a2) = false := decide_eq_false c11
            clear c11
            by_cases c12 : a2 = 0
            · rw [if_pos c12] at H
              exact absurd H (by simp)
            · rw [if_neg c12] at H
              have c12b0 : (a2 == 0) = false := beq_eq_false_iff_ne.mpr c12
              have c12b1 : (a2 != 0) = true := bne_iff_ne.mpr c12
              have H' := Aside0.mk H
              clear H
              go_wp2_with (first | (go_at_call 10; (with_reducible refine (sackbutref02_Rhythm.calls a0 a1 true _ A8.out).mono ?_); rintro e w' ⟨rfl, ⟨nd, rfl⟩⟩; (try first | exact ⟨rfl, _, World.drewN_drewN _ _ _⟩ | exact ⟨rfl, _, Eq.trans (World.drewN_drewN _ _ _) (congrArg (World.drewN _) (Nat.add_assoc _ _ _))⟩)))
              repeat (go_quiet (first | (go_at_call 10; (with_reducible refine (sackbutref02_Rhythm.calls a0 a1 true _ A8.out).mono ?_); rintro e w' ⟨rfl, ⟨nd, rfl⟩⟩; (try first | exact ⟨rfl, _, World.drewN_drewN _ _ _⟩ | exact ⟨rfl, _, Eq.trans (World.drewN_drewN _ _ _) (congrArg (World.drewN _) (Nat.add_assoc _ _ _))⟩))); try go_wp2_with (first | (go_at_call 10; (with_reducible refine (sackbutref02_Rhythm.calls a0 a1 true _ A8.out).mono ?_); rintro e w' ⟨rfl, ⟨nd, rfl⟩⟩; (try first | exact ⟨rfl, _, World.drewN_drewN _ _ _⟩ | exact ⟨rfl, _, Eq.trans (World.drewN_drewN _ _ _) (congrArg (World.drewN _) (Nat.add_assoc _ _ _))⟩))))
              go_meet
              case rel => exact ⟨_, (((Int.tmod a0 a2) != 0)), (by first | rfl | (simp; done) | (simp [*]; done)), H', ⟨by first | omega | exact Nat.le_refl _⟩, ⟨by repeat (first | (with_reducible first | exact HB.out | apply below_alloc | apply pw_below_drewN | apply below_drew1) | exact HB.out)⟩⟩
      · replace c9 := Bool.eq_false_iff.mpr c9
        subst c9
        have H1 : (sackbutlaw02_CanonFolds.j0 k a0 a1 a2 t1001 t1002 true) = some r := by rw [if_neg (show ¬ (false = true) by decide)] at H; exact H
        clear H
        have H := H1
        clear H1
        have H' := Aside0.mk H
        clear H
        go_wp2_with (first | (go_at_call 10; (with_reducible refine (sackbutref02_Rhythm.calls a0 a1 false _ A8.out).mono ?_); rintro e w' ⟨rfl, ⟨nd, rfl⟩⟩; (try first | exact ⟨rfl, _, World.drewN_drewN _ _ _⟩ | exact ⟨rfl, _, Eq.trans (World.drewN_drewN _ _ _) (congrArg (World.drewN _) (Nat.add_assoc _ _ _))⟩)))
        repeat (go_quiet (first | (go_at_call 10; (with_reducible refine (sackbutref02_Rhythm.calls a0 a1 false _ A8.out).mono ?_); rintro e w' ⟨rfl, ⟨nd, rfl⟩⟩; (try first | exact ⟨rfl, _, World.drewN_drewN _ _ _⟩ | exact ⟨rfl, _, Eq.trans (World.drewN_drewN _ _ _) (congrArg (World.drewN _) (Nat.add_assoc _ _ _))⟩))); try go_wp2_with (first | (go_at_call 10; (with_reducible refine (sackbutref02_Rhythm.calls a0 a1 false _ A8.out).mono ?_); rintro e w' ⟨rfl, ⟨nd, rfl⟩⟩; (try first | exact ⟨rfl, _, World.drewN_drewN _ _ _⟩ | exact ⟨rfl, _, Eq.trans (World.drewN_drewN _ _ _) (congrArg (World.drewN _) (Nat.add_assoc _ _ _))⟩))))
        go_meet
        case rel => exact ⟨_, (true), (by first | rfl | (simp; done) | (simp [*]; done)), H', ⟨by first | omega | exact Nat.le_refl _⟩, ⟨by repeat (first | (with_reducible first | exact HB.out | apply below_alloc | apply pw_below_drewN | apply below_drew1) | exact HB.out)⟩⟩
    · rw [if_neg c7] at H
      have c7b0 : (t1002 == 0) = false := beq_eq_false_iff_ne.mpr c7
      have c7b1 : (t1002 != 0) = true := bne_iff_ne.mpr c7
      (first | rw [c7b0] | (simp only [i64_w, i32_w]; rw [c7b0]) | skip)
      have H' := Aside0.mk H
      clear H
      go_wp2
      repeat (go_quiet (fail); try go_wp2)
      go_meet
      case rel => exact ⟨_, (true), (by first | rfl | (simp; done) | (simp [*]; done)), H', ⟨by first | omega | exact Nat.le_refl _⟩, ⟨by repeat (first | (with_reducible first | exact HB.out | apply below_alloc | apply pw_below_drewN | apply below_drew1) | exact HB.out)⟩⟩
  case rest =>
    clear HC5
    try clear c1
    try clear p2
    try clear c3
    try clear c7
    try clear c7b0
    try clear c7b1
    try clear c9
    try clear c10
    try clear c10b0
    try clear c11
    try clear c11b0
    try clear c12
    try clear c12b0
    try clear c12b1
    obtain ⟨kq, x43_4, rfl, HA, HJ4, HB⟩ := hcut
    cases kq with
    | zero => exact absurd HA.out (by simp [sackbutlaw02_CanonFolds.j0])
    | succ kj4 =>
      have H := HA.out
      clear HA
      simp only [sackbutlaw02_CanonFolds.j0] at H
      by_cases c13 : x43_4 = true
      · subst c13
        have H1 : (if t1002 = 2 then ((sackbutlaw02_awake.f kj4).bind fun t1004 => (some t1004)) else (some false)) = some r := by rw [if_pos rfl] at H; exact H
        clear H
        have H := H1
        clear H1
        by_cases c14 : t1002 = 2
        · rw [if_pos c14] at H
          have c14b0 : (t1002 == 2) = true := beq_iff_eq.mpr c14
          have c14b1 : (t1002 != 2) = false := bne_eq_false_iff_eq.mpr c14
          clear c14
          replace H := Option.bind_eq_some_iff.mp H
          obtain ⟨t1004, A150, H⟩ := H
          replace H : (some t1004) = some r := H
          have A15 := Aside0.mk A150
          clear A150
          obtain rfl := Option.some.inj H
          go_wp2_with (first | (go_at_call 11; (with_reducible refine (sackbutlaw02_awake.calls kj4  t1004 _ A15.out).mono ?_); rintro e w16 ⟨rfl, hb⟩; have n0_ := Aside0.mk (below_step (by repeat (first | (with_reducible first | exact HB.out | apply below_alloc | apply pw_below_drewN | apply below_drew1) | exact HB.out)) hb); clear HB; have HB := n0_; clear n0_; (try clear hb); (try clear hb2); (try clear hk); (try clear hi)))
          repeat (go_quiet (first | (go_at_call 11; (with_reducible refine (sackbutlaw02_awake.calls kj4  t1004 _ A15.out).mono ?_); rintro e w16 ⟨rfl, hb⟩; have n0_ := Aside0.mk (below_step (by repeat (first | (with_reducible first | exact HB.out | apply below_alloc | apply pw_below_drewN | apply below_drew1) | exact HB.out)) hb); clear HB; have HB := n0_; clear n0_; (try clear hb); (try clear hb2); (try clear hk); (try clear hi))); try go_wp2_with (first | (go_at_call 11; (with_reducible refine (sackbutlaw02_awake.calls kj4  t1004 _ A15.out).mono ?_); rintro e w16 ⟨rfl, hb⟩; have n0_ := Aside0.mk (below_step (by repeat (first | (with_reducible first | exact HB.out | apply below_alloc | apply pw_below_drewN | apply below_drew1) | exact HB.out)) hb); clear HB; have HB := n0_; clear n0_; (try clear hb); (try clear hb2); (try clear hk); (try clear hi))))
          go_ret
          exact ⟨by first | rfl | (simp [errW_none, errW_some] <;> rfl) | (simp [*, errW_none, errW_some] <;> rfl), by repeat (first | (with_reducible first | exact HB.out | apply below_alloc | apply pw_below_drewN | apply below_drew1) | exact HB.out)⟩
        · rw [if_neg c14] at H
          have c14b0 : (t1002 == 2) = false := beq_eq_false_iff_ne.mpr c14
          have c14b1 : (t1002 != 2) = true := bne_iff_ne.mpr c14
          obtain rfl := Option.some.inj H
          go_wp2
          repeat (go_quiet (fail); try go_wp2)
          go_ret
          exact ⟨by first | rfl | (simp [errW_none, errW_some] <;> rfl) | (simp [*, errW_none, errW_some] <;> rfl), by repeat (first | (with_reducible first | exact HB.out | apply below_alloc | apply pw_below_drewN | apply below_drew1) | exact HB.out)⟩
      · replace c13 := Bool.eq_false_iff.mpr c13
        subst c13
        have H1 : (sackbutlaw02_CanonFolds.l0 kj4 a0 a1 a2 t1001 a0 0) = some r := by rw [if_neg (show ¬ (false = true) by decide)] at H; exact H
        clear H
        have H := H1
        clear H1
        have H' := Aside0.mk H
        clear H
        go_wp2
        repeat (go_quiet (fail); try go_wp2)
        go_loopg [50] kj4 (fun kq v50 w' => ∃ (x50_2 : Int), v50 = .int .i64 x50_2 ∧ Aside0 (sackbutlaw02_CanonFolds.l0 kq a0 a1 a2 t1001 a0 x50_2 = some r) ∧ Aside0 (kq ≤ kj4) ∧ Aside0 (Below w.heap.size w w'))
        case atStart => exact ⟨(0), (by first | rfl | (simp; done) | (simp [*]; done)), H', ⟨Nat.le_refl _⟩, ⟨by repeat (first | (with_reducible first | exact HB.out | apply below_alloc | apply pw_below_drewN | apply below_drew1) | exact HB.out)⟩⟩
        case round =>
          clear H'
          try clear c1
          try clear p2
          try clear c3
          try clear c7
          try clear c7b0
          try clear c7b1
          try clear c9
          try clear c10
          try clear c10b0
          try clear c11
          try clear c11b0
          try clear c12
          try clear c12b0
          try clear c12b1
          try clear c13
          try clear c14
          try clear c14b0
          try clear c14b1
          try clear p2
          obtain ⟨x50_2, rfl, HA, HK2, HB⟩ := hrel
          cases gk with
          | zero => exact absurd HA.out (by simp [sackbutlaw02_CanonFolds.l0])
          | succ k2 =>
            have H := HA.out
            clear HA
            simp only [sackbutlaw02_CanonFolds.l0] at H
            by_cases c17 : x50_2 < a0
            · rw [if_pos c17] at H
              have c17b0 : decide (x50_2 < a0) = true := decide_eq_true c17
              clear c17
              by_cases c18 : 0 ≤ x50_2
              · rw [if_pos c18] at H
                have c18b0 := eq_true c18
                have c18b1 : decide (0 ≤ x50_2) = true := decide_eq_true c18
                clear c18
                obtain ⟨ji19, hji19⟩ : ∃ j_ : Int, (shr .i64 a1 x50_2) = j_ := ⟨_, rfl⟩
                replace H : (if a0 = 0 then (none) else (if 0 ≤ (Int.tmod (wrap64 (x50_2 + a2)) a0) then (if (Go.bits .and .i64 (ji19) 1) = (Go.bits .and .i64 (shr .i64 a1 (Int.tmod (wrap64 (x50_2 + a2)) a0)) 1) then (if a2 = 0 then (none) else (if 0 ≤ (Int.tmod x50_2 a2) then (if (Go.bits .and .i64 (ji19) 1) = (Go.bits .and .i64 (shr .i64 t1001 (Int.tmod x50_2 a2)) 1) then (sackbutlaw02_CanonFolds.l0 k2 a0 a1 a2 t1001 a0 (wrap64 (x50_2 + 1))) else (some false)) else (none))) else (some false)) else (none))) = some r := by first | (rw [hji19] at H; exact H) | (simp only [hji19] at H ⊢; exact H)
                have hji19_ : (a1 / 2 ^ min x50_2.toNat 64) = ji19 := hji19
                have hji19z : x50_2 ≤ 64 → (a1 / 2 ^ x50_2.toNat) = ji19 := shr_small hji19
                by_cases c20 : a0 = 0
                · rw [if_pos c20] at H
                  exact absurd H (by simp)
                · rw [if_neg c20] at H
                  have c20b0 : (a0 == 0) = false := beq_eq_false_iff_ne.mpr c20
                  have c20b1 : (a0 != 0) = true := bne_iff_ne.mpr c20
                  obtain ⟨ji21, hji21⟩ : ∃ j_ : Int, (Int.tmod (wrap64 (x50_2 + a2)) a0) = j_ := ⟨_, rfl⟩
                  replace H : (if 0 ≤ (ji21) then (if (Go.bits .and .i64 (ji19) 1) = (Go.bits .and .i64 (shr .i64 a1 (ji21)) 1) then (if a2 = 0 then (none) else (if 0 ≤ (Int.tmod x50_2 a2) then (if (Go.bits .and .i64 (ji19) 1) = (Go.bits .and .i64 (shr .i64 t1001 (Int.tmod x50_2 a2)) 1) then (sackbutlaw02_CanonFolds.l0 k2 a0 a1 a2 t1001 a0 (wrap64 (x50_2 + 1))) else (some false)) else (none))) else (some false)) else (none)) = some r := by first | (rw [hji21] at H; exact H) | (simp only [hji21] at H ⊢; exact H)
                  by_cases c22 : 0 ≤ (ji21)
                  · rw [if_pos c22] at H
                    have c22b0 := eq_true c22
                    have c22b1 : decide (0 ≤ (ji21)) = true := decide_eq_true c22
                    clear c22
                    obtain ⟨ji23, hji23⟩ : ∃ j_ : Int, (shr .i64 a1 (ji21)) = j_ := ⟨_, rfl⟩
                    replace H : (if (Go.bits .and .i64 (ji19) 1) = (Go.bits .and .i64 (ji23) 1) then (if a2 = 0 then (none) else (if 0 ≤ (Int.tmod x50_2 a2) then (if (Go.bits .and .i64 (ji19) 1) = (Go.bits .and .i64 (shr .i64 t1001 (Int.tmod x50_2 a2)) 1) then (sackbutlaw02_CanonFolds.l0 k2 a0 a1 a2 t1001 a0 (wrap64 (x50_2 + 1))) else (some false)) else (none))) else (some false)) = some r := by first | (rw [hji23] at H; exact H) | (simp only [hji23] at H ⊢; exact H)
                    have hji23_ : (a1 / 2 ^ min (ji21).toNat 64) = ji23 := hji23
                    have hji23z : (ji21) ≤ 64 → (a1 / 2 ^ (ji21).toNat) = ji23 := shr_small hji23
                    by_cases c24 : (Go.bits .and .i64 (ji19) 1) = (Go.bits .and .i64 (ji23) 1)
                    · rw [if_pos c24] at H
                      have c24b0 : ((Go.bits .and .i64 (ji19) 1) == (Go.bits .and .i64 (ji23) 1)) = true := beq_iff_eq.mpr c24
                      have c24b1 : ((Go.bits .and .i64 (ji19) 1) != (Go.bits .and .i64 (ji23) 1)) = false := bne_eq_false_iff_eq.mpr c24
                      clear c24
                      have c25b0 := eq_true (of_decide_eq_true (by first | (with_reducible assumption) | assumption) : 0 ≤ x50_2)
                      by_cases c27 : a2 = 0
                      · rw [if_pos c27] at H
                        exact absurd H (by simp)
                      · rw [if_neg c27] at H
                        have c27b0 : (a2 == 0) = false := beq_eq_false_iff_ne.mpr c27
                        have c27b1 : (a2 != 0) = true := bne_iff_ne.mpr c27
                        obtain ⟨ji28, hji28⟩ : ∃ j_ : Int, (Int.tmod x50_2 a2) = j_ := ⟨_, rfl⟩
                        replace H : (if 0 ≤ (ji28) then (if (Go.bits .and .i64 (ji19) 1) = (Go.bits .and .i64 (shr .i64 t1001 (ji28)) 1) then (sackbutlaw02_CanonFolds.l0 k2 a0 a1 a2 t1001 a0 (wrap64 (x50_2 + 1))) else (some false)) else (none)) = some r := by first | (rw [hji28] at H; exact H) | (simp only [hji28] at H ⊢; exact H)
                        by_cases c29 : 0 ≤ (ji28)
                        · rw [if_pos c29] at H
                          have c29b0 := eq_true c29
                          have c29b1 : decide (0 ≤ (ji28)) = true := decide_eq_true c29
                          clear c29
                          obtain ⟨ji30, hji30⟩ : ∃ j_ : Int, (shr .i64 t1001 (ji28)) = j_ := ⟨_, rfl⟩
                          replace H : (if (Go.bits .and .i64 (ji19) 1) = (Go.bits .and .i64 (ji30) 1) then (sackbutlaw02_CanonFolds.l0 k2 a0 a1 a2 t1001 a0 (wrap64 (x50_2 + 1))) else (some false)) = some r := by first | (rw [hji30] at H; exact H) | (simp only [hji30] at H ⊢; exact H)
                          have hji30_ : (t1001 / 2 ^ min (ji28).toNat 64) = ji30 := hji30
                          have hji30z : (ji28) ≤ 64 → (t1001 / 2 ^ (ji28).toNat) = ji30 := shr_small hji30
                          by_cases c31 : (Go.bits .and .i64 (ji19) 1) = (Go.bits .and .i64 (ji30) 1)
                          · rw [if_pos c31] at H
                            have c31b0 : ((Go.bits .and .i64 (ji19) 1) == (Go.bits .and .i64 (ji30) 1)) = true := beq_iff_eq.mpr c31
                            have c31b1 : ((Go.bits .and .i64 (ji19) 1) != (Go.bits .and .i64 (ji30) 1)) = false := bne_eq_false_iff_eq.mpr c31
                            clear c31
                            have H' := Aside0.mk H
                            clear H
                            go_wp2
                            repeat (go_quiet (fail); try go_wp2)
                            go_roundg k2
                            case measure => have := HJ4.out; have := HK2.out; omega
                            case rel => exact ⟨(wrap64 (x50_2 + 1)), (by first | rfl | (simp; done) | (simp [*]; done)), H', ⟨by have := HJ4.out; have := HK2.out; omega⟩, ⟨by repeat (first | (with_reducible first | exact HB.out | apply below_alloc | apply pw_below_drewN | apply below_drew1) | exact HB.out)⟩⟩
                          · rw [if_neg c31] at H
                            have c31b0 : ((Go.bits .and .i64 (ji19) 1) == (Go.bits .and .i64 (ji30) 1)) = false := beq_eq_false_iff_ne.mpr c31
                            have c31b1 : ((Go.bits .and .i64 (ji19) 1) != (Go.bits .and .i64 (ji30) 1)) = true := bne_iff_ne.mpr c31
                            obtain rfl := Option.some.inj H
                            go_wp2
                            repeat (go_quiet (fail); try go_wp2)
                            go_ret
                            exact ⟨by first | rfl | (simp [errW_none, errW_some] <;> rfl) | (simp only [← hji19, ← hji21, ← hji23, ← hji28, ← hji30]; first | rfl | (simp [errW_none, errW_some] <;> rfl)) | (simp [*, errW_none, errW_some] <;> rfl), by repeat (first | (with_reducible first | exact HB.out | apply below_alloc | apply pw_below_drewN | apply below_drew1) | exact HB.out)⟩
                        · rw [if_neg c29] at H
                          exact absurd H (by simp)
                    · rw [if_neg c24] at H
                      have c24b0 : ((Go.bits .and .i64 (ji19) 1) == (Go.bits .and .i64 (ji23) 1)) = false := beq_eq_false_iff_ne.mpr c24
                      have c24b1 : ((Go.bits .and .i64 (ji19) 1) != (Go.bits .and .i64 (ji23) 1)) = true := bne_iff_ne.mpr c24
                      obtain rfl := Option.some.inj H
                      go_wp2
                      repeat (go_quiet (fail); try go_wp2)
                      go_ret
                      exact ⟨by first | rfl | (simp [errW_none, errW_some] <;> rfl) | (simp only [← hji19, ← hji21, ← hji23]; first | rfl | (simp [errW_none, errW_some] <;> rfl)) | (simp [*, errW_none, errW_some] <;> rfl), by repeat (first | (with_reducible first | exact HB.out | apply below_alloc | apply pw_below_drewN | apply below_drew1) | exact HB.out)⟩
                  · rw [if_neg c22] at H
                    exact absurd H (by simp)
              · rw [if_neg c18] at H
                exact absurd H (by simp)
            · rw [if_neg c17] at H
              have c17b0 : decide (x50_2 < a0) = false := decide_eq_false c17
              clear c17
              replace H := Option.bind_eq_some_iff.mp H
              obtain ⟨⟨t1005, t1006⟩, A320, H⟩ := H
              replace H : ((canon_Partner.f a2 t1001).bind fun bt1007 => (if t1006 = 0 then (if t1006 = bt1007.2 then ((sackbutlaw02_awake.f k2).bind fun t1009 => (some t1009)) else (some false)) else (if t1006 = 4 then (if t1006 = bt1007.2 then ((sackbutlaw02_awake.f k2).bind fun t1010 => (some t1010)) else (some false)) else (some false)))) = some r := H
              have A32 := Aside0.mk A320
              clear A320
              replace H := Option.bind_eq_some_iff.mp H
              obtain ⟨⟨t1007, t1008⟩, A330, H⟩ := H
              replace H : (if t1006 = 0 then (if t1006 = t1008 then ((sackbutlaw02_awake.f k2).bind fun t1009 => (some t1009)) else (some false)) else (if t1006 = 4 then (if t1006 = t1008 then ((sackbutlaw02_awake.f k2).bind fun t1010 => (some t1010)) else (some false)) else (some false))) = some r := H
              have A33 := Aside0.mk A330
              clear A330
              by_cases c34 : t1006 = 0
              · rw [if_pos c34] at H
                have c34b0 : (t1006 == 0) = true := beq_iff_eq.mpr c34
                have c34b1 : (t1006 != 0) = false := bne_eq_false_iff_eq.mpr c34
                clear c34
                by_cases c35 : t1006 = t1008
                · rw [if_pos c35] at H
                  have c35b0 : (t1006 == t1008) = true := beq_iff_eq.mpr c35
                  have c35b1 : (t1006 != t1008) = false := bne_eq_false_iff_eq.mpr c35
                  clear c35
                  replace H := Option.bind_eq_some_iff.mp H
                  obtain ⟨t1009, A360, H⟩ := H
                  replace H : (some t1009) = some r := H
                  have A36 := Aside0.mk A360
                  clear A360
                  obtain rfl := Option.some.inj H
                  go_wp2_with (first | (go_at_call 12; (with_reducible refine (canon_Partner.calls a0 a1 t1005 t1006 _ ?side1 A32.out).mono ?_); (case side1 => exact Tabs.below HT0.out (by repeat (first | (with_reducible first | exact HB.out | apply below_alloc | apply pw_below_drewN | apply below_drew1) | exact HB.out))); rintro e w37 ⟨rfl, hb⟩; have n0_ := Aside0.mk (below_step (by repeat (first | (with_reducible first | exact HB.out | apply below_alloc | apply pw_below_drewN | apply below_drew1) | exact HB.out)) hb); clear HB; have HB := n0_; clear n0_; (try clear hb); (try clear hb2); (try clear hk); (try clear hi)) | (go_at_call 12; (with_reducible refine (canon_Partner.calls a2 t1001 t1007 t1008 _ ?side1 A33.out).mono ?_); (case side1 => exact Tabs.below HT0.out (by repeat (first | (with_reducible first | exact HB.out | apply below_alloc | apply pw_below_drewN | apply below_drew1) | exact HB.out))); rintro e w38 ⟨rfl, hb⟩; have n0_ := Aside0.mk (below_step (by repeat (first | (with_reducible first | exact HB.out | apply below_alloc | apply pw_below_drewN | apply below_drew1) | exact HB.out)) hb); clear HB; have HB := n0_; clear n0_; (try clear hb); (try clear hb2); (try clear hk); (try clear hi)) | (go_at_call 11; (with_reducible refine (sackbutlaw02_awake.calls k2  t1009 _ A36.out).mono ?_); rintro e w39 ⟨rfl, hb⟩; have n0_ := Aside0.mk (below_step (by repeat (first | (with_reducible first | exact HB.out | apply below_alloc | apply pw_below_drewN | apply below_drew1) | exact HB.out)) hb); clear HB; have HB := n0_; clear n0_; (try clear hb); (try clear hb2); (try clear hk); (try clear hi)))
                  repeat (go_quiet (first | (go_at_call 12; (with_reducible refine (canon_Partner.calls a0 a1 t1005 t1006 _ ?side1 A32.out).mono ?_); (case side1 => exact Tabs.below HT0.out (by repeat (first | (with_reducible first | exact HB.out | apply below_alloc | apply pw_below_drewN | apply below_drew1) | exact HB.out))); rintro e w37 ⟨rfl, hb⟩; have n0_ := Aside0.mk (below_step (by repeat (first | (with_reducible first | exact HB.out | apply below_alloc | apply pw_below_drewN | apply below_drew1) | exact HB.out)) hb); clear HB; have HB := n0_; clear n0_; (try clear hb); (try clear hb2); (try clear hk); (try clear hi)) | (go_at_call 12; (with_reducible refine (canon_Partner.calls a2 t1001 t1007 t1008 _ ?side1 A33.out).mono ?_); (case side1 => exact Tabs.below HT0.out (by repeat (first | (with_reducible first | exact HB.out | apply below_alloc | apply pw_below_drewN | apply below_drew1) | exact HB.out))); rintro e w38 ⟨rfl, hb⟩; have n0_ := Aside0.mk (below_step (by repeat (first | (with_reducible first | exact HB.out | apply below_alloc | apply pw_below_drewN | apply below_drew1) | exact HB.out)) hb); clear HB; have HB := n0_; clear n0_; (try clear hb); (try clear hb2); (try clear hk); (try clear hi)) | (go_at_call 11; (with_reducible refine (sackbutlaw02_awake.calls k2  t1009 _ A36.out).mono ?_); rintro e w39 ⟨rfl, hb⟩; have n0_ := Aside0.mk (below_step (by repeat (first | (with_reducible first | exact HB.out | apply below_alloc | apply pw_below_drewN | apply below_drew1) | exact HB.out)) hb); clear HB; have HB := n0_; clear n0_; (try clear hb); (try clear hb2); (try clear hk); (try clear hi))); try go_wp2_with (first | (go_at_call 12; (with_reducible refine (canon_Partner.calls a0 a1 t1005 t1006 _ ?side1 A32.out).mono ?_); (case side1 => exact Tabs.below HT0.out (by repeat (first | (with_reducible first | exact HB.out | apply below_alloc | apply pw_below_drewN | apply below_drew1) | exact HB.out))); rintro e w37 ⟨rfl, hb⟩; have n0_ := Aside0.mk (below_step (by repeat (first | (with_reducible first | exact HB.out | apply below_alloc | apply pw_below_drewN | apply below_drew1) | exact HB.out)) hb); clear HB; have HB := n0_; clear n0_; (try clear hb); (try clear hb2); (try clear hk); (try clear hi)) | (go_at_call 12; (with_reducible refine (canon_Partner.calls a2 t1001 t1007 t1008 _ ?side1 A33.out).mono ?_); (case side1 => exact Tabs.below HT0.out (by repeat (first | (with_reducible first | exact HB.out | apply below_alloc | apply pw_below_drewN | apply below_drew1) | exact HB.out))); rintro e w38 ⟨rfl, hb⟩; have n0_ := Aside0.mk (below_step (by repeat (first | (with_reducible first | exact HB.out | apply below_alloc | apply pw_below_drewN | apply below_drew1) | exact HB.out)) hb); clear HB; have HB := n0_; clear n0_; (try clear hb); (try clear hb2); (try clear hk); (try clear hi)) | (go_at_call 11; (with_reducible refine (sackbutlaw02_awake.calls k2  t1009 _ A36.out).mono ?_); rintro e w39 ⟨rfl, hb⟩; have n0_ := Aside0.mk (below_step (by repeat (first | (with_reducible first | exact HB.out | apply below_alloc | apply pw_below_drewN | apply below_drew1) | exact HB.out)) hb); clear HB; have HB := n0_; clear n0_; (try clear hb); (try clear hb2); (try clear hk); (try clear hi))))
                  go_ret
                  exact ⟨by first | rfl | (simp [errW_none, errW_some] <;> rfl) | (simp [*, errW_none, errW_some] <;> rfl), by repeat (first | (with_reducible first | exact HB.out | apply below_alloc | apply pw_below_drewN | apply below_drew1) | exact HB.out)⟩
                · rw [if_neg c35] at H
                  have c35b0 : (t1006 == t1008) = false := beq_eq_false_iff_ne.mpr c35
                  have c35b1 : (t1006 != t1008) = true := bne_iff_ne.mpr c35
                  obtain rfl := Option.some.inj H
                  go_wp2_with (first | (go_at_call 12; (with_reducible refine (canon_Partner.calls a0 a1 t1005 t1006 _ ?side1 A32.out).mono ?_); (case side1 => exact Tabs.below HT0.out (by repeat (first | (with_reducible first | exact HB.out | apply below_alloc | apply pw_below_drewN | apply below_drew1) | exact HB.out))); rintro e w40 ⟨rfl, hb⟩; have n0_ := Aside0.mk (below_step (by repeat (first | (with_reducible first | exact HB.out | apply below_alloc | apply pw_below_drewN | apply below_drew1) | exact HB.out)) hb); clear HB; have HB := n0_; clear n0_; (try clear hb); (try clear hb2); (try clear hk); (try clear hi)) | (go_at_call 12; (with_reducible refine (canon_Partner.calls a2 t1001 t1007 t1008 _ ?side1 A33.out).mono ?_); (case side1 => exact Tabs.below HT0.out (by repeat (first | (with_reducible first | exact HB.out | apply below_alloc | apply pw_below_drewN | apply below_drew1) | exact HB.out))); rintro e w41 ⟨rfl, hb⟩; have n0_ := Aside0.mk (below_step (by repeat (first | (with_reducible first | exact HB.out | apply below_alloc | apply pw_below_drewN | apply below_drew1) | exact HB.out)) hb); clear HB; have HB := n0_; clear n0_; (try clear hb); (try clear hb2); (try clear hk); (try clear hi)))
                  repeat (go_quiet (first | (go_at_call 12; (with_reducible refine (canon_Partner.calls a0 a1 t1005 t1006 _ ?side1 A32.out).mono ?_); (case side1 => exact Tabs.below HT0.out (by repeat (first | (with_reducible first | exact HB.out | apply below_alloc | apply pw_below_drewN | apply below_drew1) | exact HB.out))); rintro e w40 ⟨rfl, hb⟩; have n0_ := Aside0.mk (below_step (by repeat (first | (with_reducible first | exact HB.out | apply below_alloc | apply pw_below_drewN | apply below_drew1) | exact HB.out)) hb); clear HB; have HB := n0_; clear n0_; (try clear hb); (try clear hb2); (try clear hk); (try clear hi)) | (go_at_call 12; (with_reducible refine (canon_Partner.calls a2 t1001 t1007 t1008 _ ?side1 A33.out).mono ?_); (case side1 => exact Tabs.below HT0.out (by repeat (first | (with_reducible first | exact HB.out | apply below_alloc | apply pw_below_drewN | apply below_drew1) | exact HB.out))); rintro e w41 ⟨rfl, hb⟩; have n0_ := Aside0.mk (below_step (by repeat (first | (with_reducible first | exact HB.out | apply below_alloc | apply pw_below_drewN | apply below_drew1) | exact HB.out)) hb); clear HB; have HB := n0_; clear n0_; (try clear hb); (try clear hb2); (try clear hk); (try clear hi))); try go_wp2_with (first | (go_at_call 12; (with_reducible refine (canon_Partner.calls a0 a1 t1005 t1006 _ ?side1 A32.out).mono ?_); (case side1 => exact Tabs.below HT0.out (by repeat (first | (with_reducible first | exact HB.out | apply below_alloc | apply pw_below_drewN | apply below_drew1) | exact HB.out))); rintro e w40 ⟨rfl, hb⟩; have n0_ := Aside0.mk (below_step (by repeat (first | (with_reducible first | exact HB.out | apply below_alloc | apply pw_below_drewN | apply below_drew1) | exact HB.out)) hb); clear HB; have HB := n0_; clear n0_; (try clear hb); (try clear hb2); (try clear hk); (try clear hi)) | (go_at_call 12; (with_reducible refine (canon_Partner.calls a2 t1001 t1007 t1008 _ ?side1 A33.out).mono ?_); (case side1 => exact Tabs.below HT0.out (by repeat (first | (with_reducible first | exact HB.out | apply below_alloc | apply pw_below_drewN | apply below_drew1) | exact HB.out))); rintro e w41 ⟨rfl, hb⟩; have n0_ := Aside0.mk (below_step (by repeat (first | (with_reducible first | exact HB.out | apply below_alloc | apply pw_below_drewN | apply below_drew1) | exact HB.out)) hb); clear HB; have HB := n0_; clear n0_; (try clear hb); (try clear hb2); (try clear hk); (try clear hi))))
                  go_ret
                  exact ⟨by first | rfl | (simp [errW_none, errW_some] <;> rfl) | (simp [*, errW_none, errW_some] <;> rfl), by repeat (first | (with_reducible first | exact HB.out | apply below_alloc | apply pw_below_drewN | apply below_drew1) | exact HB.out)⟩
              · rw [if_neg c34] at H
                have c34b0 : (t1006 == 0) = false := beq_eq_false_iff_ne.mpr c34
                have c34b1 : (t1006 != 0) = true := bne_iff_ne.mpr c34
                by_cases c42 : t1006 = 4
                · rw [if_pos c42] at H
                  have c42b0 : (t1006 == 4) = true := beq_iff_eq.mpr c42
                  have c42b1 : (t1006 != 4) = false := bne_eq_false_iff_eq.mpr c42
                  clear c42
                  by_cases c43 : t1006 = t1008
                  · rw [if_pos c43] at H
                    have c43b0 : (t1006 == t1008) = true := beq_iff_eq.mpr c43
                    have c43b1 : (t1006 != t1008) = false := bne_eq_false_iff_eq.mpr c43
                    clear c43
                    replace H := Option.bind_eq_some_iff.mp H
                    obtain ⟨t1010, A440, H⟩ := H
                    replace H : (some t1010) = some r := H
                    have A44 := Aside0.mk A440
                    clear A440
                    obtain rfl := Option.some.inj H
                    go_wp2_with (first | (go_at_call 12; (with_reducible refine (canon_Partner.calls a0 a1 t1005 t1006 _ ?side1 A32.out).mono ?_); (case side1 => exact Tabs.below HT0.out (by repeat (first | (with_reducible first | exact HB.out | apply below_alloc | apply pw_below_drewN | apply below_drew1) | exact HB.out))); rintro e w45 ⟨rfl, hb⟩; have n0_ := Aside0.mk (below_step (by repeat (first | (with_reducible first | exact HB.out | apply below_alloc | apply pw_below_drewN | apply below_drew1) | exact HB.out)) hb); clear HB; have HB := n0_; clear n0_; (try clear hb); (try clear hb2); (try clear hk); (try clear hi)) | (go_at_call 12; (with_reducible refine (canon_Partner.calls a2 t1001 t1007 t1008 _ ?side1 A33.out).mono ?_); (case side1 => exact Tabs.below HT0.out (by repeat (first | (with_reducible first | exact HB.out | apply below_alloc | apply pw_below_drewN | apply below_drew1) | exact HB.out))); rintro e w46 ⟨rfl, hb⟩; have n0_ := Aside0.mk (below_step (by repeat (first | (with_reducible first | exact HB.out | apply below_alloc | apply pw_below_drewN | apply below_drew1) | exact HB.out)) hb); clear HB; have HB := n0_; clear n0_; (try clear hb); (try clear hb2); (try clear hk); (try clear hi)) | (go_at_call 11; (with_reducible refine (sackbutlaw02_awake.calls k2  t1010 _ A44.out).mono ?_); rintro e w47 ⟨rfl, hb⟩; have n0_ := Aside0.mk (below_step (by repeat (first | (with_reducible first | exact HB.out | apply below_alloc | apply pw_below_drewN | apply below_drew1) | exact HB.out)) hb); clear HB; have HB := n0_; clear n0_; (try clear hb); (try clear hb2); (try clear hk); (try clear hi)))
                    repeat (go_quiet (first | (go_at_call 12; (with_reducible refine (canon_Partner.calls a0 a1 t1005 t1006 _ ?side1 A32.out).mono ?_); (case side1 => exact Tabs.below HT0.out (by repeat (first | (with_reducible first | exact HB.out | apply below_alloc | apply pw_below_drewN | apply below_drew1) | exact HB.out))); rintro e w45 ⟨rfl, hb⟩; have n0_ := Aside0.mk (below_step (by repeat (first | (with_reducible first | exact HB.out | apply below_alloc | apply pw_below_drewN | apply below_drew1) | exact HB.out)) hb); clear HB; have HB := n0_; clear n0_; (try clear hb); (try clear hb2); (try clear hk); (try clear hi)) | (go_at_call 12; (with_reducible refine (canon_Partner.calls a2 t1001 t1007 t1008 _ ?side1 A33.out).mono ?_); (case side1 => exact Tabs.below HT0.out (by repeat (first | (with_reducible first | exact HB.out | apply below_alloc | apply pw_below_drewN | apply below_drew1) | exact HB.out))); rintro e w46 ⟨rfl, hb⟩; have n0_ := Aside0.mk (below_step (by repeat (first | (with_reducible first | exact HB.out | apply below_alloc | apply pw_below_drewN | apply below_drew1) | exact HB.out)) hb); clear HB; have HB := n0_; clear n0_; (try clear hb); (try clear hb2); (try clear hk); (try clear hi)) | (go_at_call 11; (with_reducible refine (sackbutlaw02_awake.calls k2  t1010 _ A44.out).mono ?_); rintro e w47 ⟨rfl, hb⟩; have n0_ := Aside0.mk (below_step (by repeat (first | (with_reducible first | exact HB.out | apply below_alloc | apply pw_below_drewN | apply below_drew1) | exact HB.out)) hb); clear HB; have HB := n0_; clear n0_; (try clear hb); (try clear hb2); (try clear hk); (try clear hi))); try go_wp2_with (first | (go_at_call 12; (with_reducible refine (canon_Partner.calls a0 a1 t1005 t1006 _ ?side1 A32.out).mono ?_); (case side1 => exact Tabs.below HT0.out (by repeat (first | (with_reducible first | exact HB.out | apply below_alloc | apply pw_below_drewN | apply below_drew1) | exact HB.out))); rintro e w45 ⟨rfl, hb⟩; have n0_ := Aside0.mk (below_step (by repeat (first | (with_reducible first | exact HB.out | apply below_alloc | apply pw_below_drewN | apply below_drew1) | exact HB.out)) hb); clear HB; have HB := n0_; clear n0_; (try clear hb); (try clear hb2); (try clear hk); (try clear hi)) | (go_at_call 12; (with_reducible refine (canon_Partner.calls a2 t1001 t1007 t1008 _ ?side1 A33.out).mono ?_); (case side1 => exact Tabs.below HT0.out (by repeat (first | (with_reducible first | exact HB.out | apply below_alloc | apply pw_below_drewN | apply below_drew1) | exact HB.out))); rintro e w46 ⟨rfl, hb⟩; have n0_ := Aside0.mk (below_step (by repeat (first | (with_reducible first | exact HB.out | apply below_alloc | apply pw_below_drewN | apply below_drew1) | exact HB.out)) hb); clear HB; have HB := n0_; clear n0_; (try clear hb); (try clear hb2); (try clear hk); (try clear hi)) | (go_at_call 11; (with_reducible refine (sackbutlaw02_awake.calls k2  t1010 _ A44.out).mono ?_); rintro e w47 ⟨rfl, hb⟩; have n0_ := Aside0.mk (below_step (by repeat (first | (with_reducible first | exact HB.out | apply below_alloc | apply pw_below_drewN | apply below_drew1) | exact HB.out)) hb); clear HB; have HB := n0_; clear n0_; (try clear hb); (try clear hb2); (try clear hk); (try clear hi))))
                    go_ret
                    exact ⟨by first | rfl | (simp [errW_none, errW_some] <;> rfl) | (simp [*, errW_none, errW_some] <;> rfl), by repeat (first | (with_reducible first | exact HB.out | apply below_alloc | apply pw_below_drewN | apply below_drew1) | exact HB.out)⟩
                  · rw [if_neg c43] at H
                    have c43b0 : (t1006 == t1008) = false := beq_eq_false_iff_ne.mpr c43
                    have c43b1 : (t1006 != t1008) = true := bne_iff_ne.mpr c43
                    obtain rfl := Option.some.inj H
                    go_wp2_with (first | (go_at_call 12; (with_reducible refine (canon_Partner.calls a0 a1 t1005 t1006 _ ?side1 A32.out).mono ?_); (case side1 => exact Tabs.below HT0.out (by repeat (first | (with_reducible first | exact HB.out | apply below_alloc | apply pw_below_drewN | apply below_drew1) | exact HB.out))); rintro e w48 ⟨rfl, hb⟩; have n0_ := Aside0.mk (below_step (by repeat (first | (with_reducible first | exact HB.out | apply below_alloc | apply pw_below_drewN | apply below_drew1) | exact HB.out)) hb); clear HB; have HB := n0_; clear n0_; (try clear hb); (try clear hb2); (try clear hk); (try clear hi)) | (go_at_call 12; (with_reducible refine (canon_Partner.calls a2 t1001 t1007 t1008 _ ?side1 A33.out).mono ?_); (case side1 => exact Tabs.below HT0.out (by repeat (first | (with_reducible first | exact HB.out | apply below_alloc | apply pw_below_drewN | apply below_drew1) | exact HB.out))); rintro e w49 ⟨rfl, hb⟩; have n0_ := Aside0.mk (below_step (by repeat (first | (with_reducible first | exact HB.out | apply below_alloc | apply pw_below_drewN | apply below_drew1) | exact HB.out)) hb); clear HB; have HB := n0_; clear n0_; (try clear hb); (try clear hb2); (try clear hk); (try clear hi)))
                    repeat (go_quiet (first | (go_at_call 12; (with_reducible refine (canon_Partner.calls a0 a1 t1005 t1006 _ ?side1 A32.out).mono ?_); (case side1 => exact Tabs.below HT0.out (by repeat (first | (with_reducible first | exact HB.out | apply below_alloc | apply pw_below_drewN | apply below_drew1) | exact HB.out))); rintro e w48 ⟨rfl, hb⟩; have n0_ := Aside0.mk (below_step (by repeat (first | (with_reducible first | exact HB.out | apply below_alloc | apply pw_below_drewN | apply below_drew1) | exact HB.out)) hb); clear HB; have HB := n0_; clear n0_; (try clear hb); (try clear hb2); (try clear hk); (try clear hi)) | (go_at_call 12; (with_reducible refine (canon_Partner.calls a2 t1001 t1007 t1008 _ ?side1 A33.out).mono ?_); (case side1 => exact Tabs.below HT0.out (by repeat (first | (with_reducible first | exact HB.out | apply below_alloc | apply pw_below_drewN | apply below_drew1) | exact HB.out))); rintro e w49 ⟨rfl, hb⟩; have n0_ := Aside0.mk (below_step (by repeat (first | (with_reducible first | exact HB.out | apply below_alloc | apply pw_below_drewN | apply below_drew1) | exact HB.out)) hb); clear HB; have HB := n0_; clear n0_; (try clear hb); (try clear hb2); (try clear hk); (try clear hi))); try go_wp2_with (first | (go_at_call 12; (with_reducible refine (canon_Partner.calls a0 a1 t1005 t1006 _ ?side1 A32.out).mono ?_); (case side1 => exact Tabs.below HT0.out (by repeat (first | (with_reducible first | exact HB.out | apply below_alloc | apply pw_below_drewN | apply below_drew1) | exact HB.out))); rintro e w48 ⟨rfl, hb⟩; have n0_ := Aside0.mk (below_step (by repeat (first | (with_reducible first | exact HB.out | apply below_alloc | apply pw_below_drewN | apply below_drew1) | exact HB.out)) hb); clear HB; have HB := n0_; clear n0_; (try clear hb); (try clear hb2); (try clear hk); (try clear hi)) | (go_at_call 12; (with_reducible refine (canon_Partner.calls a2 t1001 t1007 t1008 _ ?side1 A33.out).mono ?_); (case side1 => exact Tabs.below HT0.out (by repeat (first | (with_reducible first | exact HB.out | apply below_alloc | apply pw_below_drewN | apply below_drew1) | exact HB.out))); rintro e w49 ⟨rfl, hb⟩; have n0_ := Aside0.mk (below_step (by repeat (first | (with_reducible first | exact HB.out | apply below_alloc | apply pw_below_drewN | apply below_drew1) | exact HB.out)) hb); clear HB; have HB := n0_; clear n0_; (try clear hb); (try clear hb2); (try clear hk); (try clear hi))))
                    go_ret
                    exact ⟨by first | rfl | (simp [errW_none, errW_some] <;> rfl) | (simp [*, errW_none, errW_some] <;> rfl), by repeat (first | (with_reducible first | exact HB.out | apply below_alloc | apply pw_below_drewN | apply below_drew1) | exact HB.out)⟩
                · rw [if_neg c42] at H
                  have c42b0 : (t1006 == 4) = false := beq_eq_false_iff_ne.mpr c42
                  have c42b1 : (t1006 != 4) = true := bne_iff_ne.mpr c42
                  obtain rfl := Option.some.inj H
                  go_wp2_with (first | (go_at_call 12; (with_reducible refine (canon_Partner.calls a0 a1 t1005 t1006 _ ?side1 A32.out).mono ?_); (case side1 => exact Tabs.below HT0.out (by repeat (first | (with_reducible first | exact HB.out | apply below_alloc | apply pw_below_drewN | apply below_drew1) | exact HB.out))); rintro e w50 ⟨rfl, hb⟩; have n0_ := Aside0.mk (below_step (by repeat (first | (with_reducible first | exact HB.out | apply below_alloc | apply pw_below_drewN | apply below_drew1) | exact HB.out)) hb); clear HB; have HB := n0_; clear n0_; (try clear hb); (try clear hb2); (try clear hk); (try clear hi)) | (go_at_call 12; (with_reducible refine (canon_Partner.calls a2 t1001 t1007 t1008 _ ?side1 A33.out).mono ?_); (case side1 => exact Tabs.below HT0.out (by repeat (first | (with_reducible first | exact HB.out | apply below_alloc | apply pw_below_drewN | apply below_drew1) | exact HB.out))); rintro e w51 ⟨rfl, hb⟩; have n0_ := Aside0.mk (below_step (by repeat (first | (with_reducible first | exact HB.out | apply below_alloc | apply pw_below_drewN | apply below_drew1) | exact HB.out)) hb); clear HB; have HB := n0_; clear n0_; (try clear hb); (try clear hb2); (try clear hk); (try clear hi)))
                  repeat (go_quiet (first | (go_at_call 12; (with_reducible refine (canon_Partner.calls a0 a1 t1005 t1006 _ ?side1 A32.out).mono ?_); (case side1 => exact Tabs.below HT0.out (by repeat (first | (with_reducible first | exact HB.out | apply below_alloc | apply pw_below_drewN | apply below_drew1) | exact HB.out))); rintro e w50 ⟨rfl, hb⟩; have n0_ := Aside0.mk (below_step (by repeat (first | (with_reducible first | exact HB.out | apply below_alloc | apply pw_below_drewN | apply below_drew1) | exact HB.out)) hb); clear HB; have HB := n0_; clear n0_; (try clear hb); (try clear hb2); (try clear hk); (try clear hi)) | (go_at_call 12; (with_reducible refine (canon_Partner.calls a2 t1001 t1007 t1008 _ ?side1 A33.out).mono ?_); (case side1 => exact Tabs.below HT0.out (by repeat (first | (with_reducible first | exact HB.out | apply below_alloc | apply pw_below_drewN | apply below_drew1) | exact HB.out))); rintro e w51 ⟨rfl, hb⟩; have n0_ := Aside0.mk (below_step (by repeat (first | (with_reducible first | exact HB.out | apply below_alloc | apply pw_below_drewN | apply below_drew1) | exact HB.out)) hb); clear HB; have HB := n0_; clear n0_; (try clear hb); (try clear hb2); (try clear hk); (try clear hi))); try go_wp2_with (first | (go_at_call 12; (with_reducible refine (canon_Partner.calls a0 a1 t1005 t1006 _ ?side1 A32.out).mono ?_); (case side1 => exact Tabs.below HT0.out (by repeat (first | (with_reducible first | exact HB.out | apply below_alloc | apply pw_below_drewN | apply below_drew1) | exact HB.out))); rintro e w50 ⟨rfl, hb⟩; have n0_ := Aside0.mk (below_step (by repeat (first | (with_reducible first | exact HB.out | apply below_alloc | apply pw_below_drewN | apply below_drew1) | exact HB.out)) hb); clear HB; have HB := n0_; clear n0_; (try clear hb); (try clear hb2); (try clear hk); (try clear hi)) | (go_at_call 12; (with_reducible refine (canon_Partner.calls a2 t1001 t1007 t1008 _ ?side1 A33.out).mono ?_); (case side1 => exact Tabs.below HT0.out (by repeat (first | (with_reducible first | exact HB.out | apply below_alloc | apply pw_below_drewN | apply below_drew1) | exact HB.out))); rintro e w51 ⟨rfl, hb⟩; have n0_ := Aside0.mk (below_step (by repeat (first | (with_reducible first | exact HB.out | apply below_alloc | apply pw_below_drewN | apply below_drew1) | exact HB.out)) hb); clear HB; have HB := n0_; clear n0_; (try clear hb); (try clear hb2); (try clear hk); (try clear hi))))
                  go_ret
                  exact ⟨by first | rfl | (simp [errW_none, errW_some] <;> rfl) | (simp [*, errW_none, errW_some] <;> rfl), by repeat (first | (with_reducible first | exact HB.out | apply below_alloc | apply pw_below_drewN | apply below_drew1) | exact HB.out)⟩

/-- THE ONE PURE STATEMENT of sackbutlaw02_CanonFolds: yours. -/
def sackbutlaw02_CanonFolds.Pure : Prop := ∀ (a0 : Int) (a1 : Int) (a2 : Int), (Lit.int .i64 a0).wf = true → (Lit.int .i64 a1).wf = true → (Lit.int .i64 a2).wf = true → ∃ k, sackbutlaw02_CanonFolds.f k a0 a1 a2 = some true
theorem sackbutlaw02_CanonFolds.walk (P : sackbutlaw02_CanonFolds.Pure) (a0 : Int) (a1 : Int) (a2 : Int) (w : World) (hT : Tabs w) (w0 : (Lit.int .i64 a0).wf = true) (w1 : (Lit.int .i64 a1).wf = true) (w2 : (Lit.int .i64 a2).wf = true) :
    Calls Tryd.prog 3 #[.int .i64 a0, .int .i64 a1, .int .i64 a2] w fun e w' => e = .returned (.bool true) ∧ Below w.heap.size w w' := by
  obtain ⟨k, h⟩ := P a0 a1 a2 w0 w1 w2
  refine (sackbutlaw02_CanonFolds.calls k a0 a1 a2 true w hT h).mono ?_
  rintro e w' ⟨rfl, hd⟩
  exact ⟨rfl, hd⟩

end Go.Proofs.YtkidgakjeahebaaDoor.P
namespace Go.Proofs.YtkidgakjeahebaaDoor.P
open Go.RowKit Go.Proofs.YtkidgakjeahebaaDoorW.PrintWords Go.Proofs.YtkidgakjeahebaaDoorW.PrintLast Go.Proofs.YtkidgakjeahebaaDoorW.PrintMore
attribute [local go_sem] max2_int min2_int max_two min_two max_three min_three max_four min_four   -- for this text's walks alone
set_option linter.unusedVariables false
set_option linter.unusedSimpArgs false

theorem isPer_mod {n d : Nat} : (Int.tmod (n : Int) (d : Int) = 0) ↔ n % d = 0 := by
  rw [Int.tmod_eq_emod_of_nonneg (by omega), ← Int.natCast_emod]; omega
theorem isPeriod_f {n a d : Nat} (hn : n ≤ 24) (hn1 : 1 ≤ n) (ha : a < 2 ^ n) (h1 : 1 ≤ d) : canon_circle_isPeriod.f (n : Int) (a : Int) (d : Int) = some (decide (IsPer n a d)) := by
  unfold canon_circle_isPeriod.f
  rw [if_pos (by omega), if_neg (by omega)]
  by_cases hm : n % d = 0
  · have hdn : d ≤ n := Nat.le_of_dvd (by omega) (Nat.dvd_of_mod_eq_zero hm)
    rw [if_pos (isPer_mod.2 hm), move_f hn hdn ha, Option.bind_some]
    congr 1
    rw [Bool.eq_iff_iff, beq_iff_eq, decide_eq_true_eq]
    unfold IsPer
    omega
  · rw [if_neg (fun h => hm (isPer_mod.1 h))]
    have : ¬ IsPer n a d := fun h => hm h.2.2.1
    rw [decide_eq_false this]
theorem Fold_bad (n a d : Int) (hv : ¬ (ValidR n a ∧ 2 ≤ d ∧ IsPer n.toNat a.toNat d.toNat)) : canon_Fold.f n a d = some (0, 2) := by
  unfold canon_Fold.f
  rw [valid1_f, Option.bind_some]
  by_cases h : ValidR n a
  · simp only [h, decide_true, if_true]
    by_cases h2 : d < 2
    · rw [if_pos h2]
    · rw [if_neg h2]
      by_cases h3 : d > n
      · rw [if_pos h3]
      · rw [if_neg h3]
        obtain ⟨N, A, rfl, rfl, h2', h24, hA, _⟩ := validR_nat h
        obtain ⟨D, rfl⟩ := Int.eq_ofNat_of_zero_le (show 0 ≤ d by omega)
        rw [isPeriod_f h24 (by omega) hA (by omega), Option.bind_some]
        have : ¬ IsPer N A D := fun hp => hv ⟨h, by omega, hp⟩
        simp only [this, decide_false, Bool.false_eq_true, if_false]
  · simp only [h, decide_false, Bool.false_eq_true, if_false]
theorem Fold_f {n a d : Nat} (hv : ValidR n a) (h2 : 2 ≤ d) (hp : IsPer n a d) : canon_Fold.f (n : Int) (a : Int) (d : Int) = some (((a &&& (2 ^ d - 1) : Nat) : Int), 0) := by
  unfold canon_Fold.f
  have hn := hv.2.1
  have hA : a < 2 ^ n := by
    have := hv.2.2.2.1
    rw [Int.toNat_natCast, ← pow_cast] at this
    omega
  have hn24 : n ≤ 24 := by omega
  have hdn := hp.2.1
  have h1 := hv.1
  have hpd : 2 ^ d ≤ 2 ^ n := Nat.pow_le_pow_right (by omega) hdn
  rw [valid1_f, Option.bind_some]
  simp only [hv, decide_true, if_true]
  rw [if_neg (by omega), if_neg (by omega), isPeriod_f hn24 (by omega) hA (by omega), Option.bind_some]
  simp only [hp, decide_true, if_true]
  have hpos := Nat.two_pow_pos d
  rw [if_pos (by omega), full_w (by omega), and_r hn24 hA (by omega)]

end Go.Proofs.YtkidgakjeahebaaDoor.P
namespace Go.Proofs.YtkidgakjeahebaaDoor.P
open Go.RowKit Go.Proofs.YtkidgakjeahebaaDoorW.PrintWords Go.Proofs.YtkidgakjeahebaaDoorW.PrintLast Go.Proofs.YtkidgakjeahebaaDoorW.PrintMore
attribute [local go_sem] max2_int min2_int max_two min_two max_three min_three max_four min_four   -- for this text's walks alone
set_option linter.unusedVariables false
set_option linter.unusedSimpArgs false

theorem minStep_fold : ∀ (l : List Nat) (m : Nat), m ≠ 0 → (∀ b ∈ l, b ≠ 0) → l.foldl minStep m ≠ 0 ∧ l.foldl minStep m ∈ m :: l ∧ ∀ b ∈ m :: l, l.foldl minStep m ≤ b
  | [], m, h, _ => ⟨h, by simp, by simp⟩
  | c :: l, m, h, hl => by
    have e : minStep m c = if c < m then c else m := by unfold minStep; simp [h]
    have h1 : minStep m c ≠ 0 := by rw [e]; split; exact hl c (by simp); exact h
    obtain ⟨a1, a2, a3⟩ := minStep_fold l (minStep m c) h1 (fun b hb => hl b (by simp [hb]))
    refine ⟨a1, ?_, fun b hb => ?_⟩
    · rw [List.foldl_cons]
      rcases List.mem_cons.1 a2 with h2 | h2
      · rw [h2, e]; split <;> simp
      · simp [h2]
    · rw [List.foldl_cons]
      have h3 := a3 (minStep m c) (by simp)
      rw [List.mem_cons, List.mem_cons] at hb
      rcases hb with rfl | rfl | hb
      · have : minStep b c ≤ b := by rw [e]; split <;> omega
        omega
      · have : minStep m b ≤ b := by rw [e]; split <;> omega
        omega
      · exact a3 b (by simp [hb])
theorem minB_spec {l : List Nat} (hl : ∀ b ∈ l, b ≠ 0) (h : l ≠ []) : minB l ≠ 0 ∧ minB l ∈ l ∧ ∀ b ∈ l, minB l ≤ b := by
  cases l with
  | nil => exact absurd rfl h
  | cons c l =>
    have e : minB (c :: l) = l.foldl minStep c := by
      show l.foldl minStep (minStep 0 c) = _
      unfold minStep; simp
    rw [e]
    exact minStep_fold l c (hl c (by simp)) (fun b hb => hl b (by simp [hb]))
theorem PL_spec {n a : Nat} (hn : 1 ≤ n) (ha : a < 2 ^ n) (h0 : a.testBit 0 = true) : (PL n a).Nodup ∧ ∀ c, c ∈ PL n a ↔ (c < 2 ^ n ∧ Tiled n a c ∧ c.testBit 0 = true) := partners_spec hn ha h0 (stepOk_A ha)
theorem PL_ne {n a : Nat} (hn : 1 ≤ n) (ha : a < 2 ^ n) (h0 : a.testBit 0 = true) : ∀ b ∈ PL n a, b ≠ 0 := by
  intro b hb e
  have := ((PL_spec hn ha h0).2 b).1 hb
  rw [e] at this
  simp at this
theorem PL_some {n a : Nat} (hn : 1 ≤ n) (ha : a < 2 ^ n) (h0 : a.testBit 0 = true) : PL n a ≠ [] ↔ ∃ c, c < 2 ^ n ∧ Tiled n a c ∧ c.testBit 0 = true := by
  constructor
  · intro h
    obtain ⟨c, hc⟩ := List.exists_mem_of_ne_nil _ h
    exact ⟨c, ((PL_spec hn ha h0).2 c).1 hc⟩
  · rintro ⟨c, hc⟩ e
    have := ((PL_spec hn ha h0).2 c).2 hc
    rw [e] at this; cases this
theorem Partner_f {n a : Nat} (hv : ValidR n a) : canon_Partner.f n a = some (if PL n a = [] then (0, 4) else (((minB (PL n a) : Nat) : Int), 0)) := by
  unfold canon_Partner.f
  rw [if_pos hv]
  obtain ⟨N, A, e1, e2, h2, h24, hA, h0⟩ := validR_nat hv
  obtain rfl : n = N := by omega
  obtain rfl : a = A := by omega
  simp only [Int.toNat_natCast]
  by_cases e : PL n a = []
  · have : minI (PL n a) = 0 := by unfold minI; rw [e]; rfl
    rw [if_pos this, if_pos e]
  · have h := (minB_spec (PL_ne (by omega) hA h0) e).1
    have : minI (PL n a) ≠ 0 := by unfold minI; omega
    rw [if_neg this, if_neg e]; rfl
theorem folds_loop {n a d : Nat} (hv : ValidR n a) (hv2 : ValidR d (a &&& (2 ^ d - 1) : Nat)) (hd : 2 ≤ d) (hp : IsPer n a d) : ∀ (m x : Nat), x + m = n →
    Ev (fun k => sackbutlaw02_CanonFolds.l0 k (n : Int) (a : Int) (d : Int) ((a &&& (2 ^ d - 1) : Nat) : Int) (n : Int) (x : Int)) true := by
  obtain ⟨N, A, e1, e2, h2, h24, hA, h0⟩ := validR_nat hv
  obtain rfl : n = N := by omega
  obtain rfl : a = A := by omega
  obtain ⟨N, B, e1', e2', _, hd24, hB, hb0⟩ := validR_nat hv2
  obtain rfl : d = N := by omega
  obtain rfl : (a &&& (2 ^ d - 1)) = B := by omega
  intro m
  induction m with
  | zero =>
    intro x hx
    have hxn : x = n := by omega
    subst hxn
    have p1 : ¬ (x : Int) < (x : Int) := by omega
    have hpf := fold_partner hA hp
    rw [← PL_some (by omega) hA h0, ← PL_some (by omega) hB hb0] at hpf
    refine Ev.succ ?_
    simp only [sackbutlaw02_CanonFolds.l0, if_neg p1]
    refine Ev.bind_some (Partner_f hv) ?_
    refine Ev.bind_some (Partner_f hv2) ?_
    by_cases e : PL x a = []
    · have e' : PL d (a &&& (2 ^ d - 1)) = [] := by
        rcases Classical.em (PL d (a &&& (2 ^ d - 1)) = []) with h | h
        · exact h
        · exact absurd e (hpf.2 h)
      simp only [e, e', if_true]
      exact Ev.ite (fun h => absurd h (by decide)) (fun _ => Ev.bind awake_ev (Ev.some _))
    · have e' : ¬ PL d (a &&& (2 ^ d - 1)) = [] := hpf.1 e
      simp only [e, e', if_false, if_true]
      exact Ev.bind awake_ev (Ev.some _)
  | succ m ih =>
    intro x hx
    have hxn : x < n := by omega
    have p1 : (x : Int) < (n : Int) := by omega
    have p0 : (0 : Int) ≤ (x : Int) := by omega
    have hn0 : ¬ (n : Int) = 0 := by omega
    have hd0 : ¬ (d : Int) = 0 := by omega
    have t1 : Int.tmod (wrap64 ((x : Int) + (d : Int))) (n : Int) = (((x + d) % n : Nat) : Int) := by
      have hdn := hp.2.1
      have e : (x : Int) + (d : Int) = ((x + d : Nat) : Int) := by omega
      rw [wrap_id (by omega) (by omega), e, Int.tmod_eq_emod_of_nonneg (by omega)]
      exact (Int.natCast_emod (x + d) n).symm
    have t2 : Int.tmod (x : Int) (d : Int) = ((x % d : Nat) : Int) := by rw [Int.tmod_eq_emod_of_nonneg p0]; exact (Int.natCast_emod x d).symm
    have hm1 : (x + d) % n < n := Nat.mod_lt _ (by omega)
    have hm2 : x % d < d := Nat.mod_lt _ (by omega)
    have b1 := bit_r h24 hA (show x ≤ 64 by omega)
    have b2 := bit_r h24 hA (show (x + d) % n ≤ 64 by omega)
    have b3 := bit_r hd24 hB (show x % d ≤ 64 by omega)
    have hdn : d ∣ n := Nat.dvd_of_mod_eq_zero hp.2.2.1
    have c1 : a.testBit ((x + d) % n) = a.testBit x := by
      rw [← per_mod hA hp hm1, ← per_mod hA hp hxn, Nat.mod_mod_of_dvd _ hdn, Nat.add_mod_right]
    have c2 : (a &&& (2 ^ d - 1)).testBit (x % d) = a.testBit x := by
      rw [Nat.testBit_and, Nat.testBit_two_pow_sub_one, per_mod hA hp hxn]; simp [hm2]
    have hw := next_w (d := x) (by omega)
    have hT1 : (0 : Int) ≤ (((x + d) % n : Nat) : Int) := by omega
    have hT2 : (0 : Int) ≤ ((x % d : Nat) : Int) := by omega
    have go := ih (x + 1) (by omega)
    refine Ev.succ ?_
    simp only [sackbutlaw02_CanonFolds.l0, if_pos p1, if_pos p0, if_neg hn0, if_neg hd0, t1, t2, if_pos hT1, if_pos hT2, b1, b2, b3, c1, c2, hw, if_true]
    exact go
theorem CanonFolds : sackbutlaw02_CanonFolds.Pure := by
  intro n a d _ _ _
  refine Ev.rounds (g := fun k => sackbutlaw02_CanonFolds.f k n a d) ?_
  unfold sackbutlaw02_CanonFolds.f
  by_cases hg : ValidR n a ∧ 2 ≤ d ∧ IsPer n.toNat a.toNat d.toNat
  · obtain ⟨hv, h2, hp⟩ := hg
    obtain ⟨N, A, rfl, rfl, hN2, h24, hA, h0⟩ := validR_nat hv
    obtain ⟨D, rfl⟩ := Int.eq_ofNat_of_zero_le (show 0 ≤ d by omega)
    simp only [Int.toNat_natCast] at hp
    have hdn := hp.2.1
    have hv2 : ValidR D (A &&& (2 ^ D - 1) : Nat) := by
      have hb0 : (A &&& (2 ^ D - 1)).testBit 0 = true := by
        rw [Nat.testBit_and, h0, Nat.testBit_two_pow_sub_one]; simp; omega
      have hlt : A &&& (2 ^ D - 1) < 2 ^ D := by have := Nat.two_pow_pos D; have := @Nat.and_le_right A (2 ^ D - 1); omega
      rw [Nat.testBit_zero, decide_eq_true_eq] at hb0
      refine ⟨by omega, by omega, by omega, ?_, by omega⟩
      rw [Int.toNat_natCast, ← pow_cast]; exact_mod_cast hlt
    have hr := rhythm_f N A
    rw [decide_eq_true hv] at hr
    have q1 : ¬ (D : Int) < 2 := by omega
    have q2 : ¬ (D : Int) > (N : Int) := by omega
    have q3 : ¬ (D : Int) = 0 := by omega
    have q4 : (Int.tmod (N : Int) (D : Int) != 0) = false := by
      have := isPer_mod.2 hp.2.2.1
      rw [this]; rfl
    have go := folds_loop hv hv2 (by omega) hp N 0 (by omega)
    refine Ev.bind_some (Fold_f hv (by omega) hp) ?_
    simp only [if_true]
    refine Ev.bind_some hr ?_
    simp only [if_true, if_neg q1, if_neg q2, if_neg q3, q4]
    refine Ev.succ ?_
    simp only [sackbutlaw02_CanonFolds.j0, Bool.false_eq_true, if_false]
    exact go
  · refine Ev.bind_some (Fold_bad n a d hg) ?_
    refine Ev.ite (fun h => absurd h (by decide)) (fun _ => ?_)
    refine Ev.succ ?_
    simp only [sackbutlaw02_CanonFolds.j0, if_true]
    exact Ev.bind awake_ev (Ev.some _)

end Go.Proofs.YtkidgakjeahebaaDoor.P
namespace Go.Proofs.YtkidgakjeahebaaDoor.P
open Go.RowKit Go.Proofs.YtkidgakjeahebaaDoorW.PrintWords Go.Proofs.YtkidgakjeahebaaDoorW.PrintLast Go.Proofs.YtkidgakjeahebaaDoorW.PrintMore
attribute [local go_sem] max2_int min2_int max_two min_two max_three min_three max_four min_four   -- for this text's walks alone
set_option linter.unusedVariables false
set_option linter.unusedSimpArgs false

theorem foldl_min_spec : ∀ (l : List Nat) (m : Nat), l.foldl min m ∈ m :: l ∧ ∀ b ∈ m :: l, l.foldl min m ≤ b
  | [], m => ⟨by simp, by simp⟩
  | c :: l, m => by
    obtain ⟨h1, h2⟩ := foldl_min_spec l (min m c)
    rw [List.foldl_cons]
    refine ⟨?_, fun b hb => ?_⟩
    · rcases List.mem_cons.1 h1 with h | h
      · rw [h]; rcases Nat.le_total m c with h3 | h3
        · rw [Nat.min_eq_left h3]; simp
        · rw [Nat.min_eq_right h3]; simp
      · simp [h]
    · have h3 := h2 (min m c) (by simp)
      rw [List.mem_cons, List.mem_cons] at hb
      rcases hb with rfl | rfl | hb
      · exact Nat.le_trans h3 (Nat.min_le_left _ _)
      · exact Nat.le_trans h3 (Nat.min_le_right _ _)
      · exact h2 b (by simp [hb])
theorem foldl_min_same : ∀ (l : List Nat) (m : Nat), (∀ b ∈ l, m ≤ b) → l.foldl min m = m
  | [], _, _ => rfl
  | c :: l, m, h => by
    rw [List.foldl_cons, Nat.min_eq_left (h c (by simp))]
    exact foldl_min_same l m (fun b hb => h b (by simp [hb]))
def visR (n a d b F y : Nat) : List Nat := match stR n a (freeAt n F) y with
  | some k => if moveN n a k &&& F = 0 then vis n a (stR n a) d (b ||| 2 ^ k) (F ||| moveN n a k) else []
  | none => []
theorem visR_eq (n a d b F y : Nat) : visR n a d b F y = if (moveN n a y).testBit (freeAt n F) = true ∧ moveN n a y &&& F = 0 then vis n a (stR n a) d (b ||| 2 ^ y) (F ||| moveN n a y) else [] := by
  unfold visR stR
  by_cases h : (moveN n a y).testBit (freeAt n F) = true
  · rw [if_pos h]; simp [h]
  · rw [if_neg h, if_neg (fun x => h x.1)]
theorem visR_more {n a d b F : Nat} (h : F ≠ 2 ^ n - 1) : vis n a (stR n a) (d + 1) b F = (List.range n).flatMap (visR n a d b F) := by simp only [vis]; rw [if_neg h]; rfl
theorem vis_ge {n a : Nat} {st : Nat → Nat → Option Nat} : ∀ (d b F : Nat), ∀ c ∈ vis n a st d b F, b ≤ c
  | 0, _, _, c, hc => by cases hc
  | d + 1, b, F, c, hc => by
    simp only [vis] at hc
    split at hc
    · rw [List.mem_singleton] at hc; omega
    · rw [List.mem_flatMap] at hc
      obtain ⟨x, _, hx⟩ := hc
      split at hx
      · split at hx
        · have := vis_ge d _ _ c hx
          exact Nat.le_trans Nat.left_le_or this
        · cases hx
      · cases hx
theorem leastF_eq {n a : Nat} : ∀ (d b F best : Nat), leastF n a d b F best = (vis n a (stR n a) d b F).foldl min best
  | 0, _, _, _ => rfl
  | d + 1, b, F, best => by
    simp only [leastF]
    by_cases h : best ≤ b
    · rw [if_pos h, foldl_min_same]
      intro c hc
      exact Nat.le_trans h (vis_ge _ _ _ c hc)
    · rw [if_neg h]
      by_cases e : F = 2 ^ n - 1
      · rw [if_pos e]
        simp only [vis]; rw [if_pos e]
        show b = min best b
        rw [Nat.min_eq_right (by omega)]
      · rw [if_neg e, visR_more e]
        have go : ∀ m, leastTo n a (leastF n a d) b F best m = ((List.range m).flatMap (visR n a d b F)).foldl min best := by
          intro m
          induction m with
          | zero => rfl
          | succ m ih =>
            rw [List.range_succ, List.flatMap_append, List.foldl_append, ← ih]
            simp only [leastTo, List.flatMap_cons, List.flatMap_nil, List.append_nil]
            rw [visR_eq]; unfold leastOne
            split
            · exact leastF_eq d _ _ _
            · rfl
        exact go n
theorem RL_spec {n a : Nat} (hn : 1 ≤ n) (ha : a < 2 ^ n) (h0 : a.testBit 0 = true) : (vis n a (stR n a) (n + 1) 1 a).Nodup ∧ ∀ c, c ∈ vis n a (stR n a) (n + 1) 1 a ↔ (c < 2 ^ n ∧ Tiled n a c ∧ c.testBit 0 = true) := partners_spec hn ha h0 stepOk_R
theorem RL_PL {n a : Nat} (hn : 1 ≤ n) (ha : a < 2 ^ n) (h0 : a.testBit 0 = true) : ∀ c, c ∈ vis n a (stR n a) (n + 1) 1 a ↔ c ∈ PL n a := fun c => by rw [(RL_spec hn ha h0).2 c, (PL_spec hn ha h0).2 c]
theorem refPartner_f {n a : Nat} (hv : ValidR n a) : sackbutref02_Partner.f n a = some (if PL n a = [] then (0, 4) else (((minB (PL n a) : Nat) : Int), 0)) := by
  unfold sackbutref02_Partner.f
  rw [if_pos hv]
  obtain ⟨N, A, e1, e2, h2, h24, hA, h0⟩ := validR_nat hv
  obtain rfl : n = N := by omega
  obtain rfl : a = A := by omega
  simp only [Int.toNat_natCast, leastF_eq]
  obtain ⟨m1, m2⟩ := foldl_min_spec (vis n a (stR n a) (n + 1) 1 a) (2 ^ n)
  by_cases e : PL n a = []
  · have : vis n a (stR n a) (n + 1) 1 a = [] := by
      rcases Classical.em (vis n a (stR n a) (n + 1) 1 a = []) with h | h
      · exact h
      · obtain ⟨c, hc⟩ := List.exists_mem_of_ne_nil _ h
        have := (RL_PL (by omega) hA h0 c).1 hc
        rw [e] at this; cases this
    rw [this]
    simp [e]
  · obtain ⟨p1, p2, p3⟩ := minB_spec (PL_ne (by omega) hA h0) e
    have hm : (vis n a (stR n a) (n + 1) 1 a).foldl min (2 ^ n) = minB (PL n a) := by
      refine Nat.le_antisymm (m2 _ (List.mem_cons_of_mem _ ((RL_PL (by omega) hA h0 _).2 p2))) ?_
      rcases List.mem_cons.1 m1 with h | h
      · rw [h]; exact Nat.le_of_lt (((PL_spec (by omega) hA h0).2 _).1 p2).1
      · exact p3 _ ((RL_PL (by omega) hA h0 _).1 h)
    rw [hm, if_neg e, if_neg (by have := (((PL_spec (by omega) hA h0).2 _).1 p2).1; omega)]
theorem RL_len {n a : Nat} (hn : 1 ≤ n) (ha : a < 2 ^ n) (h0 : a.testBit 0 = true) : (vis n a (stR n a) (n + 1) 1 a).length = (PL n a).length :=
  Nat.le_antisymm (nodup_length_le _ _ (RL_spec hn ha h0).1 (fun c hc => (RL_PL hn ha h0 c).1 hc)) (nodup_length_le _ _ (PL_spec hn ha h0).1 (fun c hc => (RL_PL hn ha h0 c).2 hc))
theorem PL_len {n a : Nat} (hn : 1 ≤ n) (ha : a < 2 ^ n) (h0 : a.testBit 0 = true) : (PL n a).length ≤ 2 ^ n := by
  have := nodup_length_le (PL n a) (List.range (2 ^ n)) (PL_spec hn ha h0).1 (fun c hc => List.mem_range.2 (((PL_spec hn ha h0).2 c).1 hc).1)
  rwa [List.length_range] at this
theorem lenI_PL {n a : Nat} (hn : 1 ≤ n) (hn2 : n ≤ 24) (ha : a < 2 ^ n) (h0 : a.testBit 0 = true) : lenI (PL n a) = (((PL n a).length : Nat) : Int) := by
  have := PL_len hn ha h0
  have := pow24 hn2
  unfold lenI
  exact wrap_id (by omega) (by omega)
theorem lenI_append (l l' : List Nat) : lenI (l ++ l') = wrap64 (lenI l + lenI l') := by
  unfold lenI
  rw [List.length_append]
  unfold wrap64
  omega
theorem lenI_one (b : Nat) : lenI [b] = 1 := by
  show wrap64 1 = 1
  exact wrap_id (by decide) (by decide)
theorem cnt_next {n a F k f : Nat} (hf : f < n) (hf0 : F.testBit f = false) (hk : (moveN n a k).testBit f = true) : cnt n (fun i => !(F ||| moveN n a k).testBit i) < cnt n (fun i => !F.testBit i) :=
  cnt_lt_of n (fun i _ hp => by rw [Nat.testBit_or] at hp; cases hq : F.testBit i <;> simp_all) f hf (by rw [Nat.testBit_or, hk]; simp) (by rw [hf0]; rfl)
theorem flat_succ (V : Nat → List Nat) (y : Nat) : (List.range (y + 1)).flatMap V = (List.range y).flatMap V ++ V y := by rw [List.range_succ]; simp
theorem nat_zero {x : Nat} (h : ((x : Nat) : Int) = 0) : x = 0 := by omega
/-- one loop of the document's count -/
theorem refParts_l1 {n a F f : Nat} (hn2 : n ≤ 24) (ha : a < 2 ^ n) (hF : F < 2 ^ n) (hf : f < n) (V : Nat → List Nat)
    (hV : ∀ y, y < n → V y ≠ [] → (moveN n a y).testBit f = true ∧ moveN n a y &&& F = 0)
    (hE : ∀ y, y < n → (moveN n a y).testBit f = true → moveN n a y &&& F = 0 → Ev (fun k => sackbutref02_partners.f k (n : Int) (a : Int) ((F ||| moveN n a y : Nat) : Int)) (lenI (V y))) :
    ∀ (m y : Nat) (acc : Int), y + m = n → lenI ((List.range y).flatMap V) = acc →
      Ev (fun k => sackbutref02_partners.l1 k (n : Int) (a : Int) (F : Int) (f : Int) acc (n : Int) (y : Int)) (lenI ((List.range n).flatMap V)) := by
  intro m
  induction m with
  | zero =>
    intro y acc hy hacc
    have hyn : y = n := by omega
    have p1 : ¬ (y : Int) < (n : Int) := by omega
    refine Ev.succ ?_
    simp only [sackbutref02_partners.l1, if_neg p1]
    rw [← hyn, hacc]
    exact Ev.some _
  | succ m ihm =>
    intro y acc hy hacc
    have hyn : y < n := by omega
    have p1 : (y : Int) < (n : Int) := by omega
    have pf : (0 : Int) ≤ (f : Int) := by omega
    have hs := flat_succ V y
    have hv := hV y hyn
    have he := hE y hyn
    have hmf := moved_f hn2 (show y ≤ n by omega) ha
    have hml := moveN_lt n a y
    generalize moveN n a y = M at hv he hmf hml
    have hbit := bit_is hn2 hml (show f ≤ 64 by omega)
    have hand := and_r hn2 hml hF
    have hor := or_r hn2 hF hml
    generalize M &&& F = X at hv he hand
    generalize F ||| M = Y at he hor
    have go := ihm (y + 1)
    have hskip : V y = [] → lenI ((List.range (y + 1)).flatMap V) = acc := fun h => by rw [hs, h, List.append_nil]; exact hacc
    have hadd : lenI ((List.range (y + 1)).flatMap V) = wrap64 (acc + lenI (V y)) := by rw [hs, lenI_append, hacc]
    have hno : ∀ {p : Prop}, ¬ p → (V y ≠ [] → p) → V y = [] := fun h h2 => Classical.byContradiction fun h3 => h (h2 h3)
    have h1 : y + 1 + m = n := by omega
    have hw := next_w (d := y) (by omega)
    clear hs hacc ihm hE hV
    refine Ev.succ ?_
    simp only [sackbutref02_partners.l1, if_pos p1]
    refine Ev.bind_some hmf ?_
    simp only [if_pos pf, hw, hand, hor]
    refine Ev.ite (fun e1 => ?_) (fun e1 => ?_)
    · rw [hbit] at e1
      refine Ev.ite (fun e2 => ?_) (fun e2 => ?_)
      · exact Ev.bind (he e1 (nat_zero e2)) (go _ h1 hadd)
      · exact go acc h1 (hskip (hno (fun h => e2 (by rw [h]; rfl)) (fun h => (hv h).2)))
    · rw [hbit] at e1
      exact go acc h1 (hskip (hno e1 (fun h => (hv h).1)))
theorem refParts_l0 {n a F f : Nat} (hn2 : n ≤ 24) (hF : F < 2 ^ n) (hf : f < n) (h2 : F.testBit f = false) (h3 : ∀ j, j < f → F.testBit j = true) (r : Int)
    (h : Ev (fun k => sackbutref02_partners.l1 k (n : Int) (a : Int) (F : Int) (f : Int) 0 (n : Int) 0) r) : ∀ (m j : Nat), j + m = f →
      Ev (fun k => sackbutref02_partners.l0 k (n : Int) (a : Int) (F : Int) (j : Int)) r := by
  intro m
  induction m with
  | zero =>
    intro j hj
    have hjf : j = f := by omega
    have pj : (0 : Int) ≤ (j : Int) := by omega
    have hbit := bit_is hn2 hF (show j ≤ 64 by omega)
    have hnb : ¬ (Go.bits .and .i64 (shr .i64 (F : Int) (j : Int)) 1 = 1) := by rw [hbit, hjf, h2]; simp
    refine Ev.succ ?_
    simp only [sackbutref02_partners.l0, if_pos pj, if_neg hnb]
    rw [hjf]
    exact h
  | succ m ihm =>
    intro j hj
    have pj : (0 : Int) ≤ (j : Int) := by omega
    have hbit := bit_is hn2 hF (show j ≤ 64 by omega)
    have hnb : Go.bits .and .i64 (shr .i64 (F : Int) (j : Int)) 1 = 1 := hbit.2 (h3 j (by omega))
    have hw := next_w (d := j) (by omega)
    have go := ihm (j + 1) (by omega)
    refine Ev.succ ?_
    simp only [sackbutref02_partners.l0, if_pos pj, if_pos hnb, hw]
    exact go
/-- how many ways a part can be filled up, as the document's function counts: the number that the list of ways bears, as long as it does not wrap -/
theorem refParts_ev {n a : Nat} (hn2 : n ≤ 24) (ha : a < 2 ^ n) : ∀ (d b F : Nat), Part n a b F → cnt n (fun i => !F.testBit i) < d →
    Ev (fun k => sackbutref02_partners.f k (n : Int) (a : Int) (F : Int)) (lenI (vis n a (stR n a) d b F)) := by
  intro d
  induction d with
  | zero => intro b F _ hd; omega
  | succ d ih =>
    intro b F hP hd
    have hF := hP.2.1
    have p0 : (0 : Int) ≤ (n : Int) := by omega
    have hfw := full_w hn2
    refine Ev.succ ?_
    simp only [sackbutref02_partners.f, if_pos p0, hfw]
    refine Ev.ite (fun e => ?_) (fun e => ?_)
    · have e' : F = 2 ^ n - 1 := Int.ofNat_inj.1 e
      have : vis n a (stR n a) (d + 1) b F = [b] := by simp only [vis]; rw [if_pos e']
      rw [this, lenI_one]
      exact Ev.some _
    · have e' : F ≠ 2 ^ n - 1 := fun h => e (by rw [h])
      obtain ⟨f1, f2, f3⟩ := freeAt_spec hF e'
      rw [visR_more e']
      refine refParts_l0 hn2 hF f1 f2 f3 _ ?_ _ 0 (Nat.zero_add _)
      refine refParts_l1 hn2 ha hF f1 (visR n a d b F) (fun y _ h => ?_) (fun y hy h1 h2 => ?_) n 0 0 (Nat.zero_add _) lenI_nil
      · rw [visR_eq] at h
        by_cases hc : (moveN n a y).testBit (freeAt n F) = true ∧ moveN n a y &&& F = 0
        · exact hc
        · rw [if_neg hc] at h; exact absurd rfl h
      · rw [visR_eq, if_pos ⟨h1, h2⟩]
        exact ih (b ||| 2 ^ y) (F ||| moveN n a y) (hP.add hy h2) (Nat.lt_of_lt_of_le (cnt_next f1 f2 h1) (Nat.le_of_lt_succ hd))
theorem refPartners_ev {n a : Nat} (hv : ValidR n a) : Ev (fun k => sackbutref02_Partners.f k n a) (lenI (PL n a)) := by
  obtain ⟨N, A, e1, e2, h2, h24, hA, h0⟩ := validR_nat hv
  obtain rfl : n = N := by omega
  obtain rfl : a = A := by omega
  unfold sackbutref02_Partners.f
  have h := refParts_ev h24 hA (n + 1) 1 a (Part.start (by omega) hA) start_cnt
  have : lenI (vis n a (stR n a) (n + 1) 1 a) = lenI (PL n a) := by unfold lenI; rw [RL_len (by omega) hA h0]
  rw [this] at h
  exact Ev.bind h (Ev.some _)
theorem CanonPartners : sackbutlaw02_CanonPartners.Pure := by
  intro n a _ _
  refine Ev.rounds (g := fun k => sackbutlaw02_CanonPartners.f k n a) ?_
  unfold sackbutlaw02_CanonPartners.f
  by_cases hv : ValidR n a
  · obtain ⟨N, A, rfl, rfl, hN2, h24, hA, h0⟩ := validR_nat hv
    have hr := rhythm_f N A
    rw [decide_eq_true hv] at hr
    have hp : canon_Partners.f (N : Int) (A : Int) = some (lenI (PL N A), 0) := by unfold canon_Partners.f; rw [if_pos hv]; rfl
    refine Ev.bind_some (Partner_f hv) ?_
    refine Ev.bind_some hp ?_
    refine Ev.bind_some hr ?_
    simp only [if_true]
    refine Ev.bind_some (refPartner_f hv) ?_
    simp only [if_true]
    refine Ev.bind (refPartners_ev hv) ?_
    simp only [if_true]
    exact Ev.bind awake_ev (Ev.some _)
  · have hr := rhythm_f n a
    rw [decide_eq_false hv] at hr
    have hp : canon_Partners.f n a = some (0, 2) := by unfold canon_Partners.f; rw [if_neg hv]
    have hp2 : canon_Partner.f n a = some (0, 2) := by unfold canon_Partner.f; rw [if_neg hv]
    refine Ev.bind_some hp2 ?_
    refine Ev.bind_some hp ?_
    refine Ev.bind_some hr ?_
    simp only [Bool.false_eq_true, if_false, if_true]
    exact Ev.bind awake_ev (Ev.some _)

end Go.Proofs.YtkidgakjeahebaaDoor.P
namespace Go.Proofs.YtkidgakjeahebaaDoor.Pure
theorem CanonPartners : Go.Proofs.YtkidgakjeahebaaDoor.P.sackbutlaw02_CanonPartners.Pure := Go.Proofs.YtkidgakjeahebaaDoor.P.CanonPartners
end Go.Proofs.YtkidgakjeahebaaDoor.Pure
namespace Go.Proofs.YtkidgakjeahebaaDoor.P
open Go.RowKit Go.Proofs.YtkidgakjeahebaaDoorW.PrintWords Go.Proofs.YtkidgakjeahebaaDoorW.PrintLast Go.Proofs.YtkidgakjeahebaaDoorW.PrintMore
attribute [local go_sem] max2_int min2_int max_two min_two max_three min_three max_four min_four   -- for this text's walks alone
set_option linter.unusedVariables false
set_option linter.unusedSimpArgs false

open Go.ChangeShapes Go.WideShapes Go.ChangeAt Go.WideElems
/-! what the row's listed tables give the walks -/
def doorLaid2 : List (String × DataW Unit) := [("math/bits.deBruijn32tab", Rows.laid_math_bits_deBruijn32tab), ("math/bits.deBruijn64tab", Rows.laid_math_bits_deBruijn64tab)]
theorem door_g64 : Tryd.prog.globalNamed "math/bits.deBruijn64tab" = some 1 := by kernel_rfl
theorem door_t64 : (Tryd.prog.globals[1]?).map (·.type) = some 85 := by kernel_rfl
theorem door_met (os : Os) (args : Array Value) : laidMetH Tryd.prog doorLaid2 ((World.doorLaid Tryd.prog 19 os).forCall (fun _ _ => 0) ⟨#[], args, []⟩).memory :=
  laidMetH_of_parts3 (fuel := 8) (laidMet_of_run' 8 (by kernel_rfl) (by kernel_rfl)) (by kernel_rfl) (by kernel_rfl)
theorem door_tab : (Rows.laid_math_bits_deBruijn64tab : DataW Unit) = .agg (tzTab.map fun (n : Nat) => .lit (.int .u8 (n : Int))) := rfl
theorem door_c8 : Tryd.prog.cellsOf 5 = 1 := by kernel_rfl
theorem tabs_of_laid {W : World} (h : laidMetH Tryd.prog doorLaid2 W) : Tabs W := by
  rw [MakeChecks.laidMetH_plain _ _ _ (by kernel_rfl)] at h
  obtain ⟨ps, ⟨g0, t0, cs0, f0, p0, q0, hg0, ht0, hv0, hd0, ⟨g1, t1, cs1, f1, p1, q1, hg1, ht1, hv1, hd1, _, _⟩, _⟩, _, _⟩ := h
  obtain rfl := Option.some.inj (door_g64.symm.trans hg1)
  obtain rfl := Option.some.inj (door_t64.symm.trans ht1)
  obtain ⟨xs, m1, rfl, hx1, hlen, hn, hel⟩ := DataW.trod_array Tryd.underlying85 hd1
  simp only [Prod.mk.injEq] at hx1
  have hl := hx1.1
  rw [door_tab] at hl
  simp only [DataW.agg.injEq] at hl
  intro i hi
  have h0 := hel i hi
  obtain ⟨x, hx⟩ : ∃ x, xs[i]? = some x := ⟨xs[i], by simp [hn, hi]⟩
  rw [hx] at h0
  obtain ⟨k, e1, e2, _⟩ := DataW.trod_int Tryd.underlying5 h0
  have hk := congrArg (fun l => l[i]?) hl
  simp only [List.getElem?_map, hx, Option.map_some, e2] at hk
  have ht : tzTab[i]? = some (tzTab.getD i 0) := by
    rw [List.getD_eq_getElem?_getD]
    have hlen : tzTab.length = 64 := by decide
    rw [List.getElem?_eq_getElem (by omega)]; rfl
  rw [ht] at hk
  simp only [Option.map_some, Option.some.injEq, DataW.lit.injEq, Lit.int.injEq, true_and] at hk
  rw [door_c8, Nat.mul_one] at e1
  have hc := World.var?_cell hg1 hv1 i
  rw [hc]
  have : cs1.toList[i]? = some (.int .u8 k) := by
    have := congrArg (fun l => l[0]?) e1
    simpa using this
  rw [← Array.getElem?_toList, this, hk]

end Go.Proofs.YtkidgakjeahebaaDoor.P
namespace Go.Proofs.YtkidgakjeahebaaDoor.canonPartners
open Go.ChangeShapes Go.WideShapes Go.ChangeAt Go.RowKit
open Go.ChangeMaps (open_string shut_string)
set_option linter.unusedVariables false
theorem own : ownKnob Tryd.prog.godebug = none := by kernel_rfl
set_option maxRecDepth 100000 in
theorem lifted (os : Os) (started : os.Started) (H : Type) (enc : TypeId × Value → H) :
    ReturnsInHanded {} Tryd.checked os 4 .any (fun w args => (Rows.canonPartnersSpec.pre enc Tryd.prog Tryd.f4 [] false w args ∧ laidMetH Tryd.prog P.doorLaid2 w) ∧ sizedMet enc Tryd.prog Tryd.f4 (OpenSpec.ofChange Rows.canonPartnersSpec) false w args) (Rows.canonPartnersSpec.post enc Tryd.prog Tryd.f4 false true false false) := by
  refine returnsInHanded_of_change_and (C := Tryd.checked) (X := fun w _ => laidMetH Tryd.prog P.doorLaid2 w) (fun _ _ _ hh h => h.of_heap hh) own started (by kernel_rfl) Tryd.func4
    (ChangeSpec.witness_shaped (enc := enc) (C := Tryd.checked) (os := os) (X := fun w _ => laidMetH Tryd.prog P.doorLaid2 w) false (World.doorLaid Tryd.prog 19 os) #[.int .i64 0, .int .i64 0] 8 rfl (World.shaped_of_RefB (by kernel_rfl) (by kernel_rfl)) (by kernel_rfl) (by kernel_rfl) (by kernel_rfl) (P.door_met os _)) ?_
  intro W base args ds gs before hval0 hW hcnd hsz0 hL _
  have hsz : (DataW.weightsEach Tryd.prog (Tryd.f4.params.toList ++ Rows.canonPartnersSpec.plain.varTypes Tryd.prog) (ds ++ gs)).all (· ≤ reachBytes) = true := hsz0
  have hval : ∀ (j : Nat) t v, Tryd.f4.params[j]? = some t → args[j]? = some v → Value.okWide Tryd.prog W .any base t v := hval0
  have hW' := hW
  obtain ⟨p, q, hA0, hV, rfl, hfz, hnd⟩ := hW
  have hA : DataW.TrodAll enc Tryd.prog W 0 (fun _ => true) true Tryd.f4.params.toList args.toList ds p := hA0
  rw [Tryd.params4] at hA hval hsz
  obtain ⟨v0, vs0, d0, ds0, p0, q0, hargs, rfl, rfl, h0, r0⟩ := trodAll_cons hA
  obtain ⟨v1, vs1, d1, ds1, p1, q1, rfl, rfl, rfl, h1, r1⟩ := trodAll_cons r0
  obtain ⟨rfl, rfl, rfl⟩ := trodAll_nil r1
  obtain rfl : args = #[v0, v1] := by cases args; simp_all
  obtain ⟨rfl, rfl⟩ := trodVars_none hV
  obtain ⟨a0, rfl, rfl, rfl, w0⟩ := open_int Tryd.underlying3 (hval 0 3 v0 rfl rfl) h0
  obtain ⟨a1, rfl, rfl, rfl, w1⟩ := open_int Tryd.underlying3 (hval 1 3 v1 rfl rfl) h1
  clear hA0 hval0 hsz0 hsz
  refine (P.sackbutlaw02_CanonPartners.walk Pure.CanonPartners a0 a1 W (P.tabs_of_laid hL) w0 w1).mono fun e W' ⟨he, bel⟩ => ?_
  subst he
  exact ⟨_, rfl, _, _, _, [], _, [], hW', trodAll_mk1 (shut_bool Tryd.underlying4 _), (trodAll_cons_mk (shut_int Tryd.underlying3 w0) (trodAll_cons_mk (shut_int Tryd.underlying3 w1) trodAll_mk0)), rfl, bel.frame _, fun h => by cases h⟩
theorem over : Rows.canonPartnersRow.holds Tryd.pinned (OpenSpec.ofChange Rows.canonPartnersSpec) :=
  OpenClaim.holds_of_wide 4 Tryd.f4 rfl rfl rfl rfl rfl rfl rfl ⟨rfl, rfl, rfl, rfl, rfl⟩ rfl rfl rfl rfl rfl (by kernel_rfl) Tryd.func4 (by kernel_rfl)
    (of_decide_eq_true (by kernel_rfl)) (by unfold Func.isWrapper; first | (rw [if_pos (by decide +kernel)]; kernel_rfl) | (rw [if_neg (by decide +kernel)]; exact ⟨rfl, rfl⟩))
    (fun os started H enc _ => lifted os started H enc)
theorem proved : Rows.CanonPartnersSaid := over
#print axioms proved
end Go.Proofs.YtkidgakjeahebaaDoor.canonPartners
namespace Go.Proofs.YtkidgakjeahebaaDoor
theorem canonPartners_row : Rows.CanonPartnersSaid := canonPartners.proved
/-- The tied card, for the claim. -/
theorem canonPartners_holds : Rows.CanonPartnersCardSaid :=
  Claim7.holds_tied_plain_at .later [] [.data, .data] true (true, "2f6bef5c5cfa684a08fccc7872b5524e7a2ff07ef34c06b0423e6453ed67e790") false
    canonPartners_row (fun _ h => by cases h) (by kernel_rfl) (fun _ h => by cases h) canonPartners_row_tie rfl ⟨rfl, rfl⟩ (by kernel_rfl) rfl
    (fun f fn hf hfn => by
      obtain rfl : f = 4 := Option.some.inj ((show Tryd.prog.funcNamed "sackbut/sackbutlaw02.CanonPartners" = some 4 by kernel_rfl).symm.trans hf) |>.symm
      obtain rfl : fn = Tryd.f4 := (Option.some.inj (Tryd.func4.symm.trans hfn)).symm
      exact ⟨by kernel_rfl, fun j t ht => by
        rw [Tryd.params4] at ht
        have hm : t ∈ [3, 3] := by simpa using Array.mem_of_getElem? ht
        have hall : ([3, 3].all fun u => !Tryd.prog.wantsStandIn u) = true := by kernel_rfl
        exact (show Tryd.prog.wantsStandIn t = false by simpa using List.all_eq_true.1 hall t hm)⟩)
    (by kernel_rfl)
end Go.Proofs.YtkidgakjeahebaaDoor
