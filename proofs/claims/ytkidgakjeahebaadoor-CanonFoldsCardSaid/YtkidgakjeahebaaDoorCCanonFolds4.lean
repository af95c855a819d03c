/- Proved here: the Go function sackbutlaw02.CanonFolds returns true for every input (its printed form comes to true), whatever its arguments. Conditions: none beyond the row's own reach in memory. -/
import Derived.LaidMore
import Derived.Stop.Joined
import Derived.ProofKit
import Derived.OpenShut
import Derived.Test.YtkidgakjeahebaaDoorRows
import Derived.WalkKit
import Derived.ShutString
import Derived.ChangeOld
import Derived.Below
import Derived.SizedLaws
import Derived.SevenTiedAt
import Derived.Test.YtkidgakjeahebaaDoorCards
import Derived.Test.YtkidgakjeahebaaDoorTie
import Derived.Test.YtkidgakjeahebaaDoorCCanonFolds1
import Derived.Test.YtkidgakjeahebaaDoorCCanonFolds2
import Derived.Test.YtkidgakjeahebaaDoorCCanonFolds3
namespace Go.Proofs.YtkidgakjeahebaaDoor.P
open Go.RowKit Go.Proofs.YtkidgakjeahebaaDoorW.PrintWords Go.Proofs.YtkidgakjeahebaaDoorW.PrintLast Go.Proofs.YtkidgakjeahebaaDoorW.PrintMore
attribute [local go_sem] max2_int min2_int max_two min_two max_three min_three max_four min_four   -- for this text's walks alone
set_option linter.unusedVariables false
set_option linter.unusedSimpArgs false

/-! ### sackbutlaw02_CanonFolds: function 3 -/
mutual
def sackbutlaw02_CanonFolds.j0 : Nat → Int → Int → Int → Int → Int → Bool → Option (Bool)
  | 0, _, _, _, _, _, _ => none
  | k + 1, x0, x1, x2, x7, x8, x43 => if x43 = true then (if x8 = 2 then ((sackbutlaw02_awake.f k).bind fun t1004 => (some t1004)) else (some false)) else (sackbutlaw02_CanonFolds.l0 k x0 x1 x2 x7 x0 0)
def sackbutlaw02_CanonFolds.l0 : Nat → Int → Int → Int → Int → Int → Int → Option (Bool)
  | 0, _, _, _, _, _, _ => none
  | k + 1, x0, x1, x2, x7, x49, x50 => if x50 < x49 then (if 0 ≤ x50 then (if x0 = 0 then (none) else (if 0 ≤ (Int.tmod (wrap64 (x50 + x2)) x0) then (if (Go.bits .and .i64 (shr .i64 x1 x50) 1) = (Go.bits .and .i64 (shr .i64 x1 (Int.tmod (wrap64 (x50 + x2)) x0)) 1) then (if x2 = 0 then (none) else (if 0 ≤ (Int.tmod x50 x2) then (if (Go.bits .and .i64 (shr .i64 x1 x50) 1) = (Go.bits .and .i64 (shr .i64 x7 (Int.tmod x50 x2)) 1) then (sackbutlaw02_CanonFolds.l0 k x0 x1 x2 x7 x49 (wrap64 (x50 + 1))) else (some false)) else (none))) else (some false)) else (none))) else (none)) else ((canon_Partner.f x0 x1).bind fun bt1005 => ((canon_Partner.f x2 x7).bind fun bt1007 => (if bt1005.2 = 0 then (if bt1005.2 = bt1007.2 then ((sackbutlaw02_awake.f k).bind fun t1009 => (some t1009)) else (some false)) else (if bt1005.2 = 4 then (if bt1005.2 = bt1007.2 then ((sackbutlaw02_awake.f k).bind fun t1010 => (some t1010)) else (some false)) else (some false)))))
end
def sackbutlaw02_CanonFolds.f (k : Nat) (a0 : Int) (a1 : Int) (a2 : Int) : Option (Bool) := (canon_Fold.f a0 a1 a2).bind fun bt1001 => (if bt1001.2 = 0 then ((sackbutref02_Rhythm.f a0 a1).bind fun t1003 => (if t1003 = true then (if a2 < 2 then (sackbutlaw02_CanonFolds.j0 k a0 a1 a2 bt1001.1 bt1001.2 true) else (if a2 > a0 then (sackbutlaw02_CanonFolds.j0 k a0 a1 a2 bt1001.1 bt1001.2 true) else (if a2 = 0 then (none) else (sackbutlaw02_CanonFolds.j0 k a0 a1 a2 bt1001.1 bt1001.2 ((Int.tmod a0 a2) != 0))))) else (sackbutlaw02_CanonFolds.j0 k a0 a1 a2 bt1001.1 bt1001.2 true))) else (sackbutlaw02_CanonFolds.j0 k a0 a1 a2 bt1001.1 bt1001.2 true))
theorem sackbutlaw02_CanonFolds.mono_l : ∀ k, (∀ y0 y1 y2 y3 y4 y5, LeO (sackbutlaw02_CanonFolds.j0 k y0 y1 y2 y3 y4 y5) (sackbutlaw02_CanonFolds.j0 (k + 1) y0 y1 y2 y3 y4 y5)) ∧ (∀ y0 y1 y2 y3 y4 y5, LeO (sackbutlaw02_CanonFolds.l0 k y0 y1 y2 y3 y4 y5) (sackbutlaw02_CanonFolds.l0 (k + 1) y0 y1 y2 y3 y4 y5))
  | 0 => ⟨fun _ _ _ _ _ _ r h => by simp [sackbutlaw02_CanonFolds.j0] at h, fun _ _ _ _ _ _ r h => by simp [sackbutlaw02_CanonFolds.l0] at h⟩
  | k + 1 => by
    obtain ⟨ih0, ih1⟩ := sackbutlaw02_CanonFolds.mono_l k
    refine ⟨?_, ?_⟩
    · intro y0 y1 y2 y3 y4 y5
      unfold sackbutlaw02_CanonFolds.j0
      repeat' first
      | (with_reducible exact ih0 _ _ _ _ _ _)
      | (with_reducible exact ih1 _ _ _ _ _ _)
      | (with_reducible exact sackbutlaw02_awake.mono _)
      | (with_reducible exact LeO.refl _)
      | (with_reducible exact LeO.none _)
      | (with_reducible refine LeO.ite ?_ ?_)
      | (with_reducible refine LeO.bind ?_ (fun _ => ?_))
      | exact ih0 _ _ _ _ _ _
      | exact ih1 _ _ _ _ _ _
      | exact sackbutlaw02_awake.mono _
      | exact LeO.none _
      | refine LeO.ite ?_ ?_
      | refine LeO.bind ?_ (fun _ => ?_)
    · intro y0 y1 y2 y3 y4 y5
      unfold sackbutlaw02_CanonFolds.l0
      repeat' first
      | (with_reducible exact ih0 _ _ _ _ _ _)
      | (with_reducible exact ih1 _ _ _ _ _ _)
      | (with_reducible exact sackbutlaw02_awake.mono _)
      | (with_reducible exact LeO.refl _)
      | (with_reducible exact LeO.none _)
      | (with_reducible refine LeO.ite ?_ ?_)
      | (with_reducible refine LeO.bind ?_ (fun _ => ?_))
      | exact ih0 _ _ _ _ _ _
      | exact ih1 _ _ _ _ _ _
      | exact sackbutlaw02_awake.mono _
      | exact LeO.none _
      | refine LeO.ite ?_ ?_
      | refine LeO.bind ?_ (fun _ => ?_)
theorem sackbutlaw02_CanonFolds.mono : ∀ a0 a1 a2 k, LeO (sackbutlaw02_CanonFolds.f k a0 a1 a2) (sackbutlaw02_CanonFolds.f (k + 1) a0 a1 a2) := by
  intro a0 a1 a2 k
  obtain ⟨ih0, ih1⟩ := sackbutlaw02_CanonFolds.mono_l k
  unfold sackbutlaw02_CanonFolds.f
  repeat' first
      | (with_reducible exact ih0 _ _ _ _ _ _)
      | (with_reducible exact ih1 _ _ _ _ _ _)
      | (with_reducible exact sackbutlaw02_awake.mono _)
      | (with_reducible exact LeO.refl _)
      | (with_reducible exact LeO.none _)
      | (with_reducible refine LeO.ite ?_ ?_)
      | (with_reducible refine LeO.bind ?_ (fun _ => ?_))
      | exact ih0 _ _ _ _ _ _
      | exact ih1 _ _ _ _ _ _
      | exact sackbutlaw02_awake.mono _
      | exact LeO.none _
      | refine LeO.ite ?_ ?_
      | refine LeO.bind ?_ (fun _ => ?_)
set_option maxHeartbeats 8000000 in
set_option maxRecDepth 100000 in
theorem sackbutlaw02_CanonFolds.calls (k : Nat) (a0 : Int) (a1 : Int) (a2 : Int) (r : Bool) (w : World) (hT : Tabs w) (h : sackbutlaw02_CanonFolds.f k a0 a1 a2 = some r) :
    Calls Tryd.prog 3 #[.int .i64 a0, .int .i64 a1, .int .i64 a2] w fun e w' => e = .returned (.bool r) ∧ Below w.heap.size w w' := by
  have HB := Aside0.mk (Below.refl w.heap.size w)
  have HT0 := Aside0.mk hT
  clear hT
  have H : ((canon_Fold.f a0 a1 a2).bind fun bt1001 => (if bt1001.2 = 0 then ((sackbutref02_Rhythm.f a0 a1).bind fun t1003 => (if t1003 = true then (if a2 < 2 then (sackbutlaw02_CanonFolds.j0 k a0 a1 a2 bt1001.1 bt1001.2 true) else (if a2 > a0 then (sackbutlaw02_CanonFolds.j0 k a0 a1 a2 bt1001.1 bt1001.2 true) else (if a2 = 0 then (none) else (sackbutlaw02_CanonFolds.j0 k a0 a1 a2 bt1001.1 bt1001.2 ((Int.tmod a0 a2) != 0))))) else (sackbutlaw02_CanonFolds.j0 k a0 a1 a2 bt1001.1 bt1001.2 true))) else (sackbutlaw02_CanonFolds.j0 k a0 a1 a2 bt1001.1 bt1001.2 true))) = some r := h
  clear h
  replace H := Option.bind_eq_some_iff.mp H
  obtain ⟨⟨t1001, t1002⟩, A40, H⟩ := H
  replace H : (if t1002 = 0 then ((sackbutref02_Rhythm.f a0 a1).bind fun t1003 => (if t1003 = true then (if a2 < 2 then (sackbutlaw02_CanonFolds.j0 k a0 a1 a2 t1001 t1002 true) else (if a2 > a0 then (sackbutlaw02_CanonFolds.j0 k a0 a1 a2 t1001 t1002 true) else (if a2 = 0 then (none) else (sackbutlaw02_CanonFolds.j0 k a0 a1 a2 t1001 t1002 ((Int.tmod a0 a2) != 0))))) else (sackbutlaw02_CanonFolds.j0 k a0 a1 a2 t1001 t1002 true))) else (sackbutlaw02_CanonFolds.j0 k a0 a1 a2 t1001 t1002 true)) = some r := H
  have A4 := Aside0.mk A40
  clear A40
  have HC5 := Aside0.mk H
  clear H
  go_enter Tryd.func3, Tryd.ntmps3
  go_upto_region 2 with (first | (go_at_call 9; (with_reducible refine (canon_Fold.calls a0 a1 a2 t1001 t1002 _ A4.out).mono ?_); rintro e w6 ⟨rfl, hb⟩; have n0_ := Aside0.mk (below_step (by repeat (first | (with_reducible first | exact HB.out | apply below_alloc | apply pw_below_drewN | apply below_drew1) | exact HB.out)) hb); clear HB; have HB := n0_; clear n0_; (try clear hb); (try clear hb2); (try clear hk); (try clear hi)))
  repeat (go_quiet (first | (go_at_call 9; (with_reducible refine (canon_Fold.calls a0 a1 a2 t1001 t1002 _ A4.out).mono ?_); rintro e w6 ⟨rfl, hb⟩; have n0_ := Aside0.mk (below_step (by repeat (first | (with_reducible first | exact HB.out | apply below_alloc | apply pw_below_drewN | apply below_drew1) | exact HB.out)) hb); clear HB; have HB := n0_; clear n0_; (try clear hb); (try clear hb2); (try clear hk); (try clear hi))); go_upto_region 2 with (first | (go_at_call 9; (with_reducible refine (canon_Fold.calls a0 a1 a2 t1001 t1002 _ A4.out).mono ?_); rintro e w6 ⟨rfl, hb⟩; have n0_ := Aside0.mk (below_step (by repeat (first | (with_reducible first | exact HB.out | apply below_alloc | apply pw_below_drewN | apply below_drew1) | exact HB.out)) hb); clear HB; have HB := n0_; clear n0_; (try clear hb); (try clear hb2); (try clear hk); (try clear hi))))
  (try simp only [Act.put, List.setIfInBounds_toArray, List.set_cons_zero, List.set_cons_succ])
  go_cut [43] (fun v43 wc => ∃ (kq : Nat) (x43_4 : Bool), v43 = .bool x43_4 ∧ Aside0 (sackbutlaw02_CanonFolds.j0 kq a0 a1 a2 t1001 t1002 x43_4 = some r) ∧ Aside0 (kq ≤ k) ∧ Aside0 (Below w.heap.size w wc))
  case first =>
    have H := HC5.out
    clear HC5
    by_cases c7 : t1002 = 0
    · rw [if_pos c7] at H
      have c7b0 : (t1002 == 0) = true := beq_iff_eq.mpr c7
      have c7b1 : (t1002 != 0) = false := bne_eq_false_iff_eq.mpr c7
      clear c7
      (first | rw [c7b0] | (simp only [i64_w, i32_w]; rw [c7b0]) | skip)
      replace H := Option.bind_eq_some_iff.mp H
      obtain ⟨t1003, A80, H⟩ := H
      replace H : (if t1003 = true then (if a2 < 2 then (sackbutlaw02_CanonFolds.j0 k a0 a1 a2 t1001 t1002 true) else (if a2 > a0 then (sackbutlaw02_CanonFolds.j0 k a0 a1 a2 t1001 t1002 true) else (if a2 = 0 then (none) else (sackbutlaw02_CanonFolds.j0 k a0 a1 a2 t1001 t1002 ((Int.tmod a0 a2) != 0))))) else (sackbutlaw02_CanonFolds.j0 k a0 a1 a2 t1001 t1002 true)) = some r := H
      have A8 := Aside0.mk A80
      clear A80
      by_cases c9 : t1003 = true
      · subst c9
        have H1 : (if a2 < 2 then (sackbutlaw02_CanonFolds.j0 k a0 a1 a2 t1001 t1002 true) else (if a2 > a0 then (sackbutlaw02_CanonFolds.j0 k a0 a1 a2 t1001 t1002 true) else (if a2 = 0 then (none) else (sackbutlaw02_CanonFolds.j0 k a0 a1 a2 t1001 t1002 ((Int.tmod a0 a2) != 0))))) = some r := by rw [if_pos rfl] at H; exact H
        clear H
        have H := H1
        clear H1
        by_cases c10 : a2 < 2
        · rw [if_pos c10] at H
          have c10b0 : decide (a2 < 2) = true := decide_eq_true c10
          clear c10
          have H' := Aside0.mk H
          clear H
          go_wp2_with (first | (go_at_call 10; (with_reducible refine (sackbutref02_Rhythm.calls a0 a1 true _ A8.out).mono ?_); rintro e w' ⟨rfl, ⟨nd, rfl⟩⟩; (try first | exact ⟨rfl, _, World.drewN_drewN _ _ _⟩ | exact ⟨rfl, _, Eq.trans (World.drewN_drewN _ _ _) (congrArg (World.drewN _) (Nat.add_assoc _ _ _))⟩)))
          repeat (go_quiet (first | (go_at_call 10; (with_reducible refine (sackbutref02_Rhythm.calls a0 a1 true _ A8.out).mono ?_); rintro e w' ⟨rfl, ⟨nd, rfl⟩⟩; (try first | exact ⟨rfl, _, World.drewN_drewN _ _ _⟩ | exact ⟨rfl, _, Eq.trans (World.drewN_drewN _ _ _) (congrArg (World.drewN _) (Nat.add_assoc _ _ _))⟩))); try go_wp2_with (first | (go_at_call 10; (with_reducible refine (sackbutref02_Rhythm.calls a0 a1 true _ A8.out).mono ?_); rintro e w' ⟨rfl, ⟨nd, rfl⟩⟩; (try first | exact ⟨rfl, _, World.drewN_drewN _ _ _⟩ | exact ⟨rfl, _, Eq.trans (World.drewN_drewN _ _ _) (congrArg (World.drewN _) (Nat.add_assoc _ _ _))⟩))))
          go_meet
          case rel => exact ⟨_, (true), (by first | rfl | (simp; done) | (simp [*]; done)), H', ⟨by first | omega | exact Nat.le_refl _⟩, ⟨by repeat (first | (with_reducible first | exact HB.out | apply below_alloc | apply pw_below_drewN | apply below_drew1) | exact HB.out)⟩⟩
        · rw [if_neg c10] at H
          have c10b0 : decide (a2 < 2) = false := decide_eq_false c10
          clear c10
          by_cases c11 : a2 > a0
          · rw [if_pos c11] at H
            have c11b0 : decide (a0 < a2) = true := decide_eq_true c11
            clear c11
            have H' := Aside0.mk H
            clear H
            go_wp2_with (first | (go_at_call 10; (with_reducible refine (sackbutref02_Rhythm.calls a0 a1 true _ A8.out).mono ?_); rintro e w' ⟨rfl, ⟨nd, rfl⟩⟩; (try first | exact ⟨rfl, _, World.drewN_drewN _ _ _⟩ | exact ⟨rfl, _, Eq.trans (World.drewN_drewN _ _ _) (congrArg (World.drewN _) (Nat.add_assoc _ _ _))⟩)))
            repeat (go_quiet (first | (go_at_call 10; (with_reducible refine (sackbutref02_Rhythm.calls a0 a1 true _ A8.out).mono ?_); rintro e w' ⟨rfl, ⟨nd, rfl⟩⟩; (try first | exact ⟨rfl, _, World.drewN_drewN _ _ _⟩ | exact ⟨rfl, _, Eq.trans (World.drewN_drewN _ _ _) (congrArg (World.drewN _) (Nat.add_assoc _ _ _))⟩))); try go_wp2_with (first | (go_at_call 10; (with_reducible refine (sackbutref02_Rhythm.calls a0 a1 true _ A8.out).mono ?_); rintro e w' ⟨rfl, ⟨nd, rfl⟩⟩; (try first | exact ⟨rfl, _, World.drewN_drewN _ _ _⟩ | exact ⟨rfl, _, Eq.trans (World.drewN_drewN _ _ _) (congrArg (World.drewN _) (Nat.add_assoc _ _ _))⟩))))
            go_meet
            case rel => exact ⟨_, (true), (by first | rfl | (simp; done) | (simp [*]; done)), H', ⟨by first | omega | exact Nat.le_refl _⟩, ⟨by repeat (first | (with_reducible first | exact HB.out | apply below_alloc | apply pw_below_drewN | apply below_drew1) | exact HB.out)⟩⟩
          · rw [if_neg c11] at H
            have c11b0 : decide (a0 < a2) = false := decide_eq_false c11
            clear c11
            by_cases c12 : a2 = 0
            · rw [if_pos c12] at H
              exact absurd H (by simp)
            · rw [if_neg c12] at H
              have c12b0 : (a2 == 0) = false := beq_eq_false_iff_ne.mpr c12
              have c12b1 : (a2 != 0) = true := bne_iff_ne.mpr c12
              have H' := Aside0.mk H
              clear H
              go_wp2_with (first | (go_at_call 10; (with_reducible refine (sackbutref02_Rhythm.calls a0 a1 true _ A8.out).mono ?_); rintro e w' ⟨rfl, ⟨nd, rfl⟩⟩; (try first | exact ⟨rfl, _, World.drewN_drewN _ _ _⟩ | exact ⟨rfl, _, Eq.trans (World.drewN_drewN _ _ _) (congrArg (World.drewN _) (Nat.add_assoc _ _ _))⟩)))
              repeat (go_quiet (first | (go_at_call 10; (with_reducible refine (sackbutref02_Rhythm.calls a0 a1 true _ A8.out).mono ?_); rintro e w' ⟨rfl, ⟨nd, rfl⟩⟩; (try first | exact ⟨rfl, _, World.drewN_drewN _ _ _⟩ | exact ⟨rfl, _, Eq.trans (World.drewN_drewN _ _ _) (congrArg (World.drewN _) (Nat.add_assoc _ _ _))⟩))); try go_wp2_with (first | (go_at_call 10; (with_reducible refine (sackbutref02_Rhythm.calls a0 a1 true _ A8.out).mono ?_); rintro e w' ⟨rfl, ⟨nd, rfl⟩⟩; (try first | exact ⟨rfl, _, World.drewN_drewN _ _ _⟩ | exact ⟨rfl, _, Eq.trans (World.drewN_drewN _ _ _) (congrArg (World.drewN _) (Nat.add_assoc _ _ _))⟩))))
              go_meet
              case rel => exact ⟨_, (((Int.tmod a0 a2) != 0)), (by first | rfl | (simp; done) | (simp [*]; done)), H', ⟨by first | omega | exact Nat.le_refl _⟩, ⟨by repeat (first | (with_reducible first | exact HB.out | apply below_alloc | apply pw_below_drewN | apply below_drew1) | exact HB.out)⟩⟩
      · replace c9 := Bool.eq_false_iff.mpr c9
        subst c9
        have H1 : (sackbutlaw02_CanonFolds.j0 k a0 a1 a2 t1001 t1002 true) = some r := by rw [if_neg (show ¬ (false = true) by decide)] at H; exact H
        clear H
        have H := H1
        clear H1
        have H' := Aside0.mk H
        clear H
        go_wp2_with (first | (go_at_call 10; (with_reducible refine (sackbutref02_Rhythm.calls a0 a1 false _ A8.out).mono ?_); rintro e w' ⟨rfl, ⟨nd, rfl⟩⟩; (try first | exact ⟨rfl, _, World.drewN_drewN _ _ _⟩ | exact ⟨rfl, _, Eq.trans (World.drewN_drewN _ _ _) (congrArg (World.drewN _) (Nat.add_assoc _ _ _))⟩)))
        repeat (go_quiet (first | (go_at_call 10; (with_reducible refine (sackbutref02_Rhythm.calls a0 a1 false _ A8.out).mono ?_); rintro e w' ⟨rfl, ⟨nd, rfl⟩⟩; (try first | exact ⟨rfl, _, World.drewN_drewN _ _ _⟩ | exact ⟨rfl, _, Eq.trans (World.drewN_drewN _ _ _) (congrArg (World.drewN _) (Nat.add_assoc _ _ _))⟩))); try go_wp2_with (first | (go_at_call 10; (with_reducible refine (sackbutref02_Rhythm.calls a0 a1 false _ A8.out).mono ?_); rintro e w' ⟨rfl, ⟨nd, rfl⟩⟩; (try first | exact ⟨rfl, _, World.drewN_drewN _ _ _⟩ | exact ⟨rfl, _, Eq.trans (World.drewN_drewN _ _ _) (congrArg (World.drewN _) (Nat.add_assoc _ _ _))⟩))))
        go_meet
        case rel => exact ⟨_, (true), (by first | rfl | (simp; done) | (simp [*]; done)), H', ⟨by first | omega | exact Nat.le_refl _⟩, ⟨by repeat (first | (with_reducible first | exact HB.out | apply below_alloc | apply pw_below_drewN | apply below_drew1) | exact HB.out)⟩⟩
    · rw [if_neg c7] at H
      have c7b0 : (t1002 == 0) = false := beq_eq_false_iff_ne.mpr c7
      have c7b1 : (t1002 != 0) = true := bne_iff_ne.mpr c7
      (first | rw [c7b0] | (simp only [i64_w, i32_w]; rw [c7b0]) | skip)
      have H' := Aside0.mk H
      clear H
      go_wp2
      repeat (go_quiet (fail); try go_wp2)
      go_meet
      case rel => exact ⟨_, (true), (by first | rfl | (simp; done) | (simp [*]; done)), H', ⟨by first | omega | exact Nat.le_refl _⟩, ⟨by repeat (first | (with_reducible first | exact HB.out | apply below_alloc | apply pw_below_drewN | apply below_drew1) | exact HB.out)⟩⟩
  case rest =>
    clear HC5
    try clear c1
    try clear p2
    try clear c3
    try clear c7
    try clear c7b0
    try clear c7b1
    try clear c9
    try clear c10
    try clear c10b0
    try clear c11
    try clear c11b0
    try clear c12
    try clear c12b0
    try clear c12b1
    obtain ⟨kq, x43_4, rfl, HA, HJ4, HB⟩ := hcut
    cases kq with
    | zero => exact absurd HA.out (by simp [sackbutlaw02_CanonFolds.j0])
    | succ kj4 =>
      have H := HA.out
      clear HA
      simp only [sackbutlaw02_CanonFolds.j0] at H
      by_cases c13 : x43_4 = true
      · subst c13
        have H1 : (if t1002 = 2 then ((sackbutlaw02_awake.f kj4).bind fun t1004 => (some t1004)) else (some false)) = some r := by rw [if_pos rfl] at H; exact H
        clear H
        have H := H1
        clear H1
        by_cases c14 : t1002 = 2
        · rw [if_pos c14] at H
          have c14b0 : (t1002 == 2) = true := beq_iff_eq.mpr c14
          have c14b1 : (t1002 != 2) = false := bne_eq_false_iff_eq.mpr c14
          clear c14
          replace H := Option.bind_eq_some_iff.mp H
          obtain ⟨t1004, A150, H⟩ := H
          replace H : (some t1004) = some r := H
          have A15 := Aside0.mk A150
          clear A150
          obtain rfl := Option.some.inj H
          go_wp2_with (first | (go_at_call 11; (with_reducible refine (sackbutlaw02_awake.calls kj4  t1004 _ A15.out).mono ?_); rintro e w16 ⟨rfl, hb⟩; have n0_ := Aside0.mk (below_step (by repeat (first | (with_reducible first | exact HB.out | apply below_alloc | apply pw_below_drewN | apply below_drew1) | exact HB.out)) hb); clear HB; have HB := n0_; clear n0_; (try clear hb); (try clear hb2); (try clear hk); (try clear hi)))
          repeat (go_quiet (first | (go_at_call 11; (with_reducible refine (sackbutlaw02_awake.calls kj4  t1004 _ A15.out).mono ?_); rintro e w16 ⟨rfl, hb⟩; have n0_ := Aside0.mk (below_step (by repeat (first | (with_reducible first | exact HB.out | apply below_alloc | apply pw_below_drewN | apply below_drew1) | exact HB.out)) hb); clear HB; have HB := n0_; clear n0_; (try clear hb); (try clear hb2); (try clear hk); (try clear hi))); try go_wp2_with (first | (go_at_call 11; (with_reducible refine (sackbutlaw02_awake.calls kj4  t1004 _ A15.out).mono ?_); rintro e w16 ⟨rfl, hb⟩; have n0_ := Aside0.mk (below_step (by repeat (first | (with_reducible first | exact HB.out | apply below_alloc | apply pw_below_drewN | apply below_drew1) | exact HB.out)) hb); clear HB; have HB := n0_; clear n0_; (try clear hb); (try clear hb2); (try clear hk); (try clear hi))))
          go_ret
          exact ⟨by first | rfl | (simp [errW_none, errW_some] <;> rfl) | (simp [*, errW_none, errW_some] <;> rfl), by repeat (first | (with_reducible first | exact HB.out | apply below_alloc | apply pw_below_drewN | apply below_drew1) | exact HB.out)⟩
        · rw [if_neg c14] at H
          have c14b0 : (t1002 == 2) = false := beq_eq_false_iff_ne.mpr c14
          have c14b1 : (t1002 != 2) = true := bne_iff_ne.mpr c14
          obtain rfl := Option.some.inj H
          go_wp2
          repeat (go_quiet (fail); try go_wp2)
          go_ret
          exact ⟨by first | rfl | (simp [errW_none, errW_some] <;> rfl) | (simp [*, errW_none, errW_some] <;> rfl), by repeat (first | (with_reducible first | exact HB.out | apply below_alloc | apply pw_below_drewN | apply below_drew1) | exact HB.out)⟩
      · replace c13 := Bool.eq_false_iff.mpr c13
        subst c13
        have H1 : (sackbutlaw02_CanonFolds.l0 kj4 a0 a1 a2 t1001 a0 0) = some r := by rw [if_neg (show ¬ (false = true) by decide)] at H; exact H
        clear H
        have H := H1
        clear H1
        have H' := Aside0.mk H
        clear H
        go_wp2
        repeat (go_quiet (fail); try go_wp2)
        go_loopg [50] kj4 (fun kq v50 w' => ∃ (x50_2 : Int), v50 = .int .i64 x50_2 ∧ Aside0 (sackbutlaw02_CanonFolds.l0 kq a0 a1 a2 t1001 a0 x50_2 = some r) ∧ Aside0 (kq ≤ kj4) ∧ Aside0 (Below w.heap.size w w'))
        case atStart => exact ⟨(0), (by first | rfl | (simp; done) | (simp [*]; done)), H', ⟨Nat.le_refl _⟩, ⟨by repeat (first | (with_reducible first | exact HB.out | apply below_alloc | apply pw_below_drewN | apply below_drew1) | exact HB.out)⟩⟩
        case round =>
          clear H'
          try clear c1
          try clear p2
          try clear c3
          try clear c7
          try clear c7b0
          try clear c7b1
          try clear c9
          try clear c10
          try clear c10b0
          try clear c11
          try clear c11b0
          try clear c12
          try clear c12b0
          try clear c12b1
          try clear c13
          try clear c14
          try clear c14b0
          try clear c14b1
          try clear p2
          obtain ⟨x50_2, rfl, HA, HK2, HB⟩ := hrel
          cases gk with
          | zero => exact absurd HA.out (by simp [sackbutlaw02_CanonFolds.l0])
          | succ k2 =>
            have H := HA.out
            clear HA
            simp only [sackbutlaw02_CanonFolds.l0] at H
            by_cases c17 : x50_2 < a0
            · rw [if_pos c17] at H
              have c17b0 : decide (x50_2 < a0) = true := decide_eq_true c17
              clear c17
              by_cases c18 : 0 ≤ x50_2
              · rw [if_pos c18] at H
                have c18b0 := eq_true c18
                have c18b1 : decide (0 ≤ x50_2) = true := decide_eq_true c18
                clear c18
                obtain ⟨ji19, hji19⟩ : ∃ j_ : Int, (shr .i64 a1 x50_2) = j_ := ⟨_, rfl⟩
                replace H : (if a0 = 0 then (none) else (if 0 ≤ (Int.tmod (wrap64 (x50_2 + a2)) a0) then (if (Go.bits .and .i64 (ji19) 1) = (Go.bits .and .i64 (shr .i64 a1 (Int.tmod (wrap64 (x50_2 + a2)) a0)) 1) then (if a2 = 0 then (none) else (if 0 ≤ (Int.tmod x50_2 a2) then (if (Go.bits .and .i64 (ji19) 1) = (Go.bits .and .i64 (shr .i64 t1001 (Int.tmod x50_2 a2)) 1) then (sackbutlaw02_CanonFolds.l0 k2 a0 a1 a2 t1001 a0 (wrap64 (x50_2 + 1))) else (some false)) else (none))) else (some false)) else (none))) = some r := by first | (rw [hji19] at H; exact H) | (simp only [hji19] at H ⊢; exact H)
                have hji19_ : (a1 / 2 ^ min x50_2.toNat 64) = ji19 := hji19
                have hji19z : x50_2 ≤ 64 → (a1 / 2 ^ x50_2.toNat) = ji19 := shr_small hji19
                by_cases c20 : a0 = 0
                · rw [if_pos c20] at H
                  exact absurd H (by simp)
                · rw [if_neg c20] at H
                  have c20b0 : (a0 == 0) = false := beq_eq_false_iff_ne.mpr c20
                  have c20b1 : (a0 != 0) = true := bne_iff_ne.mpr c20
                  obtain ⟨ji21, hji21⟩ : ∃ j_ : Int, (Int.tmod (wrap64 (x50_2 + a2)) a0) = j_ := ⟨_, rfl⟩
                  replace H : (if 0 ≤ (ji21) then (if (Go.bits .and .i64 (ji19) 1) = (Go.bits .and .i64 (shr .i64 a1 (ji21)) 1) then (if a2 = 0 then (none) else (if 0 ≤ (Int.tmod x50_2 a2) then (if (Go.bits .and .i64 (ji19) 1) = (Go.bits .and .i64 (shr .i64 t1001 (Int.tmod x50_2 a2)) 1) then (sackbutlaw02_CanonFolds.l0 k2 a0 a1 a2 t1001 a0 (wrap64 (x50_2 + 1))) else (some false)) else (none))) else (some false)) else (none)) = some r := by first | (rw [hji21] at H; exact H) | (simp only [hji21] at H ⊢; exact H)
                  by_cases c22 : 0 ≤ (ji21)
                  · rw [if_pos c22] at H
                    have c22b0 := eq_true c22
                    have c22b1 : decide (0 ≤ (ji21)) = true := decide_eq_true c22
                    clear c22
                    obtain ⟨ji23, hji23⟩ : ∃ j_ : Int, (shr .i64 a1 (ji21)) = j_ := ⟨_, rfl⟩
                    replace H : (if (Go.bits .and .i64 (ji19) 1) = (Go.bits .and .i64 (ji23) 1) then (if a2 = 0 then (none) else (if 0 ≤ (Int.tmod x50_2 a2) then (if (Go.bits .and .i64 (ji19) 1) = (Go.bits .and .i64 (shr .i64 t1001 (Int.tmod x50_2 a2)) 1) then (sackbutlaw02_CanonFolds.l0 k2 a0 a1 a2 t1001 a0 (wrap64 (x50_2 + 1))) else (some false)) else (none))) else (some false)) = some r := by first | (rw [hji23] at H; exact H) | (simp only [hji23] at H ⊢; exact H)
                    have hji23_ : (a1 / 2 ^ min (ji21).toNat 64) = ji23 := hji23
                    have hji23z : (ji21) ≤ 64 → (a1 / 2 ^ (ji21).toNat) = ji23 := shr_small hji23
                    by_cases c24 : (Go.bits .and .i64 (ji19) 1) = (Go.bits .and .i64 (ji23) 1)
                    · rw [if_pos c24] at H
                      have c24b0 : ((Go.bits .and .i64 (ji19) 1) == (Go.bits .and .i64 (ji23) 1)) = true := beq_iff_eq.mpr c24
                      have c24b1 : ((Go.bits .and .i64 (ji19) 1) != (Go.bits .and .i64 (ji23) 1)) = false := bne_eq_false_iff_eq.mpr c24
                      clear c24
                      have c25b0 := eq_true (of_decide_eq_true (by first | (with_reducible assumption) | assumption) : 0 ≤ x50_2)
                      by_cases c27 : a2 = 0
                      · rw [if_pos c27] at H
                        exact absurd H (by simp)
                      · rw [if_neg c27] at H
                        have c27b0 : (a2 == 0) = false := beq_eq_false_iff_ne.mpr c27
                        have c27b1 : (a2 != 0) = true := bne_iff_ne.mpr c27
                        obtain ⟨ji28, hji28⟩ : ∃ j_ : Int, (Int.tmod x50_2 a2) = j_ := ⟨_, rfl⟩
                        replace H : (if 0 ≤ (ji28) then (if (Go.bits .and .i64 (ji19) 1) = (Go.bits .and .i64 (shr .i64 t1001 (ji28)) 1) then (sackbutlaw02_CanonFolds.l0 k2 a0 a1 a2 t1001 a0 (wrap64 (x50_2 + 1))) else (some false)) else (none)) = some r := by first | (rw [hji28] at H; exact H) | (simp only [hji28] at H ⊢; exact H)
                        by_cases c29 : 0 ≤ (ji28)
                        · rw [if_pos c29] at H
                          have c29b0 := eq_true c29
                          have c29b1 : decide (0 ≤ (ji28)) = true := decide_eq_true c29
                          clear c29
                          obtain ⟨ji30, hji30⟩ : ∃ j_ : Int, (shr .i64 t1001 (ji28)) = j_ := ⟨_, rfl⟩
                          replace H : (if (Go.bits .and .i64 (ji19) 1) = (Go.bits .and .i64 (ji30) 1) then (sackbutlaw02_CanonFolds.l0 k2 a0 a1 a2 t1001 a0 (wrap64 (x50_2 + 1))) else (some false)) = some r := by first | (rw [hji30] at H; exact H) | (simp only [hji30] at H ⊢; exact H)
                          have hji30_ : (t1001 / 2 ^ min (ji28).toNat 64) = ji30 := hji30
                          have hji30z : (ji28) ≤ 64 → (t1001 / 2 ^ (ji28).toNat) = ji30 := shr_small hji30
                          by_cases c31 : (Go.bits .and .i64 (ji19) 1) = (Go.bits .and .i64 (ji30) 1)
                          · rw [if_pos c31] at H
                            have c31b0 : ((Go.bits .and .i64 (ji19) 1) == (Go.bits .and .i64 (ji30) 1)) = true := beq_iff_eq.mpr c31
                            have c31b1 : ((Go.bits .and .i64 (ji19) 1) != (Go.bits .and .i64 (ji30) 1)) = false := bne_eq_false_iff_eq.mpr c31
                            clear c31
                            have H' := Aside0.mk H
                            clear H
                            go_wp2
                            repeat (go_quiet (fail); try go_wp2)
                            go_roundg k2
                            case measure => have := HJ4.out; have := HK2.out; omega
                            case rel => exact ⟨(wrap64 (x50_2 + 1)), (by first | rfl | (simp; done) | (simp [*]; done)), H', ⟨by have := HJ4.out; have := HK2.out; omega⟩, ⟨by repeat (first | (with_reducible first | exact HB.out | apply below_alloc | apply pw_below_drewN | apply below_drew1) | exact HB.out)⟩⟩
                          · rw [if_neg c31] at H
                            have c31b0 : ((Go.bits .and .i64 (ji19) 1) == (Go.bits .and .i64 (ji30) 1)) = false := beq_eq_false_iff_ne.mpr c31
                            have c31b1 : ((Go.bits .and .i64 (ji19) 1) != (Go.bits .and .i64 (ji30) 1)) = true := bne_iff_ne.mpr c31
                            obtain rfl := Option.some.inj H
                            go_wp2
                            repeat (go_quiet (fail); try go_wp2)
                            go_ret
                            exact ⟨by first | rfl | (simp [errW_none, errW_some] <;> rfl) | (simp only [← hji19, ← hji21, ← hji23, ← hji28, ← hji30]; first | rfl | (simp [errW_none, errW_some] <;> rfl)) | (simp [*, errW_none, errW_some] <;> rfl), by repeat (first | (with_reducible first | exact HB.out | apply below_alloc | apply pw_below_drewN | apply below_drew1) | exact HB.out)⟩
                        · rw [if_neg c29] at H
                          exact absurd H (by simp)
                    · rw [if_neg c24] at H
                      have c24b0 : ((Go.bits .and .i64 (ji19) 1) == (Go.bits .and .i64 (ji23) 1)) = false := beq_eq_false_iff_ne.mpr c24
                      have c24b1 : ((Go.bits .and .i64 (ji19) 1) != (Go.bits .and .i64 (ji23) 1)) = true := bne_iff_ne.mpr c24
                      obtain rfl := Option.some.inj H
                      go_wp2
                      repeat (go_quiet (fail); try go_wp2)
                      go_ret
                      exact ⟨by first | rfl | (simp [errW_none, errW_some] <;> rfl) | (simp only [← hji19, ← hji21, ← hji23]; first | rfl | (simp [errW_none, errW_some] <;> rfl)) | (simp [*, errW_none, errW_some] <;> rfl), by repeat (first | (with_reducible first | exact HB.out | apply below_alloc | apply pw_below_drewN | apply below_drew1) | exact HB.out)⟩
                  · rw [if_neg c22] at H
                    exact absurd H (by simp)
              · rw [if_neg c18] at H
                exact absurd H (by simp)
            · rw [if_neg c17] at H
              have c17b0 : decide (x50_2 < a0) = false := decide_eq_false c17
              clear c17
              replace H := Option.bind_eq_some_iff.mp H
              obtain ⟨⟨t1005, t1006⟩, A320, H⟩ := H
              replace H : ((canon_Partner.f a2 t1001).bind fun bt1007 => (if t1006 = 0 then (if t1006 = bt1007.2 then ((sackbutlaw02_awake.f k2).bind fun t1009 => (some t1009)) else (some false)) else (if t1006 = 4 then (if t1006 = bt1007.2 then ((sackbutlaw02_awake.f k2).bind fun t1010 => (some t1010)) else (some false)) else (some false)))) = some r := H
              have A32 := Aside0.mk A320
              clear A320
              replace H := Option.bind_eq_some_iff.mp H
              obtain ⟨⟨t1007, t1008⟩, A330, H⟩ := H
              replace H : (if t1006 = 0 then (if t1006 = t1008 then ((sackbutlaw02_awake.f k2).bind fun t1009 => (some t1009)) else (some false)) else (if t1006 = 4 then (if t1006 = t1008 then ((sackbutlaw02_awake.f k2).bind fun t1010 => (some t1010)) else (some false)) else (some false))) = some r := H
              have A33 := Aside0.mk A330
              clear A330
              by_cases c34 : t1006 = 0
              · rw [if_pos c34] at H
                have c34b0 : (t1006 == 0) = true := beq_iff_eq.mpr c34
                have c34b1 : (t1006 != 0) = false := bne_eq_false_iff_eq.mpr c34
                clear c34
                by_cases c35 : t1006 = t1008
                · rw [if_pos c35] at H
                  have c35b0 : (t1006 == t1008) = true := beq_iff_eq.mpr c35
                  have c35b1 : (t1006 != t1008) = false := bne_eq_false_iff_eq.mpr c35
                  clear c35
                  replace H := Option.bind_eq_some_iff.mp H
                  obtain ⟨t1009, A360, H⟩ := H
                  replace H : (some t1009) = some r := H
                  have A36 := Aside0.mk A360
                  clear A360
                  obtain rfl := Option.some.inj H
                  go_wp2_with (first | (go_at_call 12; (with_reducible refine (canon_Partner.calls a0 a1 t1005 t1006 _ ?side1 A32.out).mono ?_); (case side1 => exact Tabs.below HT0.out (by repeat (first | (with_reducible first | exact HB.out | apply below_alloc | apply pw_below_drewN | apply below_drew1) | exact HB.out))); rintro e w37 ⟨rfl, hb⟩; have n0_ := Aside0.mk (below_step (by repeat (first | (with_reducible first | exact HB.out | apply below_alloc | apply pw_below_drewN | apply below_drew1) | exact HB.out)) hb); clear HB; have HB := n0_; clear n0_; (try clear hb); (try clear hb2); (try clear hk); (try clear hi)) | (go_at_call 12; (with_reducible refine (canon_Partner.calls a2 t1001 t1007 t1008 _ ?side1 A33.out).mono ?_); (case side1 => exact Tabs.below HT0.out (by repeat (first | (with_reducible first | exact HB.out | apply below_alloc | apply pw_below_drewN | apply below_drew1) | exact HB.out))); rintro e w38 ⟨rfl, hb⟩; have n0_ := Aside0.mk (below_step (by repeat (first | (with_reducible first | exact HB.out | apply below_alloc | apply pw_below_drewN | apply below_drew1) | exact HB.out)) hb); clear HB; have HB := n0_; clear n0_; (try clear hb); (try clear hb2); (try clear hk); (try clear hi)) | (go_at_call 11; (with_reducible refine (sackbutlaw02_awake.calls k2  t1009 _ A36.out).mono ?_); rintro e w39 ⟨rfl, hb⟩; have n0_ := Aside0.mk (below_step (by repeat (first | (with_reducible first | exact HB.out | apply below_alloc | apply pw_below_drewN | apply below_drew1) | exact HB.out)) hb); clear HB; have HB := n0_; clear n0_; (try clear hb); (try clear hb2); (try clear hk); (try clear hi)))
                  repeat (go_quiet (first | (go_at_call 12; (with_reducible refine (canon_Partner.calls a0 a1 t1005 t1006 _ ?side1 A32.out).mono ?_); (case side1 => exact Tabs.below HT0.out (by repeat (first | (with_reducible first | exact HB.out | apply below_alloc | apply pw_below_drewN | apply below_drew1) | exact HB.out))); rintro e w37 ⟨rfl, hb⟩; have n0_ := Aside0.mk (below_step (by repeat (first | (with_reducible first | exact HB.out | apply below_alloc | apply pw_below_drewN | apply below_drew1) | exact HB.out)) hb); clear HB; have HB := n0_; clear n0_; (try clear hb); (try clear hb2); (try clear hk); (try clear hi)) | (go_at_call 12; (with_reducible refine (canon_Partner.calls a2 t1001 t1007 t1008 _ ?side1 A33.out).mono ?_); (case side1 => exact Tabs.below HT0.out (by repeat (first | (with_reducible first | exact HB.out | apply below_alloc | apply pw_below_drewN | apply below_drew1) | exact HB.out))); rintro e w38 ⟨rfl, hb⟩; have n0_ := Aside0.mk (below_step (by repeat (first | (with_reducible first | exact HB.out | apply below_alloc | apply pw_below_drewN | apply below_drew1) | exact HB.out)) hb); clear HB; have HB := n0_; clear n0_; (try clear hb); (try clear hb2); (try clear hk); (try clear hi)) | (go_at_call 11; (with_reducible refine (sackbutlaw02_awake.calls k2  t1009 _ A36.out).mono ?_); rintro e w39 ⟨rfl, hb⟩; have n0_ := Aside0.mk (below_step (by repeat (first | (with_reducible first | exact HB.out | apply below_alloc | apply pw_below_drewN | apply below_drew1) | exact HB.out)) hb); clear HB; have HB := n0_; clear n0_; (try clear hb); (try clear hb2); (try clear hk); (try clear hi))); try go_wp2_with (first | (go_at_call 12; (with_reducible refine (canon_Partner.calls a0 a1 t1005 t1006 _ ?side1 A32.out).mono ?_); (case side1 => exact Tabs.below HT0.out (by repeat (first | (with_reducible first | exact HB.out | apply below_alloc | apply pw_below_drewN | apply below_drew1) | exact HB.out))); rintro e w37 ⟨rfl, hb⟩; have n0_ := Aside0.mk (below_step (by repeat (first | (with_reducible first | exact HB.out | apply below_alloc | apply pw_below_drewN | apply below_drew1) | exact HB.out)) hb); clear HB; have HB := n0_; clear n0_; (try clear hb); (try clear hb2); (try clear hk); (try clear hi)) | (go_at_call 12; (with_reducible refine (canon_Partner.calls a2 t1001 t1007 t1008 _ ?side1 A33.out).mono ?_); (case side1 => exact Tabs.below HT0.out (by repeat (first | (with_reducible first | exact HB.out | apply below_alloc | apply pw_below_drewN | apply below_drew1) | exact HB.out))); rintro e w38 ⟨rfl, hb⟩; have n0_ := Aside0.mk (below_step (by repeat (first | (with_reducible first | exact HB.out | apply below_alloc | apply pw_below_drewN | apply below_drew1) | exact HB.out)) hb); clear HB; have HB := n0_; clear n0_; (try clear hb); (try clear hb2); (try clear hk); (try clear hi)) | (go_at_call 11; (with_reducible refine (sackbutlaw02_awake.calls k2  t1009 _ A36.out).mono ?_); rintro e w39 ⟨rfl, hb⟩; have n0_ := Aside0.mk (below_step (by repeat (first | (with_reducible first | exact HB.out | apply below_alloc | apply pw_below_drewN | apply below_drew1) | exact HB.out)) hb); clear HB; have HB := n0_; clear n0_; (try clear hb); (try clear hb2); (try clear hk); (try clear hi))))
                  go_ret
                  exact ⟨by first | rfl | (simp [errW_none, errW_some] <;> rfl) | (simp [*, errW_none, errW_some] <;> rfl), by repeat (first | (with_reducible first | exact HB.out | apply below_alloc | apply pw_below_drewN | apply below_drew1) | exact HB.out)⟩
                · rw [if_neg c35] at H
                  have c35b0 : (t1006 == t1008) = false := beq_eq_false_iff_ne.mpr c35
                  have c35b1 : (t1006 != t1008) = true := bne_iff_ne.mpr c35
                  obtain rfl := Option.some.inj H
                  go_wp2_with (first | (go_at_call 12; (with_reducible refine (canon_Partner.calls a0 a1 t1005 t1006 _ ?side1 A32.out).mono ?_); (case side1 => exact Tabs.below HT0.out (by repeat (first | (with_reducible first | exact HB.out | apply below_alloc | apply pw_below_drewN | apply below_drew1) | exact HB.out))); rintro e w40 ⟨rfl, hb⟩; have n0_ := Aside0.mk (below_step (by repeat (first | (with_reducible first | exact HB.out | apply below_alloc | apply pw_below_drewN | apply below_drew1) | exact HB.out)) hb); clear HB; have HB := n0_; clear n0_; (try clear hb); (try clear hb2); (try clear hk); (try clear hi)) | (go_at_call 12; (with_reducible refine (canon_Partner.calls a2 t1001 t1007 t1008 _ ?side1 A33.out).mono ?_); (case side1 => exact Tabs.below HT0.out (by repeat (first | (with_reducible first | exact HB.out | apply below_alloc | apply pw_below_drewN | apply below_drew1) | exact HB.out))); rintro e w41 ⟨rfl, hb⟩; have n0_ := Aside0.mk (below_step (by repeat (first | (with_reducible first | exact HB.out | apply below_alloc | apply pw_below_drewN | apply below_drew1) | exact HB.out)) hb); clear HB; have HB := n0_; clear n0_; (try clear hb); (try clear hb2); (try clear hk); (try clear hi)))
                  repeat (go_quiet (first | (go_at_call 12; (with_reducible refine (canon_Partner.calls a0 a1 t1005 t1006 _ ?side1 A32.out).mono ?_); (case side1 => exact Tabs.below HT0.out (by repeat (first | (with_reducible first | exact HB.out | apply below_alloc | apply pw_below_drewN | apply below_drew1) | exact HB.out))); rintro e w40 ⟨rfl, hb⟩; have n0_ := Aside0.mk (below_step (by repeat (first | (with_reducible first | exact HB.out | apply below_alloc | apply pw_below_drewN | apply below_drew1) | exact HB.out)) hb); clear HB; have HB := n0_; clear n0_; (try clear hb); (try clear hb2); (try clear hk); (try clear hi)) | (go_at_call 12; (with_reducible refine (canon_Partner.calls a2 t1001 t1007 t1008 _ ?side1 A33.out).mono ?_); (case side1 => exact Tabs.below HT0.out (by repeat (first | (with_reducible first | exact HB.out | apply below_alloc | apply pw_below_drewN | apply below_drew1) | exact HB.out))); rintro e w41 ⟨rfl, hb⟩; have n0_ := Aside0.mk (below_step (by repeat (first | (with_reducible first | exact HB.out | apply below_alloc | apply pw_below_drewN | apply below_drew1) | exact HB.out)) hb); clear HB; have HB := n0_; clear n0_; (try clear hb); (try clear hb2); (try clear hk); (try clear hi))); try go_wp2_with (first | (go_at_call 12; (with_reducible refine (canon_Partner.calls a0 a1 t1005 t1006 _ ?side1 A32.out).mono ?_); (case side1 => exact Tabs.below HT0.out (by repeat (first | (with_reducible first | exact HB.out | apply below_alloc | apply pw_below_drewN | apply below_drew1) | exact HB.out))); rintro e w40 ⟨rfl, hb⟩; have n0_ := Aside0.mk (below_step (by repeat (first | (with_reducible first | exact HB.out | apply below_alloc | apply pw_below_drewN | apply below_drew1) | exact HB.out)) hb); clear HB; have HB := n0_; clear n0_; (try clear hb); (try clear hb2); (try clear hk); (try clear hi)) | (go_at_call 12; (with_reducible refine (canon_Partner.calls a2 t1001 t1007 t1008 _ ?side1 A33.out).mono ?_); (case side1 => exact Tabs.below HT0.out (by repeat (first | (with_reducible first | exact HB.out | apply below_alloc | apply pw_below_drewN | apply below_drew1) | exact HB.out))); rintro e w41 ⟨rfl, hb⟩; have n0_ := Aside0.mk (below_step (by repeat (first | (with_reducible first | exact HB.out | apply below_alloc | apply pw_below_drewN | apply below_drew1) | exact HB.out)) hb); clear HB; have HB := n0_; clear n0_; (try clear hb); (try clear hb2); (try clear hk); (try clear hi))))
                  go_ret
                  exact ⟨by first | rfl | (simp [errW_none, errW_some] <;> rfl) | (simp [*, errW_none, errW_some] <;> rfl), by repeat (first | (with_reducible first | exact HB.out | apply below_alloc | apply pw_below_drewN | apply below_drew1) | exact HB.out)⟩
              · rw [if_neg c34] at H
                have c34b0 : (t1006 == 0) = false := beq_eq_false_iff_ne.mpr c34
                have c34b1 : (t1006 != 0) = true := bne_iff_ne.mpr c34
                by_cases c42 : t1006 = 4
                · rw [if_pos c42] at H
                  have c42b0 : (t1006 == 4) = true := beq_iff_eq.mpr c42
                  have c42b1 : (t1006 != 4) = false := bne_eq_false_iff_eq.mpr c42
                  clear c42
                  by_cases c43 : t1006 = t1008
                  · rw [if_pos c43] at H
                    have c43b0 : (t1006 == t1008) = true := beq_iff_eq.mpr c43
                    have c43b1 : (t1006 != t1008) = false := bne_eq_false_iff_eq.mpr c43
                    clear c43
                    replace H := Option.bind_eq_some_iff.mp H
                    obtain ⟨t1010, A440, H⟩ := H
                    replace H : (some t1010) = some r := H
                    have A44 := Aside0.mk A440
                    clear A440
                    obtain rfl := Option.some.inj H
                    go_wp2_with (first | (go_at_call 12; (with_reducible refine (canon_Partner.calls a0 a1 t1005 t1006 _ ?side1 A32.out).mono ?_); (case side1 => exact Tabs.below HT0.out (by repeat (first | (with_reducible first | exact HB.out | apply below_alloc | apply pw_below_drewN | apply below_drew1) | exact HB.out))); rintro e w45 ⟨rfl, hb⟩; have n0_ := Aside0.mk (below_step (by repeat (first | (with_reducible first | exact HB.out | apply below_alloc | apply pw_below_drewN | apply below_drew1) | exact HB.out)) hb); clear HB; have HB := n0_; clear n0_; (try clear hb); (try clear hb2); (try clear hk); (try clear hi)) | (go_at_call 12; (with_reducible refine (canon_Partner.calls a2 t1001 t1007 t1008 _ ?side1 A33.out).mono ?_); (case side1 => exact Tabs.below HT0.out (by repeat (first | (with_reducible first | exact HB.out | apply below_alloc | apply pw_below_drewN | apply below_drew1) | exact HB.out))); rintro e w46 ⟨rfl, hb⟩; have n0_ := Aside0.mk (below_step (by repeat (first | (with_reducible first | exact HB.out | apply below_alloc | apply pw_below_drewN | apply below_drew1) | exact HB.out)) hb); clear HB; have HB := n0_; clear n0_; (try clear hb); (try clear hb2); (try clear hk); (try clear hi)) | (go_at_call 11; (with_reducible refine (sackbutlaw02_awake.calls k2  t1010 _ A44.out).mono ?_); rintro e w47 ⟨rfl, hb⟩; have n0_ := Aside0.mk (below_step (by repeat (first | (with_reducible first | exact HB.out | apply below_alloc | apply pw_below_drewN | apply below_drew1) | exact HB.out)) hb); clear HB; have HB := n0_; clear n0_; (try clear hb); (try clear hb2); (try clear hk); (try clear hi)))
                    repeat (go_quiet (first | (go_at_call 12; (with_reducible refine (canon_Partner.calls a0 a1 t1005 t1006 _ ?side1 A32.out).mono ?_); (case side1 => exact Tabs.below HT0.out (by repeat (first | (with_reducible first | exact HB.out | apply below_alloc | apply pw_below_drewN | apply below_drew1) | exact HB.out))); rintro e w45 ⟨rfl, hb⟩; have n0_ := Aside0.mk (below_step (by repeat (first | (with_reducible first | exact HB.out | apply below_alloc | apply pw_below_drewN | apply below_drew1) | exact HB.out)) hb); clear HB; have HB := n0_; clear n0_; (try clear hb); (try clear hb2); (try clear hk); (try clear hi)) | (go_at_call 12; (with_reducible refine (canon_Partner.calls a2 t1001 t1007 t1008 _ ?side1 A33.out).mono ?_); (case side1 => exact Tabs.below HT0.out (by repeat (first | (with_reducible first | exact HB.out | apply below_alloc | apply pw_below_drewN | apply below_drew1) | exact HB.out))); rintro e w46 ⟨rfl, hb⟩; have n0_ := Aside0.mk (below_step (by repeat (first | (with_reducible first | exact HB.out | apply below_alloc | apply pw_below_drewN | apply below_drew1) | exact HB.out)) hb); clear HB; have HB := n0_; clear n0_; (try clear hb); (try clear hb2); (try clear hk); (try clear hi)) | (go_at_call 11; (with_reducible refine (sackbutlaw02_awake.calls k2  t1010 _ A44.out).mono ?_); rintro e w47 ⟨rfl, hb⟩; have n0_ := Aside0.mk (below_step (by repeat (first | (with_reducible first | exact HB.out | apply below_alloc | apply pw_below_drewN | apply below_drew1) | exact HB.out)) hb); clear HB; have HB := n0_; clear n0_; (try clear hb); (try clear hb2); (try clear hk); (try clear hi))); try go_wp2_with (first | (go_at_call 12; (with_reducible refine (canon_Partner.calls a0 a1 t1005 t1006 _ ?side1 A32.out).mono ?_); (case side1 => exact Tabs.below HT0.out (by repeat (first | (with_reducible first | exact HB.out | apply below_alloc | apply pw_below_drewN | apply below_drew1) | exact HB.out))); rintro e w45 ⟨rfl, hb⟩; have n0_ := Aside0.mk (below_step (by repeat (first | (with_reducible first | exact HB.out | apply below_alloc | apply pw_below_drewN | apply below_drew1) | exact HB.out)) hb); clear HB; have HB := n0_; clear n0_; (try clear hb); (try clear hb2); (try clear hk); (try clear hi)) | (go_at_call 12; (with_reducible refine (canon_Partner.calls a2 t1001 t1007 t1008 _ ?side1 A33.out).mono ?_); (case side1 => exact Tabs.below HT0.out (by repeat (first | (with_reducible first | exact HB.out | apply below_alloc | apply pw_below_drewN | apply below_drew1) | exact HB.out))); rintro e w46 ⟨rfl, hb⟩; have n0_ := Aside0.mk (below_step (by repeat (first | (with_reducible first | exact HB.out | apply below_alloc | apply pw_below_drewN | apply below_drew1) | exact HB.out)) hb); clear HB; have HB := n0_; clear n0_; (try clear hb); (try clear hb2); (try clear hk); (try clear hi)) | (go_at_call 11; (with_reducible refine (sackbutlaw02_awake.calls k2  t1010 _ A44.out).mono ?_); rintro e w47 ⟨rfl, hb⟩; have n0_ := Aside0.mk (below_step (by repeat (first | (with_reducible first | exact HB.out | apply below_alloc | apply pw_below_drewN | apply below_drew1) | exact HB.out)) hb); clear HB; have HB := n0_; clear n0_; (try clear hb); (try clear hb2); (try clear hk); (try clear hi))))
                    go_ret
                    exact ⟨by first | rfl | (simp [errW_none, errW_some] <;> rfl) | (simp [*, errW_none, errW_some] <;> rfl), by repeat (first | (with_reducible first | exact HB.out | apply below_alloc | apply pw_below_drewN | apply below_drew1) | exact HB.out)⟩
                  · rw [if_neg c43] at H
                    have c43b0 : (t1006 == t1008) = false := beq_eq_false_iff_ne.mpr c43
                    have c43b1 : (t1006 != t1008) = true := bne_iff_ne.mpr c43
                    obtain rfl := Option.some.inj H
                    go_wp2_with (first | (go_at_call 12; (with_reducible refine (canon_Partner.calls a0 a1 t1005 t1006 _ ?side1 A32.out).mono ?_); (case side1 => exact Tabs.below HT0.out (by repeat (first | (with_reducible first | exact HB.out | apply below_alloc | apply pw_below_drewN | apply below_drew1) | exact HB.out))); rintro e w48 ⟨rfl, hb⟩; have n0_ := Aside0.mk (below_step (by repeat (first | (with_reducible first | exact HB.out | apply below_alloc | apply pw_below_drewN | apply below_drew1) | exact HB.out)) hb); clear HB; have HB := n0_; clear n0_; (try clear hb); (try clear hb2); (try clear hk); (try clear hi)) | (go_at_call 12; (with_reducible refine (canon_Partner.calls a2 t1001 t1007 t1008 _ ?side1 A33.out).mono ?_); (case side1 => exact Tabs.below HT0.out (by repeat (first | (with_reducible first | exact HB.out | apply below_alloc | apply pw_below_drewN | apply below_drew1) | exact HB.out))); rintro e w49 ⟨rfl, hb⟩; have n0_ := Aside0.mk (below_step (by repeat (first | (with_reducible first | exact HB.out | apply below_alloc | apply pw_below_drewN | apply below_drew1) | exact HB.out)) hb); clear HB; have HB := n0_; clear n0_; (try clear hb); (try clear hb2); (try clear hk); (try clear hi)))
                    repeat (go_quiet (first | (go_at_call 12; (with_reducible refine (canon_Partner.calls a0 a1 t1005 t1006 _ ?side1 A32.out).mono ?_); (case side1 => exact Tabs.below HT0.out (by repeat (first | (with_reducible first | exact HB.out | apply below_alloc | apply pw_below_drewN | apply below_drew1) | exact HB.out))); rintro e w48 ⟨rfl, hb⟩; have n0_ := Aside0.mk (below_step (by repeat (first | (with_reducible first | exact HB.out | apply below_alloc | apply pw_below_drewN | apply below_drew1) | exact HB.out)) hb); clear HB; have HB := n0_; clear n0_; (try clear hb); (try clear hb2); (try clear hk); (try clear hi)) | (go_at_call 12; (with_reducible refine (canon_Partner.calls a2 t1001 t1007 t1008 _ ?side1 A33.out).mono ?_); (case side1 => exact Tabs.below HT0.out (by repeat (first | (with_reducible first | exact HB.out | apply below_alloc | apply pw_below_drewN | apply below_drew1) | exact HB.out))); rintro e w49 ⟨rfl, hb⟩; have n0_ := Aside0.mk (below_step (by repeat (first | (with_reducible first | exact HB.out | apply below_alloc | apply pw_below_drewN | apply below_drew1) | exact HB.out)) hb); clear HB; have HB := n0_; clear n0_; (try clear hb); (try clear hb2); (try clear hk); (try clear hi))); try go_wp2_with (first | (go_at_call 12; (with_reducible refine (canon_Partner.calls a0 a1 t1005 t1006 _ ?side1 A32.out).mono ?_); (case side1 => exact Tabs.below HT0.out (by repeat (first | (with_reducible first | exact HB.out | apply below_alloc | apply pw_below_drewN | apply below_drew1) | exact HB.out))); rintro e w48 ⟨rfl, hb⟩; have n0_ := Aside0.mk (below_step (by repeat (first | (with_reducible first | exact HB.out | apply below_alloc | apply pw_below_drewN | apply below_drew1) | exact HB.out)) hb); clear HB; have HB := n0_; clear n0_; (try clear hb); (try clear hb2); (try clear hk); (try clear hi)) | (go_at_call 12; (with_reducible refine (canon_Partner.calls a2 t1001 t1007 t1008 _ ?side1 A33.out).mono ?_); (case side1 => exact Tabs.below HT0.out (by repeat (first | (with_reducible first | exact HB.out | apply below_alloc | apply pw_below_drewN | apply below_drew1) | exact HB.out))); rintro e w49 ⟨rfl, hb⟩; have n0_ := Aside0.mk (below_step (by repeat (first | (with_reducible first | exact HB.out | apply below_alloc | apply pw_below_drewN | apply below_drew1) | exact HB.out)) hb); clear HB; have HB := n0_; clear n0_; (try clear hb); (try clear hb2); (try clear hk); (try clear hi))))
                    go_ret
                    exact ⟨by first | rfl | (simp [errW_none, errW_some] <;> rfl) | (simp [*, errW_none, errW_some] <;> rfl), by repeat (first | (with_reducible first | exact HB.out | apply below_alloc | apply pw_below_drewN | apply below_drew1) | exact HB.out)⟩
                · rw [if_neg c42] at H
                  have c42b0 : (t1006 == 4) = false := beq_eq_false_iff_ne.mpr c42
                  have c42b1 : (t1006 != 4) = true := bne_iff_ne.mpr c42
                  obtain rfl := Option.some.inj H
                  go_wp2_with (first | (go_at_call 12; (with_reducible refine (canon_Partner.calls a0 a1 t1005 t1006 _ ?side1 A32.out).mono ?_); (case side1 => exact Tabs.below HT0.out (by repeat (first | (with_reducible first | exact HB.out | apply below_alloc | apply pw_below_drewN | apply below_drew1) | exact HB.out))); rintro e w50 ⟨rfl, hb⟩; have n0_ := Aside0.mk (below_step (by repeat (first | (with_reducible first | exact HB.out | apply below_alloc | apply pw_below_drewN | apply below_drew1) | exact HB.out)) hb); clear HB; have HB := n0_; clear n0_; (try clear hb); (try clear hb2); (try clear hk); (try clear hi)) | (go_at_call 12; (with_reducible refine (canon_Partner.calls a2 t1001 t1007 t1008 _ ?side1 A33.out).mono ?_); (case side1 => exact Tabs.below HT0.out (by repeat (first | (with_reducible first | exact HB.out | apply below_alloc | apply pw_below_drewN | apply below_drew1) | exact HB.out))); rintro e w51 ⟨rfl, hb⟩; have n0_ := Aside0.mk (below_step (by repeat (first | (with_reducible first | exact HB.out | apply below_alloc | apply pw_below_drewN | apply below_drew1) | exact HB.out)) hb); clear HB; have HB := n0_; clear n0_; (try clear hb); (try clear hb2); (try clear hk); (try clear hi)))
                  repeat (go_quiet (first | (go_at_call 12; (with_reducible refine (canon_Partner.calls a0 a1 t1005 t1006 _ ?side1 A32.out).mono ?_); (case side1 => exact Tabs.below HT0.out (by repeat (first | (with_reducible first | exact HB.out | apply below_alloc | apply pw_below_drewN | apply below_drew1) | exact HB.out))); rintro e w50 ⟨rfl, hb⟩; have n0_ := Aside0.mk (below_step (by repeat (first | (with_reducible first | exact HB.out | apply below_alloc | apply pw_below_drewN | apply below_drew1) | exact HB.out)) hb); clear HB; have HB := n0_; clear n0_; (try clear hb); (try clear hb2); (try clear hk); (try clear hi)) | (go_at_call 12; (with_reducible refine (canon_Partner.calls a2 t1001 t1007 t1008 _ ?side1 A33.out).mono ?_); (case side1 => exact Tabs.below HT0.out (by repeat (first | (with_reducible first | exact HB.out | apply below_alloc | apply pw_below_drewN | apply below_drew1) | exact HB.out))); rintro e w51 ⟨rfl, hb⟩; have n0_ := Aside0.mk (below_step (by repeat (first | (with_reducible first | exact HB.out | apply below_alloc | apply pw_below_drewN | apply below_drew1) | exact HB.out)) hb); clear HB; have HB := n0_; clear n0_; (try clear hb); (try clear hb2); (try clear hk); (try clear hi))); try go_wp2_with (first | (go_at_call 12; (with_reducible refine (canon_Partner.calls a0 a1 t1005 t1006 _ ?side1 A32.out).mono ?_); (case side1 => exact Tabs.below HT0.out (by repeat (first | (with_reducible first | exact HB.out | apply below_alloc | apply pw_below_drewN | apply below_drew1) | exact HB.out))); rintro e w50 ⟨rfl, hb⟩; have n0_ := Aside0.mk (below_step (by repeat (first | (with_reducible first | exact HB.out | apply below_alloc | apply pw_below_drewN | apply below_drew1) | exact HB.out)) hb); clear HB; have HB := n0_; clear n0_; (try clear hb); (try clear hb2); (try clear hk); (try clear hi)) | (go_at_call 12; (with_reducible refine (canon_Partner.calls a2 t1001 t1007 t1008 _ ?side1 A33.out).mono ?_); (case side1 => exact Tabs.below HT0.out (by repeat (first | (with_reducible first | exact HB.out | apply below_alloc | apply pw_below_drewN | apply below_drew1) | exact HB.out))); rintro e w51 ⟨rfl, hb⟩; have n0_ := Aside0.mk (below_step (by repeat (first | (with_reducible first | exact HB.out | apply below_alloc | apply pw_below_drewN | apply below_drew1) | exact HB.out)) hb); clear HB; have HB := n0_; clear n0_; (try clear hb); (try clear hb2); (try clear hk); (try clear hi))))
                  go_ret
                  exact ⟨by first | rfl | (simp [errW_none, errW_some] <;> rfl) | (simp [*, errW_none, errW_some] <;> rfl), by repeat (first | (with_reducible first | exact HB.out | apply below_alloc | apply pw_below_drewN | apply below_drew1) | exact HB.out)⟩

/-- THE ONE PURE STATEMENT of sackbutlaw02_CanonFolds: yours. -/
def sackbutlaw02_CanonFolds.Pure : Prop := ∀ (a0 : Int) (a1 : Int) (a2 : Int), (Lit.int .i64 a0).wf = true → (Lit.int .i64 a1).wf = true → (Lit.int .i64 a2).wf = true → ∃ k, sackbutlaw02_CanonFolds.f k a0 a1 a2 = some true
theorem sackbutlaw02_CanonFolds.walk (P : sackbutlaw02_CanonFolds.Pure) (a0 : Int) (a1 : Int) (a2 : Int) (w : World) (hT : Tabs w) (w0 : (Lit.int .i64 a0).wf = true) (w1 : (Lit.int .i64 a1).wf = true) (w2 : (Lit.int .i64 a2).wf = true) :
    Calls Tryd.prog 3 #[.int .i64 a0, .int .i64 a1, .int .i64 a2] w fun e w' => e = .returned (.bool true) ∧ Below w.heap.size w w' := by
  obtain ⟨k, h⟩ := P a0 a1 a2 w0 w1 w2
  refine (sackbutlaw02_CanonFolds.calls k a0 a1 a2 true w hT h).mono ?_
  rintro e w' ⟨rfl, hd⟩
  exact ⟨rfl, hd⟩

end Go.Proofs.YtkidgakjeahebaaDoor.P
namespace Go.Proofs.YtkidgakjeahebaaDoor.P
/-! Periods of a rhythm. Plain Lean. -/
def IsPer (n a d : Nat) : Prop := 1 ≤ d ∧ d ≤ n ∧ n % d = 0 ∧ moveN n a d = a
instance (n a d : Nat) : Decidable (IsPer n a d) := by unfold IsPer; infer_instance
theorem moveN_all {n a : Nat} (ha : a < 2 ^ n) : moveN n a n = a := by
  unfold moveN
  rw [Nat.sub_self, Nat.pow_zero, Nat.div_one]
  refine bits_ext (n := n) (Nat.lt_of_le_of_lt Nat.and_le_right (by have := Nat.two_pow_pos n; omega)) ha (fun i hi => ?_)
  rw [Nat.testBit_and, Nat.testBit_or, Nat.testBit_two_pow_sub_one, ← Nat.shiftLeft_eq, Nat.testBit_shiftLeft]
  simp [hi, Nat.not_le.2 hi]
theorem isPer_all {n a : Nat} (hn : 1 ≤ n) (ha : a < 2 ^ n) : IsPer n a n := ⟨hn, Nat.le_refl _, Nat.mod_self n, moveN_all ha⟩
theorem least_per {n a : Nat} (hn : 1 ≤ n) (ha : a < 2 ^ n) : ∃ p, IsPer n a p ∧ ∀ d, d < p → ¬ IsPer n a d := by
  have go : ∀ m, (∃ p, p ≤ m ∧ IsPer n a p) → ∃ p, IsPer n a p ∧ ∀ d, d < p → ¬ IsPer n a d := by
    intro m
    induction m with
    | zero =>
      rintro ⟨p, hp, h⟩
      exact ⟨p, h, fun d hd => by omega⟩
    | succ m ih =>
      rintro ⟨p, hp, h⟩
      by_cases hq : ∃ q, q ≤ m ∧ IsPer n a q
      · exact ih hq
      · exact ⟨p, h, fun d hd hd2 => hq ⟨d, by omega, hd2⟩⟩
  exact go n ⟨n, Nat.le_refl _, isPer_all hn ha⟩
theorem per_bit {n a d : Nat} (ha : a < 2 ^ n) (h : IsPer n a d) : ∀ (q x : Nat), x + q * d < n → a.testBit (x + q * d) = a.testBit x := by
  obtain ⟨h1, h2, h3, h4⟩ := h
  intro q
  induction q with
  | zero => intro x _; rw [Nat.zero_mul, Nat.add_zero]
  | succ q ih =>
    intro x hx
    rw [Nat.succ_mul] at hx
    rw [← ih x (by omega)]
    rcases Nat.lt_or_ge d n with c | c
    · have h5 := testBit_moveN (i := x + (q + 1) * d) ha c (by rw [Nat.succ_mul]; omega)
      rw [h4] at h5
      rw [h5]
      congr 1
      rw [Nat.succ_mul, show x + (q * d + d) + (n - d) = x + q * d + n by omega, Nat.add_mod_right, Nat.mod_eq_of_lt (by omega)]
    · omega
/-- the beats of one period, gathered -/
def foldTo (a d : Nat) : Nat → Nat
  | 0 => 0
  | x + 1 => if a.testBit x then foldTo a d x ||| 2 ^ (x % d) else foldTo a d x
theorem foldTo_bit {n a d : Nat} (ha : a < 2 ^ n) (h : IsPer n a d) (i : Nat) : ∀ x, x ≤ n → (foldTo a d x).testBit i = (decide (i < d) && (decide (i < x) && a.testBit i)) := by
  have h1 := h.1
  intro x
  induction x with
  | zero => intro _; simp [foldTo]
  | succ x ih =>
    intro hx
    have hi := ih (by omega)
    have hp := per_bit ha h (x / d) (x % d) (by rw [Nat.mul_comm, Nat.mod_add_div]; omega)
    rw [Nat.mul_comm, Nat.mod_add_div] at hp
    have hmd := Nat.mod_lt x (show d > 0 by omega)
    have hml := Nat.mod_le x d
    simp only [foldTo]
    cases hb : a.testBit x with
    | true =>
      rw [if_pos rfl, Nat.testBit_or, hi, Nat.testBit_two_pow]
      rw [hb] at hp
      by_cases e : x % d = i
      · subst e
        rw [← hp]
        simp only [decide_true, Bool.or_true, Bool.and_true]
        rw [decide_eq_true hmd, decide_eq_true (show x % d < x + 1 by omega)]
        rfl
      · rw [decide_eq_false e, Bool.or_false]
        by_cases hid : i < d
        · rw [decide_eq_true hid, Bool.true_and, Bool.true_and]
          have : decide (i < x) = decide (i < x + 1) := by
            rw [decide_eq_decide]
            have : i ≠ x := fun h => e (by rw [← h, Nat.mod_eq_of_lt hid])
            omega
          rw [this]
        · rw [decide_eq_false hid, Bool.false_and, Bool.false_and]
    | false =>
      rw [if_neg (by simp), hi]
      by_cases e : i = x
      · subst e; rw [hb]; simp
      · have : decide (i < x) = decide (i < x + 1) := by rw [decide_eq_decide]; omega
        rw [this]
theorem foldTo_all {n a d : Nat} (ha : a < 2 ^ n) (h : IsPer n a d) : foldTo a d n = a &&& (2 ^ d - 1) := by
  refine Nat.eq_of_testBit_eq (fun i => ?_)
  rw [foldTo_bit ha h i n (Nat.le_refl _), Nat.testBit_and, Nat.testBit_two_pow_sub_one]
  by_cases hi : i < d
  · have := h.2.1
    rw [decide_eq_true hi, decide_eq_true (show i < n by omega)]; simp
  · rw [decide_eq_false hi]; simp
theorem foldTo_lt {n a d : Nat} (hd : 1 ≤ d) (hdn : d ≤ n) : ∀ x, foldTo a d x < 2 ^ n
  | 0 => Nat.two_pow_pos n
  | x + 1 => by
    have h := foldTo_lt (n := n) (a := a) hd hdn x
    simp only [foldTo]
    split
    · exact Nat.or_lt_two_pow h (Nat.pow_lt_pow_right (by omega) (Nat.lt_of_lt_of_le (Nat.mod_lt x (by omega)) hdn))
    · exact h
end Go.Proofs.YtkidgakjeahebaaDoor.P
namespace Go.Proofs.YtkidgakjeahebaaDoor.P
/-! Partners of a rhythm with a period, and of a rhythm turned. Plain Lean. -/
theorem back_mod {n d x y : Nat} (hd : 1 ≤ d) (hn : n % d = 0) (hy : y < n) : (x + (n - y)) % n % d = (x % d + (d - y % d)) % d := by
  have hdv : d ∣ n := Nat.dvd_of_mod_eq_zero hn
  rw [Nat.mod_mod_of_dvd _ hdv]
  refine add_mod_inj (e := y) (Nat.mod_lt _ hd) (Nat.mod_lt _ hd) ?_
  rw [Nat.mod_add_mod, Nat.mod_add_mod]
  have h1 : (x + (n - y) + y) % d = x % d := by
    rw [show x + (n - y) + y = x + n by omega, Nat.add_mod, hn, Nat.add_zero, Nat.mod_mod]
  have h2 : (x % d + (d - y % d) + y) % d = x % d := by
    have e1 := Nat.div_add_mod y d
    have e2 := Nat.mod_lt y hd
    rw [show x % d + (d - y % d) + y = x % d + d * (y / d + 1) by rw [Nat.mul_add]; omega, Nat.add_mul_mod_self_left, Nat.mod_mod]
  rw [h1, h2]
theorem per_mod {n a d : Nat} (ha : a < 2 ^ n) (h : IsPer n a d) {x : Nat} (hx : x < n) : a.testBit (x % d) = a.testBit x := by
  have hd := h.1
  have := per_bit ha h (x / d) (x % d) (by have := Nat.mod_add_div x d; rw [Nat.mul_comm] at this; omega)
  rw [← this]
  congr 1
  have := Nat.mod_add_div x d; rw [Nat.mul_comm] at this; omega
theorem move_fold {n a d x y : Nat} (ha : a < 2 ^ n) (h : IsPer n a d) (hx : x < n) (hy : y < n) : (moveN n a y).testBit x = (moveN d (a &&& (2 ^ d - 1)) (y % d)).testBit (x % d) := by
  have hd := h.1
  have hb : a &&& (2 ^ d - 1) < 2 ^ d := by have := Nat.two_pow_pos d; have := @Nat.and_le_right a (2 ^ d - 1); omega
  rw [testBit_moveN ha hy hx, testBit_moveN hb (Nat.mod_lt _ hd) (Nat.mod_lt _ hd), ← back_mod hd h.2.2.1 hy, Nat.testBit_and, Nat.testBit_two_pow_sub_one, per_mod ha h (Nat.mod_lt _ (by omega))]
  have : (x + (n - y)) % n % d < d := Nat.mod_lt _ hd
  simp [this]
def modSet (n d c : Nat) : Nat := orAll 0 (((List.range n).filter c.testBit).map (· % d))
theorem modSet_bit {n d c i : Nat} : (modSet n d c).testBit i = true ↔ ∃ y, y < n ∧ c.testBit y = true ∧ y % d = i := by
  unfold modSet
  rw [testBit_orAll]
  simp only [Nat.zero_testBit, Bool.false_or, decide_eq_true_eq, List.mem_map, List.mem_filter, List.mem_range]
  constructor
  · rintro ⟨y, ⟨h1, h2⟩, h3⟩; exact ⟨y, h1, h2, h3⟩
  · rintro ⟨y, h1, h2, h3⟩; exact ⟨y, ⟨h1, h2⟩, h3⟩
theorem modSet_lt {n d c : Nat} (hd : 1 ≤ d) : modSet n d c < 2 ^ d := by
  unfold modSet
  refine orAll_lt _ (fun x hx => ?_) _ (Nat.two_pow_pos d)
  simp only [List.mem_map] at hx
  obtain ⟨y, _, rfl⟩ := hx
  exact Nat.mod_lt _ hd
theorem fold_partner {n a d : Nat} (ha : a < 2 ^ n) (h : IsPer n a d) : (∃ c, c < 2 ^ n ∧ Tiled n a c ∧ c.testBit 0 = true) ↔ (∃ c, c < 2 ^ d ∧ Tiled d (a &&& (2 ^ d - 1)) c ∧ c.testBit 0 = true) := by
  have hd := h.1
  have hdn := h.2.1
  simp only [tiled_fills]
  constructor
  · rintro ⟨c, hc, ⟨h1, h2⟩, h0⟩
    refine ⟨modSet n d c, modSet_lt hd, ⟨fun x hx => ?_, fun x hx y hy z hz hy1 hz1 hy2 hz2 => ?_⟩, modSet_bit.2 ⟨0, by omega, h0, Nat.zero_mod d⟩⟩
    · obtain ⟨y, hy, hcy, hm⟩ := h1 x (by omega)
      refine ⟨y % d, Nat.mod_lt _ hd, modSet_bit.2 ⟨y, hy, hcy, rfl⟩, ?_⟩
      rw [move_fold ha h (by omega) hy, Nat.mod_eq_of_lt hx] at hm; exact hm
    · obtain ⟨y', hy', hcy, rfl⟩ := modSet_bit.1 hy1
      obtain ⟨z', hz', hcz, rfl⟩ := modSet_bit.1 hz1
      have e1 := move_fold ha h (show x < n by omega) hy'
      have e2 := move_fold ha h (show x < n by omega) hz'
      rw [Nat.mod_eq_of_lt hx] at e1 e2
      rw [h2 x (by omega) y' hy' z' hz' hcy hcz (e1.trans hy2) (e2.trans hz2)]
  · rintro ⟨c, hc, ⟨h1, h2⟩, h0⟩
    have hlt : ∀ y, c.testBit y = true → y < d := fun y hy => by
      rcases Nat.lt_or_ge y d with h | h
      · exact h
      · rw [testBit_big hc h] at hy; cases hy
    refine ⟨c, Nat.lt_of_lt_of_le hc (Nat.pow_le_pow_right (by omega) hdn), ⟨fun x hx => ?_, fun x hx y hy z hz hy1 hz1 hy2 hz2 => ?_⟩, h0⟩
    · obtain ⟨y, hy, hcy, hm⟩ := h1 (x % d) (Nat.mod_lt _ hd)
      refine ⟨y, by omega, hcy, ?_⟩
      rw [move_fold ha h hx (by omega), Nat.mod_eq_of_lt hy]; exact hm
    · have _ := hx
      have hyd := hlt y hy1
      have hzd := hlt z hz1
      rw [move_fold ha h hx hy, Nat.mod_eq_of_lt hyd] at hy2
      rw [move_fold ha h hx hz, Nat.mod_eq_of_lt hzd] at hz2
      exact h2 (x % d) (Nat.mod_lt _ hd) y hyd z hzd hy1 hz1 hy2 hz2
/-- the image of a set -/
def imgSet (n : Nat) (f : Nat → Nat) (c : Nat) : Nat := orAll 0 (((List.range n).filter c.testBit).map f)
theorem imgSet_bit {n : Nat} {f : Nat → Nat} {c i : Nat} : (imgSet n f c).testBit i = true ↔ ∃ y, y < n ∧ c.testBit y = true ∧ f y = i := by
  unfold imgSet
  rw [testBit_orAll]
  simp only [Nat.zero_testBit, Bool.false_or, decide_eq_true_eq, List.mem_map, List.mem_filter, List.mem_range]
  constructor
  · rintro ⟨y, ⟨h1, h2⟩, h3⟩; exact ⟨y, h1, h2, h3⟩
  · rintro ⟨y, h1, h2, h3⟩; exact ⟨y, ⟨h1, h2⟩, h3⟩
theorem imgSet_lt {n : Nat} {f : Nat → Nat} {c : Nat} (hf : ∀ x, x < n → f x < n) : imgSet n f c < 2 ^ n := by
  unfold imgSet
  refine orAll_lt _ (fun x hx => ?_) _ (Nat.two_pow_pos n)
  simp only [List.mem_map, List.mem_filter, List.mem_range] at hx
  obtain ⟨y, ⟨h, _⟩, rfl⟩ := hx
  exact hf y h
def neg1 (n x : Nat) : Nat := (n - x) % n
theorem neg1_lt {n x : Nat} (hn : 1 ≤ n) : neg1 n x < n := Nat.mod_lt _ hn
theorem neg1_eq {n x : Nat} (hx : x < n) : neg1 n x = if x = 0 then 0 else n - x := by
  unfold neg1
  by_cases e : x = 0
  · subst e; simp
  · rw [if_neg e, Nat.mod_eq_of_lt (by omega)]
theorem neg1_neg1 {n x : Nat} (hx : x < n) : neg1 n (neg1 n x) = x := by
  have h1 := neg1_eq hx
  have h2 := neg1_eq (n := n) (x := neg1 n x) (neg1_lt (by omega))
  split at h1 <;> split at h2 <;> omega
def negN (n c : Nat) : Nat := imgSet n (neg1 n) c
theorem negN_lt {n c : Nat} (hn : 1 ≤ n) : negN n c < 2 ^ n := imgSet_lt (fun _ _ => neg1_lt hn)
theorem negN_bit {n c i : Nat} (hi : i < n) : (negN n c).testBit i = c.testBit (neg1 n i) := by
  rw [Bool.eq_iff_iff]
  unfold negN
  rw [imgSet_bit]
  constructor
  · rintro ⟨y, hy, hc, rfl⟩; rw [neg1_neg1 hy]; exact hc
  · intro h; exact ⟨neg1 n i, neg1_lt (by omega), h, neg1_neg1 hi⟩
theorem negN_negN {n c : Nat} (hn : 1 ≤ n) (hc : c < 2 ^ n) : negN n (negN n c) = c :=
  bits_ext (negN_lt hn) hc (fun i hi => by rw [negN_bit hi, negN_bit (neg1_lt hn), neg1_neg1 hi])
theorem move_neg {n a x y : Nat} (ha : a < 2 ^ n) (hx : x < n) (hy : y < n) : (moveN n (negN n a) (neg1 n y)).testBit (neg1 n x) = (moveN n a y).testBit x := by
  have hn : 1 ≤ n := by omega
  rw [testBit_moveN (negN_lt hn) (neg1_lt hn) (neg1_lt hn), testBit_moveN ha hy hx, negN_bit (Nat.mod_lt _ hn)]
  congr 1
  have h1 := neg1_eq hx
  have h2 := neg1_eq hy
  have hm : ∀ u, u < 2 * n → u % n = if u < n then u else u - n := fun u hu => by
    by_cases e : u < n
    · rw [if_pos e, Nat.mod_eq_of_lt e]
    · rw [if_neg e, Nat.mod_eq_sub_mod (by omega), Nat.mod_eq_of_lt (by omega)]
  have e1 : ∀ v, v = (neg1 n x + (n - neg1 n y)) % n → neg1 n v = (x + (n - y)) % n := by
    intro v hv
    by_cases hy0 : y = 0
    · subst hy0
      simp only [if_true] at h2
      rw [h2, Nat.sub_zero, Nat.add_mod_right, Nat.mod_eq_of_lt (neg1_lt hn)] at hv
      subst hv
      rw [neg1_neg1 hx, Nat.sub_zero, Nat.add_mod_right, Nat.mod_eq_of_lt hx]
    · rw [if_neg hy0] at h2
      rw [hm _ (by have := neg1_lt (x := x) hn; omega)] at hv
      have hvn : v < n := by have := neg1_lt (x := x) hn; split at hv <;> omega
      have h3 := neg1_eq hvn
      rw [h3, hm _ (by omega)]
      split at h1 <;> split at hv <;> split <;> split <;> omega
  exact e1 _ rfl
theorem tiled_neg {n a c : Nat} (ha : a < 2 ^ n) (h : Tiled n a c) : Tiled n (negN n a) (negN n c) := by
  rw [tiled_fills] at h ⊢
  obtain ⟨h1, h2⟩ := h
  refine ⟨fun x hx => ?_, fun x hx y hy z hz hy1 hz1 hy2 hz2 => ?_⟩
  · have hn : 1 ≤ n := by omega
    obtain ⟨y, hy, hc, hm⟩ := h1 (neg1 n x) (neg1_lt hn)
    refine ⟨neg1 n y, neg1_lt hn, ?_, ?_⟩
    · rw [negN_bit (neg1_lt hn), neg1_neg1 hy]; exact hc
    · have := move_neg ha (neg1_lt (x := x) hn) hy
      rw [neg1_neg1 hx] at this
      rw [this]; exact hm
  · have hn : 1 ≤ n := by omega
    rw [negN_bit hy] at hy1
    rw [negN_bit hz] at hz1
    have e1 := move_neg ha (neg1_lt (x := x) hn) (neg1_lt (x := y) hn)
    have e2 := move_neg ha (neg1_lt (x := x) hn) (neg1_lt (x := z) hn)
    rw [neg1_neg1 hx, neg1_neg1 hy] at e1
    rw [neg1_neg1 hx, neg1_neg1 hz] at e2
    have := h2 (neg1 n x) (neg1_lt hn) (neg1 n y) (neg1_lt hn) (neg1 n z) (neg1_lt hn) hy1 hz1 (e1.symm.trans hy2) (e2.symm.trans hz2)
    rw [← neg1_neg1 hy, this, neg1_neg1 hz]
end Go.Proofs.YtkidgakjeahebaaDoor.P
namespace Go.Proofs.YtkidgakjeahebaaDoor.P
open Go.RowKit Go.Proofs.YtkidgakjeahebaaDoorW.PrintWords Go.Proofs.YtkidgakjeahebaaDoorW.PrintLast Go.Proofs.YtkidgakjeahebaaDoorW.PrintMore
attribute [local go_sem] max2_int min2_int max_two min_two max_three min_three max_four min_four   -- for this text's walks alone
set_option linter.unusedVariables false
set_option linter.unusedSimpArgs false

theorem isPer_mod {n d : Nat} : (Int.tmod (n : Int) (d : Int) = 0) ↔ n % d = 0 := by
  rw [Int.tmod_eq_emod_of_nonneg (by omega), ← Int.natCast_emod]; omega
theorem isPeriod_f {n a d : Nat} (hn : n ≤ 24) (hn1 : 1 ≤ n) (ha : a < 2 ^ n) (h1 : 1 ≤ d) : canon_circle_isPeriod.f (n : Int) (a : Int) (d : Int) = some (decide (IsPer n a d)) := by
  unfold canon_circle_isPeriod.f
  rw [if_pos (by omega), if_neg (by omega)]
  by_cases hm : n % d = 0
  · have hdn : d ≤ n := Nat.le_of_dvd (by omega) (Nat.dvd_of_mod_eq_zero hm)
    rw [if_pos (isPer_mod.2 hm), move_f hn hdn ha, Option.bind_some]
    congr 1
    rw [Bool.eq_iff_iff, beq_iff_eq, decide_eq_true_eq]
    unfold IsPer
    omega
  · rw [if_neg (fun h => hm (isPer_mod.1 h))]
    have : ¬ IsPer n a d := fun h => hm h.2.2.1
    rw [decide_eq_false this]
theorem Fold_bad (n a d : Int) (hv : ¬ (ValidR n a ∧ 2 ≤ d ∧ IsPer n.toNat a.toNat d.toNat)) : canon_Fold.f n a d = some (0, 2) := by
  unfold canon_Fold.f
  rw [valid1_f, Option.bind_some]
  by_cases h : ValidR n a
  · simp only [h, decide_true, if_true]
    by_cases h2 : d < 2
    · rw [if_pos h2]
    · rw [if_neg h2]
      by_cases h3 : d > n
      · rw [if_pos h3]
      · rw [if_neg h3]
        obtain ⟨N, A, rfl, rfl, h2', h24, hA, _⟩ := validR_nat h
        obtain ⟨D, rfl⟩ := Int.eq_ofNat_of_zero_le (show 0 ≤ d by omega)
        rw [isPeriod_f h24 (by omega) hA (by omega), Option.bind_some]
        have : ¬ IsPer N A D := fun hp => hv ⟨h, by omega, hp⟩
        simp only [this, decide_false, Bool.false_eq_true, if_false]
  · simp only [h, decide_false, Bool.false_eq_true, if_false]
theorem Fold_f {n a d : Nat} (hv : ValidR n a) (h2 : 2 ≤ d) (hp : IsPer n a d) : canon_Fold.f (n : Int) (a : Int) (d : Int) = some (((a &&& (2 ^ d - 1) : Nat) : Int), 0) := by
  unfold canon_Fold.f
  have hn := hv.2.1
  have hA : a < 2 ^ n := by
    have := hv.2.2.2.1
    rw [Int.toNat_natCast, ← pow_cast] at this
    omega
  have hn24 : n ≤ 24 := by omega
  have hdn := hp.2.1
  have h1 := hv.1
  have hpd : 2 ^ d ≤ 2 ^ n := Nat.pow_le_pow_right (by omega) hdn
  rw [valid1_f, Option.bind_some]
  simp only [hv, decide_true, if_true]
  rw [if_neg (by omega), if_neg (by omega), isPeriod_f hn24 (by omega) hA (by omega), Option.bind_some]
  simp only [hp, decide_true, if_true]
  have hpos := Nat.two_pow_pos d
  rw [if_pos (by omega), full_w (by omega), and_r hn24 hA (by omega)]

end Go.Proofs.YtkidgakjeahebaaDoor.P
namespace Go.Proofs.YtkidgakjeahebaaDoor.P
open Go.RowKit Go.Proofs.YtkidgakjeahebaaDoorW.PrintWords Go.Proofs.YtkidgakjeahebaaDoorW.PrintLast Go.Proofs.YtkidgakjeahebaaDoorW.PrintMore
attribute [local go_sem] max2_int min2_int max_two min_two max_three min_three max_four min_four   -- for this text's walks alone
set_option linter.unusedVariables false
set_option linter.unusedSimpArgs false

theorem minStep_fold : ∀ (l : List Nat) (m : Nat), m ≠ 0 → (∀ b ∈ l, b ≠ 0) → l.foldl minStep m ≠ 0 ∧ l.foldl minStep m ∈ m :: l ∧ ∀ b ∈ m :: l, l.foldl minStep m ≤ b
  | [], m, h, _ => ⟨h, by simp, by simp⟩
  | c :: l, m, h, hl => by
    have e : minStep m c = if c < m then c else m := by unfold minStep; simp [h]
    have h1 : minStep m c ≠ 0 := by rw [e]; split; exact hl c (by simp); exact h
    obtain ⟨a1, a2, a3⟩ := minStep_fold l (minStep m c) h1 (fun b hb => hl b (by simp [hb]))
    refine ⟨a1, ?_, fun b hb => ?_⟩
    · rw [List.foldl_cons]
      rcases List.mem_cons.1 a2 with h2 | h2
      · rw [h2, e]; split <;> simp
      · simp [h2]
    · rw [List.foldl_cons]
      have h3 := a3 (minStep m c) (by simp)
      rw [List.mem_cons, List.mem_cons] at hb
      rcases hb with rfl | rfl | hb
      · have : minStep b c ≤ b := by rw [e]; split <;> omega
        omega
      · have : minStep m b ≤ b := by rw [e]; split <;> omega
        omega
      · exact a3 b (by simp [hb])
theorem minB_spec {l : List Nat} (hl : ∀ b ∈ l, b ≠ 0) (h : l ≠ []) : minB l ≠ 0 ∧ minB l ∈ l ∧ ∀ b ∈ l, minB l ≤ b := by
  cases l with
  | nil => exact absurd rfl h
  | cons c l =>
    have e : minB (c :: l) = l.foldl minStep c := by
      show l.foldl minStep (minStep 0 c) = _
      unfold minStep; simp
    rw [e]
    exact minStep_fold l c (hl c (by simp)) (fun b hb => hl b (by simp [hb]))
theorem PL_spec {n a : Nat} (hn : 1 ≤ n) (ha : a < 2 ^ n) (h0 : a.testBit 0 = true) : (PL n a).Nodup ∧ ∀ c, c ∈ PL n a ↔ (c < 2 ^ n ∧ Tiled n a c ∧ c.testBit 0 = true) := partners_spec hn ha h0 (stepOk_A ha)
theorem PL_ne {n a : Nat} (hn : 1 ≤ n) (ha : a < 2 ^ n) (h0 : a.testBit 0 = true) : ∀ b ∈ PL n a, b ≠ 0 := by
  intro b hb e
  have := ((PL_spec hn ha h0).2 b).1 hb
  rw [e] at this
  simp at this
theorem PL_some {n a : Nat} (hn : 1 ≤ n) (ha : a < 2 ^ n) (h0 : a.testBit 0 = true) : PL n a ≠ [] ↔ ∃ c, c < 2 ^ n ∧ Tiled n a c ∧ c.testBit 0 = true := by
  constructor
  · intro h
    obtain ⟨c, hc⟩ := List.exists_mem_of_ne_nil _ h
    exact ⟨c, ((PL_spec hn ha h0).2 c).1 hc⟩
  · rintro ⟨c, hc⟩ e
    have := ((PL_spec hn ha h0).2 c).2 hc
    rw [e] at this; cases this
theorem Partner_f {n a : Nat} (hv : ValidR n a) : canon_Partner.f n a = some (if PL n a = [] then (0, 4) else (((minB (PL n a) : Nat) : Int), 0)) := by
  unfold canon_Partner.f
  rw [if_pos hv]
  obtain ⟨N, A, e1, e2, h2, h24, hA, h0⟩ := validR_nat hv
  obtain rfl : n = N := by omega
  obtain rfl : a = A := by omega
  simp only [Int.toNat_natCast]
  by_cases e : PL n a = []
  · have : minI (PL n a) = 0 := by unfold minI; rw [e]; rfl
    rw [if_pos this, if_pos e]
  · have h := (minB_spec (PL_ne (by omega) hA h0) e).1
    have : minI (PL n a) ≠ 0 := by unfold minI; omega
    rw [if_neg this, if_neg e]; rfl
theorem folds_loop {n a d : Nat} (hv : ValidR n a) (hv2 : ValidR d (a &&& (2 ^ d - 1) : Nat)) (hd : 2 ≤ d) (hp : IsPer n a d) : ∀ (m x : Nat), x + m = n →
    Ev (fun k => sackbutlaw02_CanonFolds.l0 k (n : Int) (a : Int) (d : Int) ((a &&& (2 ^ d - 1) : Nat) : Int) (n : Int) (x : Int)) true := by
  obtain ⟨N, A, e1, e2, h2, h24, hA, h0⟩ := validR_nat hv
  obtain rfl : n = N := by omega
  obtain rfl : a = A := by omega
  obtain ⟨N, B, e1', e2', _, hd24, hB, hb0⟩ := validR_nat hv2
  obtain rfl : d = N := by omega
  obtain rfl : (a &&& (2 ^ d - 1)) = B := by omega
  intro m
  induction m with
  | zero =>
    intro x hx
    have hxn : x = n := by omega
    subst hxn
    have p1 : ¬ (x : Int) < (x : Int) := by omega
    have hpf := fold_partner hA hp
    rw [← PL_some (by omega) hA h0, ← PL_some (by omega) hB hb0] at hpf
    refine Ev.succ ?_
    simp only [sackbutlaw02_CanonFolds.l0, if_neg p1]
    refine Ev.bind_some (Partner_f hv) ?_
    refine Ev.bind_some (Partner_f hv2) ?_
    by_cases e : PL x a = []
    · have e' : PL d (a &&& (2 ^ d - 1)) = [] := by
        rcases Classical.em (PL d (a &&& (2 ^ d - 1)) = []) with h | h
        · exact h
        · exact absurd e (hpf.2 h)
      simp only [e, e', if_true]
      exact Ev.ite (fun h => absurd h (by decide)) (fun _ => Ev.bind awake_ev (Ev.some _))
    · have e' : ¬ PL d (a &&& (2 ^ d - 1)) = [] := hpf.1 e
      simp only [e, e', if_false, if_true]
      exact Ev.bind awake_ev (Ev.some _)
  | succ m ih =>
    intro x hx
    have hxn : x < n := by omega
    have p1 : (x : Int) < (n : Int) := by omega
    have p0 : (0 : Int) ≤ (x : Int) := by omega
    have hn0 : ¬ (n : Int) = 0 := by omega
    have hd0 : ¬ (d : Int) = 0 := by omega
    have t1 : Int.tmod (wrap64 ((x : Int) + (d : Int))) (n : Int) = (((x + d) % n : Nat) : Int) := by
      have hdn := hp.2.1
      have e : (x : Int) + (d : Int) = ((x + d : Nat) : Int) := by omega
      rw [wrap_id (by omega) (by omega), e, Int.tmod_eq_emod_of_nonneg (by omega)]
      exact (Int.natCast_emod (x + d) n).symm
    have t2 : Int.tmod (x : Int) (d : Int) = ((x % d : Nat) : Int) := by rw [Int.tmod_eq_emod_of_nonneg p0]; exact (Int.natCast_emod x d).symm
    have hm1 : (x + d) % n < n := Nat.mod_lt _ (by omega)
    have hm2 : x % d < d := Nat.mod_lt _ (by omega)
    have b1 := bit_r h24 hA (show x ≤ 64 by omega)
    have b2 := bit_r h24 hA (show (x + d) % n ≤ 64 by omega)
    have b3 := bit_r hd24 hB (show x % d ≤ 64 by omega)
    have hdn : d ∣ n := Nat.dvd_of_mod_eq_zero hp.2.2.1
    have c1 : a.testBit ((x + d) % n) = a.testBit x := by
      rw [← per_mod hA hp hm1, ← per_mod hA hp hxn, Nat.mod_mod_of_dvd _ hdn, Nat.add_mod_right]
    have c2 : (a &&& (2 ^ d - 1)).testBit (x % d) = a.testBit x := by
      rw [Nat.testBit_and, Nat.testBit_two_pow_sub_one, per_mod hA hp hxn]; simp [hm2]
    have hw := next_w (d := x) (by omega)
    have hT1 : (0 : Int) ≤ (((x + d) % n : Nat) : Int) := by omega
    have hT2 : (0 : Int) ≤ ((x % d : Nat) : Int) := by omega
    have go := ih (x + 1) (by omega)
    refine Ev.succ ?_
    simp only [sackbutlaw02_CanonFolds.l0, if_pos p1, if_pos p0, if_neg hn0, if_neg hd0, t1, t2, if_pos hT1, if_pos hT2, b1, b2, b3, c1, c2, hw, if_true]
    exact go
theorem CanonFolds : sackbutlaw02_CanonFolds.Pure := by
  intro n a d _ _ _
  refine Ev.rounds (g := fun k => sackbutlaw02_CanonFolds.f k n a d) ?_
  unfold sackbutlaw02_CanonFolds.f
  by_cases hg : ValidR n a ∧ 2 ≤ d ∧ IsPer n.toNat a.toNat d.toNat
  · obtain ⟨hv, h2, hp⟩ := hg
    obtain ⟨N, A, rfl, rfl, hN2, h24, hA, h0⟩ := validR_nat hv
    obtain ⟨D, rfl⟩ := Int.eq_ofNat_of_zero_le (show 0 ≤ d by omega)
    simp only [Int.toNat_natCast] at hp
    have hdn := hp.2.1
    have hv2 : ValidR D (A &&& (2 ^ D - 1) : Nat) := by
      have hb0 : (A &&& (2 ^ D - 1)).testBit 0 = true := by
        rw [Nat.testBit_and, h0, Nat.testBit_two_pow_sub_one]; simp; omega
      have hlt : A &&& (2 ^ D - 1) < 2 ^ D := by have := Nat.two_pow_pos D; have := @Nat.and_le_right A (2 ^ D - 1); omega
      rw [Nat.testBit_zero, decide_eq_true_eq] at hb0
      refine ⟨by omega, by omega, by omega, ?_, by omega⟩
      rw [Int.toNat_natCast, ← pow_cast]; exact_mod_cast hlt
    have hr := rhythm_f N A
    rw [decide_eq_true hv] at hr
    have q1 : ¬ (D : Int) < 2 := by omega
    have q2 : ¬ (D : Int) > (N : Int) := by omega
    have q3 : ¬ (D : Int) = 0 := by omega
    have q4 : (Int.tmod (N : Int) (D : Int) != 0) = false := by
      have := isPer_mod.2 hp.2.2.1
      rw [this]; rfl
    have go := folds_loop hv hv2 (by omega) hp N 0 (by omega)
    refine Ev.bind_some (Fold_f hv (by omega) hp) ?_
    simp only [if_true]
    refine Ev.bind_some hr ?_
    simp only [if_true, if_neg q1, if_neg q2, if_neg q3, q4]
    refine Ev.succ ?_
    simp only [sackbutlaw02_CanonFolds.j0, Bool.false_eq_true, if_false]
    exact go
  · refine Ev.bind_some (Fold_bad n a d hg) ?_
    refine Ev.ite (fun h => absurd h (by decide)) (fun _ => ?_)
    refine Ev.succ ?_
    simp only [sackbutlaw02_CanonFolds.j0, if_true]
    exact Ev.bind awake_ev (Ev.some _)

end Go.Proofs.YtkidgakjeahebaaDoor.P
namespace Go.Proofs.YtkidgakjeahebaaDoor.Pure
theorem CanonFolds : Go.Proofs.YtkidgakjeahebaaDoor.P.sackbutlaw02_CanonFolds.Pure := Go.Proofs.YtkidgakjeahebaaDoor.P.CanonFolds
end Go.Proofs.YtkidgakjeahebaaDoor.Pure
namespace Go.Proofs.YtkidgakjeahebaaDoor.P
open Go.RowKit Go.Proofs.YtkidgakjeahebaaDoorW.PrintWords Go.Proofs.YtkidgakjeahebaaDoorW.PrintLast Go.Proofs.YtkidgakjeahebaaDoorW.PrintMore
attribute [local go_sem] max2_int min2_int max_two min_two max_three min_three max_four min_four   -- for this text's walks alone
set_option linter.unusedVariables false
set_option linter.unusedSimpArgs false

open Go.ChangeShapes Go.WideShapes Go.ChangeAt Go.WideElems
/-! what the row's listed tables give the walks -/
def doorLaid2 : List (String × DataW Unit) := [("math/bits.deBruijn32tab", Rows.laid_math_bits_deBruijn32tab), ("math/bits.deBruijn64tab", Rows.laid_math_bits_deBruijn64tab)]
theorem door_g64 : Tryd.prog.globalNamed "math/bits.deBruijn64tab" = some 1 := by kernel_rfl
theorem door_t64 : (Tryd.prog.globals[1]?).map (·.type) = some 85 := by kernel_rfl
theorem door_met (os : Os) (args : Array Value) : laidMetH Tryd.prog doorLaid2 ((World.doorLaid Tryd.prog 19 os).forCall (fun _ _ => 0) ⟨#[], args, []⟩).memory :=
  laidMetH_of_parts3 (fuel := 8) (laidMet_of_run' 8 (by kernel_rfl) (by kernel_rfl)) (by kernel_rfl) (by kernel_rfl)
theorem door_tab : (Rows.laid_math_bits_deBruijn64tab : DataW Unit) = .agg (tzTab.map fun (n : Nat) => .lit (.int .u8 (n : Int))) := rfl
theorem door_c8 : Tryd.prog.cellsOf 5 = 1 := by kernel_rfl
theorem tabs_of_laid {W : World} (h : laidMetH Tryd.prog doorLaid2 W) : Tabs W := by
  rw [MakeChecks.laidMetH_plain _ _ _ (by kernel_rfl)] at h
  obtain ⟨ps, ⟨g0, t0, cs0, f0, p0, q0, hg0, ht0, hv0, hd0, ⟨g1, t1, cs1, f1, p1, q1, hg1, ht1, hv1, hd1, _, _⟩, _⟩, _, _⟩ := h
  obtain rfl := Option.some.inj (door_g64.symm.trans hg1)
  obtain rfl := Option.some.inj (door_t64.symm.trans ht1)
  obtain ⟨xs, m1, rfl, hx1, hlen, hn, hel⟩ := DataW.trod_array Tryd.underlying85 hd1
  simp only [Prod.mk.injEq] at hx1
  have hl := hx1.1
  rw [door_tab] at hl
  simp only [DataW.agg.injEq] at hl
  intro i hi
  have h0 := hel i hi
  obtain ⟨x, hx⟩ : ∃ x, xs[i]? = some x := ⟨xs[i], by simp [hn, hi]⟩
  rw [hx] at h0
  obtain ⟨k, e1, e2, _⟩ := DataW.trod_int Tryd.underlying5 h0
  have hk := congrArg (fun l => l[i]?) hl
  simp only [List.getElem?_map, hx, Option.map_some, e2] at hk
  have ht : tzTab[i]? = some (tzTab.getD i 0) := by
    rw [List.getD_eq_getElem?_getD]
    have hlen : tzTab.length = 64 := by decide
    rw [List.getElem?_eq_getElem (by omega)]; rfl
  rw [ht] at hk
  simp only [Option.map_some, Option.some.injEq, DataW.lit.injEq, Lit.int.injEq, true_and] at hk
  rw [door_c8, Nat.mul_one] at e1
  have hc := World.var?_cell hg1 hv1 i
  rw [hc]
  have : cs1.toList[i]? = some (.int .u8 k) := by
    have := congrArg (fun l => l[0]?) e1
    simpa using this
  rw [← Array.getElem?_toList, this, hk]

end Go.Proofs.YtkidgakjeahebaaDoor.P
namespace Go.Proofs.YtkidgakjeahebaaDoor.canonFolds
open Go.ChangeShapes Go.WideShapes Go.ChangeAt Go.RowKit
open Go.ChangeMaps (open_string shut_string)
set_option linter.unusedVariables false
theorem own : ownKnob Tryd.prog.godebug = none := by kernel_rfl
set_option maxRecDepth 100000 in
theorem lifted (os : Os) (started : os.Started) (H : Type) (enc : TypeId × Value → H) :
    ReturnsInHanded {} Tryd.checked os 3 .any (fun w args => (Rows.canonFoldsSpec.pre enc Tryd.prog Tryd.f3 [] false w args ∧ laidMetH Tryd.prog P.doorLaid2 w) ∧ sizedMet enc Tryd.prog Tryd.f3 (OpenSpec.ofChange Rows.canonFoldsSpec) false w args) (Rows.canonFoldsSpec.post enc Tryd.prog Tryd.f3 false true false false) := by
  refine returnsInHanded_of_change_and (C := Tryd.checked) (X := fun w _ => laidMetH Tryd.prog P.doorLaid2 w) (fun _ _ _ hh h => h.of_heap hh) own started (by kernel_rfl) Tryd.func3
    (ChangeSpec.witness_shaped (enc := enc) (C := Tryd.checked) (os := os) (X := fun w _ => laidMetH Tryd.prog P.doorLaid2 w) false (World.doorLaid Tryd.prog 19 os) #[.int .i64 0, .int .i64 0, .int .i64 0] 8 rfl (World.shaped_of_RefB (by kernel_rfl) (by kernel_rfl)) (by kernel_rfl) (by kernel_rfl) (by kernel_rfl) (P.door_met os _)) ?_
  intro W base args ds gs before hval0 hW hcnd hsz0 hL _
  have hsz : (DataW.weightsEach Tryd.prog (Tryd.f3.params.toList ++ Rows.canonFoldsSpec.plain.varTypes Tryd.prog) (ds ++ gs)).all (· ≤ reachBytes) = true := hsz0
  have hval : ∀ (j : Nat) t v, Tryd.f3.params[j]? = some t → args[j]? = some v → Value.okWide Tryd.prog W .any base t v := hval0
  have hW' := hW
  obtain ⟨p, q, hA0, hV, rfl, hfz, hnd⟩ := hW
  have hA : DataW.TrodAll enc Tryd.prog W 0 (fun _ => true) true Tryd.f3.params.toList args.toList ds p := hA0
  rw [Tryd.params3] at hA hval hsz
  obtain ⟨v0, vs0, d0, ds0, p0, q0, hargs, rfl, rfl, h0, r0⟩ := trodAll_cons hA
  obtain ⟨v1, vs1, d1, ds1, p1, q1, rfl, rfl, rfl, h1, r1⟩ := trodAll_cons r0
  obtain ⟨v2, vs2, d2, ds2, p2, q2, rfl, rfl, rfl, h2, r2⟩ := trodAll_cons r1
  obtain ⟨rfl, rfl, rfl⟩ := trodAll_nil r2
  obtain rfl : args = #[v0, v1, v2] := by cases args; simp_all
  obtain ⟨rfl, rfl⟩ := trodVars_none hV
  obtain ⟨a0, rfl, rfl, rfl, w0⟩ := open_int Tryd.underlying3 (hval 0 3 v0 rfl rfl) h0
  obtain ⟨a1, rfl, rfl, rfl, w1⟩ := open_int Tryd.underlying3 (hval 1 3 v1 rfl rfl) h1
  obtain ⟨a2, rfl, rfl, rfl, w2⟩ := open_int Tryd.underlying3 (hval 2 3 v2 rfl rfl) h2
  clear hA0 hval0 hsz0 hsz
  refine (P.sackbutlaw02_CanonFolds.walk Pure.CanonFolds a0 a1 a2 W (P.tabs_of_laid hL) w0 w1 w2).mono fun e W' ⟨he, bel⟩ => ?_
  subst he
  exact ⟨_, rfl, _, _, _, [], _, [], hW', trodAll_mk1 (shut_bool Tryd.underlying4 _), (trodAll_cons_mk (shut_int Tryd.underlying3 w0) (trodAll_cons_mk (shut_int Tryd.underlying3 w1) (trodAll_cons_mk (shut_int Tryd.underlying3 w2) trodAll_mk0))), rfl, bel.frame _, fun h => by cases h⟩
theorem over : Rows.canonFoldsRow.holds Tryd.pinned (OpenSpec.ofChange Rows.canonFoldsSpec) :=
  OpenClaim.holds_of_wide 3 Tryd.f3 rfl rfl rfl rfl rfl rfl rfl ⟨rfl, rfl, rfl, rfl, rfl⟩ rfl rfl rfl rfl rfl (by kernel_rfl) Tryd.func3 (by kernel_rfl)
    (of_decide_eq_true (by kernel_rfl)) (by unfold Func.isWrapper; first | (rw [if_pos (by decide +kernel)]; kernel_rfl) | (rw [if_neg (by decide +kernel)]; exact ⟨rfl, rfl⟩))
    (fun os started H enc _ => lifted os started H enc)
theorem proved : Rows.CanonFoldsSaid := over
#print axioms proved
end Go.Proofs.YtkidgakjeahebaaDoor.canonFolds
namespace Go.Proofs.YtkidgakjeahebaaDoor
theorem canonFolds_row : Rows.CanonFoldsSaid := canonFolds.proved
/-- The tied card, for the claim. -/
theorem canonFolds_holds : Rows.CanonFoldsCardSaid :=
  Claim7.holds_tied_plain_at .later [] [.data, .data] true (true, "2f6bef5c5cfa684a08fccc7872b5524e7a2ff07ef34c06b0423e6453ed67e790") false
    canonFolds_row (fun _ h => by cases h) (by kernel_rfl) (fun _ h => by cases h) canonFolds_row_tie rfl ⟨rfl, rfl⟩ (by kernel_rfl) rfl
    (fun f fn hf hfn => by
      obtain rfl : f = 3 := Option.some.inj ((show Tryd.prog.funcNamed "sackbut/sackbutlaw02.CanonFolds" = some 3 by kernel_rfl).symm.trans hf) |>.symm
      obtain rfl : fn = Tryd.f3 := (Option.some.inj (Tryd.func3.symm.trans hfn)).symm
      exact ⟨by kernel_rfl, fun j t ht => by
        rw [Tryd.params3] at ht
        have hm : t ∈ [3, 3, 3] := by simpa using Array.mem_of_getElem? ht
        have hall : ([3, 3, 3].all fun u => !Tryd.prog.wantsStandIn u) = true := by kernel_rfl
        exact (show Tryd.prog.wantsStandIn t = false by simpa using List.all_eq_true.1 hall t hm)⟩)
    (by kernel_rfl)
end Go.Proofs.YtkidgakjeahebaaDoor
