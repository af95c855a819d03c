/- A part of a proof that a law's Go function returns true for every input, laid by this session's program mp.py (which drives the kit's print). Conditions: as each theorem states them. -/
import Derived.Laws.EntriesVeiled
import Derived.StillTailTactics
import Derived.Lib.SliceRun
import Derived.RangeFuncNested
import Derived.RangeFuncBound
import Derived.RangeFuncCalls
import Derived.RangeFuncLeaves
import Derived.Shelf.Abstract
import Derived.Shelf.RegionOpen
import Derived.Shelf.AbstractIn
import Derived.Sort.QuietIn
import Derived.OwnWalkIn
import Derived.TacticsInMore
import Derived.LoopNIn
import Derived.LoopIn
import Derived.Stop.RegionWithIn
import Derived.Maps.OwnIn
import Derived.Test.YtdnjbjcfbdclfaaCVoicesMiddle1
import Derived.Test.YtdnjbjcfbdclfaaCVoicesMiddle2
namespace Go.Proofs.Ytdnjbjcfbdclfaa.P
open Go.RowKit Go.Proofs.YtdnjbjcfbdclfaaW.PrintWords Go.Proofs.YtdnjbjcfbdclfaaW.PrintLast Go.Proofs.YtdnjbjcfbdclfaaW.PrintMore
attribute [local go_sem] max2_int min2_int max_two min_two max_three min_three max_four min_four   -- for this text's walks alone
set_option linter.unusedVariables false
set_option linter.unusedSimpArgs false

/-! ### voices_circle_valid: function 34 -/
mutual
def voices_circle_valid.j0 : Nat → Int → List (List Int) → Bool → Option (Bool)
  | 0, _, _, _ => none
  | k + 1, x0, x1, x12 => if x12 = true then (some false) else (voices_circle_valid.l0 k x0 x1 x1 (x1.length : Int) 0)
def voices_circle_valid.l0 : Nat → Int → List (List Int) → List (List Int) → Int → Int → Option (Bool)
  | 0, _, _, _, _, _ => none
  | k + 1, x0, x1, x13, x14, x15 => if x15 < x14 then (if 0 ≤ x15 then (if x15 < (x13.length : Int) then (if ((rd_L1 x13 x15).length : Int) < 1 then (some false) else (if ((rd_L1 x13 x15).length : Int) > 6 then (some false) else (if 0 < (x1.length : Int) then (if ((rd_L1 x13 x15).length : Int) = ((rd_L1 x1 0).length : Int) then ((slices_Min_int_int.f (rd_L1 x13 x15)).bind fun t1003 => (if t1003 < 0 then (some false) else ((slices_Max_int_int.f (rd_L1 x13 x15)).bind fun t1004 => (if t1004 ≥ x0 then (some false) else (voices_circle_valid.l0 k x0 x1 x13 x14 (wrap64 (x15 + 1))))))) else (some false)) else (none)))) else (none)) else (none)) else (some true)
end
def voices_circle_valid.f (k : Nat) (a0 : Int) (l1 : List (List Int)) : Option (Bool) := if a0 < 2 then (voices_circle_valid.j0 k a0 l1 true) else (voices_circle_valid.j0 k a0 l1 (decide (a0 > 16)))
theorem voices_circle_valid.mono_l : ∀ k, (∀ y0 y1 y2, LeO (voices_circle_valid.j0 k y0 y1 y2) (voices_circle_valid.j0 (k + 1) y0 y1 y2)) ∧ (∀ y0 y1 y2 y3 y4, LeO (voices_circle_valid.l0 k y0 y1 y2 y3 y4) (voices_circle_valid.l0 (k + 1) y0 y1 y2 y3 y4))
  | 0 => ⟨fun _ _ _ r h => by simp [voices_circle_valid.j0] at h, fun _ _ _ _ _ r h => by simp [voices_circle_valid.l0] at h⟩
  | k + 1 => by
    obtain ⟨ih0, ih1⟩ := voices_circle_valid.mono_l k
    refine ⟨?_, ?_⟩
    · intro y0 y1 y2
      unfold voices_circle_valid.j0
      repeat' first
      | (with_reducible exact ih0 _ _ _)
      | (with_reducible exact ih1 _ _ _ _ _)
      | (with_reducible exact LeO.refl _)
      | (with_reducible exact LeO.none _)
      | (with_reducible refine LeO.ite ?_ ?_)
      | (with_reducible refine LeO.bind ?_ (fun _ => ?_))
      | exact ih0 _ _ _
      | exact ih1 _ _ _ _ _
      | exact LeO.none _
      | refine LeO.ite ?_ ?_
      | refine LeO.bind ?_ (fun _ => ?_)
    · intro y0 y1 y2 y3 y4
      unfold voices_circle_valid.l0
      repeat' first
      | (with_reducible exact ih0 _ _ _)
      | (with_reducible exact ih1 _ _ _ _ _)
      | (with_reducible exact LeO.refl _)
      | (with_reducible exact LeO.none _)
      | (with_reducible refine LeO.ite ?_ ?_)
      | (with_reducible refine LeO.bind ?_ (fun _ => ?_))
      | exact ih0 _ _ _
      | exact ih1 _ _ _ _ _
      | exact LeO.none _
      | refine LeO.ite ?_ ?_
      | refine LeO.bind ?_ (fun _ => ?_)
theorem voices_circle_valid.mono : ∀ a0 a1 k, LeO (voices_circle_valid.f k a0 a1) (voices_circle_valid.f (k + 1) a0 a1) := by
  intro a0 a1 k
  obtain ⟨ih0, ih1⟩ := voices_circle_valid.mono_l k
  unfold voices_circle_valid.f
  repeat' first
      | (with_reducible exact ih0 _ _ _)
      | (with_reducible exact ih1 _ _ _ _ _)
      | (with_reducible exact LeO.refl _)
      | (with_reducible exact LeO.none _)
      | (with_reducible refine LeO.ite ?_ ?_)
      | (with_reducible refine LeO.bind ?_ (fun _ => ?_))
      | exact ih0 _ _ _
      | exact ih1 _ _ _ _ _
      | exact LeO.none _
      | refine LeO.ite ?_ ?_
      | refine LeO.bind ?_ (fun _ => ?_)
set_option maxHeartbeats 8000000 in
set_option maxRecDepth 100000 in
theorem voices_circle_valid.calls (k : Nat) (a0 : Int) (A1 : Option Addr) (c1 : Nat) (l1 : List (List Int)) (r : Bool) (w : World) (hr1 : Kd.C (Kd.slice 3 (Kd.int .i64)) w A1 l1.length l1) (hc1 : l1.length ≤ c1) (h : voices_circle_valid.f k a0 l1 = some r) :
    Calls Try.prog 34 #[.int .i64 a0, .slice A1 l1.length c1] w fun e w' => e = .returned (.bool r) ∧ Drawn0 w w' := by
  have HR1 := Aside0.mk hr1
  have HC1 := Aside0.mk hc1
  clear hr1 hc1
  have H : (if a0 < 2 then (voices_circle_valid.j0 k a0 l1 true) else (voices_circle_valid.j0 k a0 l1 (decide (a0 > 16)))) = some r := h
  clear h
  have HC3 := Aside0.mk H
  clear H
  go_enter Try.func34, Try.ntmps34
  go_upto_region 1 with (fail)
  go_cut [12] (fun v12 wc => ∃ (kq : Nat) (x12_2 : Bool), v12 = .bool x12_2 ∧ Aside0 (voices_circle_valid.j0 kq a0 l1 x12_2 = some r) ∧ Aside0 (kq ≤ k) ∧ Drawn0 w wc)
  case first =>
    have H := HC3.out
    clear HC3
    by_cases c4 : a0 < 2
    · rw [if_pos c4] at H
      have c4b0 : decide (a0 < 2) = true := decide_eq_true c4
      clear c4
      (first | rw [c4b0] | (simp only [i64_w, i32_w]; rw [c4b0]) | skip)
      have H' := Aside0.mk H
      clear H
      go_wp2
      go_meet
      case rel => exact ⟨_, (true), (by first | rfl | (simp; done) | (simp [*]; done)), H', ⟨by first | omega | exact Nat.le_refl _⟩, by repeat (first | exact Drawn0.refl _ | apply Drawn0.step)⟩
    · rw [if_neg c4] at H
      have c4b0 : decide (a0 < 2) = false := decide_eq_false c4
      clear c4
      (first | rw [c4b0] | (simp only [i64_w, i32_w]; rw [c4b0]) | skip)
      have H' := Aside0.mk H
      clear H
      go_wp2
      go_meet
      case rel => exact ⟨_, (decide (a0 > 16)), (by first | rfl | (simp; done) | (simp [*]; done)), H', ⟨by first | omega | exact Nat.le_refl _⟩, by repeat (first | exact Drawn0.refl _ | apply Drawn0.step)⟩
  case rest =>
    clear HC3
    try clear c1
    try clear p2
    try clear c3
    try clear c4
    try clear c4b0
    obtain ⟨kq, x12_2, rfl, HA, HJ2, ⟨mc2, rfl⟩⟩ := hcut
    cases kq with
    | zero => exact absurd HA.out (by simp [voices_circle_valid.j0])
    | succ kj2 =>
      have H := HA.out
      clear HA
      simp only [voices_circle_valid.j0] at H
      by_cases c5 : x12_2 = true
      · subst c5
        have H1 : (some false) = some r := by rw [if_pos rfl] at H; exact H
        clear H
        have H := H1
        clear H1
        obtain rfl := Option.some.inj H
        go_wp2
        go_ret
        exact ⟨by first | rfl | (simp; done) | (simp [*]; done), by repeat (first | exact Drawn0.refl _ | apply Drawn0.step)⟩
      · replace c5 := Bool.eq_false_iff.mpr c5
        subst c5
        have H1 : (voices_circle_valid.l0 kj2 a0 l1 l1 (l1.length : Int) 0) = some r := by rw [if_neg (show ¬ (false = true) by decide)] at H; exact H
        clear H
        have H := H1
        clear H1
        have H' := Aside0.mk H
        clear H
        go_wp2
        go_loopg [15] kj2 (fun kq v15 w' => ∃ (x15_2 : Int), v15 = .int .i64 x15_2 ∧ Aside0 (voices_circle_valid.l0 kq a0 l1 l1 (l1.length : Int) x15_2 = some r) ∧ Aside0 (kq ≤ kj2) ∧ Drawn0 w w')
        case atStart => exact ⟨(0), (by first | rfl | (simp; done) | (simp [*]; done)), H', ⟨Nat.le_refl _⟩, by repeat (first | exact Drawn0.refl _ | apply Drawn0.step)⟩
        case round =>
          clear H'
          try clear c1
          try clear c2
          try clear p2
          try clear c3
          try clear c4
          try clear c4b0
          try clear c5
          try clear p2
          obtain ⟨x15_2, rfl, HA, HK2, ⟨m2, rfl⟩⟩ := hrel
          cases gk with
          | zero => exact absurd HA.out (by simp [voices_circle_valid.l0])
          | succ k2 =>
            have H := HA.out
            clear HA
            simp only [voices_circle_valid.l0] at H
            by_cases c6 : x15_2 < (l1.length : Int)
            · rw [if_pos c6] at H
              have c6b0 : decide (x15_2 < (l1.length : Int)) = true := decide_eq_true c6
              clear c6
              by_cases c7 : 0 ≤ x15_2
              · rw [if_pos c7] at H
                have c7b0 : decide (0 ≤ x15_2) = true := decide_eq_true c7
                clear c7
                by_cases c8 : x15_2 < (l1.length : Int)
                · rw [if_pos c8] at H
                  have c8b0 : decide (x15_2 < (l1.length : Int)) = true := decide_eq_true c8
                  clear c8
                  by_cases c9 : ((rd_L1 l1 x15_2).length : Int) < 1
                  · rw [if_pos c9] at H
                    have c9b0 : decide (((rd_L1 l1 x15_2).length : Int) < 1) = true := decide_eq_true c9
                    have c9b1 : decide ((rd_L1 l1 x15_2).length < 1) = true := decide_eq_true (by omega)
                    clear c9
                    obtain rfl := Option.some.inj H
                    have p1001 : 0 ≤ (x15_2 : Int) := of_decide_eq_true (by first | (with_reducible assumption) | assumption)
                    have q1001 : x15_2 < (l1.length : Int) := of_decide_eq_true (by first | (with_reducible assumption) | assumption)
                    obtain ⟨ad1001, A1001_0, c1001_0, e1001, hx1001_0, hl1001_0, hi1001_0⟩ := at_L1 HR1.out x15_2 p1001 q1001
                    cases e1001
                    have HR1001_0 := Aside0.mk hi1001_0
                    have HC1001_0 := Aside0.mk hl1001_0
                    clear hi1001_0 hl1001_0
                    replace p1001 := eq_true p1001
                    replace q1001 := eq_true q1001
                    go_wp2
                    go_ret
                    exact ⟨by first | rfl | (simp; done) | (simp [*]; done), by repeat (first | exact Drawn0.refl _ | apply Drawn0.step)⟩
                  · rw [if_neg c9] at H
                    have c9b0 : decide (((rd_L1 l1 x15_2).length : Int) < 1) = false := decide_eq_false c9
                    have c9b1 : decide ((rd_L1 l1 x15_2).length < 1) = false := decide_eq_false (by omega)
                    clear c9
                    by_cases c10 : ((rd_L1 l1 x15_2).length : Int) > 6
                    · rw [if_pos c10] at H
                      have c10b0 : decide (6 < ((rd_L1 l1 x15_2).length : Int)) = true := decide_eq_true c10
                      have c10b1 : decide (6 < (rd_L1 l1 x15_2).length) = true := decide_eq_true (by omega)
                      clear c10
                      obtain rfl := Option.some.inj H
                      have p1001 : 0 ≤ (x15_2 : Int) := of_decide_eq_true (by first | (with_reducible assumption) | assumption)
                      have q1001 : x15_2 < (l1.length : Int) := of_decide_eq_true (by first | (with_reducible assumption) | assumption)
                      obtain ⟨ad1001, A1001_0, c1001_0, e1001, hx1001_0, hl1001_0, hi1001_0⟩ := at_L1 HR1.out x15_2 p1001 q1001
                      cases e1001
                      have HR1001_0 := Aside0.mk hi1001_0
                      have HC1001_0 := Aside0.mk hl1001_0
                      clear hi1001_0 hl1001_0
                      replace p1001 := eq_true p1001
                      replace q1001 := eq_true q1001
                      go_wp2
                      go_ret
                      exact ⟨by first | rfl | (simp; done) | (simp [*]; done), by repeat (first | exact Drawn0.refl _ | apply Drawn0.step)⟩
                    · rw [if_neg c10] at H
                      have c10b0 : decide (6 < ((rd_L1 l1 x15_2).length : Int)) = false := decide_eq_false c10
                      have c10b1 : decide (6 < (rd_L1 l1 x15_2).length) = false := decide_eq_false (by omega)
                      clear c10
                      by_cases c11 : 0 < (l1.length : Int)
                      · rw [if_pos c11] at H
                        have c11b0 : decide (0 < (l1.length : Int)) = true := decide_eq_true c11
                        have c11b1 : decide (0 < l1.length) = true := decide_eq_true (by omega)
                        clear c11
                        by_cases c12 : ((rd_L1 l1 x15_2).length : Int) = ((rd_L1 l1 0).length : Int)
                        · rw [if_pos c12] at H
                          have c12b0 : (((rd_L1 l1 x15_2).length : Int) == ((rd_L1 l1 0).length : Int)) = true := beq_iff_eq.mpr c12
                          have c12b1 : (((rd_L1 l1 x15_2).length : Int) != ((rd_L1 l1 0).length : Int)) = false := bne_eq_false_iff_eq.mpr c12
                          have c12b2 : ((rd_L1 l1 x15_2).length == (rd_L1 l1 0).length) = true := by first | simpa using c12 | (simp at c12 ⊢; omega)
                          clear c12
                          replace H := Option.bind_eq_some_iff.mp H
                          obtain ⟨t1003, A130, H⟩ := H
                          replace H : (if t1003 < 0 then (some false) else ((slices_Max_int_int.f (rd_L1 l1 x15_2)).bind fun t1004 => (if t1004 ≥ a0 then (some false) else (voices_circle_valid.l0 k2 a0 l1 l1 (l1.length : Int) (wrap64 (x15_2 + 1)))))) = some r := H
                          have A13 := Aside0.mk A130
                          clear A130
                          by_cases c14 : t1003 < 0
                          · rw [if_pos c14] at H
                            have c14b0 : decide (t1003 < 0) = true := decide_eq_true c14
                            clear c14
                            obtain rfl := Option.some.inj H
                            have p1001 : 0 ≤ (x15_2 : Int) := of_decide_eq_true (by first | (with_reducible assumption) | assumption)
                            have q1001 : x15_2 < (l1.length : Int) := of_decide_eq_true (by first | (with_reducible assumption) | assumption)
                            obtain ⟨ad1001, A1001_0, c1001_0, e1001, hx1001_0, hl1001_0, hi1001_0⟩ := at_L1 HR1.out x15_2 p1001 q1001
                            cases e1001
                            have HR1001_0 := Aside0.mk hi1001_0
                            have HC1001_0 := Aside0.mk hl1001_0
                            clear hi1001_0 hl1001_0
                            replace p1001 := eq_true p1001
                            replace q1001 := eq_true q1001
                            have p1002 : 0 ≤ (0 : Int) := (by omega)
                            have q1002 : 0 < (l1.length : Int) := of_decide_eq_true (by first | (with_reducible assumption) | assumption)
                            obtain ⟨ad1002, A1002_0, c1002_0, e1002, hx1002_0, hl1002_0, hi1002_0⟩ := at_L1 HR1.out 0 p1002 q1002
                            obtain rfl : ad1001 = ad1002 := (by injection e1002)
                            have qi1002 : (0 < l1.length) = True := eq_true (by omega)
                            (try rw [show ((0 : Int)).toNat = 0 from rfl] at hx1002_0)
                            (try rw [Addr.add_zero'] at hx1002_0)
                            have HR1002_0 := Aside0.mk hi1002_0
                            have HC1002_0 := Aside0.mk hl1002_0
                            clear hi1002_0 hl1002_0
                            replace p1002 := eq_true p1002
                            replace q1002 := eq_true q1002
                            go_wp2_with (first | (go_at_call 50; (with_reducible refine (slices_Min_int_int.calls _ _ (rd_L1 l1 x15_2) t1003 _ ?side1 ?side2 A13.out).mono ?_); (case side1 => repeat (first | exact HR1001_0.out | (with_reducible refine Kd.C_alloc ?_ _) | (with_reducible refine Kd.C_drewN ?_ _) | (with_reducible refine Kd.C_drew ?_))); (case side2 => exact HC1001_0.out); rintro e w' ⟨rfl, ⟨nd, rfl⟩⟩))
                            go_ret
                            exact ⟨by first | rfl | (simp; done) | (simp [*]; done), by repeat (first | exact Drawn0.refl _ | apply Drawn0.step)⟩
                          · rw [if_neg c14] at H
                            have c14b0 : decide (t1003 < 0) = false := decide_eq_false c14
                            clear c14
                            replace H := Option.bind_eq_some_iff.mp H
                            obtain ⟨t1004, A150, H⟩ := H
                            replace H : (if t1004 ≥ a0 then (some false) else (voices_circle_valid.l0 k2 a0 l1 l1 (l1.length : Int) (wrap64 (x15_2 + 1)))) = some r := H
                            have A15 := Aside0.mk A150
                            clear A150
                            by_cases c16 : t1004 ≥ a0
                            · rw [if_pos c16] at H
                              have c16b0 : decide (a0 ≤ t1004) = true := decide_eq_true c16
                              clear c16
                              obtain rfl := Option.some.inj H
                              have p1001 : 0 ≤ (x15_2 : Int) := of_decide_eq_true (by first | (with_reducible assumption) | assumption)
                              have q1001 : x15_2 < (l1.length : Int) := of_decide_eq_true (by first | (with_reducible assumption) | assumption)
                              obtain ⟨ad1001, A1001_0, c1001_0, e1001, hx1001_0, hl1001_0, hi1001_0⟩ := at_L1 HR1.out x15_2 p1001 q1001
                              cases e1001
                              have HR1001_0 := Aside0.mk hi1001_0
                              have HC1001_0 := Aside0.mk hl1001_0
                              clear hi1001_0 hl1001_0
                              replace p1001 := eq_true p1001
                              replace q1001 := eq_true q1001
                              have p1002 : 0 ≤ (0 : Int) := (by omega)
                              have q1002 : 0 < (l1.length : Int) := of_decide_eq_true (by first | (with_reducible assumption) | assumption)
                              obtain ⟨ad1002, A1002_0, c1002_0, e1002, hx1002_0, hl1002_0, hi1002_0⟩ := at_L1 HR1.out 0 p1002 q1002
                              obtain rfl : ad1001 = ad1002 := (by injection e1002)
                              have qi1002 : (0 < l1.length) = True := eq_true (by omega)
                              (try rw [show ((0 : Int)).toNat = 0 from rfl] at hx1002_0)
                              (try rw [Addr.add_zero'] at hx1002_0)
                              have HR1002_0 := Aside0.mk hi1002_0
                              have HC1002_0 := Aside0.mk hl1002_0
                              clear hi1002_0 hl1002_0
                              replace p1002 := eq_true p1002
                              replace q1002 := eq_true q1002
                              go_wp2_with (first | (go_at_call 50; (with_reducible refine (slices_Min_int_int.calls _ _ (rd_L1 l1 x15_2) t1003 _ ?side1 ?side2 A13.out).mono ?_); (case side1 => repeat (first | exact HR1001_0.out | (with_reducible refine Kd.C_alloc ?_ _) | (with_reducible refine Kd.C_drewN ?_ _) | (with_reducible refine Kd.C_drew ?_))); (case side2 => exact HC1001_0.out); rintro e w' ⟨rfl, ⟨nd, rfl⟩⟩) | (go_at_call 51; (with_reducible refine (slices_Max_int_int.calls _ _ (rd_L1 l1 x15_2) t1004 _ ?side1 ?side2 A15.out).mono ?_); (case side1 => repeat (first | exact HR1001_0.out | (with_reducible refine Kd.C_alloc ?_ _) | (with_reducible refine Kd.C_drewN ?_ _) | (with_reducible refine Kd.C_drew ?_))); (case side2 => exact HC1001_0.out); rintro e w' ⟨rfl, ⟨nd, rfl⟩⟩))
                              go_ret
                              exact ⟨by first | rfl | (simp; done) | (simp [*]; done), by repeat (first | exact Drawn0.refl _ | apply Drawn0.step)⟩
                            · rw [if_neg c16] at H
                              have c16b0 : decide (a0 ≤ t1004) = false := decide_eq_false c16
                              clear c16
                              have H' := Aside0.mk H
                              clear H
                              have p1001 : 0 ≤ (x15_2 : Int) := of_decide_eq_true (by first | (with_reducible assumption) | assumption)
                              have q1001 : x15_2 < (l1.length : Int) := of_decide_eq_true (by first | (with_reducible assumption) | assumption)
                              obtain ⟨ad1001, A1001_0, c1001_0, e1001, hx1001_0, hl1001_0, hi1001_0⟩ := at_L1 HR1.out x15_2 p1001 q1001
                              cases e1001
                              have HR1001_0 := Aside0.mk hi1001_0
                              have HC1001_0 := Aside0.mk hl1001_0
                              clear hi1001_0 hl1001_0
                              replace p1001 := eq_true p1001
                              replace q1001 := eq_true q1001
                              have p1002 : 0 ≤ (0 : Int) := (by omega)
                              have q1002 : 0 < (l1.length : Int) := of_decide_eq_true (by first | (with_reducible assumption) | assumption)
                              obtain ⟨ad1002, A1002_0, c1002_0, e1002, hx1002_0, hl1002_0, hi1002_0⟩ := at_L1 HR1.out 0 p1002 q1002
                              obtain rfl : ad1001 = ad1002 := (by injection e1002)
                              have qi1002 : (0 < l1.length) = True := eq_true (by omega)
                              (try rw [show ((0 : Int)).toNat = 0 from rfl] at hx1002_0)
                              (try rw [Addr.add_zero'] at hx1002_0)
                              have HR1002_0 := Aside0.mk hi1002_0
                              have HC1002_0 := Aside0.mk hl1002_0
                              clear hi1002_0 hl1002_0
                              replace p1002 := eq_true p1002
                              replace q1002 := eq_true q1002
                              go_wp2_with (first | (go_at_call 50; (with_reducible refine (slices_Min_int_int.calls _ _ (rd_L1 l1 x15_2) t1003 _ ?side1 ?side2 A13.out).mono ?_); (case side1 => repeat (first | exact HR1001_0.out | (with_reducible refine Kd.C_alloc ?_ _) | (with_reducible refine Kd.C_drewN ?_ _) | (with_reducible refine Kd.C_drew ?_))); (case side2 => exact HC1001_0.out); rintro e w' ⟨rfl, ⟨nd, rfl⟩⟩) | (go_at_call 51; (with_reducible refine (slices_Max_int_int.calls _ _ (rd_L1 l1 x15_2) t1004 _ ?side1 ?side2 A15.out).mono ?_); (case side1 => repeat (first | exact HR1001_0.out | (with_reducible refine Kd.C_alloc ?_ _) | (with_reducible refine Kd.C_drewN ?_ _) | (with_reducible refine Kd.C_drew ?_))); (case side2 => exact HC1001_0.out); rintro e w' ⟨rfl, ⟨nd, rfl⟩⟩))
                              go_roundg k2
                              case measure => have := HJ2.out; have := HK2.out; omega
                              case rel => exact ⟨(wrap64 (x15_2 + 1)), (by first | rfl | (simp; done) | (simp [*]; done)), H', ⟨by have := HJ2.out; have := HK2.out; omega⟩, by repeat (first | exact Drawn0.refl _ | apply Drawn0.step)⟩
                        · rw [if_neg c12] at H
                          have c12b0 : (((rd_L1 l1 x15_2).length : Int) == ((rd_L1 l1 0).length : Int)) = false := beq_eq_false_iff_ne.mpr c12
                          have c12b1 : (((rd_L1 l1 x15_2).length : Int) != ((rd_L1 l1 0).length : Int)) = true := bne_iff_ne.mpr c12
                          have c12b2 : ((rd_L1 l1 x15_2).length == (rd_L1 l1 0).length) = false := by first | simpa using c12 | (simp at c12 ⊢; omega)
                          obtain rfl := Option.some.inj H
                          have p1001 : 0 ≤ (x15_2 : Int) := of_decide_eq_true (by first | (with_reducible assumption) | assumption)
                          have q1001 : x15_2 < (l1.length : Int) := of_decide_eq_true (by first | (with_reducible assumption) | assumption)
                          obtain ⟨ad1001, A1001_0, c1001_0, e1001, hx1001_0, hl1001_0, hi1001_0⟩ := at_L1 HR1.out x15_2 p1001 q1001
                          cases e1001
                          have HR1001_0 := Aside0.mk hi1001_0
                          have HC1001_0 := Aside0.mk hl1001_0
                          clear hi1001_0 hl1001_0
                          replace p1001 := eq_true p1001
                          replace q1001 := eq_true q1001
                          have p1002 : 0 ≤ (0 : Int) := (by omega)
                          have q1002 : 0 < (l1.length : Int) := of_decide_eq_true (by first | (with_reducible assumption) | assumption)
                          obtain ⟨ad1002, A1002_0, c1002_0, e1002, hx1002_0, hl1002_0, hi1002_0⟩ := at_L1 HR1.out 0 p1002 q1002
                          obtain rfl : ad1001 = ad1002 := (by injection e1002)
                          have qi1002 : (0 < l1.length) = True := eq_true (by omega)
                          (try rw [show ((0 : Int)).toNat = 0 from rfl] at hx1002_0)
                          (try rw [Addr.add_zero'] at hx1002_0)
                          have HR1002_0 := Aside0.mk hi1002_0
                          have HC1002_0 := Aside0.mk hl1002_0
                          clear hi1002_0 hl1002_0
                          replace p1002 := eq_true p1002
                          replace q1002 := eq_true q1002
                          go_wp2
                          go_ret
                          exact ⟨by first | rfl | (simp; done) | (simp [*]; done), by repeat (first | exact Drawn0.refl _ | apply Drawn0.step)⟩
                      · rw [if_neg c11] at H
                        exact absurd H (by simp)
                · rw [if_neg c8] at H
                  exact absurd H (by simp)
              · rw [if_neg c7] at H
                exact absurd H (by simp)
            · rw [if_neg c6] at H
              have c6b0 : decide (x15_2 < (l1.length : Int)) = false := decide_eq_false c6
              clear c6
              obtain rfl := Option.some.inj H
              go_wp2
              go_ret
              exact ⟨by first | rfl | (simp; done) | (simp [*]; done), by repeat (first | exact Drawn0.refl _ | apply Drawn0.step)⟩

end Go.Proofs.Ytdnjbjcfbdclfaa.P
namespace Go.Proofs.Ytdnjbjcfbdclfaa.P
open Go.RowKit Go.Proofs.YtdnjbjcfbdclfaaW.PrintWords Go.Proofs.YtdnjbjcfbdclfaaW.PrintLast Go.Proofs.YtdnjbjcfbdclfaaW.PrintMore
attribute [local go_sem] max2_int min2_int max_two min_two max_three min_three max_four min_four   -- for this text's walks alone
set_option linter.unusedVariables false
set_option linter.unusedSimpArgs false

/-! voicings on a circle: what the first functions of voices come to -/
def VoiN (n : Int) (a : List Int) : Prop := 2 ≤ n ∧ n ≤ 16 ∧ 1 ≤ a.length ∧ a.length ≤ 6 ∧ ∀ x ∈ a, 0 ≤ x ∧ x < n
instance (n : Int) (a : List Int) : Decidable (VoiN n a) := by unfold VoiN; infer_instance
def TwoN (n : Int) (a b : List Int) : Prop := VoiN n a ∧ VoiN n b ∧ a.length = b.length
instance (n : Int) (a b : List Int) : Decidable (TwoN n a b) := by unfold TwoN; infer_instance
def ValL (n : Int) (L : List (List Int)) : Prop := 2 ≤ n ∧ n ≤ 16 ∧ ∀ v ∈ L, VoiN n v ∧ v.length = (L.getD 0 []).length
theorem foldl_min_int : ∀ (l : List Int) (m : Int), l.foldl min m ∈ m :: l ∧ ∀ b ∈ m :: l, l.foldl min m ≤ b
  | [], m => ⟨by simp, by simp⟩
  | c :: l, m => by
    obtain ⟨h1, h2⟩ := foldl_min_int l (min m c)
    rw [List.foldl_cons]
    refine ⟨?_, fun b hb => ?_⟩
    · rcases List.mem_cons.1 h1 with h | h
      · rw [h]; rcases Int.le_total m c with h3 | h3
        · rw [Int.min_eq_left h3]; simp
        · rw [Int.min_eq_right h3]; simp
      · simp [h]
    · have h3 := h2 (min m c) (by simp)
      rw [List.mem_cons, List.mem_cons] at hb
      rcases hb with rfl | rfl | hb
      · omega
      · omega
      · exact h2 b (by simp [hb])
theorem foldl_max_int : ∀ (l : List Int) (m : Int), l.foldl max m ∈ m :: l ∧ ∀ b ∈ m :: l, b ≤ l.foldl max m
  | [], m => ⟨by simp, by simp⟩
  | c :: l, m => by
    obtain ⟨h1, h2⟩ := foldl_max_int l (max m c)
    rw [List.foldl_cons]
    refine ⟨?_, fun b hb => ?_⟩
    · rcases List.mem_cons.1 h1 with h | h
      · rw [h]; rcases Int.le_total m c with h3 | h3
        · rw [Int.max_eq_right h3]; simp
        · rw [Int.max_eq_left h3]; simp
      · simp [h]
    · have h3 := h2 (max m c) (by simp)
      rw [List.mem_cons, List.mem_cons] at hb
      rcases hb with rfl | rfl | hb
      · omega
      · omega
      · exact h2 b (by simp [hb])
theorem minL_spec {l : List Int} (h : 1 ≤ l.length) : minL l ∈ l ∧ ∀ b ∈ l, minL l ≤ b := by
  cases l with
  | nil => simp at h
  | cons x l => exact foldl_min_int l x
theorem maxL_spec {l : List Int} (h : 1 ≤ l.length) : maxL l ∈ l ∧ ∀ b ∈ l, b ≤ maxL l := by
  cases l with
  | nil => simp at h
  | cons x l => exact foldl_max_int l x
theorem rdL_mid {pre rest : List (List Int)} {v : List Int} : rd_L1 (pre ++ v :: rest) (pre.length : Int) = v := by unfold rd_L1; simp
theorem rdL_zero (L : List (List Int)) : rd_L1 L 0 = L.getD 0 [] := rfl
theorem validV_loop (n : Int) (hn : 2 ≤ n ∧ n ≤ 16) (L : List (List Int)) (hL : L.length < 1000) : ∀ (rest pre : List (List Int)), L = pre ++ rest →
    Ev (fun k => voices_circle_valid.l0 k n L L (L.length : Int) (pre.length : Int)) (decide (∀ v ∈ rest, VoiN n v ∧ v.length = (L.getD 0 []).length)) := by
  intro rest
  induction rest with
  | nil =>
    intro pre hp
    have p1 : ¬ (pre.length : Int) < (L.length : Int) := by rw [hp]; simp
    refine Ev.succ ?_
    simp only [voices_circle_valid.l0, if_neg p1]
    exact Ev.some _
  | cons v rest ih =>
    intro pre hp
    have hlen : L.length = pre.length + (rest.length + 1) := by rw [hp]; simp
    have p1 : (pre.length : Int) < (L.length : Int) := by omega
    have p0 : (0 : Int) ≤ (pre.length : Int) := by omega
    have pL : (0 : Int) < (L.length : Int) := by omega
    have hv : rd_L1 L (pre.length : Int) = v := by rw [hp]; exact rdL_mid
    have go := ih (pre ++ [v]) (by rw [hp]; simp)
    have hw : wrap64 ((pre.length : Int) + 1) = ((pre ++ [v]).length : Int) := by rw [wrap_id (by omega) (by omega)]; simp
    generalize hz : (L.getD 0 []).length = z at *
    have hno : ¬ (VoiN n v ∧ v.length = z) → decide (∀ u ∈ v :: rest, VoiN n u ∧ u.length = z) = false := fun h => decide_eq_false (fun h2 => h (h2 v (by simp)))
    have hyes : (VoiN n v ∧ v.length = z) → decide (∀ u ∈ v :: rest, VoiN n u ∧ u.length = z) = decide (∀ u ∈ rest, VoiN n u ∧ u.length = z) := fun h => by
      rw [decide_eq_decide]
      exact ⟨fun h2 u hu => h2 u (by simp [hu]), fun h2 u hu => by
        rcases List.mem_cons.1 hu with rfl | hu
        · exact h
        · exact h2 u hu⟩
    refine Ev.succ ?_
    simp only [voices_circle_valid.l0, if_pos p1, if_pos p0, hv, if_pos pL, rdL_zero, hz, hw]
    refine Ev.ite (fun e => ?_) (fun e1 => ?_)
    · rw [hno (fun h => by have := h.1.2.2.1; omega)]; exact Ev.some _
    refine Ev.ite (fun e => ?_) (fun e2 => ?_)
    · rw [hno (fun h => by have := h.1.2.2.2.1; omega)]; exact Ev.some _
    refine Ev.ite (fun e3 => ?_) (fun e3 => ?_)
    · have hv1 : 1 ≤ v.length := by omega
      have f1 : slices_Min_int_int.f v = some (minL v) := by unfold slices_Min_int_int.f; rw [if_neg (by omega)]
      have f2 : slices_Max_int_int.f v = some (maxL v) := by unfold slices_Max_int_int.f; rw [if_neg (by omega)]
      obtain ⟨m1, m2⟩ := minL_spec hv1
      obtain ⟨m3, m4⟩ := maxL_spec hv1
      refine Ev.bind_some f1 ?_
      refine Ev.ite (fun e4 => ?_) (fun e4 => ?_)
      · rw [hno (fun h => by have := (h.1.2.2.2.2 _ m1).1; omega)]; exact Ev.some _
      refine Ev.bind_some f2 ?_
      refine Ev.ite (fun e5 => ?_) (fun e5 => ?_)
      · rw [hno (fun h => by have := (h.1.2.2.2.2 _ m3).2; omega)]; exact Ev.some _
      rw [hyes ⟨⟨hn.1, hn.2, hv1, by omega, fun x hx => ⟨by have := m2 x hx; omega, by have := m4 x hx; omega⟩⟩, by omega⟩]
      exact go
    · rw [hno (fun h => e3 (by rw [h.2]))]; exact Ev.some _
theorem validV_ev (n : Int) (L : List (List Int)) (hL : L.length < 1000) : Ev (fun k => voices_circle_valid.f k n L) (decide (2 ≤ n ∧ n ≤ 16 ∧ ∀ v ∈ L, VoiN n v ∧ v.length = (L.getD 0 []).length)) := by
  unfold voices_circle_valid.f
  refine Ev.ite (fun e => ?_) (fun e => ?_)
  · refine Ev.succ ?_
    simp only [voices_circle_valid.j0, if_true]
    rw [decide_eq_false (fun h => by omega)]
    exact Ev.some _
  · refine Ev.succ ?_
    by_cases h : n > 16
    · simp only [voices_circle_valid.j0, decide_eq_true h, if_true]
      rw [decide_eq_false (fun h => by omega)]
      exact Ev.some _
    · simp only [voices_circle_valid.j0, decide_eq_false h, Bool.false_eq_true, if_false]
      have := validV_loop n ⟨by omega, by omega⟩ L hL L [] rfl
      have e2 : decide (2 ≤ n ∧ n ≤ 16 ∧ ∀ v ∈ L, VoiN n v ∧ v.length = (L.getD 0 []).length) = decide (∀ v ∈ L, VoiN n v ∧ v.length = (L.getD 0 []).length) := by
        rw [decide_eq_decide]; exact ⟨fun h => h.2.2, fun h2 => ⟨by omega, by omega, h2⟩⟩
      rw [e2]
      exact this
theorem valid2_ev (n : Int) (a b : List Int) : Ev (fun k => voices_circle_valid.f k n [a, b]) (decide (TwoN n a b)) := by
  have h := validV_ev n [a, b] (by simp)
  have e : decide (2 ≤ n ∧ n ≤ 16 ∧ ∀ v ∈ [a, b], VoiN n v ∧ v.length = ([a, b].getD 0 []).length) = decide (TwoN n a b) := by
    rw [decide_eq_decide]
    unfold TwoN
    constructor
    · rintro ⟨_, _, h⟩
      exact ⟨(h a (by simp)).1, (h b (by simp)).1, ((h b (by simp)).2).symm⟩
    · rintro ⟨h1, h2, h3⟩
      refine ⟨h1.1, h1.2.1, fun v hv => ?_⟩
      rcases List.mem_cons.1 hv with rfl | hv
      · exact ⟨h1, rfl⟩
      · rw [List.mem_singleton] at hv; subst hv; exact ⟨h2, h3.symm⟩
  rw [e] at h
  exact h
/-! movements, distances, prices -/
def mvN (n x y : Int) : Int := if 2 * ((y - x) % n) > n then (y - x) % n - n else (y - x) % n
def dsN (n x y : Int) : Int := max (mvN n x y) (-(mvN n x y))
theorem mod_f {n x : Int} (hn : 2 ≤ n) (hn2 : n ≤ 16) : voices_circle_mod.f n x = some (x % n) := by
  unfold voices_circle_mod.f
  rw [if_neg (by omega), tmod_mod (by omega) (by omega)]
theorem mvN_bd {n x y : Int} (hn : 2 ≤ n) : -n ≤ 2 * mvN n x y ∧ 2 * mvN n x y ≤ n := by
  have h1 := Int.emod_nonneg (y - x) (show n ≠ 0 by omega)
  have h2 := Int.emod_lt_of_pos (y - x) (show 0 < n by omega)
  unfold mvN
  split <;> omega
theorem dsN_bd {n x y : Int} (hn : 2 ≤ n) : 0 ≤ dsN n x y ∧ 2 * dsN n x y ≤ n := by
  have := mvN_bd (x := x) (y := y) hn
  unfold dsN; omega
theorem movement_f {n x y : Int} (hn : 2 ≤ n) (hn2 : n ≤ 16) (hx : 0 ≤ x ∧ x < n) (hy : 0 ≤ y ∧ y < n) : voices_circle_movement.f n x y = some (mvN n x y) := by
  have h1 := Int.emod_nonneg (y - x) (show n ≠ 0 by omega)
  have h2 := Int.emod_lt_of_pos (y - x) (show 0 < n by omega)
  unfold voices_circle_movement.f
  rw [wrap_id (n := y - x) (by omega) (by omega), mod_f hn hn2, Option.bind_some]
  unfold mvN
  rw [wrap_id (n := 2 * ((y - x) % n)) (by omega) (by omega)]
  split
  · rw [wrap_id (by omega) (by omega)]
  · rfl
theorem distance_f {n x y : Int} (hn : 2 ≤ n) (hn2 : n ≤ 16) (hx : 0 ≤ x ∧ x < n) (hy : 0 ≤ y ∧ y < n) : voices_circle_distance.f n x y = some (dsN n x y) := by
  have := mvN_bd (x := x) (y := y) hn
  unfold voices_circle_distance.f
  rw [movement_f hn hn2 hx hy, Option.bind_some]
  unfold voices_abs.f
  rw [wrap_id (by omega) (by omega), mx_eq]
  rfl
def prI (n : Int) (a b : List Int) : List Int → Nat → Int
  | [], _ => 0
  | k :: l, i => dsN n (a.getD i 0) (b.getD k.toNat 0) + prI n a b l (i + 1)
theorem prI_bd {n : Int} (hn : 2 ≤ n) (a b : List Int) : ∀ (l : List Int) (i : Nat), 0 ≤ prI n a b l i ∧ 2 * prI n a b l i ≤ n * l.length
  | [], _ => by simp [prI]
  | k :: l, i => by
    have h := prI_bd hn a b l (i + 1)
    have h2 := dsN_bd (n := n) (x := a.getD i 0) (y := b.getD k.toNat 0) hn
    simp only [prI, List.length_cons]
    rw [Int.natCast_add, Int.mul_add n, show n * ((1 : Nat) : Int) = n by simp]
    generalize n * (l.length : Int) = q at h ⊢
    omega
theorem getD_mem {l : List Int} {i : Nat} (h : i < l.length) : l.getD i 0 ∈ l := by rw [List.getD_eq_getElem?_getD, List.getElem?_eq_getElem h]; exact List.getElem_mem h
theorem price_ev {n : Int} {a b : List Int} (ha : VoiN n a) (hb : VoiN n b) (full : List Int) (hf : full.length ≤ a.length) (hk : ∀ k ∈ full, 0 ≤ k ∧ k < b.length) : Ev (fun k => voices_circle_price.f k n a b full) (prI n a b full 0) := by
  obtain ⟨hn, hn2, ha1, ha2, hax⟩ := ha
  obtain ⟨_, _, hb1, hb2, hbx⟩ := hb
  have loop : ∀ (rest pre : List Int) (acc : Int), full = pre ++ rest → 0 ≤ acc → acc ≤ 16 * pre.length →
      Ev (fun k => voices_circle_price.l0 k n a b acc full (full.length : Int) (pre.length : Int)) (acc + prI n a b rest pre.length) := by
    intro rest
    induction rest with
    | nil =>
      intro pre acc hp h0 h1
      have p1 : ¬ (pre.length : Int) < (full.length : Int) := by rw [hp]; simp
      refine Ev.succ ?_
      simp only [voices_circle_price.l0, if_neg p1, prI, Int.add_zero]
      exact Ev.some _
    | cons x rest ih =>
      intro pre acc hp h0 h1
      have hlen : full.length = pre.length + (rest.length + 1) := by rw [hp]; simp
      have p1 : (pre.length : Int) < (full.length : Int) := by omega
      have p0 : (0 : Int) ≤ (pre.length : Int) := by omega
      have pa : (pre.length : Int) < (a.length : Int) := by omega
      have hrd : rd full (pre.length : Int) = x := mid_rd hp
      have hx := hk x (by rw [hp]; simp)
      have hda := getD_mem (l := a) (i := pre.length) (by omega)
      have hdb := getD_mem (l := b) (i := x.toNat) (by omega)
      have e1 : rd a (pre.length : Int) = a.getD pre.length 0 := rd_nat _ _
      have e2 : rd b x = b.getD x.toNat 0 := rfl
      have hd := dsN_bd (n := n) (x := a.getD pre.length 0) (y := b.getD x.toNat 0) hn
      have hdf := distance_f hn hn2 (hax _ hda) (hbx _ hdb)
      have hw : wrap64 ((pre.length : Int) + 1) = ((pre ++ [x]).length : Int) := by rw [wrap_id (by omega) (by omega)]; simp
      have hw2 : wrap64 (acc + dsN n (a.getD pre.length 0) (b.getD x.toNat 0)) = acc + dsN n (a.getD pre.length 0) (b.getD x.toNat 0) := wrap_id (by omega) (by omega)
      have hl1 : (pre ++ [x]).length = pre.length + 1 := by simp
      have go := ih (pre ++ [x]) (acc + dsN n (a.getD pre.length 0) (b.getD x.toNat 0)) (by rw [hp]; simp) (by omega) (by rw [hl1]; omega)
      rw [hl1] at go
      refine Ev.succ ?_
      simp only [voices_circle_price.l0, if_pos p1, if_pos p0, if_pos pa, hrd, if_pos hx.1, if_pos hx.2, e1, e2]
      refine Ev.bind_some hdf ?_
      rw [hw, hw2, hl1]
      simp only [prI]
      rw [← Int.add_assoc]
      exact go
  have h := loop full [] 0 rfl (Int.le_refl _) (by simp)
  rw [Int.zero_add] at h
  exact h

end Go.Proofs.Ytdnjbjcfbdclfaa.P
namespace Go.Proofs.Ytdnjbjcfbdclfaa.P
open Go.RowKit Go.Proofs.YtdnjbjcfbdclfaaW.PrintWords Go.Proofs.YtdnjbjcfbdclfaaW.PrintLast Go.Proofs.YtdnjbjcfbdclfaaW.PrintMore
attribute [local go_sem] max2_int min2_int max_two min_two max_three min_three max_four min_four   -- for this text's walks alone
set_option linter.unusedVariables false
set_option linter.unusedSimpArgs false

/-! voices.best with always: the least cost -/
def prV (n : Int) (a b : List Int) (x : List Nat) : Int := prI n a b (nums x) 0
def bestV (n : Int) (a b : List Int) : Option (List Nat) × Int := bfold (prV n a b) (fun _ => true) (ldg a.length a.length 0 [])
theorem always_calls (v : Value) (W : World) : Calls Try.prog 36 #[v] W fun e W' => e = .returned (.bool true) ∧ Below W.heap.size W W' := by
  go_enter Try.func36, Try.ntmps36
  go_wp2
  go_ret
  exact ⟨rfl, Below.refl _ _⟩
theorem price_nums {n : Int} {a b : List Int} (h : TwoN n a b) (x : List Nat) (hx : x.length = a.length) (hl : ∀ y ∈ x, y < a.length) : ∃ kk, voices_circle_price.f kk n a b (nums x) = some (prV n a b x) :=
  Ev.rounds (g := fun k => voices_circle_price.f k n a b (nums x)) (price_ev h.1 h.2.1 (nums x) (by rw [nums_length]; omega) (fun k hk => by
    unfold nums at hk
    rw [List.mem_map] at hk
    obtain ⟨y, hy, rfl⟩ := hk
    have := hl y hy
    have := h.2.2
    show (0 : Int) ≤ (y : Int) ∧ (y : Int) < _
    omega))
theorem best_two {n : Int} {Aa : Option Addr} {ca : Nat} {a : List Int} {Ab : Option Addr} {cb : Nat} {b : List Int} {w : World} (h : TwoN n a b) (hra : Kd.C (Kd.int .i64) w Aa a.length a) (hca : a.length ≤ ca) (hrb : Kd.C (Kd.int .i64) w Ab b.length b) (hcb : b.length ≤ cb) :
    Calls Try.prog 35 #[.int .i64 n, .slice Aa a.length ca, .slice Ab b.length cb, .func (.func 36) #[] #[]] w (BestPost w (bestV n a b).1 (bestV n a b).2) :=
  best_calls w n Aa ca a Ab cb b 36 #[] (prV n a b) (fun _ => true) (enters_of Try.func36 (by kernel_rfl) rfl) a.length rfl h.1.2.2.1 (by have := h.1.2.2.2.1; omega) (fun x A c W _ _ _ _ _ => always_calls _ W) (price_nums h) hra hca hrb hcb

end Go.Proofs.Ytdnjbjcfbdclfaa.P
namespace Go.Proofs.Ytdnjbjcfbdclfaa.P
open Go.RowKit Go.Proofs.YtdnjbjcfbdclfaaW.PrintWords Go.Proofs.YtdnjbjcfbdclfaaW.PrintLast Go.Proofs.YtdnjbjcfbdclfaaW.PrintMore
attribute [local go_sem] max2_int min2_int max_two min_two max_three min_three max_four min_four   -- for this text's walks alone
set_option linter.unusedVariables false
set_option linter.unusedSimpArgs false

/-! ### cmp_isNaN_int: function 59 -/
def cmp_isNaN_int.f (a0 : Int) : Option (Bool) := some (a0 != a0)
set_option maxHeartbeats 8000000 in
set_option maxRecDepth 100000 in
theorem cmp_isNaN_int.calls (a0 : Int) (r : Bool) (w : World) (h : cmp_isNaN_int.f a0 = some r) :
    Calls Try.prog 59 #[.int .i64 a0] w fun e w' => e = .returned (.bool r) ∧ Drawn0 w w' := by
  have H : (some (a0 != a0)) = some r := h
  clear h
  obtain rfl := Option.some.inj H
  go_enter Try.func59, Try.ntmps59
  go_wp2
  go_ret
  exact ⟨by first | rfl | (simp; done) | (simp [*]; done), by repeat (first | exact Drawn0.refl _ | apply Drawn0.step)⟩

end Go.Proofs.Ytdnjbjcfbdclfaa.P
namespace Go.Proofs.Ytdnjbjcfbdclfaa.P
open Go.RowKit Go.Proofs.YtdnjbjcfbdclfaaW.PrintWords Go.Proofs.YtdnjbjcfbdclfaaW.PrintLast Go.Proofs.YtdnjbjcfbdclfaaW.PrintMore
attribute [local go_sem] max2_int min2_int max_two min_two max_three min_three max_four min_four   -- for this text's walks alone
set_option linter.unusedVariables false
set_option linter.unusedSimpArgs false

/-! ### cmp_Compare_int: function 49 -/
def cmp_Compare_int.f (a0 : Int) (a1 : Int) : Option (Int) := (cmp_isNaN_int.f a0).bind fun t1001 => ((cmp_isNaN_int.f a1).bind fun t1002 => (if t1001 = true then (if t1002 = true then (some 0) else (some (-1))) else (if t1002 = true then (some 1) else (if a0 < a1 then (some (-1)) else (if a0 > a1 then (some 1) else (some 0))))))
set_option maxHeartbeats 8000000 in
set_option maxRecDepth 100000 in
theorem cmp_Compare_int.calls (a0 : Int) (a1 : Int) (r : Int) (w : World) (h : cmp_Compare_int.f a0 a1 = some r) :
    Calls Try.prog 49 #[.int .i64 a0, .int .i64 a1] w fun e w' => e = .returned (.int .i64 r) ∧ Drawn0 w w' := by
  have H : ((cmp_isNaN_int.f a0).bind fun t1001 => ((cmp_isNaN_int.f a1).bind fun t1002 => (if t1001 = true then (if t1002 = true then (some 0) else (some (-1))) else (if t1002 = true then (some 1) else (if a0 < a1 then (some (-1)) else (if a0 > a1 then (some 1) else (some 0))))))) = some r := h
  clear h
  replace H := Option.bind_eq_some_iff.mp H
  obtain ⟨t1001, A30, H⟩ := H
  replace H : ((cmp_isNaN_int.f a1).bind fun t1002 => (if t1001 = true then (if t1002 = true then (some 0) else (some (-1))) else (if t1002 = true then (some 1) else (if a0 < a1 then (some (-1)) else (if a0 > a1 then (some 1) else (some 0)))))) = some r := H
  have A3 := Aside0.mk A30
  clear A30
  replace H := Option.bind_eq_some_iff.mp H
  obtain ⟨t1002, A40, H⟩ := H
  replace H : (if t1001 = true then (if t1002 = true then (some 0) else (some (-1))) else (if t1002 = true then (some 1) else (if a0 < a1 then (some (-1)) else (if a0 > a1 then (some 1) else (some 0))))) = some r := H
  have A4 := Aside0.mk A40
  clear A40
  by_cases c5 : t1001 = true
  · subst c5
    have H1 : (if t1002 = true then (some 0) else (some (-1))) = some r := by rw [if_pos rfl] at H; exact H
    clear H
    have H := H1
    clear H1
    by_cases c6 : t1002 = true
    · subst c6
      have H1 : (some 0) = some r := by rw [if_pos rfl] at H; exact H
      clear H
      have H := H1
      clear H1
      obtain rfl := Option.some.inj H
      go_enter Try.func49, Try.ntmps49
      go_wp2_with (first | ((with_reducible refine gate_callee (f := 59) rfl ?_); refine goesL_ (some 8) rfl rfl Try.func59 (by kernel_rfl) rfl #[.int .i64 a0] rfl (by (try simp only [List.map_toArray, List.map_cons, List.map_nil]); first | done | rfl | (simp only [List.length_drop, List.length_take]; rfl)) ?_; (with_reducible refine (cmp_isNaN_int.calls a0 true _ A3.out).mono ?_); rintro e w' ⟨rfl, ⟨nd, rfl⟩⟩; refine ⟨_, rfl, ?_⟩) | ((with_reducible refine gate_callee (f := 59) rfl ?_); refine goesL_ (some 10) rfl rfl Try.func59 (by kernel_rfl) rfl #[.int .i64 a1] rfl (by (try simp only [List.map_toArray, List.map_cons, List.map_nil]); first | done | rfl | (simp only [List.length_drop, List.length_take]; rfl)) ?_; (with_reducible refine (cmp_isNaN_int.calls a1 true _ A4.out).mono ?_); rintro e w' ⟨rfl, ⟨nd, rfl⟩⟩; refine ⟨_, rfl, ?_⟩))
      go_ret
      exact ⟨by first | rfl | (simp; done) | (simp [*]; done), by repeat (first | exact Drawn0.refl _ | apply Drawn0.step)⟩
    · replace c6 := Bool.eq_false_iff.mpr c6
      subst c6
      have H1 : (some (-1)) = some r := by rw [if_neg (show ¬ (false = true) by decide)] at H; exact H
      clear H
      have H := H1
      clear H1
      obtain rfl := Option.some.inj H
      go_enter Try.func49, Try.ntmps49
      go_wp2_with (first | ((with_reducible refine gate_callee (f := 59) rfl ?_); refine goesL_ (some 8) rfl rfl Try.func59 (by kernel_rfl) rfl #[.int .i64 a0] rfl (by (try simp only [List.map_toArray, List.map_cons, List.map_nil]); first | done | rfl | (simp only [List.length_drop, List.length_take]; rfl)) ?_; (with_reducible refine (cmp_isNaN_int.calls a0 true _ A3.out).mono ?_); rintro e w' ⟨rfl, ⟨nd, rfl⟩⟩; refine ⟨_, rfl, ?_⟩) | ((with_reducible refine gate_callee (f := 59) rfl ?_); refine goesL_ (some 10) rfl rfl Try.func59 (by kernel_rfl) rfl #[.int .i64 a1] rfl (by (try simp only [List.map_toArray, List.map_cons, List.map_nil]); first | done | rfl | (simp only [List.length_drop, List.length_take]; rfl)) ?_; (with_reducible refine (cmp_isNaN_int.calls a1 false _ A4.out).mono ?_); rintro e w' ⟨rfl, ⟨nd, rfl⟩⟩; refine ⟨_, rfl, ?_⟩))
      go_ret
      exact ⟨by first | rfl | (simp; done) | (simp [*]; done), by repeat (first | exact Drawn0.refl _ | apply Drawn0.step)⟩
  · replace c5 := Bool.eq_false_iff.mpr c5
    subst c5
    have H1 : (if t1002 = true then (some 1) else (if a0 < a1 then (some (-1)) else (if a0 > a1 then (some 1) else (some 0)))) = some r := by rw [if_neg (show ¬ (false = true) by decide)] at H; exact H
    clear H
    have H := H1
    clear H1
    by_cases c7 : t1002 = true
    · subst c7
      have H1 : (some 1) = some r := by rw [if_pos rfl] at H; exact H
      clear H
      have H := H1
      clear H1
      obtain rfl := Option.some.inj H
      go_enter Try.func49, Try.ntmps49
      go_wp2_with (first | ((with_reducible refine gate_callee (f := 59) rfl ?_); refine goesL_ (some 8) rfl rfl Try.func59 (by kernel_rfl) rfl #[.int .i64 a0] rfl (by (try simp only [List.map_toArray, List.map_cons, List.map_nil]); first | done | rfl | (simp only [List.length_drop, List.length_take]; rfl)) ?_; (with_reducible refine (cmp_isNaN_int.calls a0 false _ A3.out).mono ?_); rintro e w' ⟨rfl, ⟨nd, rfl⟩⟩; refine ⟨_, rfl, ?_⟩) | ((with_reducible refine gate_callee (f := 59) rfl ?_); refine goesL_ (some 10) rfl rfl Try.func59 (by kernel_rfl) rfl #[.int .i64 a1] rfl (by (try simp only [List.map_toArray, List.map_cons, List.map_nil]); first | done | rfl | (simp only [List.length_drop, List.length_take]; rfl)) ?_; (with_reducible refine (cmp_isNaN_int.calls a1 true _ A4.out).mono ?_); rintro e w' ⟨rfl, ⟨nd, rfl⟩⟩; refine ⟨_, rfl, ?_⟩))
      go_ret
      exact ⟨by first | rfl | (simp; done) | (simp [*]; done), by repeat (first | exact Drawn0.refl _ | apply Drawn0.step)⟩
    · replace c7 := Bool.eq_false_iff.mpr c7
      subst c7
      have H1 : (if a0 < a1 then (some (-1)) else (if a0 > a1 then (some 1) else (some 0))) = some r := by rw [if_neg (show ¬ (false = true) by decide)] at H; exact H
      clear H
      have H := H1
      clear H1
      by_cases c8 : a0 < a1
      · rw [if_pos c8] at H
        have c8b0 : decide (a0 < a1) = true := decide_eq_true c8
        clear c8
        obtain rfl := Option.some.inj H
        go_enter Try.func49, Try.ntmps49
        go_wp2_with (first | ((with_reducible refine gate_callee (f := 59) rfl ?_); refine goesL_ (some 8) rfl rfl Try.func59 (by kernel_rfl) rfl #[.int .i64 a0] rfl (by (try simp only [List.map_toArray, List.map_cons, List.map_nil]); first | done | rfl | (simp only [List.length_drop, List.length_take]; rfl)) ?_; (with_reducible refine (cmp_isNaN_int.calls a0 false _ A3.out).mono ?_); rintro e w' ⟨rfl, ⟨nd, rfl⟩⟩; refine ⟨_, rfl, ?_⟩) | ((with_reducible refine gate_callee (f := 59) rfl ?_); refine goesL_ (some 10) rfl rfl Try.func59 (by kernel_rfl) rfl #[.int .i64 a1] rfl (by (try simp only [List.map_toArray, List.map_cons, List.map_nil]); first | done | rfl | (simp only [List.length_drop, List.length_take]; rfl)) ?_; (with_reducible refine (cmp_isNaN_int.calls a1 false _ A4.out).mono ?_); rintro e w' ⟨rfl, ⟨nd, rfl⟩⟩; refine ⟨_, rfl, ?_⟩))
        go_ret
        exact ⟨by first | rfl | (simp; done) | (simp [*]; done), by repeat (first | exact Drawn0.refl _ | apply Drawn0.step)⟩
      · rw [if_neg c8] at H
        have c8b0 : decide (a0 < a1) = false := decide_eq_false c8
        clear c8
        by_cases c9 : a0 > a1
        · rw [if_pos c9] at H
          have c9b0 : decide (a1 < a0) = true := decide_eq_true c9
          clear c9
          obtain rfl := Option.some.inj H
          go_enter Try.func49, Try.ntmps49
          go_wp2_with (first | ((with_reducible refine gate_callee (f := 59) rfl ?_); refine goesL_ (some 8) rfl rfl Try.func59 (by kernel_rfl) rfl #[.int .i64 a0] rfl (by (try simp only [List.map_toArray, List.map_cons, List.map_nil]); first | done | rfl | (simp only [List.length_drop, List.length_take]; rfl)) ?_; (with_reducible refine (cmp_isNaN_int.calls a0 false _ A3.out).mono ?_); rintro e w' ⟨rfl, ⟨nd, rfl⟩⟩; refine ⟨_, rfl, ?_⟩) | ((with_reducible refine gate_callee (f := 59) rfl ?_); refine goesL_ (some 10) rfl rfl Try.func59 (by kernel_rfl) rfl #[.int .i64 a1] rfl (by (try simp only [List.map_toArray, List.map_cons, List.map_nil]); first | done | rfl | (simp only [List.length_drop, List.length_take]; rfl)) ?_; (with_reducible refine (cmp_isNaN_int.calls a1 false _ A4.out).mono ?_); rintro e w' ⟨rfl, ⟨nd, rfl⟩⟩; refine ⟨_, rfl, ?_⟩))
          go_ret
          exact ⟨by first | rfl | (simp; done) | (simp [*]; done), by repeat (first | exact Drawn0.refl _ | apply Drawn0.step)⟩
        · rw [if_neg c9] at H
          have c9b0 : decide (a1 < a0) = false := decide_eq_false c9
          clear c9
          obtain rfl := Option.some.inj H
          go_enter Try.func49, Try.ntmps49
          go_wp2_with (first | ((with_reducible refine gate_callee (f := 59) rfl ?_); refine goesL_ (some 8) rfl rfl Try.func59 (by kernel_rfl) rfl #[.int .i64 a0] rfl (by (try simp only [List.map_toArray, List.map_cons, List.map_nil]); first | done | rfl | (simp only [List.length_drop, List.length_take]; rfl)) ?_; (with_reducible refine (cmp_isNaN_int.calls a0 false _ A3.out).mono ?_); rintro e w' ⟨rfl, ⟨nd, rfl⟩⟩; refine ⟨_, rfl, ?_⟩) | ((with_reducible refine gate_callee (f := 59) rfl ?_); refine goesL_ (some 10) rfl rfl Try.func59 (by kernel_rfl) rfl #[.int .i64 a1] rfl (by (try simp only [List.map_toArray, List.map_cons, List.map_nil]); first | done | rfl | (simp only [List.length_drop, List.length_take]; rfl)) ?_; (with_reducible refine (cmp_isNaN_int.calls a1 false _ A4.out).mono ?_); rintro e w' ⟨rfl, ⟨nd, rfl⟩⟩; refine ⟨_, rfl, ?_⟩))
          go_ret
          exact ⟨by first | rfl | (simp; done) | (simp [*]; done), by repeat (first | exact Drawn0.refl _ | apply Drawn0.step)⟩

end Go.Proofs.Ytdnjbjcfbdclfaa.P
namespace Go.Proofs.Ytdnjbjcfbdclfaa.P
open Go.RowKit Go.Proofs.YtdnjbjcfbdclfaaW.PrintWords Go.Proofs.YtdnjbjcfbdclfaaW.PrintLast Go.Proofs.YtdnjbjcfbdclfaaW.PrintMore
attribute [local go_sem] max2_int min2_int max_two min_two max_three min_three max_four min_four   -- for this text's walks alone
set_option linter.unusedVariables false
set_option linter.unusedSimpArgs false

/-! ### slices_Compare_int_int: function 33 -/
def slices_Compare_int_int.l0 : Nat → List Int → List Int → List Int → Int → Int → Option (Int)
  | 0, _, _, _, _, _ => none
  | k + 1, x0, x1, x9, x10, x11 => if x11 < x10 then (if 0 ≤ x11 then (if x11 < (x9.length : Int) then (if x11 ≥ (x1.length : Int) then (some 1) else (if x11 < (x1.length : Int) then ((cmp_Compare_int.f (rd x9 x11) (rd x1 x11)).bind fun t1003 => (if t1003 = 0 then (slices_Compare_int_int.l0 k x0 x1 x9 x10 (wrap64 (x11 + 1))) else (some t1003))) else (none))) else (none)) else (none)) else (if (x0.length : Int) < (x1.length : Int) then (some (-1)) else (some 0))
def slices_Compare_int_int.f (k : Nat) (l0 : List Int) (l1 : List Int) : Option (Int) := slices_Compare_int_int.l0 k l0 l1 l0 (l0.length : Int) 0
theorem slices_Compare_int_int.mono_l : ∀ k, (∀ y0 y1 y2 y3 y4, LeO (slices_Compare_int_int.l0 k y0 y1 y2 y3 y4) (slices_Compare_int_int.l0 (k + 1) y0 y1 y2 y3 y4))
  | 0 => fun _ _ _ _ _ r h => by simp [slices_Compare_int_int.l0] at h
  | k + 1 => by
    have ih0 := slices_Compare_int_int.mono_l k
    · intro y0 y1 y2 y3 y4
      unfold slices_Compare_int_int.l0
      repeat' first
      | (with_reducible exact ih0 _ _ _ _ _)
      | (with_reducible exact LeO.refl _)
      | (with_reducible exact LeO.none _)
      | (with_reducible refine LeO.ite ?_ ?_)
      | (with_reducible refine LeO.bind ?_ (fun _ => ?_))
      | exact ih0 _ _ _ _ _
      | exact LeO.none _
      | refine LeO.ite ?_ ?_
      | refine LeO.bind ?_ (fun _ => ?_)
theorem slices_Compare_int_int.mono : ∀ a0 a1 k, LeO (slices_Compare_int_int.f k a0 a1) (slices_Compare_int_int.f (k + 1) a0 a1) := by
  intro a0 a1 k
  have ih0 := slices_Compare_int_int.mono_l k
  unfold slices_Compare_int_int.f
  repeat' first
      | (with_reducible exact ih0 _ _ _ _ _)
      | (with_reducible exact LeO.refl _)
      | (with_reducible exact LeO.none _)
      | (with_reducible refine LeO.ite ?_ ?_)
      | (with_reducible refine LeO.bind ?_ (fun _ => ?_))
      | exact ih0 _ _ _ _ _
      | exact LeO.none _
      | refine LeO.ite ?_ ?_
      | refine LeO.bind ?_ (fun _ => ?_)
set_option maxHeartbeats 8000000 in
set_option maxRecDepth 100000 in
theorem slices_Compare_int_int.calls (k : Nat) (A0 : Option Addr) (c0 : Nat) (l0 : List Int) (A1 : Option Addr) (c1 : Nat) (l1 : List Int) (r : Int) (w : World) (hr0 : Kd.C (Kd.int .i64) w A0 l0.length l0) (hc0 : l0.length ≤ c0) (hr1 : Kd.C (Kd.int .i64) w A1 l1.length l1) (hc1 : l1.length ≤ c1) (h : slices_Compare_int_int.f k l0 l1 = some r) :
    Calls Try.prog 33 #[.slice A0 l0.length c0, .slice A1 l1.length c1] w fun e w' => e = .returned (.int .i64 r) ∧ Drawn0 w w' := by
  have HR0 := Aside0.mk hr0
  have HC0 := Aside0.mk hc0
  clear hr0 hc0
  have HR1 := Aside0.mk hr1
  have HC1 := Aside0.mk hc1
  clear hr1 hc1
  have H : (slices_Compare_int_int.l0 k l0 l1 l0 (l0.length : Int) 0) = some r := h
  clear h
  have H' := Aside0.mk H
  clear H
  go_enter Try.func33, Try.ntmps33
  go_wp2
  go_loopg [11] k (fun kq v11 w' => ∃ (x11_1 : Int), v11 = .int .i64 x11_1 ∧ Aside0 (slices_Compare_int_int.l0 kq l0 l1 l0 (l0.length : Int) x11_1 = some r) ∧ Aside0 (kq ≤ k) ∧ Drawn0 w w')
  case atStart => exact ⟨(0), (by first | rfl | (simp; done) | (simp [*]; done)), H', ⟨Nat.le_refl _⟩, by repeat (first | exact Drawn0.refl _ | apply Drawn0.step)⟩
  case round =>
    clear H'
    try clear c1
    try clear p2
    obtain ⟨x11_1, rfl, HA, HK1, ⟨m1, rfl⟩⟩ := hrel
    cases gk with
    | zero => exact absurd HA.out (by simp [slices_Compare_int_int.l0])
    | succ k1 =>
      have H := HA.out
      clear HA
      simp only [slices_Compare_int_int.l0] at H
      by_cases c3 : x11_1 < (l0.length : Int)
      · rw [if_pos c3] at H
        have c3b0 : decide (x11_1 < (l0.length : Int)) = true := decide_eq_true c3
        clear c3
        by_cases c4 : 0 ≤ x11_1
        · rw [if_pos c4] at H
          have c4b0 : decide (0 ≤ x11_1) = true := decide_eq_true c4
          clear c4
          by_cases c5 : x11_1 < (l0.length : Int)
          · rw [if_pos c5] at H
            have c5b0 : decide (x11_1 < (l0.length : Int)) = true := decide_eq_true c5
            clear c5
            by_cases c6 : x11_1 ≥ (l1.length : Int)
            · rw [if_pos c6] at H
              have c6b0 : decide ((l1.length : Int) ≤ x11_1) = true := decide_eq_true c6
              clear c6
              obtain rfl := Option.some.inj H
              have p1001 : 0 ≤ (x11_1 : Int) := of_decide_eq_true (by first | (with_reducible assumption) | assumption)
              have q1001 : x11_1 < (l0.length : Int) := of_decide_eq_true (by first | (with_reducible assumption) | assumption)
              obtain ⟨ad1001, e1001, hx1001_0⟩ := Kd.at_int HR0.out x11_1 p1001 q1001
              cases e1001
              replace p1001 := eq_true p1001
              replace q1001 := eq_true q1001
              go_wp2
              go_ret
              exact ⟨by first | rfl | (simp; done) | (simp [*]; done), by repeat (first | exact Drawn0.refl _ | apply Drawn0.step)⟩
            · rw [if_neg c6] at H
              have c6b0 : decide ((l1.length : Int) ≤ x11_1) = false := decide_eq_false c6
              clear c6
              by_cases c7 : x11_1 < (l1.length : Int)
              · rw [if_pos c7] at H
                have c7b0 : decide (x11_1 < (l1.length : Int)) = true := decide_eq_true c7
                clear c7
                replace H := Option.bind_eq_some_iff.mp H
                obtain ⟨t1003, A80, H⟩ := H
                replace H : (if t1003 = 0 then (slices_Compare_int_int.l0 k1 l0 l1 l0 (l0.length : Int) (wrap64 (x11_1 + 1))) else (some t1003)) = some r := H
                have A8 := Aside0.mk A80
                clear A80
                by_cases c9 : t1003 = 0
                · rw [if_pos c9] at H
                  have c9b0 : (t1003 == 0) = true := beq_iff_eq.mpr c9
                  have c9b1 : (t1003 != 0) = false := bne_eq_false_iff_eq.mpr c9
                  clear c9
                  have H' := Aside0.mk H
                  clear H
                  have p1001 : 0 ≤ (x11_1 : Int) := of_decide_eq_true (by first | (with_reducible assumption) | assumption)
                  have q1001 : x11_1 < (l0.length : Int) := of_decide_eq_true (by first | (with_reducible assumption) | assumption)
                  obtain ⟨ad1001, e1001, hx1001_0⟩ := Kd.at_int HR0.out x11_1 p1001 q1001
                  cases e1001
                  replace p1001 := eq_true p1001
                  replace q1001 := eq_true q1001
                  have p1002 : 0 ≤ (x11_1 : Int) := of_decide_eq_true (by first | (with_reducible assumption) | assumption)
                  have q1002 : x11_1 < (l1.length : Int) := of_decide_eq_true (by first | (with_reducible assumption) | assumption)
                  obtain ⟨ad1002, e1002, hx1002_0⟩ := Kd.at_int HR1.out x11_1 p1002 q1002
                  cases e1002
                  replace p1002 := eq_true p1002
                  replace q1002 := eq_true q1002
                  go_wp2_with (first | ((with_reducible refine gate_callee (f := 49) rfl ?_); refine goesL_ (some 26) rfl rfl Try.func49 (by kernel_rfl) rfl #[.int .i64 (rd l0 x11_1), .int .i64 (rd l1 x11_1)] rfl (by (try simp only [List.map_toArray, List.map_cons, List.map_nil]); first | done | rfl | (simp only [List.length_drop, List.length_take]; rfl)) ?_; (with_reducible refine (cmp_Compare_int.calls (rd l0 x11_1) (rd l1 x11_1) t1003 _ A8.out).mono ?_); rintro e w' ⟨rfl, ⟨nd, rfl⟩⟩; refine ⟨_, rfl, ?_⟩))
                  go_roundg k1
                  case measure => have := HK1.out; omega
                  case rel => exact ⟨(wrap64 (x11_1 + 1)), (by first | rfl | (simp; done) | (simp [*]; done)), H', ⟨by have := HK1.out; omega⟩, by repeat (first | exact Drawn0.refl _ | apply Drawn0.step)⟩
                · rw [if_neg c9] at H
                  have c9b0 : (t1003 == 0) = false := beq_eq_false_iff_ne.mpr c9
                  have c9b1 : (t1003 != 0) = true := bne_iff_ne.mpr c9
                  obtain rfl := Option.some.inj H
                  have p1001 : 0 ≤ (x11_1 : Int) := of_decide_eq_true (by first | (with_reducible assumption) | assumption)
                  have q1001 : x11_1 < (l0.length : Int) := of_decide_eq_true (by first | (with_reducible assumption) | assumption)
                  obtain ⟨ad1001, e1001, hx1001_0⟩ := Kd.at_int HR0.out x11_1 p1001 q1001
                  cases e1001
                  replace p1001 := eq_true p1001
                  replace q1001 := eq_true q1001
                  have p1002 : 0 ≤ (x11_1 : Int) := of_decide_eq_true (by first | (with_reducible assumption) | assumption)
                  have q1002 : x11_1 < (l1.length : Int) := of_decide_eq_true (by first | (with_reducible assumption) | assumption)
                  obtain ⟨ad1002, e1002, hx1002_0⟩ := Kd.at_int HR1.out x11_1 p1002 q1002
                  cases e1002
                  replace p1002 := eq_true p1002
                  replace q1002 := eq_true q1002
                  go_wp2_with (first | ((with_reducible refine gate_callee (f := 49) rfl ?_); refine goesL_ (some 26) rfl rfl Try.func49 (by kernel_rfl) rfl #[.int .i64 (rd l0 x11_1), .int .i64 (rd l1 x11_1)] rfl (by (try simp only [List.map_toArray, List.map_cons, List.map_nil]); first | done | rfl | (simp only [List.length_drop, List.length_take]; rfl)) ?_; (with_reducible refine (cmp_Compare_int.calls (rd l0 x11_1) (rd l1 x11_1) t1003 _ A8.out).mono ?_); rintro e w' ⟨rfl, ⟨nd, rfl⟩⟩; refine ⟨_, rfl, ?_⟩))
                  go_ret
                  exact ⟨by first | rfl | (simp; done) | (simp [*]; done), by repeat (first | exact Drawn0.refl _ | apply Drawn0.step)⟩
              · rw [if_neg c7] at H
                exact absurd H (by simp)
          · rw [if_neg c5] at H
            exact absurd H (by simp)
        · rw [if_neg c4] at H
          exact absurd H (by simp)
      · rw [if_neg c3] at H
        have c3b0 : decide (x11_1 < (l0.length : Int)) = false := decide_eq_false c3
        clear c3
        by_cases c10 : (l0.length : Int) < (l1.length : Int)
        · rw [if_pos c10] at H
          have c10b0 : decide ((l0.length : Int) < (l1.length : Int)) = true := decide_eq_true c10
          have c10b1 : decide (l0.length < l1.length) = true := decide_eq_true (Int.ofNat_lt.mp c10)
          clear c10
          obtain rfl := Option.some.inj H
          go_wp2
          go_ret
          exact ⟨by first | rfl | (simp; done) | (simp [*]; done), by repeat (first | exact Drawn0.refl _ | apply Drawn0.step)⟩
        · rw [if_neg c10] at H
          have c10b0 : decide ((l0.length : Int) < (l1.length : Int)) = false := decide_eq_false c10
          have c10b1 : decide (l0.length < l1.length) = false := decide_eq_false (fun h => c10 (Int.ofNat_lt.mpr h))
          clear c10
          obtain rfl := Option.some.inj H
          go_wp2
          go_ret
          exact ⟨by first | rfl | (simp; done) | (simp [*]; done), by repeat (first | exact Drawn0.refl _ | apply Drawn0.step)⟩

end Go.Proofs.Ytdnjbjcfbdclfaa.P
namespace Go.Proofs.Ytdnjbjcfbdclfaa.P
open Go.RowKit Go.Proofs.YtdnjbjcfbdclfaaW.PrintWords Go.Proofs.YtdnjbjcfbdclfaaW.PrintLast Go.Proofs.YtdnjbjcfbdclfaaW.PrintMore
attribute [local go_sem] max2_int min2_int max_two min_two max_three min_three max_four min_four   -- for this text's walks alone
set_option linter.unusedVariables false
set_option linter.unusedSimpArgs false

/-! slices.Compare at rows of the same length -/
def cmpL : List Int → List Int → Int
  | [], _ => 0
  | _ :: _, [] => 1
  | x :: xs, y :: ys => if x < y then -1 else if x > y then 1 else cmpL xs ys
theorem cmp_f (x y : Int) : cmp_Compare_int.f x y = some (if x < y then -1 else if x > y then 1 else 0) := by
  unfold cmp_Compare_int.f cmp_isNaN_int.f
  simp only [bne_self_eq_false, Option.bind_some, Bool.false_eq_true, if_false]
  split
  · rfl
  · split <;> rfl
theorem Compare_loop (l0 l1 : List Int) (hlen : l0.length = l1.length) (hb : l0.length < 9223372036854775807) : ∀ (xs ys pre pre1 : List Int), l0 = pre ++ xs → l1 = pre1 ++ ys → pre.length = pre1.length →
    Ev (fun k => slices_Compare_int_int.l0 k l0 l1 l0 (l0.length : Int) (pre.length : Int)) (cmpL xs ys) := by
  intro xs
  induction xs with
  | nil =>
    intro ys pre pre1 h0 h1 hp
    refine Ev.succ ?_
    simp only [slices_Compare_int_int.l0, if_neg (mid_end h0), if_neg (show ¬ (l0.length : Int) < (l1.length : Int) by omega)]
    exact Ev.some 0
  | cons x xs ih =>
    intro ys pre pre1 h0 h1 hp
    cases ys with
    | nil => exfalso; have := congrArg List.length h0; have := congrArg List.length h1; simp at *; omega
    | cons y ys =>
      have r1 : rd l1 (pre.length : Int) = y := by rw [hp]; exact mid_rd h1
      have l1' : (pre.length : Int) < (l1.length : Int) := by rw [hp]; exact mid_lt h1
      refine Ev.succ ?_
      simp only [slices_Compare_int_int.l0, if_pos (mid_lt h0), if_pos (show (0 : Int) ≤ (pre.length : Int) by omega), if_pos l1', if_neg (show ¬ (pre.length : Int) ≥ (l1.length : Int) by omega), mid_rd h0, r1, mid_next h0 hb]
      refine Ev.bind_some (cmp_f x y) ?_
      have hi := ih ys (pre ++ [x]) (pre1 ++ [y]) (mid_mv h0) (mid_mv h1) (by simp [hp])
      unfold cmpL
      by_cases c1 : x < y
      · simp only [if_pos c1]
        exact Ev.some (-1)
      · simp only [if_neg c1]
        by_cases c2 : x > y
        · simp only [if_pos c2]
          exact Ev.some 1
        · simp only [if_neg c2, if_true]
          exact hi
theorem Compare_ev (l0 l1 : List Int) (hlen : l0.length = l1.length) (hb : l0.length < 9223372036854775807) : Ev (fun k => slices_Compare_int_int.f k l0 l1) (cmpL l0 l1) := by
  unfold slices_Compare_int_int.f
  exact Compare_loop l0 l1 hlen hb l0 l1 [] [] rfl rfl rfl
theorem cmpL_same : ∀ l : List Int, cmpL l l = 0
  | [] => rfl
  | x :: l => by unfold cmpL; rw [if_neg (by omega), if_neg (by omega)]; exact cmpL_same l
theorem cmpL_pre (x y : List Int) : ∀ p : List Int, cmpL (p ++ x) (p ++ y) = cmpL x y
  | [] => rfl
  | z :: p => by rw [List.cons_append, List.cons_append, cmpL, if_neg (by omega), if_neg (by omega)]; exact cmpL_pre x y p

end Go.Proofs.Ytdnjbjcfbdclfaa.P
namespace Go.Proofs.Ytdnjbjcfbdclfaa.P
open Go.RowKit Go.Proofs.YtdnjbjcfbdclfaaW.PrintWords Go.Proofs.YtdnjbjcfbdclfaaW.PrintLast Go.Proofs.YtdnjbjcfbdclfaaW.PrintMore
attribute [local go_sem] max2_int min2_int max_two min_two max_three min_three max_four min_four   -- for this text's walks alone
set_option linter.unusedVariables false
set_option linter.unusedSimpArgs false

/-! voices.nearest.see: the first voicing with the least cost -/
def seeS (st : Option (List Int × Int)) (v : List Int) (c : Int) : Option (List Int × Int) := match st with
  | none => some (v, c)
  | some (w, d) => if c < d ∨ (c = d ∧ cmpL v w < 0) then some (v, c) else some (w, d)
def SeeJ (S base : Nat) (st : Option (List Int × Int)) (W : World) : Prop := W.frozen? ⟨S, 0, none⟩ = false ∧ W.frozen? ⟨S, 1, none⟩ = false ∧ match st with
  | none => W.cell? ⟨S, 0, none⟩ = some (.slice none 0 0) ∧ W.cell? ⟨S, 1, none⟩ = some (.int .i64 0)
  | some (v, c) => ∃ ad cap, W.cell? ⟨S, 0, none⟩ = some (.slice (some ad) v.length cap) ∧ W.cell? ⟨S, 1, none⟩ = some (.int .i64 c) ∧ Kd.R (Kd.int .i64) 3 W base (fun i => i ≠ S) (.slice (some ad) v.length cap) v
def SeePost (S base : Nat) (st : Option (List Int × Int)) (W : World) (e : Ending) (W' : World) : Prop := (∃ u, e = .returned u) ∧ SeeJ S base st W' ∧ Fr (fun i => i ≠ S ∧ i < W.heap.size) W W'
def SeePostY (S base : Nat) (st : Option (List Int × Int)) (y : Value) (W : World) (e : Ending) (W' : World) : Prop := SeePost S base st W e W' ∧ (W'.cell? ⟨S, 0, none⟩ = W.cell? ⟨S, 0, none⟩ ∨ W'.cell? ⟨S, 0, none⟩ = some y)
theorem cell_other {W : World} {S i j : Nat} {x u : Value} (h : i ≠ j) (hc : W.cell? ⟨S, j, none⟩ = some u) : (W.setCell ⟨S, i, none⟩ x).cell? ⟨S, j, none⟩ = some u := (World.cell?_setCell_other _ _ _ _ (fun e => h (by injection e))).trans hc
theorem see_kept {S base : Nat} {v : List Int} {c : Int} {ad : Addr} {cap : Nat} {W : World} {x0 x1 : Value} (h0 : W.cell? ⟨S, 0, none⟩ = some x0) (h1 : W.cell? ⟨S, 1, none⟩ = some x1) (f0 : W.frozen? ⟨S, 0, none⟩ = false) (f1 : W.frozen? ⟨S, 1, none⟩ = false) (hR : Kd.R (Kd.int .i64) 3 W base (fun i => i ≠ S) (.slice (some ad) v.length cap) v) :
    SeeJ S base (some (v, c)) ((W.setCell ⟨S, 0, none⟩ (.slice (some ad) v.length cap)).setCell ⟨S, 1, none⟩ (.int .i64 c)) ∧ Fr (fun i => i ≠ S ∧ i < W.heap.size) W ((W.setCell ⟨S, 0, none⟩ (.slice (some ad) v.length cap)).setCell ⟨S, 1, none⟩ (.int .i64 c)) ∧ ((W.setCell ⟨S, 0, none⟩ (.slice (some ad) v.length cap)).setCell ⟨S, 1, none⟩ (.int .i64 c)).cell? ⟨S, 0, none⟩ = some (.slice (some ad) v.length cap) := by
  have hc0 : ((W.setCell ⟨S, 0, none⟩ (.slice (some ad) v.length cap)).setCell ⟨S, 1, none⟩ (.int .i64 c)).cell? ⟨S, 0, none⟩ = some (.slice (some ad) v.length cap) := cell_other (by decide) (World.cell?_setCell_same' _ _ _ (by rw [h0]; rfl))
  refine ⟨⟨?_, ?_, ad, cap, hc0, ?_, ?_⟩, (Fr.setCell _ _ (fun h => h.1 rfl)).trans (Fr.setCell _ _ (fun h => h.1 rfl)), hc0⟩
  · rw [World.frozen?_setCell, World.frozen?_setCell]; exact f0
  · rw [World.frozen?_setCell, World.frozen?_setCell]; exact f1
  · exact World.cell?_setCell_same' _ _ _ (by rw [cell_other (by decide) h1]; rfl)
  · exact Kd.R_far (Kd.R_far hR (fun i hi => hi) _) (fun i hi => hi) _
set_option maxHeartbeats 4000000 in
set_option maxRecDepth 100000 in
theorem see_first {S base : Nat} {v : List Int} {c : Int} {ad : Addr} {cap : Nat} {W : World} (hJ : SeeJ S base none W) (hR : Kd.R (Kd.int .i64) 3 W base (fun i => i ≠ S) (.slice (some ad) v.length cap) v) :
    Calls Try.prog 47 #[.pointer (some ⟨S, 0, none⟩), .slice (some ad) v.length cap, .int .i64 c] W (SeePostY S base (some (v, c)) (.slice (some ad) v.length cap) W) := by
  obtain ⟨f0, f1, c0, c1⟩ := hJ
  have HK := Aside0.mk (see_kept (c := c) c0 c1 f0 f1 hR)
  have q22 : ∀ (w : World) (a : Option Addr) (n c n' c' : Nat), (binOp .eql 22 (.slice a n c) (.slice none n' c')).run Try.prog w = .ok (.bool a.isNone) w := fun w a n c n' c' => Lib.run_eql_slice_nil w _ _ a n c n' c' Try.underlying22
  generalize hL : v.length = L at HK ⊢
  clear hR hL
  go_enter Try.func47, Try.ntmps47
  go_wp2
  go_end0
  exact ⟨⟨⟨_, rfl⟩, HK.out.1, HK.out.2.1⟩, .inr HK.out.2.2⟩
set_option maxHeartbeats 4000000 in
set_option maxRecDepth 100000 in
theorem see_next {S base : Nat} {v w0 : List Int} {c d : Int} {ad : Addr} {cap : Nat} {W : World} (hJ : SeeJ S base (some (w0, d)) W) (hR : Kd.R (Kd.int .i64) 3 W base (fun i => i ≠ S) (.slice (some ad) v.length cap) v) (hl : v.length = w0.length) (hv : v.length ≤ 1000) :
    Calls Try.prog 47 #[.pointer (some ⟨S, 0, none⟩), .slice (some ad) v.length cap, .int .i64 c] W (SeePostY S base (seeS (some (w0, d)) v c) (.slice (some ad) v.length cap) W) := by
  have HJ := Aside0.mk hJ
  obtain ⟨f0, f1, aw, cw, c0, c1, hRw⟩ := hJ
  have HK := Aside0.mk (see_kept (c := c) c0 c1 f0 f1 hR)
  obtain ⟨k, hk⟩ := Ev.rounds (g := fun k => slices_Compare_int_int.f k v w0) (Compare_ev v w0 hl (by omega))
  have hv1 := Kd.R_reads' hR
  have hw1 := Kd.R_reads' hRw
  have hcmp := fun (W' : World) (hb : Below W.heap.size W W') => slices_Compare_int_int.calls k (some ad) cap v (some aw) cw w0 (cmpL v w0) W' (Kd.C_below hv1.2.2 hb) hv1.2.1 (Kd.C_below hw1.2.2 hb) hw1.2.1 hk
  have q22 : ∀ (w : World) (a : Option Addr) (n c n' c' : Nat), (binOp .eql 22 (.slice a n c) (.slice none n' c')).run Try.prog w = .ok (.bool a.isNone) w := fun w a n c n' c' => Lib.run_eql_slice_nil w _ _ a n c n' c' Try.underlying22
  have hSS : seeS (some (w0, d)) v c = if c < d ∨ (c = d ∧ cmpL v w0 < 0) then some (v, c) else some (w0, d) := rfl
  have C0 := Aside0.mk c0
  have C1 := Aside0.mk c1
  have F0 := Aside0.mk f0
  have F1 := Aside0.mk f1
  have HRV := Aside0.mk hR
  have HRW := Aside0.mk hRw
  rw [← hl] at c0 hcmp
  obtain ⟨L, hL'⟩ : ∃ L, v.length = L := ⟨_, rfl⟩
  rw [hL'] at HK hcmp c0 ⊢
  have C0L := Aside0.mk c0
  have hL : True := trivial
  have HCMP := Aside0.mk hcmp
  have HS := Aside0.mk hSS
  clear hR hL hRw hk hv1 hw1 hcmp hSS hl
  by_cases hlt : c < d
  · have q1 : decide (c < d) = true := decide_eq_true hlt
    rw [if_pos (.inl hlt)] at HS
    clear hlt
    go_enter Try.func47, Try.ntmps47
    go_wp2
    go_end0
    rw [HS.out]
    exact ⟨⟨⟨_, rfl⟩, HK.out.1, HK.out.2.1⟩, .inr HK.out.2.2⟩
  · have q1 : decide (c < d) = false := decide_eq_false hlt
    by_cases heq : c = d
    · have q2 : (c == d) = true := beq_iff_eq.2 heq
      obtain ⟨z, hz⟩ : ∃ z, cmpL v w0 = z := ⟨_, rfl⟩
      rw [hz] at HCMP HS
      by_cases hneg : z < 0
      · have q3 : decide (z < 0) = true := decide_eq_true hneg
        rw [if_pos (.inr ⟨heq, hneg⟩)] at HS
        clear hlt heq hneg hz
        go_enter Try.func47, Try.ntmps47
        go_wp2_with fail
        refine (HCMP.out _ (Below.refl _ _)).mono ?_
        rintro e w2 ⟨rfl, hd⟩
        obtain ⟨q, rfl⟩ := hd
        have HK2 := Aside0.mk (see_kept (c := c) (W := W.drewN q) (S := S) C0.out C1.out F0.out F1.out (Kd.R_below HRV.out (pw_below_drewN (Below.refl _ _) q)))
        have k0 : (W.drewN q).cell? ⟨S, 0, none⟩ = _ := C0L.out
        have k1 : (W.drewN q).cell? ⟨S, 1, none⟩ = _ := C1.out
        have z0 : (W.drewN q).frozen? ⟨S, 0, none⟩ = false := F0.out
        have z1 : (W.drewN q).frozen? ⟨S, 1, none⟩ = false := F1.out
        have HFR := Aside0.mk (Fr.drewN (fun i => i ≠ S ∧ i < W.heap.size) W q)
        have HJ2 := Aside0.mk (show SeeJ S base (some (w0, d)) (W.drewN q) from ⟨F0.out, F1.out, _, _, C0.out, C1.out, Kd.R_below HRW.out (pw_below_drewN (Below.refl _ _) q)⟩)
        rw [hL'] at HK2
        generalize W.drewN q = w2 at HK2 k0 k1 z0 z1 HFR HJ2 ⊢
        clear c0 c1 f0 f1
        go_wp2
        go_end0
        rw [HS.out]
        exact ⟨⟨⟨_, rfl⟩, HK2.out.1, HFR.out.trans (HK2.out.2.1.mono (fun k hk => ⟨hk.1, Nat.lt_of_lt_of_le hk.2 HFR.out.size⟩))⟩, .inr HK2.out.2.2⟩
      · have q3 : decide (z < 0) = false := decide_eq_false hneg
        rw [if_neg (fun h => h.elim hlt (fun h => hneg h.2))] at HS
        clear hlt heq hneg hz
        go_enter Try.func47, Try.ntmps47
        go_wp2_with fail
        refine (HCMP.out _ (Below.refl _ _)).mono ?_
        rintro e w2 ⟨rfl, hd⟩
        obtain ⟨q, rfl⟩ := hd
        have HK2 := Aside0.mk (see_kept (c := c) (W := W.drewN q) (S := S) C0.out C1.out F0.out F1.out (Kd.R_below HRV.out (pw_below_drewN (Below.refl _ _) q)))
        have k0 : (W.drewN q).cell? ⟨S, 0, none⟩ = _ := C0L.out
        have k1 : (W.drewN q).cell? ⟨S, 1, none⟩ = _ := C1.out
        have z0 : (W.drewN q).frozen? ⟨S, 0, none⟩ = false := F0.out
        have z1 : (W.drewN q).frozen? ⟨S, 1, none⟩ = false := F1.out
        have HFR := Aside0.mk (Fr.drewN (fun i => i ≠ S ∧ i < W.heap.size) W q)
        have HJ2 := Aside0.mk (show SeeJ S base (some (w0, d)) (W.drewN q) from ⟨F0.out, F1.out, _, _, C0.out, C1.out, Kd.R_below HRW.out (pw_below_drewN (Below.refl _ _) q)⟩)
        rw [hL'] at HK2
        generalize W.drewN q = w2 at HK2 k0 k1 z0 z1 HFR HJ2 ⊢
        clear c0 c1 f0 f1
        go_wp2
        go_end0
        rw [HS.out]
        exact ⟨⟨⟨_, rfl⟩, HJ2.out, HFR.out⟩, .inl (k0.trans C0L.out.symm)⟩
    · have q2 : (c == d) = false := beq_eq_false_iff_ne.2 heq
      rw [if_neg (fun h => h.elim hlt (fun h => heq h.1))] at HS
      clear hlt heq
      go_enter Try.func47, Try.ntmps47
      go_wp2
      go_end0
      rw [HS.out]
      exact ⟨⟨⟨_, rfl⟩, HJ.out, Fr.refl _ _⟩, .inl rfl⟩
theorem see_callsY {S base : Nat} {st : Option (List Int × Int)} {v : List Int} {c : Int} {ad : Addr} {cap : Nat} {W : World} (hJ : SeeJ S base st W) (hR : Kd.R (Kd.int .i64) 3 W base (fun i => i ≠ S) (.slice (some ad) v.length cap) v) (hl : ∀ w0 d, st = some (w0, d) → v.length = w0.length) (hv : v.length ≤ 1000) :
    Calls Try.prog 47 #[.pointer (some ⟨S, 0, none⟩), .slice (some ad) v.length cap, .int .i64 c] W (SeePostY S base (seeS st v c) (.slice (some ad) v.length cap) W) := by
  cases st with
  | none => exact see_first hJ hR
  | some p => obtain ⟨w0, d⟩ := p; exact see_next hJ hR (hl w0 d rfl) hv
theorem see_calls {S base : Nat} {st : Option (List Int × Int)} {v : List Int} {c : Int} {ad : Addr} {cap : Nat} {W : World} (hJ : SeeJ S base st W) (hR : Kd.R (Kd.int .i64) 3 W base (fun i => i ≠ S) (.slice (some ad) v.length cap) v) (hl : ∀ w0 d, st = some (w0, d) → v.length = w0.length) (hv : v.length ≤ 1000) :
    Calls Try.prog 47 #[.pointer (some ⟨S, 0, none⟩), .slice (some ad) v.length cap, .int .i64 c] W (SeePost S base (seeS st v c) W) :=
  (see_callsY hJ hR hl hv).mono (fun _ _ h => h.1)

end Go.Proofs.Ytdnjbjcfbdclfaa.P
namespace Go.Proofs.Ytdnjbjcfbdclfaa.P
open Go.RowKit Go.Proofs.YtdnjbjcfbdclfaaW.PrintWords Go.Proofs.YtdnjbjcfbdclfaaW.PrintLast Go.Proofs.YtdnjbjcfbdclfaaW.PrintMore
attribute [local go_sem] max2_int min2_int max_two min_two max_three min_three max_four min_four   -- for this text's walks alone
set_option linter.unusedVariables false
set_option linter.unusedSimpArgs false

attribute [local go_sem] Oper.semAt_some
/-! voices.Middle: the first of the voicings with the least sum of costs -/
def costL (n : Int) (v : List Int) (ls : List (List Int)) : Int := ls.foldl (fun c l => wrap64 (c + (bestV n v l).2)) 0
theorem costL_snoc (n : Int) (v : List Int) (ls : List (List Int)) (l : List Int) : costL n v (ls ++ [l]) = wrap64 (costL n v ls + (bestV n v l).2) := by unfold costL; rw [List.foldl_append]; rfl
def midF (n : Int) (ls : List (List Int)) (L : List (List Nat)) : Option (List Int × Int) := L.foldl (fun st v => seeS st (nums v) (costL n (nums v) ls)) none
theorem midF_snoc (n : Int) (ls : List (List Int)) (L : List (List Nat)) (v : List Nat) : midF n ls (L ++ [v]) = seeS (midF n ls L) (nums v) (costL n (nums v) ls) := by unfold midF; rw [List.foldl_append]; rfl
def VcsN (n k : Int) (ls : List (List Int)) : Prop := n ≤ 12 ∧ 1 ≤ k ∧ k ≤ 3 ∧ 1 ≤ ls.length ∧ ls.length ≤ 8 ∧ ((ls.getD 0 []).length : Int) = k ∧ 2 ≤ n ∧ n ≤ 16 ∧ ∀ v ∈ ls, VoiN n v ∧ v.length = (ls.getD 0 []).length
instance (n k : Int) (ls : List (List Int)) : Decidable (VcsN n k ls) := by unfold VcsN; infer_instance
theorem alN_mem {n k : Nat} : ∀ (r f : Nat) (cur : List Nat), f ≤ n → (∀ y ∈ cur, y < n) → cur.length + r = k → ∀ v ∈ alN n r f cur, v.length = k ∧ ∀ y ∈ v, y < n
  | 0, f, cur, _, hc, hk, v, hv => by
    rw [alN, List.mem_singleton] at hv
    subst hv
    exact ⟨by omega, hc⟩
  | r + 1, f, cur, hf, hc, hk, v, hv => by
    rw [alN] at hv
    obtain ⟨i, hi, h⟩ := List.mem_flatMap.1 hv
    rw [List.mem_range] at hi
    refine alN_mem r (f + i) (cur ++ [f + i]) (by omega) (fun y hy => ?_) (by simp; omega) v h
    rcases List.mem_append.1 hy with h | h
    · exact hc y h
    · rw [List.mem_singleton] at h; omega
theorem midF_len {n : Int} {ls : List (List Int)} {m : Nat} : ∀ (L : List (List Nat)), (∀ v ∈ L, v.length = m) → ∀ w d, midF n ls L = some (w, d) → w.length = m := by
  intro L
  have key : ∀ (L : List (List Nat)) (st : Option (List Int × Int)), (∀ v ∈ L, v.length = m) → (∀ w d, st = some (w, d) → w.length = m) → ∀ w d, L.foldl (fun st v => seeS st (nums v) (costL n (nums v) ls)) st = some (w, d) → w.length = m := by
    intro L
    induction L with
    | nil => intro st _ hs w d h; exact hs w d h
    | cons v L ih =>
      intro st hL hs w d h
      rw [List.foldl_cons] at h
      refine ih _ (fun v hv => hL v (by simp [hv])) (fun w d h => ?_) w d h
      have hv := hL v (by simp)
      have hv2 : (nums v).length = m := by rw [nums_length]; exact hv
      cases st with
      | none => simp only [seeS, Option.some.injEq, Prod.mk.injEq] at h; rw [← h.1]; exact hv2
      | some p =>
        obtain ⟨w0, d0⟩ := p
        simp only [seeS] at h
        split at h
        · simp only [Option.some.injEq, Prod.mk.injEq] at h; rw [← h.1]; exact hv2
        · simp only [Option.some.injEq, Prod.mk.injEq] at h; rw [← h.1]; exact hs w0 d0 rfl
  exact fun hL w d h => key L none hL (fun _ _ e => by cases e) w d h
theorem all_calls (n k : Int) (w : World) : Calls Try.prog 46 #[.int .i64 n, .int .i64 k] w fun e w' => e = .returned (.func (.func 57) #[] #[.pointer (some ⟨w.heap.size + 1, 0, none⟩), .pointer (some ⟨w.heap.size, 0, none⟩)]) ∧ w' = (w.alloc (.cells #[.int .i64 n] 49)).alloc (.cells #[.int .i64 k] 3) := by
  have hmf : ∀ (fn : Fn) (first cap : Array Value) (w : World), (Instr.makeFunc fn first cap).run Try.prog w = .ok (.func fn first cap) w := fun _ _ _ _ => rfl
  go_enter Try.func46, Try.ntmps46
  go_wp2
  go_ret
  exact ⟨rfl, rfl⟩
section
/-- what the rounds go by -/
def MidP (B bb : Nat) (A : World) (i : Nat) : Prop := i < B ∨ ∃ v, A.cell? ⟨bb, 0, none⟩ = some v ∧ v.ownBlock = some i
def MidI (n : Int) (ls : List (List Int)) (B bb : Nat) (W5 : World) (pre : List (List Nat)) (W : World) : Prop := SeeJ bb B (midF n ls pre) W ∧ Fr (fun i => i < B ∧ i ≠ bb) W5 W ∧ B ≤ W.heap.size
theorem mid_cell {n : Int} {ls : List (List Int)} {B bb : Nat} {W5 W : World} {pre : List (List Nat)} (h : MidI n ls B bb W5 pre W) : ∃ v, W.cell? ⟨bb, 0, none⟩ = some v ∧ ∀ i, v.ownBlock = some i → i < W.heap.size := by
  obtain ⟨⟨_, _, hst⟩, _⟩ := h
  cases hm : midF n ls pre with
  | none => rw [hm] at hst; exact ⟨_, hst.1, fun i e => by cases e⟩
  | some p =>
    obtain ⟨v, c⟩ := p
    rw [hm] at hst
    obtain ⟨ad, cap, c0, _, hR⟩ := hst
    exact ⟨_, c0, Kd.R_lt hR⟩
theorem mid_pi {n : Int} {ls : List (List Int)} {B bb : Nat} {W5 W : World} {pre : List (List Nat)} (hbb : bb < B) (h : MidI n ls B bb W5 pre W) : AlPI (MidP B bb) W := by
  obtain ⟨v, hv, hlt⟩ := mid_cell h
  refine ⟨fun i hi => ?_, fun W' hf i => ?_⟩
  · rcases hi with hi | ⟨u, hu, hi⟩
    · have := h.2.2; omega
    · rw [hv] at hu; injection hu with hu; subst hu; exact hlt i hi
  · have hc := hf.cell (.inl hbb) 0
    unfold MidP
    rw [hc]
end

end Go.Proofs.Ytdnjbjcfbdclfaa.P
