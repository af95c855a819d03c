/- A part of a proof that a law's Go function returns true for every input, laid by this session's program mp.py (which drives the kit's print). Conditions: as each theorem states them. -/
import Derived.Test.YtdnjbjcfbdclfaaCVoicesRotates1
import Derived.Test.YtdnjbjcfbdclfaaCVoicesRotates5
namespace Go.Proofs.Ytdnjbjcfbdclfaa.P
open Go.RowKit Go.Proofs.YtdnjbjcfbdclfaaW.PrintWords Go.Proofs.YtdnjbjcfbdclfaaW.PrintLast Go.Proofs.YtdnjbjcfbdclfaaW.PrintMore
attribute [local go_sem] max2_int min2_int max_two min_two max_three min_three max_four min_four   -- for this text's walks alone
set_option linter.unusedVariables false
set_option linter.unusedSimpArgs false

/-! ### sackbutref06_Cross: function 28 -/
mutual
def sackbutref06_Cross.l0 : Nat → Int → List Int → List Int → List Int → Int → Int → Option (Bool)
  | 0, _, _, _, _, _, _ => none
  | k + 1, x0, x1, x2, x3, x16, x17 => if x17 < x16 then (sackbutref06_Cross.l1 k x0 x1 x2 x3 x17 x16 x17 (x3.length : Int) 0) else (some false)
def sackbutref06_Cross.l1 : Nat → Int → List Int → List Int → List Int → Int → Int → Int → Int → Int → Option (Bool)
  | 0, _, _, _, _, _, _, _, _, _ => none
  | k + 1, x0, x1, x2, x3, x9, x16, x17, x21, x22 => if x22 < x21 then (if 0 ≤ x9 then (if x9 < (x1.length : Int) then (if 0 ≤ x22 then (if x22 < (x1.length : Int) then (if (rd x1 x9) = (rd x1 x22) then (sackbutref06_Cross.l1 k x0 x1 x2 x3 x9 x16 x17 x21 (wrap64 (x22 + 1))) else (if x9 < (x3.length : Int) then (if 0 ≤ (rd x3 x9) then (if (rd x3 x9) < (x2.length : Int) then ((sackbutref06_Move.f x0 (rd x1 x9) (rd x2 (rd x3 x9))).bind fun t1008 => (if x22 < (x3.length : Int) then (if 0 ≤ (rd x3 x22) then (if (rd x3 x22) < (x2.length : Int) then ((sackbutref06_Move.f x0 (rd x1 x22) (rd x2 (rd x3 x22))).bind fun t1012 => (sackbutref06_Cross.l2 k x0 x1 x2 x3 x9 (wrap64 ((rd x1 x9) - (rd x1 x22))) (wrap64 (t1008 - t1012)) (-2) x16 x17 x21 x22)) else (none)) else (none)) else (none))) else (none)) else (none)) else (none))) else (none)) else (none)) else (none)) else (none)) else (sackbutref06_Cross.l0 k x0 x1 x2 x3 x16 (wrap64 (x17 + 1)))
def sackbutref06_Cross.l2 : Nat → Int → List Int → List Int → List Int → Int → Int → Int → Int → Int → Int → Int → Int → Option (Bool)
  | 0, _, _, _, _, _, _, _, _, _, _, _, _ => none
  | k + 1, x0, x1, x2, x3, x9, x11, x12, x13, x16, x17, x21, x22 => if x13 ≤ 2 then (if (wrap64 ((wrap64 (x13 * x0)) - x11)) > 0 then (if (wrap64 ((wrap64 (x13 * x0)) - x11)) < x12 then (some true) else (if (wrap64 ((wrap64 (x13 * x0)) - x11)) < 0 then (if (wrap64 ((wrap64 (x13 * x0)) - x11)) > x12 then (some true) else (sackbutref06_Cross.l2 k x0 x1 x2 x3 x9 x11 x12 (wrap64 (x13 + 1)) x16 x17 x21 x22)) else (sackbutref06_Cross.l2 k x0 x1 x2 x3 x9 x11 x12 (wrap64 (x13 + 1)) x16 x17 x21 x22))) else (if (wrap64 ((wrap64 (x13 * x0)) - x11)) < 0 then (if (wrap64 ((wrap64 (x13 * x0)) - x11)) > x12 then (some true) else (sackbutref06_Cross.l2 k x0 x1 x2 x3 x9 x11 x12 (wrap64 (x13 + 1)) x16 x17 x21 x22)) else (sackbutref06_Cross.l2 k x0 x1 x2 x3 x9 x11 x12 (wrap64 (x13 + 1)) x16 x17 x21 x22))) else (sackbutref06_Cross.l1 k x0 x1 x2 x3 x9 x16 x17 x21 (wrap64 (x22 + 1)))
end
def sackbutref06_Cross.f (k : Nat) (a0 : Int) (l1 : List Int) (l2 : List Int) (l3 : List Int) : Option (Bool) := sackbutref06_Cross.l0 k a0 l1 l2 l3 (l3.length : Int) 0
theorem sackbutref06_Cross.mono_l : ∀ k, (∀ y0 y1 y2 y3 y4 y5, LeO (sackbutref06_Cross.l0 k y0 y1 y2 y3 y4 y5) (sackbutref06_Cross.l0 (k + 1) y0 y1 y2 y3 y4 y5)) ∧ (∀ y0 y1 y2 y3 y4 y5 y6 y7 y8, LeO (sackbutref06_Cross.l1 k y0 y1 y2 y3 y4 y5 y6 y7 y8) (sackbutref06_Cross.l1 (k + 1) y0 y1 y2 y3 y4 y5 y6 y7 y8)) ∧ (∀ y0 y1 y2 y3 y4 y5 y6 y7 y8 y9 y10 y11, LeO (sackbutref06_Cross.l2 k y0 y1 y2 y3 y4 y5 y6 y7 y8 y9 y10 y11) (sackbutref06_Cross.l2 (k + 1) y0 y1 y2 y3 y4 y5 y6 y7 y8 y9 y10 y11))
  | 0 => ⟨fun _ _ _ _ _ _ r h => by simp [sackbutref06_Cross.l0] at h, fun _ _ _ _ _ _ _ _ _ r h => by simp [sackbutref06_Cross.l1] at h, fun _ _ _ _ _ _ _ _ _ _ _ _ r h => by simp [sackbutref06_Cross.l2] at h⟩
  | k + 1 => by
    obtain ⟨ih0, ih1, ih2⟩ := sackbutref06_Cross.mono_l k
    refine ⟨?_, ?_, ?_⟩
    · intro y0 y1 y2 y3 y4 y5
      unfold sackbutref06_Cross.l0
      repeat' first
      | (with_reducible exact ih0 _ _ _ _ _ _)
      | (with_reducible exact ih1 _ _ _ _ _ _ _ _ _)
      | (with_reducible exact ih2 _ _ _ _ _ _ _ _ _ _ _ _)
      | (with_reducible exact LeO.refl _)
      | (with_reducible exact LeO.none _)
      | (with_reducible refine LeO.ite ?_ ?_)
      | (with_reducible refine LeO.bind ?_ (fun _ => ?_))
      | exact ih0 _ _ _ _ _ _
      | exact ih1 _ _ _ _ _ _ _ _ _
      | exact ih2 _ _ _ _ _ _ _ _ _ _ _ _
      | exact LeO.none _
      | refine LeO.ite ?_ ?_
      | refine LeO.bind ?_ (fun _ => ?_)
    · intro y0 y1 y2 y3 y4 y5 y6 y7 y8
      unfold sackbutref06_Cross.l1
      repeat' first
      | (with_reducible exact ih0 _ _ _ _ _ _)
      | (with_reducible exact ih1 _ _ _ _ _ _ _ _ _)
      | (with_reducible exact ih2 _ _ _ _ _ _ _ _ _ _ _ _)
      | (with_reducible exact LeO.refl _)
      | (with_reducible exact LeO.none _)
      | (with_reducible refine LeO.ite ?_ ?_)
      | (with_reducible refine LeO.bind ?_ (fun _ => ?_))
      | exact ih0 _ _ _ _ _ _
      | exact ih1 _ _ _ _ _ _ _ _ _
      | exact ih2 _ _ _ _ _ _ _ _ _ _ _ _
      | exact LeO.none _
      | refine LeO.ite ?_ ?_
      | refine LeO.bind ?_ (fun _ => ?_)
    · intro y0 y1 y2 y3 y4 y5 y6 y7 y8 y9 y10 y11
      unfold sackbutref06_Cross.l2
      repeat' first
      | (with_reducible exact ih0 _ _ _ _ _ _)
      | (with_reducible exact ih1 _ _ _ _ _ _ _ _ _)
      | (with_reducible exact ih2 _ _ _ _ _ _ _ _ _ _ _ _)
      | (with_reducible exact LeO.refl _)
      | (with_reducible exact LeO.none _)
      | (with_reducible refine LeO.ite ?_ ?_)
      | (with_reducible refine LeO.bind ?_ (fun _ => ?_))
      | exact ih0 _ _ _ _ _ _
      | exact ih1 _ _ _ _ _ _ _ _ _
      | exact ih2 _ _ _ _ _ _ _ _ _ _ _ _
      | exact LeO.none _
      | refine LeO.ite ?_ ?_
      | refine LeO.bind ?_ (fun _ => ?_)
theorem sackbutref06_Cross.mono : ∀ a0 a1 a2 a3 k, LeO (sackbutref06_Cross.f k a0 a1 a2 a3) (sackbutref06_Cross.f (k + 1) a0 a1 a2 a3) := by
  intro a0 a1 a2 a3 k
  obtain ⟨ih0, ih1, ih2⟩ := sackbutref06_Cross.mono_l k
  unfold sackbutref06_Cross.f
  repeat' first
      | (with_reducible exact ih0 _ _ _ _ _ _)
      | (with_reducible exact ih1 _ _ _ _ _ _ _ _ _)
      | (with_reducible exact ih2 _ _ _ _ _ _ _ _ _ _ _ _)
      | (with_reducible exact LeO.refl _)
      | (with_reducible exact LeO.none _)
      | (with_reducible refine LeO.ite ?_ ?_)
      | (with_reducible refine LeO.bind ?_ (fun _ => ?_))
      | exact ih0 _ _ _ _ _ _
      | exact ih1 _ _ _ _ _ _ _ _ _
      | exact ih2 _ _ _ _ _ _ _ _ _ _ _ _
      | exact LeO.none _
      | refine LeO.ite ?_ ?_
      | refine LeO.bind ?_ (fun _ => ?_)
set_option maxHeartbeats 8000000 in
set_option maxRecDepth 100000 in
theorem sackbutref06_Cross.calls (k : Nat) (a0 : Int) (A1 : Option Addr) (c1 : Nat) (l1 : List Int) (A2 : Option Addr) (c2 : Nat) (l2 : List Int) (A3 : Option Addr) (c3 : Nat) (l3 : List Int) (r : Bool) (w : World) (hr1 : Kd.C (Kd.int .i64) w A1 l1.length l1) (hc1 : l1.length ≤ c1) (hr2 : Kd.C (Kd.int .i64) w A2 l2.length l2) (hc2 : l2.length ≤ c2) (hr3 : Kd.C (Kd.int .i64) w A3 l3.length l3) (hc3 : l3.length ≤ c3) (h : sackbutref06_Cross.f k a0 l1 l2 l3 = some r) :
    Calls Try.prog 28 #[.int .i64 a0, .slice A1 l1.length c1, .slice A2 l2.length c2, .slice A3 l3.length c3] w fun e w' => e = .returned (.bool r) ∧ Drawn0 w w' := by
  have HR1 := Aside0.mk hr1
  have HC1 := Aside0.mk hc1
  clear hr1 hc1
  have HR2 := Aside0.mk hr2
  have HC2 := Aside0.mk hc2
  clear hr2 hc2
  have HR3 := Aside0.mk hr3
  have HC3 := Aside0.mk hc3
  clear hr3 hc3
  have H : (sackbutref06_Cross.l0 k a0 l1 l2 l3 (l3.length : Int) 0) = some r := h
  clear h
  have H' := Aside0.mk H
  clear H
  go_enter Try.func28, Try.ntmps28
  go_wp2
  repeat (go_quiet (fail); try go_wp2)
  go_loopg [17] k (fun kq v17 w' => ∃ (x17_1 : Int), v17 = .int .i64 x17_1 ∧ Aside0 (sackbutref06_Cross.l0 kq a0 l1 l2 l3 (l3.length : Int) x17_1 = some r) ∧ Aside0 (kq ≤ k) ∧ Drawn0 w w')
  case atStart => exact ⟨(0), (by first | rfl | (simp; done) | (simp [*]; done)), H', ⟨Nat.le_refl _⟩, by repeat (first | exact Drawn0.refl _ | apply Drawn0.step)⟩
  case round =>
    clear H'
    try clear c1
    try clear c2
    try clear p2
    try clear c3
    obtain ⟨x17_1, rfl, HA, HK1, ⟨m1, rfl⟩⟩ := hrel
    cases gk with
    | zero => exact absurd HA.out (by simp [sackbutref06_Cross.l0])
    | succ k1 =>
      have H := HA.out
      clear HA
      simp only [sackbutref06_Cross.l0] at H
      by_cases c5 : x17_1 < (l3.length : Int)
      · rw [if_pos c5] at H
        have c5b0 : decide (x17_1 < (l3.length : Int)) = true := decide_eq_true c5
        clear c5
        have H' := Aside0.mk H
        clear H
        go_wp2
        repeat (go_quiet (fail); try go_wp2)
        go_loopg [22] k1 (fun kq v22 w' => ∃ (x22_2 : Int), v22 = .int .i64 x22_2 ∧ Aside0 (sackbutref06_Cross.l1 kq a0 l1 l2 l3 x17_1 (l3.length : Int) x17_1 (l3.length : Int) x22_2 = some r) ∧ Aside0 (kq ≤ k1) ∧ Drawn0 w w')
        case atStart => exact ⟨(0), (by first | rfl | (simp; done) | (simp [*]; done)), H', ⟨Nat.le_refl _⟩, by repeat (first | exact Drawn0.refl _ | apply Drawn0.step)⟩
        case round =>
          clear H'
          try clear c1
          try clear c2
          try clear p2
          try clear c3
          try clear c5
          try clear c5b0
          try clear p2
          obtain ⟨x22_2, rfl, HA, HK2, ⟨m2, rfl⟩⟩ := hrel
          cases gk with
          | zero => exact absurd HA.out (by simp [sackbutref06_Cross.l1])
          | succ k2 =>
            have H := HA.out
            clear HA
            simp only [sackbutref06_Cross.l1] at H
            by_cases c6 : x22_2 < (l3.length : Int)
            · rw [if_pos c6] at H
              have c6b0 : decide (x22_2 < (l3.length : Int)) = true := decide_eq_true c6
              clear c6
              by_cases c7 : 0 ≤ x17_1
              · rw [if_pos c7] at H
                have c7b0 : decide (0 ≤ x17_1) = true := decide_eq_true c7
                clear c7
                by_cases c8 : x17_1 < (l1.length : Int)
                · rw [if_pos c8] at H
                  have c8b0 : decide (x17_1 < (l1.length : Int)) = true := decide_eq_true c8
                  clear c8
                  by_cases c9 : 0 ≤ x22_2
                  · rw [if_pos c9] at H
                    have c9b0 : decide (0 ≤ x22_2) = true := decide_eq_true c9
                    clear c9
                    by_cases c10 : x22_2 < (l1.length : Int)
                    · rw [if_pos c10] at H
                      have c10b0 : decide (x22_2 < (l1.length : Int)) = true := decide_eq_true c10
                      clear c10
                      by_cases c11 : (rd l1 x17_1) = (rd l1 x22_2)
                      · rw [if_pos c11] at H
                        have c11b0 : ((rd l1 x17_1) == (rd l1 x22_2)) = true := beq_iff_eq.mpr c11
                        have c11b1 : ((rd l1 x17_1) != (rd l1 x22_2)) = false := bne_eq_false_iff_eq.mpr c11
                        clear c11
                        have H' := Aside0.mk H
                        clear H
                        have p1001 : 0 ≤ (x17_1 : Int) := of_decide_eq_true (by first | (with_reducible assumption) | assumption)
                        have q1001 : x17_1 < (l1.length : Int) := of_decide_eq_true (by first | (with_reducible assumption) | assumption)
                        obtain ⟨ad1001, e1001, hx1001_0⟩ := Kd.at_int HR1.out x17_1 p1001 q1001
                        cases e1001
                        replace p1001 := eq_true p1001
                        replace q1001 := eq_true q1001
                        have p1002 : 0 ≤ (x22_2 : Int) := of_decide_eq_true (by first | (with_reducible assumption) | assumption)
                        have q1002 : x22_2 < (l1.length : Int) := of_decide_eq_true (by first | (with_reducible assumption) | assumption)
                        obtain ⟨ad1002, e1002, hx1002_0⟩ := Kd.at_int HR1.out x22_2 p1002 q1002
                        obtain rfl : ad1001 = ad1002 := (by injection e1002)
                        replace p1002 := eq_true p1002
                        replace q1002 := eq_true q1002
                        go_wp2
                        repeat (go_quiet (fail); try go_wp2)
                        go_roundg k2
                        case measure => have := HK1.out; have := HK2.out; omega
                        case rel => exact ⟨(wrap64 (x22_2 + 1)), (by first | rfl | (simp; done) | (simp [*]; done)), H', ⟨by have := HK1.out; have := HK2.out; omega⟩, by repeat (first | exact Drawn0.refl _ | apply Drawn0.step)⟩
                      · rw [if_neg c11] at H
                        have c11b0 : ((rd l1 x17_1) == (rd l1 x22_2)) = false := beq_eq_false_iff_ne.mpr c11
                        have c11b1 : ((rd l1 x17_1) != (rd l1 x22_2)) = true := bne_iff_ne.mpr c11
                        by_cases c12 : x17_1 < (l3.length : Int)
                        · rw [if_pos c12] at H
                          have c12b0 : decide (x17_1 < (l3.length : Int)) = true := decide_eq_true c12
                          clear c12
                          by_cases c13 : 0 ≤ (rd l3 x17_1)
                          · rw [if_pos c13] at H
                            have c13b0 : decide (0 ≤ (rd l3 x17_1)) = true := decide_eq_true c13
                            clear c13
                            by_cases c14 : (rd l3 x17_1) < (l2.length : Int)
                            · rw [if_pos c14] at H
                              have c14b0 : decide ((rd l3 x17_1) < (l2.length : Int)) = true := decide_eq_true c14
                              clear c14
                              replace H := Option.bind_eq_some_iff.mp H
                              obtain ⟨t1008, A150, H⟩ := H
                              replace H : (if x22_2 < (l3.length : Int) then (if 0 ≤ (rd l3 x22_2) then (if (rd l3 x22_2) < (l2.length : Int) then ((sackbutref06_Move.f a0 (rd l1 x22_2) (rd l2 (rd l3 x22_2))).bind fun t1012 => (sackbutref06_Cross.l2 k2 a0 l1 l2 l3 x17_1 (wrap64 ((rd l1 x17_1) - (rd l1 x22_2))) (wrap64 (t1008 - t1012)) (-2) (l3.length : Int) x17_1 (l3.length : Int) x22_2)) else (none)) else (none)) else (none)) = some r := H
                              have A15 := Aside0.mk A150
                              clear A150
                              by_cases c16 : x22_2 < (l3.length : Int)
                              · rw [if_pos c16] at H
                                have c16b0 : decide (x22_2 < (l3.length : Int)) = true := decide_eq_true c16
                                clear c16
                                by_cases c17 : 0 ≤ (rd l3 x22_2)
                                · rw [if_pos c17] at H
                                  have c17b0 : decide (0 ≤ (rd l3 x22_2)) = true := decide_eq_true c17
                                  clear c17
                                  by_cases c18 : (rd l3 x22_2) < (l2.length : Int)
                                  · rw [if_pos c18] at H
                                    have c18b0 : decide ((rd l3 x22_2) < (l2.length : Int)) = true := decide_eq_true c18
                                    clear c18
                                    replace H := Option.bind_eq_some_iff.mp H
                                    obtain ⟨t1012, A190, H⟩ := H
                                    replace H : (sackbutref06_Cross.l2 k2 a0 l1 l2 l3 x17_1 (wrap64 ((rd l1 x17_1) - (rd l1 x22_2))) (wrap64 (t1008 - t1012)) (-2) (l3.length : Int) x17_1 (l3.length : Int) x22_2) = some r := H
                                    have A19 := Aside0.mk A190
                                    clear A190
                                    have H' := Aside0.mk H
                                    clear H
                                    have p1001 : 0 ≤ (x17_1 : Int) := of_decide_eq_true (by first | (with_reducible assumption) | assumption)
                                    have q1001 : x17_1 < (l1.length : Int) := of_decide_eq_true (by first | (with_reducible assumption) | assumption)
                                    obtain ⟨ad1001, e1001, hx1001_0⟩ := Kd.at_int HR1.out x17_1 p1001 q1001
                                    cases e1001
                                    replace p1001 := eq_true p1001
                                    replace q1001 := eq_true q1001
                                    have p1002 : 0 ≤ (x22_2 : Int) := of_decide_eq_true (by first | (with_reducible assumption) | assumption)
                                    have q1002 : x22_2 < (l1.length : Int) := of_decide_eq_true (by first | (with_reducible assumption) | assumption)
                                    obtain ⟨ad1002, e1002, hx1002_0⟩ := Kd.at_int HR1.out x22_2 p1002 q1002
                                    obtain rfl : ad1001 = ad1002 := (by injection e1002)
                                    replace p1002 := eq_true p1002
                                    replace q1002 := eq_true q1002
                                    have p1003 : 0 ≤ (x17_1 : Int) := of_decide_eq_true (by first | (with_reducible assumption) | assumption)
                                    have q1003 : x17_1 < (l1.length : Int) := of_decide_eq_true (by first | (with_reducible assumption) | assumption)
                                    obtain ⟨ad1003, e1003, hx1003_0⟩ := Kd.at_int HR1.out x17_1 p1003 q1003
                                    obtain rfl : ad1001 = ad1003 := (by injection e1003)
                                    replace p1003 := eq_true p1003
                                    replace q1003 := eq_true q1003
                                    have p1004 : 0 ≤ (x22_2 : Int) := of_decide_eq_true (by first | (with_reducible assumption) | assumption)
                                    have q1004 : x22_2 < (l1.length : Int) := of_decide_eq_true (by first | (with_reducible assumption) | assumption)
                                    obtain ⟨ad1004, e1004, hx1004_0⟩ := Kd.at_int HR1.out x22_2 p1004 q1004
                                    obtain rfl : ad1001 = ad1004 := (by injection e1004)
                                    replace p1004 := eq_true p1004
                                    replace q1004 := eq_true q1004
                                    have p1005 : 0 ≤ (x17_1 : Int) := of_decide_eq_true (by first | (with_reducible assumption) | assumption)
                                    have q1005 : x17_1 < (l1.length : Int) := of_decide_eq_true (by first | (with_reducible assumption) | assumption)
                                    obtain ⟨ad1005, e1005, hx1005_0⟩ := Kd.at_int HR1.out x17_1 p1005 q1005
                                    obtain rfl : ad1001 = ad1005 := (by injection e1005)
                                    replace p1005 := eq_true p1005
                                    replace q1005 := eq_true q1005
                                    have p1006 : 0 ≤ (x17_1 : Int) := of_decide_eq_true (by first | (with_reducible assumption) | assumption)
                                    have q1006 : x17_1 < (l3.length : Int) := of_decide_eq_true (by first | (with_reducible assumption) | assumption)
                                    obtain ⟨ad1006, e1006, hx1006_0⟩ := Kd.at_int HR3.out x17_1 p1006 q1006
                                    cases e1006
                                    replace p1006 := eq_true p1006
                                    replace q1006 := eq_true q1006
                                    have p1007 : 0 ≤ ((rd l3 x17_1) : Int) := of_decide_eq_true (by first | (with_reducible assumption) | assumption)
                                    have q1007 : (rd l3 x17_1) < (l2.length : Int) := of_decide_eq_true (by first | (with_reducible assumption) | assumption)
                                    obtain ⟨ad1007, e1007, hx1007_0⟩ := Kd.at_int HR2.out (rd l3 x17_1) p1007 q1007
                                    cases e1007
                                    replace p1007 := eq_true p1007
                                    replace q1007 := eq_true q1007
                                    go_wp2_with (first | (go_at_call 45; (with_reducible refine (sackbutref06_Move.calls a0 (rd l1 x17_1) (rd l2 (rd l3 x17_1)) t1008 _ A15.out).mono ?_); rintro e w' ⟨rfl, ⟨nd, rfl⟩⟩; (try first | exact ⟨rfl, _, World.drewN_drewN _ _ _⟩ | exact ⟨rfl, _, Eq.trans (World.drewN_drewN _ _ _) (congrArg (World.drewN _) (Nat.add_assoc _ _ _))⟩); have p1009 : 0 ≤ (x22_2 : Int) := of_decide_eq_true (by first | (with_reducible assumption) | assumption); have q1009 : x22_2 < (l1.length : Int) := of_decide_eq_true (by first | (with_reducible assumption) | assumption); obtain ⟨ad1009, e1009, hx1009_0⟩ := Kd.at_int HR1.out x22_2 p1009 q1009; obtain rfl : ad1001 = ad1009 := (by injection e1009); replace p1009 := eq_true p1009; replace q1009 := eq_true q1009; have p1010 : 0 ≤ (x22_2 : Int) := of_decide_eq_true (by first | (with_reducible assumption) | assumption); have q1010 : x22_2 < (l3.length : Int) := of_decide_eq_true (by first | (with_reducible assumption) | assumption); obtain ⟨ad1010, e1010, hx1010_0⟩ := Kd.at_int HR3.out x22_2 p1010 q1010; obtain rfl : ad1006 = ad1010 := (by injection e1010); replace p1010 := eq_true p1010; replace q1010 := eq_true q1010; have p1011 : 0 ≤ ((rd l3 x22_2) : Int) := of_decide_eq_true (by first | (with_reducible assumption) | assumption); have q1011 : (rd l3 x22_2) < (l2.length : Int) := of_decide_eq_true (by first | (with_reducible assumption) | assumption); obtain ⟨ad1011, e1011, hx1011_0⟩ := Kd.at_int HR2.out (rd l3 x22_2) p1011 q1011; obtain rfl : ad1007 = ad1011 := (by injection e1011); replace p1011 := eq_true p1011; replace q1011 := eq_true q1011) | (go_at_call 45; (with_reducible refine (sackbutref06_Move.calls a0 (rd l1 x22_2) (rd l2 (rd l3 x22_2)) t1012 _ A19.out).mono ?_); rintro e w' ⟨rfl, ⟨nd, rfl⟩⟩; (try first | exact ⟨rfl, _, World.drewN_drewN _ _ _⟩ | exact ⟨rfl, _, Eq.trans (World.drewN_drewN _ _ _) (congrArg (World.drewN _) (Nat.add_assoc _ _ _))⟩)))
                                    repeat (go_quiet (first | (go_at_call 45; (with_reducible refine (sackbutref06_Move.calls a0 (rd l1 x17_1) (rd l2 (rd l3 x17_1)) t1008 _ A15.out).mono ?_); rintro e w' ⟨rfl, ⟨nd, rfl⟩⟩; (try first | exact ⟨rfl, _, World.drewN_drewN _ _ _⟩ | exact ⟨rfl, _, Eq.trans (World.drewN_drewN _ _ _) (congrArg (World.drewN _) (Nat.add_assoc _ _ _))⟩); have p1009 : 0 ≤ (x22_2 : Int) := of_decide_eq_true (by first | (with_reducible assumption) | assumption); have q1009 : x22_2 < (l1.length : Int) := of_decide_eq_true (by first | (with_reducible assumption) | assumption); obtain ⟨ad1009, e1009, hx1009_0⟩ := Kd.at_int HR1.out x22_2 p1009 q1009; obtain rfl : ad1001 = ad1009 := (by injection e1009); replace p1009 := eq_true p1009; replace q1009 := eq_true q1009; have p1010 : 0 ≤ (x22_2 : Int) := of_decide_eq_true (by first | (with_reducible assumption) | assumption); have q1010 : x22_2 < (l3.length : Int) := of_decide_eq_true (by first | (with_reducible assumption) | assumption); obtain ⟨ad1010, e1010, hx1010_0⟩ := Kd.at_int HR3.out x22_2 p1010 q1010; obtain rfl : ad1006 = ad1010 := (by injection e1010); replace p1010 := eq_true p1010; replace q1010 := eq_true q1010; have p1011 : 0 ≤ ((rd l3 x22_2) : Int) := of_decide_eq_true (by first | (with_reducible assumption) | assumption); have q1011 : (rd l3 x22_2) < (l2.length : Int) := of_decide_eq_true (by first | (with_reducible assumption) | assumption); obtain ⟨ad1011, e1011, hx1011_0⟩ := Kd.at_int HR2.out (rd l3 x22_2) p1011 q1011; obtain rfl : ad1007 = ad1011 := (by injection e1011); replace p1011 := eq_true p1011; replace q1011 := eq_true q1011) | (go_at_call 45; (with_reducible refine (sackbutref06_Move.calls a0 (rd l1 x22_2) (rd l2 (rd l3 x22_2)) t1012 _ A19.out).mono ?_); rintro e w' ⟨rfl, ⟨nd, rfl⟩⟩; (try first | exact ⟨rfl, _, World.drewN_drewN _ _ _⟩ | exact ⟨rfl, _, Eq.trans (World.drewN_drewN _ _ _) (congrArg (World.drewN _) (Nat.add_assoc _ _ _))⟩))); try go_wp2_with (first | (go_at_call 45; (with_reducible refine (sackbutref06_Move.calls a0 (rd l1 x17_1) (rd l2 (rd l3 x17_1)) t1008 _ A15.out).mono ?_); rintro e w' ⟨rfl, ⟨nd, rfl⟩⟩; (try first | exact ⟨rfl, _, World.drewN_drewN _ _ _⟩ | exact ⟨rfl, _, Eq.trans (World.drewN_drewN _ _ _) (congrArg (World.drewN _) (Nat.add_assoc _ _ _))⟩); have p1009 : 0 ≤ (x22_2 : Int) := of_decide_eq_true (by first | (with_reducible assumption) | assumption); have q1009 : x22_2 < (l1.length : Int) := of_decide_eq_true (by first | (with_reducible assumption) | assumption); obtain ⟨ad1009, e1009, hx1009_0⟩ := Kd.at_int HR1.out x22_2 p1009 q1009; obtain rfl : ad1001 = ad1009 := (by injection e1009); replace p1009 := eq_true p1009; replace q1009 := eq_true q1009; have p1010 : 0 ≤ (x22_2 : Int) := of_decide_eq_true (by first | (with_reducible assumption) | assumption); have q1010 : x22_2 < (l3.length : Int) := of_decide_eq_true (by first | (with_reducible assumption) | assumption); obtain ⟨ad1010, e1010, hx1010_0⟩ := Kd.at_int HR3.out x22_2 p1010 q1010; obtain rfl : ad1006 = ad1010 := (by injection e1010); replace p1010 := eq_true p1010; replace q1010 := eq_true q1010; have p1011 : 0 ≤ ((rd l3 x22_2) : Int) := of_decide_eq_true (by first | (with_reducible assumption) | assumption); have q1011 : (rd l3 x22_2) < (l2.length : Int) := of_decide_eq_true (by first | (with_reducible assumption) | assumption); obtain ⟨ad1011, e1011, hx1011_0⟩ := Kd.at_int HR2.out (rd l3 x22_2) p1011 q1011; obtain rfl : ad1007 = ad1011 := (by injection e1011); replace p1011 := eq_true p1011; replace q1011 := eq_true q1011) | (go_at_call 45; (with_reducible refine (sackbutref06_Move.calls a0 (rd l1 x22_2) (rd l2 (rd l3 x22_2)) t1012 _ A19.out).mono ?_); rintro e w' ⟨rfl, ⟨nd, rfl⟩⟩; (try first | exact ⟨rfl, _, World.drewN_drewN _ _ _⟩ | exact ⟨rfl, _, Eq.trans (World.drewN_drewN _ _ _) (congrArg (World.drewN _) (Nat.add_assoc _ _ _))⟩))))
                                    go_loopg [13] k2 (fun kq v13 w' => ∃ (x13_3 : Int), v13 = .int .i64 x13_3 ∧ Aside0 (sackbutref06_Cross.l2 kq a0 l1 l2 l3 x17_1 (wrap64 ((rd l1 x17_1) - (rd l1 x22_2))) (wrap64 (t1008 - t1012)) x13_3 (l3.length : Int) x17_1 (l3.length : Int) x22_2 = some r) ∧ Aside0 (kq ≤ k2) ∧ Drawn0 w w')
                                    case atStart => exact ⟨((-2)), (by first | rfl | (simp; done) | (simp [*]; done)), H', ⟨Nat.le_refl _⟩, by repeat (first | exact Drawn0.refl _ | apply Drawn0.step)⟩
                                    case round =>
                                      clear H'
                                      try clear c1
                                      try clear p1
                                      try clear q1
                                      try clear hx1
                                      try clear c2
                                      try clear p2
                                      try clear c3
                                      try clear c5
                                      try clear c5b0
                                      try clear c6
                                      try clear c6b0
                                      try clear p6
                                      try clear c7
                                      try clear c7b0
                                      try clear c8
                                      try clear c8b0
                                      try clear c9
                                      try clear c9b0
                                      try clear c10
                                      try clear c10b0
                                      try clear p10
                                      try clear q10
                                      try clear hx10
                                      try clear c11
                                      try clear c11b0
                                      try clear c11b1
                                      try clear c12
                                      try clear c12b0
                                      try clear c13
                                      try clear c13b0
                                      try clear c14
                                      try clear c14b0
                                      try clear c16
                                      try clear c16b0
                                      try clear c17
                                      try clear c17b0
                                      try clear c18
                                      try clear c18b0
                                      try clear hx1001_0
                                      try clear hx1002_0
                                      try clear hx1003_0
                                      try clear hx1004_0
                                      try clear hx1005_0
                                      try clear hx1006_0
                                      try clear hx1007_0
                                      try clear hx1009_0
                                      try clear hx1010_0
                                      try clear hx1011_0
                                      try clear p1001
                                      try clear p1002
                                      try clear p1003
                                      try clear p1004
                                      try clear p1005
                                      try clear p1006
                                      try clear p1007
                                      try clear p1009
                                      try clear p1010
                                      try clear p1011
                                      try clear p2
                                      try clear q1001
                                      try clear q1002
                                      try clear q1003
                                      try clear q1004
                                      try clear q1005
                                      try clear q1006
                                      try clear q1007
                                      try clear q1009
                                      try clear q1010
                                      try clear q1011
                                      obtain ⟨x13_3, rfl, HA, HK3, ⟨m3, rfl⟩⟩ := hrel
                                      cases gk with
                                      | zero => exact absurd HA.out (by simp [sackbutref06_Cross.l2])
                                      | succ k3 =>
                                        have H := HA.out
                                        clear HA
                                        simp only [sackbutref06_Cross.l2] at H
                                        by_cases c20 : x13_3 ≤ 2
                                        · rw [if_pos c20] at H
                                          have c20b0 : decide (x13_3 ≤ 2) = true := decide_eq_true c20
                                          clear c20
                                          by_cases c21 : (wrap64 ((wrap64 (x13_3 * a0)) - (wrap64 ((rd l1 x17_1) - (rd l1 x22_2))))) > 0
                                          · rw [if_pos c21] at H
                                            have c21b0 : decide (0 < (wrap64 ((wrap64 (x13_3 * a0)) - (wrap64 ((rd l1 x17_1) - (rd l1 x22_2)))))) = true := decide_eq_true c21
                                            clear c21
                                            by_cases c22 : (wrap64 ((wrap64 (x13_3 * a0)) - (wrap64 ((rd l1 x17_1) - (rd l1 x22_2))))) < (wrap64 (t1008 - t1012))
                                            · rw [if_pos c22] at H
                                              have c22b0 : decide ((wrap64 ((wrap64 (x13_3 * a0)) - (wrap64 ((rd l1 x17_1) - (rd l1 x22_2))))) < (wrap64 (t1008 - t1012))) = true := decide_eq_true c22
                                              clear c22
                                              obtain rfl := Option.some.inj H
                                              go_wp2
                                              repeat (go_quiet (fail); try go_wp2)
                                              go_ret
                                              exact ⟨by first | rfl | (simp; done) | (simp [*]; done), by repeat (first | exact Drawn0.refl _ | apply Drawn0.step)⟩
                                            · rw [if_neg c22] at H
                                              have c22b0 : decide ((wrap64 ((wrap64 (x13_3 * a0)) - (wrap64 ((rd l1 x17_1) - (rd l1 x22_2))))) < (wrap64 (t1008 - t1012))) = false := decide_eq_false c22
                                              clear c22
                                              by_cases c23 : (wrap64 ((wrap64 (x13_3 * a0)) - (wrap64 ((rd l1 x17_1) - (rd l1 x22_2))))) < 0
                                              · rw [if_pos c23] at H
                                                have c23b0 : decide ((wrap64 ((wrap64 (x13_3 * a0)) - (wrap64 ((rd l1 x17_1) - (rd l1 x22_2))))) < 0) = true := decide_eq_true c23
                                                clear c23
                                                by_cases c24 : (wrap64 ((wrap64 (x13_3 * a0)) - (wrap64 ((rd l1 x17_1) - (rd l1 x22_2))))) > (wrap64 (t1008 - t1012))
                                                · rw [if_pos c24] at H
                                                  have c24b0 : decide ((wrap64 (t1008 - t1012)) < (wrap64 ((wrap64 (x13_3 * a0)) - (wrap64 ((rd l1 x17_1) - (rd l1 x22_2)))))) = true := decide_eq_true c24
                                                  clear c24
                                                  obtain rfl := Option.some.inj H
                                                  go_wp2
                                                  repeat (go_quiet (fail); try go_wp2)
                                                  go_ret
                                                  exact ⟨by first | rfl | (simp; done) | (simp [*]; done), by repeat (first | exact Drawn0.refl _ | apply Drawn0.step)⟩
                                                · rw [if_neg c24] at H
                                                  have c24b0 : decide ((wrap64 (t1008 - t1012)) < (wrap64 ((wrap64 (x13_3 * a0)) - (wrap64 ((rd l1 x17_1) - (rd l1 x22_2)))))) = false := decide_eq_false c24
                                                  clear c24
                                                  have H' := Aside0.mk H
                                                  clear H
                                                  go_wp2
                                                  repeat (go_quiet (fail); try go_wp2)
                                                  go_roundg k3
                                                  case measure => have := HK1.out; have := HK2.out; have := HK3.out; omega
                                                  case rel => exact ⟨(wrap64 (x13_3 + 1)), (by first | rfl | (simp; done) | (simp [*]; done)), H', ⟨by have := HK1.out; have := HK2.out; have := HK3.out; omega⟩, by repeat (first | exact Drawn0.refl _ | apply Drawn0.step)⟩
                                              · rw [if_neg c23] at H
                                                have c23b0 : decide ((wrap64 ((wrap64 (x13_3 * a0)) - (wrap64 ((rd l1 x17_1) - (rd l1 x22_2))))) < 0) = false := decide_eq_false c23
                                                clear c23
                                                have H' := Aside0.mk H
                                                clear H
                                                go_wp2
                                                repeat (go_quiet (fail); try go_wp2)
                                                go_roundg k3
                                                case measure => have := HK1.out; have := HK2.out; have := HK3.out; omega
                                                case rel => exact ⟨(wrap64 (x13_3 + 1)), (by first | rfl | (simp; done) | (simp [*]; done)), H', ⟨by have := HK1.out; have := HK2.out; have := HK3.out; omega⟩, by repeat (first | exact Drawn0.refl _ | apply Drawn0.step)⟩
                                          · rw [if_neg c21] at H
                                            have c21b0 : decide (0 < (wrap64 ((wrap64 (x13_3 * a0)) - (wrap64 ((rd l1 x17_1) - (rd l1 x22_2)))))) = false := decide_eq_false c21
                                            clear c21
                                            by_cases c25 : (wrap64 ((wrap64 (x13_3 * a0)) - (wrap64 ((rd l1 x17_1) - (rd l1 x22_2))))) < 0
                                            · rw [if_pos c25] at H
                                              have c25b0 : decide ((wrap64 ((wrap64 (x13_3 * a0)) - (wrap64 ((rd l1 x17_1) - (rd l1 x22_2))))) < 0) = true := decide_eq_true c25
                                              clear c25
                                              by_cases c26 : (wrap64 ((wrap64 (x13_3 * a0)) - (wrap64 ((rd l1 x17_1) - (rd l1 x22_2))))) > (wrap64 (t1008 - t1012))
                                              · rw [if_pos c26] at H
                                                have c26b0 : decide ((wrap64 (t1008 - t1012)) < (wrap64 ((wrap64 (x13_3 * a0)) - (wrap64 ((rd l1 x17_1) - (rd l1 x22_2)))))) = true := decide_eq_true c26
                                                clear c26
                                                obtain rfl := Option.some.inj H
                                                go_wp2
                                                repeat (go_quiet (fail); try go_wp2)
                                                go_ret
                                                exact ⟨by first | rfl | (simp; done) | (simp [*]; done), by repeat (first | exact Drawn0.refl _ | apply Drawn0.step)⟩
                                              · rw [if_neg c26] at H
                                                have c26b0 : decide ((wrap64 (t1008 - t1012)) < (wrap64 ((wrap64 (x13_3 * a0)) - (wrap64 ((rd l1 x17_1) - (rd l1 x22_2)))))) = false := decide_eq_false c26
                                                clear c26
                                                have H' := Aside0.mk H
                                                clear H
                                                go_wp2
                                                repeat (go_quiet (fail); try go_wp2)
                                                go_roundg k3
                                                case measure => have := HK1.out; have := HK2.out; have := HK3.out; omega
                                                case rel => exact ⟨(wrap64 (x13_3 + 1)), (by first | rfl | (simp; done) | (simp [*]; done)), H', ⟨by have := HK1.out; have := HK2.out; have := HK3.out; omega⟩, by repeat (first | exact Drawn0.refl _ | apply Drawn0.step)⟩
                                            · rw [if_neg c25] at H
                                              have c25b0 : decide ((wrap64 ((wrap64 (x13_3 * a0)) - (wrap64 ((rd l1 x17_1) - (rd l1 x22_2))))) < 0) = false := decide_eq_false c25
                                              clear c25
                                              have H' := Aside0.mk H
                                              clear H
                                              go_wp2
                                              repeat (go_quiet (fail); try go_wp2)
                                              go_roundg k3
                                              case measure => have := HK1.out; have := HK2.out; have := HK3.out; omega
                                              case rel => exact ⟨(wrap64 (x13_3 + 1)), (by first | rfl | (simp; done) | (simp [*]; done)), H', ⟨by have := HK1.out; have := HK2.out; have := HK3.out; omega⟩, by repeat (first | exact Drawn0.refl _ | apply Drawn0.step)⟩
                                        · rw [if_neg c20] at H
                                          have c20b0 : decide (x13_3 ≤ 2) = false := decide_eq_false c20
                                          clear c20
                                          have H' := Aside0.mk H
                                          clear H
                                          go_wp2
                                          repeat (go_quiet (fail); try go_wp2)
                                          go_roundg k3
                                          case measure => have := HK1.out; have := HK2.out; have := HK3.out; omega
                                          case rel => exact ⟨(wrap64 (x22_2 + 1)), (by first | rfl | (simp; done) | (simp [*]; done)), H', ⟨by have := HK1.out; have := HK2.out; have := HK3.out; omega⟩, by repeat (first | exact Drawn0.refl _ | apply Drawn0.step)⟩
                                  · rw [if_neg c18] at H
                                    exact absurd H (by simp)
                                · rw [if_neg c17] at H
                                  exact absurd H (by simp)
                              · rw [if_neg c16] at H
                                exact absurd H (by simp)
                            · rw [if_neg c14] at H
                              exact absurd H (by simp)
                          · rw [if_neg c13] at H
                            exact absurd H (by simp)
                        · rw [if_neg c12] at H
                          exact absurd H (by simp)
                    · rw [if_neg c10] at H
                      exact absurd H (by simp)
                  · rw [if_neg c9] at H
                    exact absurd H (by simp)
                · rw [if_neg c8] at H
                  exact absurd H (by simp)
              · rw [if_neg c7] at H
                exact absurd H (by simp)
            · rw [if_neg c6] at H
              have c6b0 : decide (x22_2 < (l3.length : Int)) = false := decide_eq_false c6
              clear c6
              have H' := Aside0.mk H
              clear H
              go_wp2
              repeat (go_quiet (fail); try go_wp2)
              go_roundg k2
              case measure => have := HK1.out; have := HK2.out; omega
              case rel => exact ⟨(wrap64 (x17_1 + 1)), (by first | rfl | (simp; done) | (simp [*]; done)), H', ⟨by have := HK1.out; have := HK2.out; omega⟩, by repeat (first | exact Drawn0.refl _ | apply Drawn0.step)⟩
      · rw [if_neg c5] at H
        have c5b0 : decide (x17_1 < (l3.length : Int)) = false := decide_eq_false c5
        clear c5
        obtain rfl := Option.some.inj H
        go_wp2
        repeat (go_quiet (fail); try go_wp2)
        go_ret
        exact ⟨by first | rfl | (simp; done) | (simp [*]; done), by repeat (first | exact Drawn0.refl _ | apply Drawn0.step)⟩

end Go.Proofs.Ytdnjbjcfbdclfaa.P
namespace Go.Proofs.Ytdnjbjcfbdclfaa.P
open Go.RowKit Go.Proofs.YtdnjbjcfbdclfaaW.PrintWords Go.Proofs.YtdnjbjcfbdclfaaW.PrintLast Go.Proofs.YtdnjbjcfbdclfaaW.PrintMore
attribute [local go_sem] max2_int min2_int max_two min_two max_three min_three max_four min_four   -- for this text's walks alone
set_option linter.unusedVariables false
set_option linter.unusedSimpArgs false

/-! ### voices_circle_meet: function 55 -/
def voices_circle_meet.l0 : Nat → Int → Int → Int → Int → Option (Bool)
  | 0, _, _, _, _ => none
  | k + 1, x0, x13, x14, x15 => if x15 ≤ 2 then (if x13 < (wrap64 (x15 * x0)) then (if (wrap64 (x15 * x0)) < x14 then (some true) else (voices_circle_meet.l0 k x0 x13 x14 (wrap64 (x15 + 1)))) else (voices_circle_meet.l0 k x0 x13 x14 (wrap64 (x15 + 1)))) else (some false)
def voices_circle_meet.f (k : Nat) (a0 : Int) (a1 : Int) (a2 : Int) (a3 : Int) (a4 : Int) : Option (Bool) := if a1 = a3 then (some false) else ((voices_circle_mod.f a0 (wrap64 (a3 - a1))).bind fun t1001 => (voices_circle_meet.l0 k a0 (mn t1001 (wrap64 ((wrap64 (t1001 + a4)) - a2))) (mx t1001 (wrap64 ((wrap64 (t1001 + a4)) - a2))) (-1)))
theorem voices_circle_meet.mono_l : ∀ k, (∀ y0 y1 y2 y3, LeO (voices_circle_meet.l0 k y0 y1 y2 y3) (voices_circle_meet.l0 (k + 1) y0 y1 y2 y3))
  | 0 => fun _ _ _ _ r h => by simp [voices_circle_meet.l0] at h
  | k + 1 => by
    have ih0 := voices_circle_meet.mono_l k
    · intro y0 y1 y2 y3
      unfold voices_circle_meet.l0
      repeat' first
      | (with_reducible exact ih0 _ _ _ _)
      | (with_reducible exact LeO.refl _)
      | (with_reducible exact LeO.none _)
      | (with_reducible refine LeO.ite ?_ ?_)
      | (with_reducible refine LeO.bind ?_ (fun _ => ?_))
      | exact ih0 _ _ _ _
      | exact LeO.none _
      | refine LeO.ite ?_ ?_
      | refine LeO.bind ?_ (fun _ => ?_)
theorem voices_circle_meet.mono : ∀ a0 a1 a2 a3 a4 k, LeO (voices_circle_meet.f k a0 a1 a2 a3 a4) (voices_circle_meet.f (k + 1) a0 a1 a2 a3 a4) := by
  intro a0 a1 a2 a3 a4 k
  have ih0 := voices_circle_meet.mono_l k
  unfold voices_circle_meet.f
  repeat' first
      | (with_reducible exact ih0 _ _ _ _)
      | (with_reducible exact LeO.refl _)
      | (with_reducible exact LeO.none _)
      | (with_reducible refine LeO.ite ?_ ?_)
      | (with_reducible refine LeO.bind ?_ (fun _ => ?_))
      | exact ih0 _ _ _ _
      | exact LeO.none _
      | refine LeO.ite ?_ ?_
      | refine LeO.bind ?_ (fun _ => ?_)
set_option maxHeartbeats 8000000 in
set_option maxRecDepth 100000 in
theorem voices_circle_meet.calls (k : Nat) (a0 : Int) (a1 : Int) (a2 : Int) (a3 : Int) (a4 : Int) (r : Bool) (w : World) (h : voices_circle_meet.f k a0 a1 a2 a3 a4 = some r) :
    Calls Try.prog 55 #[.int .i64 a0, .int .i64 a1, .int .i64 a2, .int .i64 a3, .int .i64 a4] w fun e w' => e = .returned (.bool r) ∧ Below w.heap.size w w' := by
  have HB := Aside0.mk (Below.refl w.heap.size w)
  have H : (if a1 = a3 then (some false) else ((voices_circle_mod.f a0 (wrap64 (a3 - a1))).bind fun t1001 => (voices_circle_meet.l0 k a0 (mn t1001 (wrap64 ((wrap64 (t1001 + a4)) - a2))) (mx t1001 (wrap64 ((wrap64 (t1001 + a4)) - a2))) (-1)))) = some r := h
  clear h
  by_cases c6 : a1 = a3
  · rw [if_pos c6] at H
    have c6b0 : (a1 == a3) = true := beq_iff_eq.mpr c6
    have c6b1 : (a1 != a3) = false := bne_eq_false_iff_eq.mpr c6
    clear c6
    obtain rfl := Option.some.inj H
    go_enter Try.func55, Try.ntmps55
    go_wp2
    go_ret
    exact ⟨by first | rfl | (simp [errW_none, errW_some] <;> rfl) | (simp [*, errW_none, errW_some] <;> rfl), by repeat (first | (with_reducible first | exact HB.out | apply below_alloc | apply pw_below_drewN | apply below_drew1) | exact HB.out)⟩
  · rw [if_neg c6] at H
    have c6b0 : (a1 == a3) = false := beq_eq_false_iff_ne.mpr c6
    have c6b1 : (a1 != a3) = true := bne_iff_ne.mpr c6
    replace H := Option.bind_eq_some_iff.mp H
    obtain ⟨t1001, A70, H⟩ := H
    replace H : (voices_circle_meet.l0 k a0 (mn t1001 (wrap64 ((wrap64 (t1001 + a4)) - a2))) (mx t1001 (wrap64 ((wrap64 (t1001 + a4)) - a2))) (-1)) = some r := H
    have A7 := Aside0.mk A70
    clear A70
    obtain ⟨ji8, hji8⟩ : ∃ j_ : Int, (mn t1001 (wrap64 ((wrap64 (t1001 + a4)) - a2))) = j_ := ⟨_, rfl⟩
    replace H : (voices_circle_meet.l0 k a0 ji8 (mx t1001 (wrap64 ((wrap64 (t1001 + a4)) - a2))) (-1)) = some r := by first | (rw [hji8] at H; exact H) | (simp only [hji8] at H ⊢; exact H)
    (try rw [hji8] at A7)
    have hji8_ : (if (wrap64 ((wrap64 (t1001 + a4)) - a2)) < t1001 then (wrap64 ((wrap64 (t1001 + a4)) - a2)) else t1001) = ji8 := hji8
    obtain ⟨ji9, hji9⟩ : ∃ j_ : Int, (mx t1001 (wrap64 ((wrap64 (t1001 + a4)) - a2))) = j_ := ⟨_, rfl⟩
    replace H : (voices_circle_meet.l0 k a0 ji8 ji9 (-1)) = some r := by first | (rw [hji9] at H; exact H) | (simp only [hji9] at H ⊢; exact H)
    (try rw [hji9] at A7)
    have hji9_ : (if t1001 < (wrap64 ((wrap64 (t1001 + a4)) - a2)) then (wrap64 ((wrap64 (t1001 + a4)) - a2)) else t1001) = ji9 := hji9
    have H' := Aside0.mk H
    clear H
    go_enter Try.func55, Try.ntmps55
    go_wp2_with (first | ((with_reducible refine gate_callee (f := 62) rfl ?_); refine goesL_ (some 24) rfl rfl Try.func62 (by kernel_rfl) rfl #[.int .i64 a0, .int .i64 (wrap64 (a3 - a1))] rfl (by (try simp only [List.map_toArray, List.map_cons, List.map_nil]); first | done | rfl | (simp only [List.length_drop, List.length_take]; rfl)) ?_; (with_reducible refine (voices_circle_mod.calls a0 (wrap64 (a3 - a1)) t1001 _ A7.out).mono ?_); rintro e w' ⟨rfl, ⟨nd, rfl⟩⟩; refine ⟨_, rfl, ?_⟩))
    go_loopg [15] k (fun kq v15 w' => ∃ (x15_1 : Int), v15 = .int .i64 x15_1 ∧ Aside0 (voices_circle_meet.l0 kq a0 ji8 ji9 x15_1 = some r) ∧ Aside0 (kq ≤ k) ∧ Aside0 (Below w.heap.size w w'))
    case atStart => exact ⟨((-1)), (by first | rfl | (simp; done) | (simp [*]; done)), H', ⟨Nat.le_refl _⟩, ⟨by repeat (first | (with_reducible first | exact HB.out | apply below_alloc | apply pw_below_drewN | apply below_drew1) | exact HB.out)⟩⟩
    case round =>
      clear H'
      try clear p2
      try clear c5
      try clear c6
      try clear c6b0
      try clear c6b1
      try clear p6
      obtain ⟨x15_1, rfl, HA, HK1, HB⟩ := hrel
      cases gk with
      | zero => exact absurd HA.out (by simp [voices_circle_meet.l0])
      | succ k1 =>
        have H := HA.out
        clear HA
        simp only [voices_circle_meet.l0] at H
        by_cases c10 : x15_1 ≤ 2
        · rw [if_pos c10] at H
          have c10b0 : decide (x15_1 ≤ 2) = true := decide_eq_true c10
          clear c10
          by_cases c11 : ji8 < (wrap64 (x15_1 * a0))
          · rw [if_pos c11] at H
            have c11b0 : decide (ji8 < (wrap64 (x15_1 * a0))) = true := decide_eq_true c11
            clear c11
            by_cases c12 : (wrap64 (x15_1 * a0)) < ji9
            · rw [if_pos c12] at H
              have c12b0 : decide ((wrap64 (x15_1 * a0)) < ji9) = true := decide_eq_true c12
              clear c12
              obtain rfl := Option.some.inj H
              go_wp2
              go_ret
              exact ⟨by first | rfl | (simp [errW_none, errW_some] <;> rfl) | (simp only [← hji8, ← hji9]; first | rfl | (simp [errW_none, errW_some] <;> rfl)) | (simp [*, errW_none, errW_some] <;> rfl), by repeat (first | (with_reducible first | exact HB.out | apply below_alloc | apply pw_below_drewN | apply below_drew1) | exact HB.out)⟩
            · rw [if_neg c12] at H
              have c12b0 : decide ((wrap64 (x15_1 * a0)) < ji9) = false := decide_eq_false c12
              clear c12
              have H' := Aside0.mk H
              clear H
              go_wp2
              go_roundg k1
              case measure => have := HK1.out; omega
              case rel => exact ⟨(wrap64 (x15_1 + 1)), (by first | rfl | (simp; done) | (simp [*]; done)), H', ⟨by have := HK1.out; omega⟩, ⟨by repeat (first | (with_reducible first | exact HB.out | apply below_alloc | apply pw_below_drewN | apply below_drew1) | exact HB.out)⟩⟩
          · rw [if_neg c11] at H
            have c11b0 : decide (ji8 < (wrap64 (x15_1 * a0))) = false := decide_eq_false c11
            clear c11
            have H' := Aside0.mk H
            clear H
            go_wp2
            go_roundg k1
            case measure => have := HK1.out; omega
            case rel => exact ⟨(wrap64 (x15_1 + 1)), (by first | rfl | (simp; done) | (simp [*]; done)), H', ⟨by have := HK1.out; omega⟩, ⟨by repeat (first | (with_reducible first | exact HB.out | apply below_alloc | apply pw_below_drewN | apply below_drew1) | exact HB.out)⟩⟩
        · rw [if_neg c10] at H
          have c10b0 : decide (x15_1 ≤ 2) = false := decide_eq_false c10
          clear c10
          obtain rfl := Option.some.inj H
          go_wp2
          go_ret
          exact ⟨by first | rfl | (simp [errW_none, errW_some] <;> rfl) | (simp only [← hji8, ← hji9]; first | rfl | (simp [errW_none, errW_some] <;> rfl)) | (simp [*, errW_none, errW_some] <;> rfl), by repeat (first | (with_reducible first | exact HB.out | apply below_alloc | apply pw_below_drewN | apply below_drew1) | exact HB.out)⟩

end Go.Proofs.Ytdnjbjcfbdclfaa.P
