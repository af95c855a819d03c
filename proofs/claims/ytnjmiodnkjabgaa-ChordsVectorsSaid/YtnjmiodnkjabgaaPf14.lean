/- A part of a proof that a law's Go function returns true for every input, laid by this session's program mp.py (which drives the kit's print). Conditions: as each theorem states them. -/
import Derived.Test.YtnjmiodnkjabgaaP0
import Derived.Test.YtnjmiodnkjabgaaPf13
namespace Go.Proofs.Ytnjmiodnkjabgaa.P
open Go.RowKit Go.Proofs.YtnjmiodnkjabgaaW.PrintWords Go.Proofs.YtnjmiodnkjabgaaW.PrintLast Go.Proofs.YtnjmiodnkjabgaaW.PrintMore
attribute [local go_sem] max2_int min2_int max_two min_two max_three min_three max_four min_four   -- for this text's walks alone
set_option linter.unusedVariables false
set_option linter.unusedSimpArgs false

/-! ### sackbutref01_Deep: function 14 -/
mutual
def sackbutref01_Deep.l0 : Nat → List Int → Int → Int → Option (Bool)
  | 0, _, _, _ => none
  | k + 1, x5, x14, x15 => if x15 < x14 then (if 0 ≤ x15 then (if x15 < (x5.length : Int) then (if x15 ≤ (x5.length : Int) then ((some (x5.take (x15 : Int).toNat : List Int)).bind fun y1005 => (sackbutref01_Deep.l1 k x5 (rd x5 x15) x14 x15 y1005 (y1005.length : Int) 0)) else (none)) else (none)) else (none)) else (some true)
def sackbutref01_Deep.l1 : Nat → List Int → Int → Int → Int → List Int → Int → Int → Option (Bool)
  | 0, _, _, _, _, _, _, _ => none
  | k + 1, x5, x7, x14, x15, x22, x23, x24 => if x24 < x23 then (if 0 ≤ x24 then (if x24 < (x22.length : Int) then (if x7 = (rd x22 x24) then (if x7 = 0 then (sackbutref01_Deep.l1 k x5 x7 x14 x15 x22 x23 (wrap64 (x24 + 1))) else (some false)) else (sackbutref01_Deep.l1 k x5 x7 x14 x15 x22 x23 (wrap64 (x24 + 1)))) else (none)) else (none)) else (sackbutref01_Deep.l0 k x5 x14 (wrap64 (x15 + 1)))
end
def sackbutref01_Deep.f (k : Nat) (a0 : Int) (a1 : Int) : Option (Bool) := (sackbutref01_Vector.f k a0 a1).bind fun t1001 => (sackbutref01_Deep.l0 k t1001 (t1001.length : Int) 0)
theorem sackbutref01_Deep.mono_l : ∀ k, (∀ y0 y1 y2, LeO (sackbutref01_Deep.l0 k y0 y1 y2) (sackbutref01_Deep.l0 (k + 1) y0 y1 y2)) ∧ (∀ y0 y1 y2 y3 y4 y5 y6, LeO (sackbutref01_Deep.l1 k y0 y1 y2 y3 y4 y5 y6) (sackbutref01_Deep.l1 (k + 1) y0 y1 y2 y3 y4 y5 y6))
  | 0 => ⟨fun _ _ _ r h => by simp [sackbutref01_Deep.l0] at h, fun _ _ _ _ _ _ _ r h => by simp [sackbutref01_Deep.l1] at h⟩
  | k + 1 => by
    obtain ⟨ih0, ih1⟩ := sackbutref01_Deep.mono_l k
    refine ⟨?_, ?_⟩
    · intro y0 y1 y2
      unfold sackbutref01_Deep.l0
      repeat' first
      | (with_reducible exact ih0 _ _ _)
      | (with_reducible exact ih1 _ _ _ _ _ _ _)
      | (with_reducible exact sackbutref01_Vector.mono _ _ _)
      | (with_reducible exact LeO.refl _)
      | (with_reducible exact LeO.none _)
      | (with_reducible refine LeO.ite ?_ ?_)
      | (with_reducible refine LeO.bind ?_ (fun _ => ?_))
      | exact ih0 _ _ _
      | exact ih1 _ _ _ _ _ _ _
      | exact sackbutref01_Vector.mono _ _ _
      | exact LeO.none _
      | refine LeO.ite ?_ ?_
      | refine LeO.bind ?_ (fun _ => ?_)
    · intro y0 y1 y2 y3 y4 y5 y6
      unfold sackbutref01_Deep.l1
      repeat' first
      | (with_reducible exact ih0 _ _ _)
      | (with_reducible exact ih1 _ _ _ _ _ _ _)
      | (with_reducible exact sackbutref01_Vector.mono _ _ _)
      | (with_reducible exact LeO.refl _)
      | (with_reducible exact LeO.none _)
      | (with_reducible refine LeO.ite ?_ ?_)
      | (with_reducible refine LeO.bind ?_ (fun _ => ?_))
      | exact ih0 _ _ _
      | exact ih1 _ _ _ _ _ _ _
      | exact sackbutref01_Vector.mono _ _ _
      | exact LeO.none _
      | refine LeO.ite ?_ ?_
      | refine LeO.bind ?_ (fun _ => ?_)
theorem sackbutref01_Deep.mono : ∀ a0 a1 k, LeO (sackbutref01_Deep.f k a0 a1) (sackbutref01_Deep.f (k + 1) a0 a1) := by
  intro a0 a1 k
  obtain ⟨ih0, ih1⟩ := sackbutref01_Deep.mono_l k
  unfold sackbutref01_Deep.f
  repeat' first
      | (with_reducible exact ih0 _ _ _)
      | (with_reducible exact ih1 _ _ _ _ _ _ _)
      | (with_reducible exact sackbutref01_Vector.mono _ _ _)
      | (with_reducible exact LeO.refl _)
      | (with_reducible exact LeO.none _)
      | (with_reducible refine LeO.ite ?_ ?_)
      | (with_reducible refine LeO.bind ?_ (fun _ => ?_))
      | exact ih0 _ _ _
      | exact ih1 _ _ _ _ _ _ _
      | exact sackbutref01_Vector.mono _ _ _
      | exact LeO.none _
      | refine LeO.ite ?_ ?_
      | refine LeO.bind ?_ (fun _ => ?_)
set_option maxHeartbeats 8000000 in
set_option maxRecDepth 100000 in
theorem sackbutref01_Deep.calls (k : Nat) (a0 : Int) (a1 : Int) (r : Bool) (w : World) (h : sackbutref01_Deep.f k a0 a1 = some r) :
    Calls Try.prog 14 #[.int .i64 a0, .int .i64 a1] w fun e w' => e = .returned (.bool r) ∧ Below w.heap.size w w' := by
  have HB := Aside0.mk (Below.refl w.heap.size w)
  have H : ((sackbutref01_Vector.f k a0 a1).bind fun t1001 => (sackbutref01_Deep.l0 k t1001 (t1001.length : Int) 0)) = some r := h
  clear h
  replace H := Option.bind_eq_some_iff.mp H
  obtain ⟨t1001, A30, H⟩ := H
  replace H : (sackbutref01_Deep.l0 k t1001 (t1001.length : Int) 0) = some r := H
  have A3 := Aside0.mk A30
  clear A30
  have H' := Aside0.mk H
  clear H
  go_enter Try.func14, Try.ntmps14
  go_wp2_with (first | ((with_reducible refine gate_callee (f := 13) rfl ?_); refine goesL_ (some 12) rfl rfl Try.func13 (by kernel_rfl) rfl #[.int .i64 a0, .int .i64 a1] rfl (by (try simp only [List.map_toArray, List.map_cons, List.map_nil]); first | done | rfl | (simp only [List.length_drop, List.length_take]; rfl)) ?_; (with_reducible refine (sackbutref01_Vector.calls k a0 a1 t1001 _ A3.out).mono ?_); rintro e w4 ⟨v1002, rfl, ho0, hb⟩; refine ⟨_, rfl, ?_⟩; have n0_ := Aside0.mk (Kd.R_lower ho0 (below_size (by repeat (first | (with_reducible first | exact HB.out | apply below_alloc | apply pw_below_drewN | apply below_drew1) | exact HB.out)))); have n1_ := Aside0.mk (below_step (by repeat (first | (with_reducible first | exact HB.out | apply below_alloc | apply pw_below_drewN | apply below_drew1) | exact HB.out)) hb); clear HB; have HO1003 := n0_; have HB := n1_; clear n0_ n1_; (try clear hb); (try clear hb2); (try clear hk); (try clear hi); (try clear ho0); obtain ⟨Ao5, co5, eo5⟩ := Kd.R_slice HO1003.out; subst eo5))
  go_loopg [15] k (fun kq v15 w' => ∃ (x15_1 : Int), v15 = .int .i64 x15_1 ∧ Aside0 (sackbutref01_Deep.l0 kq t1001 (t1001.length : Int) x15_1 = some r) ∧ Aside0 (kq ≤ k) ∧ Aside0 (Kd.R (Kd.int .i64) 3 w' w.heap.size (fun _ => True) (.slice Ao5 t1001.length co5) t1001) ∧ Aside0 (Below w.heap.size w w'))
  case atStart => exact ⟨(0), (by first | rfl | (simp; done) | (simp [*]; done)), H', ⟨Nat.le_refl _⟩, ⟨by (with_reducible repeat (first | apply Kd.R_alloc | apply Kd.R_drewN | apply Kd.R_drew)); exact HO1003.out⟩, ⟨by repeat (first | (with_reducible first | exact HB.out | apply below_alloc | apply pw_below_drewN | apply below_drew1) | exact HB.out)⟩⟩
  case round =>
    clear H'
    try clear c1
    try clear p2
    obtain ⟨x15_1, rfl, HA, HK1, HO_5, HB⟩ := hrel
    cases gk with
    | zero => exact absurd HA.out (by simp [sackbutref01_Deep.l0])
    | succ k1 =>
      have H := HA.out
      clear HA
      simp only [sackbutref01_Deep.l0] at H
      by_cases c6 : x15_1 < (t1001.length : Int)
      · rw [if_pos c6] at H
        have c6b0 : decide (x15_1 < (t1001.length : Int)) = true := decide_eq_true c6
        clear c6
        by_cases c7 : 0 ≤ x15_1
        · rw [if_pos c7] at H
          have c7b0 : decide (0 ≤ x15_1) = true := decide_eq_true c7
          clear c7
          by_cases c8 : x15_1 < (t1001.length : Int)
          · rw [if_pos c8] at H
            have c8b0 : decide (x15_1 < (t1001.length : Int)) = true := decide_eq_true c8
            clear c8
            have c9b0 := eq_true (of_decide_eq_true (by first | (with_reducible assumption) | assumption) : 0 ≤ x15_1)
            by_cases c10 : x15_1 ≤ (t1001.length : Int)
            · rw [if_pos c10] at H
              have c10b0 := eq_true c10
              have c10b1 : decide (x15_1 ≤ (t1001.length : Int)) = true := decide_eq_true c10
              clear c10
              obtain ⟨y1005, hy1005⟩ : ∃ y_ : List Int, y_ = (t1001.take (x15_1 : Int).toNat) := ⟨_, rfl⟩
              replace H : (sackbutref01_Deep.l1 k1 t1001 (rd t1001 x15_1) (t1001.length : Int) x15_1 y1005 (y1005.length : Int) 0) = some r := by first | (rw [hy1005]; with_reducible exact H) | (have H2_ := (Option.bind_some _ _).symm.trans H; rw [hy1005]; with_reducible exact H2_) | (have H2_ := (Option.bind_some _ _).symm.trans H; with_reducible exact H2_) | with_reducible exact H | (rw [hy1005]; exact H) | exact H
              have Ny1005 := Aside0.mk hy1005
              clear hy1005
              have H' := Aside0.mk H
              clear H
              have p1004 : 0 ≤ (x15_1 : Int) := of_decide_eq_true (by first | (with_reducible assumption) | assumption)
              have q1004 : x15_1 < (t1001.length : Int) := of_decide_eq_true (by first | (with_reducible assumption) | assumption)
              obtain ⟨ad1004, e1004, hx1004_0⟩ := Kd.at_int (Kd.R_reads' HO_5.out).2.2 x15_1 p1004 q1004
              cases e1004
              replace p1004 := eq_true p1004
              replace q1004 := eq_true q1004
              have q11 : (x15_1 : Int) ≤ ((t1001.length : Int) : Int) := of_decide_eq_true (by first | (with_reducible assumption) | assumption)
              obtain ⟨i011, hi011, _, hsz11, _⟩ := info_parts info3
              have hroom11 : t1001.length ≤ co5 := (Kd.R_reads' HO_5.out).2.1
              have hC11 : Kd.C (Kd.int .i64) _ (some ad1004) t1001.length t1001 := (Kd.R_reads' HO_5.out).2.2
              have hcut11 := cut_to (P := Try.prog) 22 3 .i64 Try.underlying22 hi011 (some ad1004) t1001.length co5 x15_1 (of_decide_eq_true (by first | (with_reducible assumption) | assumption)) q11 hroom11
              have hr11 := Kd.C_take (m := (x15_1 : Int).toNat) hC11 (by omega)
              have hy11 : y1005.length = (x15_1 : Int).toNat := (by rw [Ny1005.out, List.length_take]; omega)
              rw [← Ny1005.out] at hr11
              rw [← hy11] at hcut11
              have HR1008 := Aside0.mk hr11
              have HC1008 := Aside0.mk (show y1005.length ≤ co5 from by omega)
              clear hr11 hC11 hroom11 hi011 hsz11
              have KY11 := Aside0.mk hy11
              clear hy11
              have KL11 := Aside0.mk (show (x15_1 : Int).toNat ≤ t1001.length from by omega)
              replace q11 := eq_true q11
              go_wp2
              go_loopg [24] k1 (fun kq v24 w' => ∃ (x24_2 : Int), v24 = .int .i64 x24_2 ∧ Aside0 (sackbutref01_Deep.l1 kq t1001 (rd t1001 x15_1) (t1001.length : Int) x15_1 y1005 (y1005.length : Int) x24_2 = some r) ∧ Aside0 (kq ≤ k1) ∧ Aside0 (Kd.R (Kd.int .i64) 3 w' w.heap.size (fun _ => True) (.slice (some ad1004) t1001.length co5) t1001) ∧ Aside0 (Kd.C (Kd.int .i64) w' (some ad1004) y1005.length y1005) ∧ Aside0 (Below w.heap.size w w'))
              case atStart => exact ⟨(0), (by first | rfl | (simp; done) | (simp [*]; done)), H', ⟨Nat.le_refl _⟩, ⟨by (with_reducible repeat (first | apply Kd.R_alloc | apply Kd.R_drewN | apply Kd.R_drew)); exact HO_5.out⟩, ⟨by repeat (first | (with_reducible exact HR1008.out) | (with_reducible refine Kd.C_alloc ?_ _) | (with_reducible refine Kd.C_drewN ?_ _) | (with_reducible refine Kd.C_drew ?_) | exact HR1008.out)⟩, ⟨by repeat (first | (with_reducible first | exact HB.out | apply below_alloc | apply pw_below_drewN | apply below_drew1) | exact HB.out)⟩⟩
              case round =>
                clear H'
                try clear c1
                try clear p1
                try clear q1
                try clear hx1
                try clear p2
                try clear c6
                try clear c6b0
                try clear c7
                try clear c7b0
                try clear c8
                try clear c8b0
                try clear c9
                try clear c9b0
                try clear c10
                try clear c10b0
                try clear c10b1
                try clear p10
                try clear q10
                try clear hx10
                try clear q11
                try clear hx1004_0
                try clear p1004
                try clear p2
                try clear q1004
                try clear q11
                obtain ⟨x24_2, rfl, HA, HK2, HO_5, HR1008, HB⟩ := hrel
                cases gk with
                | zero => exact absurd HA.out (by simp [sackbutref01_Deep.l1])
                | succ k2 =>
                  have H := HA.out
                  clear HA
                  simp only [sackbutref01_Deep.l1] at H
                  by_cases c12 : x24_2 < (y1005.length : Int)
                  · rw [if_pos c12] at H
                    have c12b0 : decide (x24_2 < (y1005.length : Int)) = true := decide_eq_true c12
                    clear c12
                    by_cases c13 : 0 ≤ x24_2
                    · rw [if_pos c13] at H
                      have c13b0 : decide (0 ≤ x24_2) = true := decide_eq_true c13
                      clear c13
                      by_cases c14 : x24_2 < (y1005.length : Int)
                      · rw [if_pos c14] at H
                        have c14b0 : decide (x24_2 < (y1005.length : Int)) = true := decide_eq_true c14
                        clear c14
                        by_cases c15 : (rd t1001 x15_1) = (rd y1005 x24_2)
                        · rw [if_pos c15] at H
                          have c15b0 : ((rd t1001 x15_1) == (rd y1005 x24_2)) = true := beq_iff_eq.mpr c15
                          have c15b1 : ((rd t1001 x15_1) != (rd y1005 x24_2)) = false := bne_eq_false_iff_eq.mpr c15
                          clear c15
                          by_cases c16 : (rd t1001 x15_1) = 0
                          · rw [if_pos c16] at H
                            have c16b0 : ((rd t1001 x15_1) == 0) = true := beq_iff_eq.mpr c16
                            have c16b1 : ((rd t1001 x15_1) != 0) = false := bne_eq_false_iff_eq.mpr c16
                            clear c16
                            have H' := Aside0.mk H
                            clear H
                            have p1009 : 0 ≤ (x24_2 : Int) := of_decide_eq_true (by first | (with_reducible assumption) | assumption)
                            have q1009 : x24_2 < (y1005.length : Int) := of_decide_eq_true (by first | (with_reducible assumption) | assumption)
                            obtain ⟨ad1009, e1009, hx1009_0⟩ := Kd.at_int HR1008.out x24_2 p1009 q1009
                            obtain rfl : ad1004 = ad1009 := (by injection e1009)
                            (try replace hx1009_0 := (HB.out.cell (World.block_lt_of_cell? w _ hx1009_0)).trans hx1009_0)
                            replace p1009 := eq_true p1009
                            replace q1009 := eq_true q1009
                            go_wp2
                            go_roundg k2
                            case measure => have := HK1.out; have := HK2.out; omega
                            case rel => exact ⟨(wrap64 (x24_2 + 1)), (by first | rfl | (simp; done) | (simp [*]; done)), H', ⟨by have := HK1.out; have := HK2.out; omega⟩, ⟨by (with_reducible repeat (first | apply Kd.R_alloc | apply Kd.R_drewN | apply Kd.R_drew)); exact HO_5.out⟩, ⟨by repeat (first | (with_reducible exact HR1008.out) | (with_reducible refine Kd.C_alloc ?_ _) | (with_reducible refine Kd.C_drewN ?_ _) | (with_reducible refine Kd.C_drew ?_) | exact HR1008.out)⟩, ⟨by repeat (first | (with_reducible first | exact HB.out | apply below_alloc | apply pw_below_drewN | apply below_drew1) | exact HB.out)⟩⟩
                          · rw [if_neg c16] at H
                            have c16b0 : ((rd t1001 x15_1) == 0) = false := beq_eq_false_iff_ne.mpr c16
                            have c16b1 : ((rd t1001 x15_1) != 0) = true := bne_iff_ne.mpr c16
                            obtain rfl := Option.some.inj H
                            have p1009 : 0 ≤ (x24_2 : Int) := of_decide_eq_true (by first | (with_reducible assumption) | assumption)
                            have q1009 : x24_2 < (y1005.length : Int) := of_decide_eq_true (by first | (with_reducible assumption) | assumption)
                            obtain ⟨ad1009, e1009, hx1009_0⟩ := Kd.at_int HR1008.out x24_2 p1009 q1009
                            obtain rfl : ad1004 = ad1009 := (by injection e1009)
                            (try replace hx1009_0 := (HB.out.cell (World.block_lt_of_cell? w _ hx1009_0)).trans hx1009_0)
                            replace p1009 := eq_true p1009
                            replace q1009 := eq_true q1009
                            go_wp2
                            go_ret
                            exact ⟨by first | rfl | (simp [errW_none, errW_some] <;> rfl) | (simp [*, errW_none, errW_some] <;> rfl), by repeat (first | (with_reducible first | exact HB.out | apply below_alloc | apply pw_below_drewN | apply below_drew1) | exact HB.out)⟩
                        · rw [if_neg c15] at H
                          have c15b0 : ((rd t1001 x15_1) == (rd y1005 x24_2)) = false := beq_eq_false_iff_ne.mpr c15
                          have c15b1 : ((rd t1001 x15_1) != (rd y1005 x24_2)) = true := bne_iff_ne.mpr c15
                          have H' := Aside0.mk H
                          clear H
                          have p1009 : 0 ≤ (x24_2 : Int) := of_decide_eq_true (by first | (with_reducible assumption) | assumption)
                          have q1009 : x24_2 < (y1005.length : Int) := of_decide_eq_true (by first | (with_reducible assumption) | assumption)
                          obtain ⟨ad1009, e1009, hx1009_0⟩ := Kd.at_int HR1008.out x24_2 p1009 q1009
                          obtain rfl : ad1004 = ad1009 := (by injection e1009)
                          (try replace hx1009_0 := (HB.out.cell (World.block_lt_of_cell? w _ hx1009_0)).trans hx1009_0)
                          replace p1009 := eq_true p1009
                          replace q1009 := eq_true q1009
                          go_wp2
                          go_roundg k2
                          case measure => have := HK1.out; have := HK2.out; omega
                          case rel => exact ⟨(wrap64 (x24_2 + 1)), (by first | rfl | (simp; done) | (simp [*]; done)), H', ⟨by have := HK1.out; have := HK2.out; omega⟩, ⟨by (with_reducible repeat (first | apply Kd.R_alloc | apply Kd.R_drewN | apply Kd.R_drew)); exact HO_5.out⟩, ⟨by repeat (first | (with_reducible exact HR1008.out) | (with_reducible refine Kd.C_alloc ?_ _) | (with_reducible refine Kd.C_drewN ?_ _) | (with_reducible refine Kd.C_drew ?_) | exact HR1008.out)⟩, ⟨by repeat (first | (with_reducible first | exact HB.out | apply below_alloc | apply pw_below_drewN | apply below_drew1) | exact HB.out)⟩⟩
                      · rw [if_neg c14] at H
                        exact absurd H (by simp)
                    · rw [if_neg c13] at H
                      exact absurd H (by simp)
                  · rw [if_neg c12] at H
                    have c12b0 : decide (x24_2 < (y1005.length : Int)) = false := decide_eq_false c12
                    clear c12
                    have H' := Aside0.mk H
                    clear H
                    go_wp2
                    go_roundg k2
                    case measure => have := HK1.out; have := HK2.out; omega
                    case rel => exact ⟨(wrap64 (x15_1 + 1)), (by first | rfl | (simp; done) | (simp [*]; done)), H', ⟨by have := HK1.out; have := HK2.out; omega⟩, ⟨by (with_reducible repeat (first | apply Kd.R_alloc | apply Kd.R_drewN | apply Kd.R_drew)); exact HO_5.out⟩, ⟨by repeat (first | (with_reducible first | exact HB.out | apply below_alloc | apply pw_below_drewN | apply below_drew1) | exact HB.out)⟩⟩
            · rw [if_neg c10] at H
              exact absurd H (by simp)
          · rw [if_neg c8] at H
            exact absurd H (by simp)
        · rw [if_neg c7] at H
          exact absurd H (by simp)
      · rw [if_neg c6] at H
        have c6b0 : decide (x15_1 < (t1001.length : Int)) = false := decide_eq_false c6
        clear c6
        obtain rfl := Option.some.inj H
        go_wp2
        go_ret
        exact ⟨by first | rfl | (simp [errW_none, errW_some] <;> rfl) | (simp [*, errW_none, errW_some] <;> rfl), by repeat (first | (with_reducible first | exact HB.out | apply below_alloc | apply pw_below_drewN | apply below_drew1) | exact HB.out)⟩

end Go.Proofs.Ytnjmiodnkjabgaa.P
