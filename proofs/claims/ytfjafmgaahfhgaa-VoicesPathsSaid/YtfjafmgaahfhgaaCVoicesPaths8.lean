/- A part of a proof that a law's Go function returns true for every input, laid by this session's program mp.py (which drives the kit's print). Conditions: as each theorem states them. -/
import Derived.ArgAppend
import Derived.Laws.EntriesVeiled
import Derived.Test.YtfjafmgaahfhgaaCVoicesPaths1
import Derived.Test.YtfjafmgaahfhgaaCVoicesPaths7
namespace Go.Proofs.Ytfjafmgaahfhgaa.P
open Go.RowKit Go.Proofs.YtfjafmgaahfhgaaW.PrintWords Go.Proofs.YtfjafmgaahfhgaaW.PrintLast Go.Proofs.YtfjafmgaahfhgaaW.PrintMore
attribute [local go_sem] max2_int min2_int max_two min_two max_three min_three max_four min_four   -- for this text's walks alone
set_option linter.unusedVariables false
set_option linter.unusedSimpArgs false

/-! ### sackbutref06_IsPath: function 24 -/
mutual
def sackbutref06_IsPath.l0 : Nat → Int → List Int → List Int → List (List Int) → List (List Int) → Int → Int → Option (Bool)
  | 0, _, _, _, _, _, _, _ => none
  | k + 1, x0, x1, x2, x3, x18, x19, x20 => if x20 < x19 then (if 0 ≤ x20 then (if x20 < (x18.length : Int) then ((sackbutref06_Two.f k x0 x1 (rd_L1 x18 x20)).bind fun t1010 => (if t1010 = true then (if x20 = 0 then ((sackbutref06_same.f k x1 (rd_L1 x18 x20)).bind fun t1011 => (if t1011 = true then (sackbutref06_IsPath.l0 k x0 x1 x2 x3 x18 x19 (wrap64 (x20 + 1))) else (some false))) else (sackbutref06_IsPath.l1 k x0 x1 x2 x3 x20 0 x18 x19 x20 (rd_L1 x18 x20) ((rd_L1 x18 x20).length : Int) 0)) else (some false))) else (none)) else (none)) else (if 0 ≤ (wrap64 ((x3.length : Int) - 1)) then (if (wrap64 ((x3.length : Int) - 1)) < (x3.length : Int) then ((sackbutref06_Rising.f (rd_L1 x3 (wrap64 ((x3.length : Int) - 1)))).bind fun t1002 => ((sackbutref06_Rising.f x2).bind fun t1005 => ((sackbutref06_same.f k t1002 t1005).bind fun t1008 => (some t1008)))) else (none)) else (none))
def sackbutref06_IsPath.l1 : Nat → Int → List Int → List Int → List (List Int) → Int → Int → List (List Int) → Int → Int → List Int → Int → Int → Option (Bool)
  | 0, _, _, _, _, _, _, _, _, _, _, _, _ => none
  | k + 1, x0, x1, x2, x3, x9, x11, x18, x19, x20, x36, x37, x38 => if x38 < x37 then (if 0 ≤ x38 then (if x38 < (x36.length : Int) then (if 0 ≤ (wrap64 (x9 - 1)) then (if (wrap64 (x9 - 1)) < (x3.length : Int) then (if x38 < ((rd_L1 x3 (wrap64 (x9 - 1))).length : Int) then (if (rd x36 x38) = (rd (rd_L1 x3 (wrap64 (x9 - 1))) x38) then (sackbutref06_IsPath.l1 k x0 x1 x2 x3 x9 x11 x18 x19 x20 x36 x37 (wrap64 (x38 + 1))) else ((sackbutref06_Distance.f x0 (rd x36 x38) (rd (rd_L1 x3 (wrap64 (x9 - 1))) x38)).bind fun t1015 => (if t1015 = 1 then (sackbutref06_IsPath.l1 k x0 x1 x2 x3 x9 (wrap64 (x11 + 1)) x18 x19 x20 x36 x37 (wrap64 (x38 + 1))) else (some false)))) else (none)) else (none)) else (none)) else (none)) else (none)) else (if x11 = 1 then (sackbutref06_IsPath.l0 k x0 x1 x2 x3 x18 x19 (wrap64 (x20 + 1))) else (some false))
end
def sackbutref06_IsPath.f (k : Nat) (a0 : Int) (l1 : List Int) (l2 : List Int) (l3 : List (List Int)) : Option (Bool) := if (l3.length : Int) = 0 then (some false) else (sackbutref06_IsPath.l0 k a0 l1 l2 l3 l3 (l3.length : Int) 0)
theorem sackbutref06_IsPath.mono_l : ∀ k, (∀ y0 y1 y2 y3 y4 y5 y6, LeO (sackbutref06_IsPath.l0 k y0 y1 y2 y3 y4 y5 y6) (sackbutref06_IsPath.l0 (k + 1) y0 y1 y2 y3 y4 y5 y6)) ∧ (∀ y0 y1 y2 y3 y4 y5 y6 y7 y8 y9 y10 y11, LeO (sackbutref06_IsPath.l1 k y0 y1 y2 y3 y4 y5 y6 y7 y8 y9 y10 y11) (sackbutref06_IsPath.l1 (k + 1) y0 y1 y2 y3 y4 y5 y6 y7 y8 y9 y10 y11))
  | 0 => ⟨fun _ _ _ _ _ _ _ r h => by simp [sackbutref06_IsPath.l0] at h, fun _ _ _ _ _ _ _ _ _ _ _ _ r h => by simp [sackbutref06_IsPath.l1] at h⟩
  | k + 1 => by
    obtain ⟨ih0, ih1⟩ := sackbutref06_IsPath.mono_l k
    refine ⟨?_, ?_⟩
    · intro y0 y1 y2 y3 y4 y5 y6
      unfold sackbutref06_IsPath.l0
      repeat' first
      | (with_reducible exact ih0 _ _ _ _ _ _ _)
      | (with_reducible exact ih1 _ _ _ _ _ _ _ _ _ _ _ _)
      | (with_reducible exact sackbutref06_Two.mono _ _ _ _)
      | (with_reducible exact sackbutref06_same.mono _ _ _)
      | (with_reducible exact LeO.refl _)
      | (with_reducible exact LeO.none _)
      | (with_reducible refine LeO.ite ?_ ?_)
      | (with_reducible refine LeO.bind ?_ (fun _ => ?_))
      | exact ih0 _ _ _ _ _ _ _
      | exact ih1 _ _ _ _ _ _ _ _ _ _ _ _
      | exact sackbutref06_Two.mono _ _ _ _
      | exact sackbutref06_same.mono _ _ _
      | exact LeO.none _
      | refine LeO.ite ?_ ?_
      | refine LeO.bind ?_ (fun _ => ?_)
    · intro y0 y1 y2 y3 y4 y5 y6 y7 y8 y9 y10 y11
      unfold sackbutref06_IsPath.l1
      repeat' first
      | (with_reducible exact ih0 _ _ _ _ _ _ _)
      | (with_reducible exact ih1 _ _ _ _ _ _ _ _ _ _ _ _)
      | (with_reducible exact sackbutref06_Two.mono _ _ _ _)
      | (with_reducible exact sackbutref06_same.mono _ _ _)
      | (with_reducible exact LeO.refl _)
      | (with_reducible exact LeO.none _)
      | (with_reducible refine LeO.ite ?_ ?_)
      | (with_reducible refine LeO.bind ?_ (fun _ => ?_))
      | exact ih0 _ _ _ _ _ _ _
      | exact ih1 _ _ _ _ _ _ _ _ _ _ _ _
      | exact sackbutref06_Two.mono _ _ _ _
      | exact sackbutref06_same.mono _ _ _
      | exact LeO.none _
      | refine LeO.ite ?_ ?_
      | refine LeO.bind ?_ (fun _ => ?_)
theorem sackbutref06_IsPath.mono : ∀ a0 a1 a2 a3 k, LeO (sackbutref06_IsPath.f k a0 a1 a2 a3) (sackbutref06_IsPath.f (k + 1) a0 a1 a2 a3) := by
  intro a0 a1 a2 a3 k
  obtain ⟨ih0, ih1⟩ := sackbutref06_IsPath.mono_l k
  unfold sackbutref06_IsPath.f
  repeat' first
      | (with_reducible exact ih0 _ _ _ _ _ _ _)
      | (with_reducible exact ih1 _ _ _ _ _ _ _ _ _ _ _ _)
      | (with_reducible exact sackbutref06_Two.mono _ _ _ _)
      | (with_reducible exact sackbutref06_same.mono _ _ _)
      | (with_reducible exact LeO.refl _)
      | (with_reducible exact LeO.none _)
      | (with_reducible refine LeO.ite ?_ ?_)
      | (with_reducible refine LeO.bind ?_ (fun _ => ?_))
      | exact ih0 _ _ _ _ _ _ _
      | exact ih1 _ _ _ _ _ _ _ _ _ _ _ _
      | exact sackbutref06_Two.mono _ _ _ _
      | exact sackbutref06_same.mono _ _ _
      | exact LeO.none _
      | refine LeO.ite ?_ ?_
      | refine LeO.bind ?_ (fun _ => ?_)
set_option maxHeartbeats 8000000 in
set_option maxRecDepth 100000 in
theorem sackbutref06_IsPath.calls (k : Nat) (a0 : Int) (A1 : Option Addr) (c1 : Nat) (l1 : List Int) (A2 : Option Addr) (c2 : Nat) (l2 : List Int) (A3 : Option Addr) (c3 : Nat) (l3 : List (List Int)) (r : Bool) (w : World) (hr1 : Kd.C (Kd.int .i64) w A1 l1.length l1) (hc1 : l1.length ≤ c1) (hr2 : Kd.C (Kd.int .i64) w A2 l2.length l2) (hc2 : l2.length ≤ c2) (hr3 : Kd.C (Kd.slice 3 (Kd.int .i64)) w A3 l3.length l3) (hc3 : l3.length ≤ c3) (h : sackbutref06_IsPath.f k a0 l1 l2 l3 = some r) :
    Calls Try.prog 24 #[.int .i64 a0, .slice A1 l1.length c1, .slice A2 l2.length c2, .slice A3 l3.length c3] w fun e w' => e = .returned (.bool r) ∧ Below w.heap.size w w' := by
  have HR1 := Aside0.mk hr1
  have HC1 := Aside0.mk hc1
  clear hr1 hc1
  have HR2 := Aside0.mk hr2
  have HC2 := Aside0.mk hc2
  clear hr2 hc2
  have HR3 := Aside0.mk hr3
  have HC3 := Aside0.mk hc3
  clear hr3 hc3
  have HB := Aside0.mk (Below.refl w.heap.size w)
  have H : (if (l3.length : Int) = 0 then (some false) else (sackbutref06_IsPath.l0 k a0 l1 l2 l3 l3 (l3.length : Int) 0)) = some r := h
  clear h
  by_cases c5 : (l3.length : Int) = 0
  · rw [if_pos c5] at H
    have c5b0 : ((l3.length : Int) == 0) = true := beq_iff_eq.mpr c5
    have c5b1 : ((l3.length : Int) != 0) = false := bne_eq_false_iff_eq.mpr c5
    clear c5
    obtain rfl := Option.some.inj H
    go_enter Try.func24, Try.ntmps24
    go_wp2
    go_ret
    exact ⟨by first | rfl | (simp [errW_none, errW_some] <;> rfl) | (simp [*, errW_none, errW_some] <;> rfl), by repeat (first | (with_reducible first | exact HB.out | apply below_alloc | apply pw_below_drewN | apply below_drew1) | exact HB.out)⟩
  · rw [if_neg c5] at H
    have c5b0 : ((l3.length : Int) == 0) = false := beq_eq_false_iff_ne.mpr c5
    have c5b1 : ((l3.length : Int) != 0) = true := bne_iff_ne.mpr c5
    have c5b2 : ¬ (l3 = []) := fun h_ => c5 (by rw [h_]; rfl)
    have H' := Aside0.mk H
    clear H
    go_enter Try.func24, Try.ntmps24
    go_wp2
    go_loopg [20] k (fun kq v20 w' => ∃ (x20_1 : Int), v20 = .int .i64 x20_1 ∧ Aside0 (sackbutref06_IsPath.l0 kq a0 l1 l2 l3 l3 (l3.length : Int) x20_1 = some r) ∧ Aside0 (kq ≤ k) ∧ Aside0 (Below w.heap.size w w'))
    case atStart => exact ⟨(0), (by first | rfl | (simp; done) | (simp [*]; done)), H', ⟨Nat.le_refl _⟩, ⟨by repeat (first | (with_reducible first | exact HB.out | apply below_alloc | apply pw_below_drewN | apply below_drew1) | exact HB.out)⟩⟩
    case round =>
      clear H'
      try clear c1
      try clear c2
      try clear p2
      try clear c3
      try clear c5
      try clear c5b0
      try clear c5b1
      try clear c5b2
      obtain ⟨x20_1, rfl, HA, HK1, HB⟩ := hrel
      cases gk with
      | zero => exact absurd HA.out (by simp [sackbutref06_IsPath.l0])
      | succ k1 =>
        have H := HA.out
        clear HA
        simp only [sackbutref06_IsPath.l0] at H
        by_cases c6 : x20_1 < (l3.length : Int)
        · rw [if_pos c6] at H
          have c6b0 : decide (x20_1 < (l3.length : Int)) = true := decide_eq_true c6
          clear c6
          by_cases c7 : 0 ≤ x20_1
          · rw [if_pos c7] at H
            have c7b0 : decide (0 ≤ x20_1) = true := decide_eq_true c7
            clear c7
            by_cases c8 : x20_1 < (l3.length : Int)
            · rw [if_pos c8] at H
              have c8b0 : decide (x20_1 < (l3.length : Int)) = true := decide_eq_true c8
              clear c8
              replace H := Option.bind_eq_some_iff.mp H
              obtain ⟨t1010, A90, H⟩ := H
              replace H : (if t1010 = true then (if x20_1 = 0 then ((sackbutref06_same.f k1 l1 (rd_L1 l3 x20_1)).bind fun t1011 => (if t1011 = true then (sackbutref06_IsPath.l0 k1 a0 l1 l2 l3 l3 (l3.length : Int) (wrap64 (x20_1 + 1))) else (some false))) else (sackbutref06_IsPath.l1 k1 a0 l1 l2 l3 x20_1 0 l3 (l3.length : Int) x20_1 (rd_L1 l3 x20_1) ((rd_L1 l3 x20_1).length : Int) 0)) else (some false)) = some r := H
              have A9 := Aside0.mk A90
              clear A90
              by_cases c10 : t1010 = true
              · subst c10
                have H1 : (if x20_1 = 0 then ((sackbutref06_same.f k1 l1 (rd_L1 l3 x20_1)).bind fun t1011 => (if t1011 = true then (sackbutref06_IsPath.l0 k1 a0 l1 l2 l3 l3 (l3.length : Int) (wrap64 (x20_1 + 1))) else (some false))) else (sackbutref06_IsPath.l1 k1 a0 l1 l2 l3 x20_1 0 l3 (l3.length : Int) x20_1 (rd_L1 l3 x20_1) ((rd_L1 l3 x20_1).length : Int) 0)) = some r := by rw [if_pos rfl] at H; exact H
                clear H
                have H := H1
                clear H1
                by_cases c11 : x20_1 = 0
                · rw [if_pos c11] at H
                  have c11b0 : (x20_1 == 0) = true := beq_iff_eq.mpr c11
                  have c11b1 : (x20_1 != 0) = false := bne_eq_false_iff_eq.mpr c11
                  clear c11
                  replace H := Option.bind_eq_some_iff.mp H
                  obtain ⟨t1011, A120, H⟩ := H
                  replace H : (if t1011 = true then (sackbutref06_IsPath.l0 k1 a0 l1 l2 l3 l3 (l3.length : Int) (wrap64 (x20_1 + 1))) else (some false)) = some r := H
                  have A12 := Aside0.mk A120
                  clear A120
                  by_cases c13 : t1011 = true
                  · subst c13
                    have H1 : (sackbutref06_IsPath.l0 k1 a0 l1 l2 l3 l3 (l3.length : Int) (wrap64 (x20_1 + 1))) = some r := by rw [if_pos rfl] at H; exact H
                    clear H
                    have H := H1
                    clear H1
                    have H' := Aside0.mk H
                    clear H
                    have p1009 : 0 ≤ (x20_1 : Int) := of_decide_eq_true (by first | (with_reducible assumption) | assumption)
                    have q1009 : x20_1 < (l3.length : Int) := of_decide_eq_true (by first | (with_reducible assumption) | assumption)
                    obtain ⟨ad1009, A1009_0, c1009_0, e1009, hx1009_0, hl1009_0, hi1009_0⟩ := at_L1 HR3.out x20_1 p1009 q1009
                    cases e1009
                    replace hx1009_0 := (HB.out.cell (World.block_lt_of_cell? w _ hx1009_0)).trans hx1009_0
                    have HR1009_0 := Aside0.mk hi1009_0
                    have HC1009_0 := Aside0.mk hl1009_0
                    clear hi1009_0 hl1009_0
                    replace p1009 := eq_true p1009
                    replace q1009 := eq_true q1009
                    go_wp2_with (first | ((with_reducible refine gate_callee (f := 23) rfl ?_); refine goesL_ (some 28) rfl rfl Try.func23 (by kernel_rfl) rfl #[.int .i64 a0, .slice A1 l1.length c1, .slice A1009_0 (rd_L1 l3 x20_1).length c1009_0] rfl (by (try simp only [List.map_toArray, List.map_cons, List.map_nil]); first | done | rfl | (simp only [List.length_drop, List.length_take]; rfl)) ?_; (with_reducible refine (sackbutref06_Two.calls k1 a0 _ _ l1 _ _ (rd_L1 l3 x20_1) true _ ?side1 ?side2 ?side3 ?side4 A9.out).mono ?_); (case side1 => repeat (first | exact (Kd.C_below HR1.out HB.out) | (with_reducible refine Kd.C_alloc ?_ _) | (with_reducible refine Kd.C_drewN ?_ _) | (with_reducible refine Kd.C_drew ?_))); (case side2 => exact HC1.out); (case side3 => repeat (first | exact (Kd.C_below HR1009_0.out HB.out) | (with_reducible refine Kd.C_alloc ?_ _) | (with_reducible refine Kd.C_drewN ?_ _) | (with_reducible refine Kd.C_drew ?_))); (case side4 => exact HC1009_0.out); rintro e w' ⟨rfl, ⟨nd, rfl⟩⟩; refine ⟨_, rfl, ?_⟩) | ((with_reducible refine gate_callee (f := 48) rfl ?_); refine goesL_ (some 34) rfl rfl Try.func48 (by kernel_rfl) rfl #[.slice A1 l1.length c1, .slice A1009_0 (rd_L1 l3 x20_1).length c1009_0] rfl (by (try simp only [List.map_toArray, List.map_cons, List.map_nil]); first | done | rfl | (simp only [List.length_drop, List.length_take]; rfl)) ?_; (with_reducible refine (sackbutref06_same.calls k1 _ _ l1 _ _ (rd_L1 l3 x20_1) true _ ?side1 ?side2 ?side3 ?side4 A12.out).mono ?_); (case side1 => repeat (first | exact (Kd.C_below HR1.out (by repeat (first | (with_reducible first | exact HB.out | apply below_alloc | apply pw_below_drewN | apply below_drew1) | exact HB.out))) | (with_reducible refine Kd.C_alloc ?_ _) | (with_reducible refine Kd.C_drewN ?_ _) | (with_reducible refine Kd.C_drew ?_))); (case side2 => exact HC1.out); (case side3 => repeat (first | exact (Kd.C_below HR1009_0.out (by repeat (first | (with_reducible first | exact HB.out | apply below_alloc | apply pw_below_drewN | apply below_drew1) | exact HB.out))) | (with_reducible refine Kd.C_alloc ?_ _) | (with_reducible refine Kd.C_drewN ?_ _) | (with_reducible refine Kd.C_drew ?_))); (case side4 => exact HC1009_0.out); rintro e w' ⟨rfl, ⟨nd, rfl⟩⟩; refine ⟨_, rfl, ?_⟩))
                    go_roundg k1
                    case measure => have := HK1.out; omega
                    case rel => exact ⟨(wrap64 (x20_1 + 1)), (by first | rfl | (simp; done) | (simp [*]; done)), H', ⟨by have := HK1.out; omega⟩, ⟨by repeat (first | (with_reducible first | exact HB.out | apply below_alloc | apply pw_below_drewN | apply below_drew1) | exact HB.out)⟩⟩
                  · replace c13 := Bool.eq_false_iff.mpr c13
                    subst c13
                    have H1 : (some false) = some r := by rw [if_neg (show ¬ (false = true) by decide)] at H; exact H
                    clear H
                    have H := H1
                    clear H1
                    obtain rfl := Option.some.inj H
                    have p1009 : 0 ≤ (x20_1 : Int) := of_decide_eq_true (by first | (with_reducible assumption) | assumption)
                    have q1009 : x20_1 < (l3.length : Int) := of_decide_eq_true (by first | (with_reducible assumption) | assumption)
                    obtain ⟨ad1009, A1009_0, c1009_0, e1009, hx1009_0, hl1009_0, hi1009_0⟩ := at_L1 HR3.out x20_1 p1009 q1009
                    cases e1009
                    replace hx1009_0 := (HB.out.cell (World.block_lt_of_cell? w _ hx1009_0)).trans hx1009_0
                    have HR1009_0 := Aside0.mk hi1009_0
                    have HC1009_0 := Aside0.mk hl1009_0
                    clear hi1009_0 hl1009_0
                    replace p1009 := eq_true p1009
                    replace q1009 := eq_true q1009
                    go_wp2_with (first | ((with_reducible refine gate_callee (f := 23) rfl ?_); refine goesL_ (some 28) rfl rfl Try.func23 (by kernel_rfl) rfl #[.int .i64 a0, .slice A1 l1.length c1, .slice A1009_0 (rd_L1 l3 x20_1).length c1009_0] rfl (by (try simp only [List.map_toArray, List.map_cons, List.map_nil]); first | done | rfl | (simp only [List.length_drop, List.length_take]; rfl)) ?_; (with_reducible refine (sackbutref06_Two.calls k1 a0 _ _ l1 _ _ (rd_L1 l3 x20_1) true _ ?side1 ?side2 ?side3 ?side4 A9.out).mono ?_); (case side1 => repeat (first | exact (Kd.C_below HR1.out HB.out) | (with_reducible refine Kd.C_alloc ?_ _) | (with_reducible refine Kd.C_drewN ?_ _) | (with_reducible refine Kd.C_drew ?_))); (case side2 => exact HC1.out); (case side3 => repeat (first | exact (Kd.C_below HR1009_0.out HB.out) | (with_reducible refine Kd.C_alloc ?_ _) | (with_reducible refine Kd.C_drewN ?_ _) | (with_reducible refine Kd.C_drew ?_))); (case side4 => exact HC1009_0.out); rintro e w' ⟨rfl, ⟨nd, rfl⟩⟩; refine ⟨_, rfl, ?_⟩) | ((with_reducible refine gate_callee (f := 48) rfl ?_); refine goesL_ (some 34) rfl rfl Try.func48 (by kernel_rfl) rfl #[.slice A1 l1.length c1, .slice A1009_0 (rd_L1 l3 x20_1).length c1009_0] rfl (by (try simp only [List.map_toArray, List.map_cons, List.map_nil]); first | done | rfl | (simp only [List.length_drop, List.length_take]; rfl)) ?_; (with_reducible refine (sackbutref06_same.calls k1 _ _ l1 _ _ (rd_L1 l3 x20_1) false _ ?side1 ?side2 ?side3 ?side4 A12.out).mono ?_); (case side1 => repeat (first | exact (Kd.C_below HR1.out (by repeat (first | (with_reducible first | exact HB.out | apply below_alloc | apply pw_below_drewN | apply below_drew1) | exact HB.out))) | (with_reducible refine Kd.C_alloc ?_ _) | (with_reducible refine Kd.C_drewN ?_ _) | (with_reducible refine Kd.C_drew ?_))); (case side2 => exact HC1.out); (case side3 => repeat (first | exact (Kd.C_below HR1009_0.out (by repeat (first | (with_reducible first | exact HB.out | apply below_alloc | apply pw_below_drewN | apply below_drew1) | exact HB.out))) | (with_reducible refine Kd.C_alloc ?_ _) | (with_reducible refine Kd.C_drewN ?_ _) | (with_reducible refine Kd.C_drew ?_))); (case side4 => exact HC1009_0.out); rintro e w' ⟨rfl, ⟨nd, rfl⟩⟩; refine ⟨_, rfl, ?_⟩))
                    go_ret
                    exact ⟨by first | rfl | (simp [errW_none, errW_some] <;> rfl) | (simp [*, errW_none, errW_some] <;> rfl), by repeat (first | (with_reducible first | exact HB.out | apply below_alloc | apply pw_below_drewN | apply below_drew1) | exact HB.out)⟩
                · rw [if_neg c11] at H
                  have c11b0 : (x20_1 == 0) = false := beq_eq_false_iff_ne.mpr c11
                  have c11b1 : (x20_1 != 0) = true := bne_iff_ne.mpr c11
                  have H' := Aside0.mk H
                  clear H
                  have p1009 : 0 ≤ (x20_1 : Int) := of_decide_eq_true (by first | (with_reducible assumption) | assumption)
                  have q1009 : x20_1 < (l3.length : Int) := of_decide_eq_true (by first | (with_reducible assumption) | assumption)
                  obtain ⟨ad1009, A1009_0, c1009_0, e1009, hx1009_0, hl1009_0, hi1009_0⟩ := at_L1 HR3.out x20_1 p1009 q1009
                  cases e1009
                  replace hx1009_0 := (HB.out.cell (World.block_lt_of_cell? w _ hx1009_0)).trans hx1009_0
                  have HR1009_0 := Aside0.mk hi1009_0
                  have HC1009_0 := Aside0.mk hl1009_0
                  clear hi1009_0 hl1009_0
                  replace p1009 := eq_true p1009
                  replace q1009 := eq_true q1009
                  go_wp2_with (first | ((with_reducible refine gate_callee (f := 23) rfl ?_); refine goesL_ (some 28) rfl rfl Try.func23 (by kernel_rfl) rfl #[.int .i64 a0, .slice A1 l1.length c1, .slice A1009_0 (rd_L1 l3 x20_1).length c1009_0] rfl (by (try simp only [List.map_toArray, List.map_cons, List.map_nil]); first | done | rfl | (simp only [List.length_drop, List.length_take]; rfl)) ?_; (with_reducible refine (sackbutref06_Two.calls k1 a0 _ _ l1 _ _ (rd_L1 l3 x20_1) true _ ?side1 ?side2 ?side3 ?side4 A9.out).mono ?_); (case side1 => repeat (first | exact (Kd.C_below HR1.out HB.out) | (with_reducible refine Kd.C_alloc ?_ _) | (with_reducible refine Kd.C_drewN ?_ _) | (with_reducible refine Kd.C_drew ?_))); (case side2 => exact HC1.out); (case side3 => repeat (first | exact (Kd.C_below HR1009_0.out HB.out) | (with_reducible refine Kd.C_alloc ?_ _) | (with_reducible refine Kd.C_drewN ?_ _) | (with_reducible refine Kd.C_drew ?_))); (case side4 => exact HC1009_0.out); rintro e w' ⟨rfl, ⟨nd, rfl⟩⟩; refine ⟨_, rfl, ?_⟩))
                  go_loopg [11, 38] k1 (fun kq v11 v38 w' => ∃ (x11_2 : Int) (x38_2 : Int), v11 = .int .i64 x11_2 ∧ v38 = .int .i64 x38_2 ∧ Aside0 (sackbutref06_IsPath.l1 kq a0 l1 l2 l3 x20_1 x11_2 l3 (l3.length : Int) x20_1 (rd_L1 l3 x20_1) ((rd_L1 l3 x20_1).length : Int) x38_2 = some r) ∧ Aside0 (kq ≤ k1) ∧ Aside0 (Below w.heap.size w w'))
                  case atStart => exact ⟨(0), (0), (by first | rfl | (simp; done) | (simp [*]; done)), (by first | rfl | (simp; done) | (simp [*]; done)), H', ⟨Nat.le_refl _⟩, ⟨by repeat (first | (with_reducible first | exact HB.out | apply below_alloc | apply pw_below_drewN | apply below_drew1) | exact HB.out)⟩⟩
                  case round =>
                    clear H'
                    try clear c1
                    try clear p1
                    try clear q1
                    try clear hx1
                    try clear c2
                    try clear p2
                    try clear c3
                    try clear c4
                    try clear c5
                    try clear c5b0
                    try clear c5b1
                    try clear c5b2
                    try clear c6
                    try clear c6b0
                    try clear p6
                    try clear c7
                    try clear c7b0
                    try clear c8
                    try clear c8b0
                    try clear c10
                    try clear p10
                    try clear q10
                    try clear hx10
                    try clear c11
                    try clear c11b0
                    try clear c11b1
                    try clear c13
                    try clear hx1009_0
                    try clear p1009
                    try clear p2
                    try clear q1009
                    obtain ⟨x11_2, x38_2, rfl, rfl, HA, HK2, HB⟩ := hrel
                    cases gk with
                    | zero => exact absurd HA.out (by simp [sackbutref06_IsPath.l1])
                    | succ k2 =>
                      have H := HA.out
                      clear HA
                      simp only [sackbutref06_IsPath.l1] at H
                      by_cases c14 : x38_2 < ((rd_L1 l3 x20_1).length : Int)
                      · rw [if_pos c14] at H
                        have c14b0 : decide (x38_2 < ((rd_L1 l3 x20_1).length : Int)) = true := decide_eq_true c14
                        clear c14
                        by_cases c15 : 0 ≤ x38_2
                        · rw [if_pos c15] at H
                          have c15b0 : decide (0 ≤ x38_2) = true := decide_eq_true c15
                          clear c15
                          by_cases c16 : x38_2 < ((rd_L1 l3 x20_1).length : Int)
                          · rw [if_pos c16] at H
                            have c16b0 : decide (x38_2 < ((rd_L1 l3 x20_1).length : Int)) = true := decide_eq_true c16
                            clear c16
                            obtain ⟨ji17, hji17⟩ : ∃ j_ : Int, (wrap64 (x20_1 - 1)) = j_ := ⟨_, rfl⟩
                            replace H : (if 0 ≤ (ji17) then (if (ji17) < (l3.length : Int) then (if x38_2 < ((rd_L1 l3 (ji17)).length : Int) then (if (rd (rd_L1 l3 x20_1) x38_2) = (rd (rd_L1 l3 (ji17)) x38_2) then (sackbutref06_IsPath.l1 k2 a0 l1 l2 l3 x20_1 x11_2 l3 (l3.length : Int) x20_1 (rd_L1 l3 x20_1) ((rd_L1 l3 x20_1).length : Int) (wrap64 (x38_2 + 1))) else ((sackbutref06_Distance.f a0 (rd (rd_L1 l3 x20_1) x38_2) (rd (rd_L1 l3 (ji17)) x38_2)).bind fun t1015 => (if t1015 = 1 then (sackbutref06_IsPath.l1 k2 a0 l1 l2 l3 x20_1 (wrap64 (x11_2 + 1)) l3 (l3.length : Int) x20_1 (rd_L1 l3 x20_1) ((rd_L1 l3 x20_1).length : Int) (wrap64 (x38_2 + 1))) else (some false)))) else (none)) else (none)) else (none)) = some r := by first | (rw [hji17] at H; exact H) | (simp only [hji17] at H ⊢; exact H)
                            have hji17w : (IntKind.i64.wrap (x20_1 - 1)) = ji17 := (i64_w _).trans hji17
                            by_cases c18 : 0 ≤ (ji17)
                            · rw [if_pos c18] at H
                              have c18b0 : decide (0 ≤ (ji17)) = true := decide_eq_true c18
                              clear c18
                              by_cases c19 : (ji17) < (l3.length : Int)
                              · rw [if_pos c19] at H
                                have c19b0 : decide ((ji17) < (l3.length : Int)) = true := decide_eq_true c19
                                clear c19
                                by_cases c20 : x38_2 < ((rd_L1 l3 (ji17)).length : Int)
                                · rw [if_pos c20] at H
                                  have c20b0 : decide (x38_2 < ((rd_L1 l3 (ji17)).length : Int)) = true := decide_eq_true c20
                                  clear c20
                                  by_cases c21 : (rd (rd_L1 l3 x20_1) x38_2) = (rd (rd_L1 l3 (ji17)) x38_2)
                                  · rw [if_pos c21] at H
                                    have c21b0 : ((rd (rd_L1 l3 x20_1) x38_2) == (rd (rd_L1 l3 (ji17)) x38_2)) = true := beq_iff_eq.mpr c21
                                    have c21b1 : ((rd (rd_L1 l3 x20_1) x38_2) != (rd (rd_L1 l3 (ji17)) x38_2)) = false := bne_eq_false_iff_eq.mpr c21
                                    clear c21
                                    have H' := Aside0.mk H
                                    clear H
                                    have p1012 : 0 ≤ (x38_2 : Int) := of_decide_eq_true (by first | (with_reducible assumption) | assumption)
                                    have q1012 : x38_2 < ((rd_L1 l3 x20_1).length : Int) := of_decide_eq_true (by first | (with_reducible assumption) | assumption)
                                    obtain ⟨ad1012, e1012, hx1012_0⟩ := Kd.at_int HR1009_0.out x38_2 p1012 q1012
                                    cases e1012
                                    replace hx1012_0 := (HB.out.cell (World.block_lt_of_cell? w _ hx1012_0)).trans hx1012_0
                                    replace p1012 := eq_true p1012
                                    replace q1012 := eq_true q1012
                                    have p1013 : 0 ≤ ((ji17) : Int) := of_decide_eq_true (by first | (with_reducible assumption) | assumption)
                                    have q1013 : (ji17) < (l3.length : Int) := of_decide_eq_true (by first | (with_reducible assumption) | assumption)
                                    obtain ⟨ad1013, A1013_0, c1013_0, e1013, hx1013_0, hl1013_0, hi1013_0⟩ := at_L1 HR3.out (ji17) p1013 q1013
                                    obtain rfl : ad1009 = ad1013 := (by injection e1013)
                                    replace hx1013_0 := (HB.out.cell (World.block_lt_of_cell? w _ hx1013_0)).trans hx1013_0
                                    have HR1013_0 := Aside0.mk hi1013_0
                                    have HC1013_0 := Aside0.mk hl1013_0
                                    clear hi1013_0 hl1013_0
                                    replace p1013 := eq_true p1013
                                    replace q1013 := eq_true q1013
                                    have p1014 : 0 ≤ (x38_2 : Int) := of_decide_eq_true (by first | (with_reducible assumption) | assumption)
                                    have q1014 : x38_2 < ((rd_L1 l3 (ji17)).length : Int) := of_decide_eq_true (by first | (with_reducible assumption) | assumption)
                                    obtain ⟨ad1014, e1014, hx1014_0⟩ := Kd.at_int HR1013_0.out x38_2 p1014 q1014
                                    cases e1014
                                    replace hx1014_0 := (HB.out.cell (World.block_lt_of_cell? w _ hx1014_0)).trans hx1014_0
                                    replace p1014 := eq_true p1014
                                    replace q1014 := eq_true q1014
                                    go_wp2
                                    go_roundg k2
                                    case measure => have := HK1.out; have := HK2.out; omega
                                    case rel => exact ⟨(x11_2), (wrap64 (x38_2 + 1)), (by first | rfl | (simp; done) | (simp [*]; done)), (by first | rfl | (simp; done) | (simp [*]; done)), H', ⟨by have := HK1.out; have := HK2.out; omega⟩, ⟨by repeat (first | (with_reducible first | exact HB.out | apply below_alloc | apply pw_below_drewN | apply below_drew1) | exact HB.out)⟩⟩
                                  · rw [if_neg c21] at H
                                    have c21b0 : ((rd (rd_L1 l3 x20_1) x38_2) == (rd (rd_L1 l3 (ji17)) x38_2)) = false := beq_eq_false_iff_ne.mpr c21
                                    have c21b1 : ((rd (rd_L1 l3 x20_1) x38_2) != (rd (rd_L1 l3 (ji17)) x38_2)) = true := bne_iff_ne.mpr c21
                                    replace H := Option.bind_eq_some_iff.mp H
                                    obtain ⟨t1015, A220, H⟩ := H
                                    replace H : (if t1015 = 1 then (sackbutref06_IsPath.l1 k2 a0 l1 l2 l3 x20_1 (wrap64 (x11_2 + 1)) l3 (l3.length : Int) x20_1 (rd_L1 l3 x20_1) ((rd_L1 l3 x20_1).length : Int) (wrap64 (x38_2 + 1))) else (some false)) = some r := H
                                    have A22 := Aside0.mk A220
                                    clear A220
                                    by_cases c23 : t1015 = 1
                                    · rw [if_pos c23] at H
                                      have c23b0 : (t1015 == 1) = true := beq_iff_eq.mpr c23
                                      have c23b1 : (t1015 != 1) = false := bne_eq_false_iff_eq.mpr c23
                                      clear c23
                                      have H' := Aside0.mk H
                                      clear H
                                      have p1012 : 0 ≤ (x38_2 : Int) := of_decide_eq_true (by first | (with_reducible assumption) | assumption)
                                      have q1012 : x38_2 < ((rd_L1 l3 x20_1).length : Int) := of_decide_eq_true (by first | (with_reducible assumption) | assumption)
                                      obtain ⟨ad1012, e1012, hx1012_0⟩ := Kd.at_int HR1009_0.out x38_2 p1012 q1012
                                      cases e1012
                                      replace hx1012_0 := (HB.out.cell (World.block_lt_of_cell? w _ hx1012_0)).trans hx1012_0
                                      replace p1012 := eq_true p1012
                                      replace q1012 := eq_true q1012
                                      have p1013 : 0 ≤ ((ji17) : Int) := of_decide_eq_true (by first | (with_reducible assumption) | assumption)
                                      have q1013 : (ji17) < (l3.length : Int) := of_decide_eq_true (by first | (with_reducible assumption) | assumption)
                                      obtain ⟨ad1013, A1013_0, c1013_0, e1013, hx1013_0, hl1013_0, hi1013_0⟩ := at_L1 HR3.out (ji17) p1013 q1013
                                      obtain rfl : ad1009 = ad1013 := (by injection e1013)
                                      replace hx1013_0 := (HB.out.cell (World.block_lt_of_cell? w _ hx1013_0)).trans hx1013_0
                                      have HR1013_0 := Aside0.mk hi1013_0
                                      have HC1013_0 := Aside0.mk hl1013_0
                                      clear hi1013_0 hl1013_0
                                      replace p1013 := eq_true p1013
                                      replace q1013 := eq_true q1013
                                      have p1014 : 0 ≤ (x38_2 : Int) := of_decide_eq_true (by first | (with_reducible assumption) | assumption)
                                      have q1014 : x38_2 < ((rd_L1 l3 (ji17)).length : Int) := of_decide_eq_true (by first | (with_reducible assumption) | assumption)
                                      obtain ⟨ad1014, e1014, hx1014_0⟩ := Kd.at_int HR1013_0.out x38_2 p1014 q1014
                                      cases e1014
                                      replace hx1014_0 := (HB.out.cell (World.block_lt_of_cell? w _ hx1014_0)).trans hx1014_0
                                      replace p1014 := eq_true p1014
                                      replace q1014 := eq_true q1014
                                      go_wp2_with (first | ((with_reducible refine gate_callee (f := 49) rfl ?_); refine goesL_ (some 59) rfl rfl Try.func49 (by kernel_rfl) rfl #[.int .i64 a0, .int .i64 (rd (rd_L1 l3 x20_1) x38_2), .int .i64 (rd (rd_L1 l3 (ji17)) x38_2)] rfl (by (try simp only [List.map_toArray, List.map_cons, List.map_nil]); first | done | (simp only [hji17]; rfl) | rfl | (simp only [List.length_drop, List.length_take]; rfl)) ?_; (with_reducible refine (sackbutref06_Distance.calls a0 (rd (rd_L1 l3 x20_1) x38_2) (rd (rd_L1 l3 (ji17)) x38_2) t1015 _ A22.out).mono ?_); rintro e w24 ⟨rfl, hb⟩; refine ⟨_, rfl, ?_⟩; have n0_ := Aside0.mk (below_step (by repeat (first | (with_reducible first | exact HB.out | apply below_alloc | apply pw_below_drewN | apply below_drew1) | exact HB.out)) hb); clear HB; have HB := n0_; clear n0_; (try clear hb); (try clear hb2); (try clear hk); (try clear hi)))
                                      go_roundg k2
                                      case measure => have := HK1.out; have := HK2.out; omega
                                      case rel => exact ⟨(wrap64 (x11_2 + 1)), (wrap64 (x38_2 + 1)), (by first | rfl | (simp; done) | (simp [*]; done)), (by first | rfl | (simp; done) | (simp [*]; done)), H', ⟨by have := HK1.out; have := HK2.out; omega⟩, ⟨by repeat (first | (with_reducible first | exact HB.out | apply below_alloc | apply pw_below_drewN | apply below_drew1) | exact HB.out)⟩⟩
                                    · rw [if_neg c23] at H
                                      have c23b0 : (t1015 == 1) = false := beq_eq_false_iff_ne.mpr c23
                                      have c23b1 : (t1015 != 1) = true := bne_iff_ne.mpr c23
                                      obtain rfl := Option.some.inj H
                                      have p1012 : 0 ≤ (x38_2 : Int) := of_decide_eq_true (by first | (with_reducible assumption) | assumption)
                                      have q1012 : x38_2 < ((rd_L1 l3 x20_1).length : Int) := of_decide_eq_true (by first | (with_reducible assumption) | assumption)
                                      obtain ⟨ad1012, e1012, hx1012_0⟩ := Kd.at_int HR1009_0.out x38_2 p1012 q1012
                                      cases e1012
                                      replace hx1012_0 := (HB.out.cell (World.block_lt_of_cell? w _ hx1012_0)).trans hx1012_0
                                      replace p1012 := eq_true p1012
                                      replace q1012 := eq_true q1012
                                      have p1013 : 0 ≤ ((ji17) : Int) := of_decide_eq_true (by first | (with_reducible assumption) | assumption)
                                      have q1013 : (ji17) < (l3.length : Int) := of_decide_eq_true (by first | (with_reducible assumption) | assumption)
                                      obtain ⟨ad1013, A1013_0, c1013_0, e1013, hx1013_0, hl1013_0, hi1013_0⟩ := at_L1 HR3.out (ji17) p1013 q1013
                                      obtain rfl : ad1009 = ad1013 := (by injection e1013)
                                      replace hx1013_0 := (HB.out.cell (World.block_lt_of_cell? w _ hx1013_0)).trans hx1013_0
                                      have HR1013_0 := Aside0.mk hi1013_0
                                      have HC1013_0 := Aside0.mk hl1013_0
                                      clear hi1013_0 hl1013_0
                                      replace p1013 := eq_true p1013
                                      replace q1013 := eq_true q1013
                                      have p1014 : 0 ≤ (x38_2 : Int) := of_decide_eq_true (by first | (with_reducible assumption) | assumption)
                                      have q1014 : x38_2 < ((rd_L1 l3 (ji17)).length : Int) := of_decide_eq_true (by first | (with_reducible assumption) | assumption)
                                      obtain ⟨ad1014, e1014, hx1014_0⟩ := Kd.at_int HR1013_0.out x38_2 p1014 q1014
                                      cases e1014
                                      replace hx1014_0 := (HB.out.cell (World.block_lt_of_cell? w _ hx1014_0)).trans hx1014_0
                                      replace p1014 := eq_true p1014
                                      replace q1014 := eq_true q1014
                                      go_wp2_with (first | ((with_reducible refine gate_callee (f := 49) rfl ?_); refine goesL_ (some 59) rfl rfl Try.func49 (by kernel_rfl) rfl #[.int .i64 a0, .int .i64 (rd (rd_L1 l3 x20_1) x38_2), .int .i64 (rd (rd_L1 l3 (ji17)) x38_2)] rfl (by (try simp only [List.map_toArray, List.map_cons, List.map_nil]); first | done | (simp only [hji17]; rfl) | rfl | (simp only [List.length_drop, List.length_take]; rfl)) ?_; (with_reducible refine (sackbutref06_Distance.calls a0 (rd (rd_L1 l3 x20_1) x38_2) (rd (rd_L1 l3 (ji17)) x38_2) t1015 _ A22.out).mono ?_); rintro e w25 ⟨rfl, hb⟩; refine ⟨_, rfl, ?_⟩; have n0_ := Aside0.mk (below_step (by repeat (first | (with_reducible first | exact HB.out | apply below_alloc | apply pw_below_drewN | apply below_drew1) | exact HB.out)) hb); clear HB; have HB := n0_; clear n0_; (try clear hb); (try clear hb2); (try clear hk); (try clear hi)))
                                      go_ret
                                      exact ⟨by first | rfl | (simp [errW_none, errW_some] <;> rfl) | (simp only [← hji17]; first | rfl | (simp [errW_none, errW_some] <;> rfl)) | (simp [*, errW_none, errW_some] <;> rfl), by repeat (first | (with_reducible first | exact HB.out | apply below_alloc | apply pw_below_drewN | apply below_drew1) | exact HB.out)⟩
                                · rw [if_neg c20] at H
                                  exact absurd H (by simp)
                              · rw [if_neg c19] at H
                                exact absurd H (by simp)
                            · rw [if_neg c18] at H
                              exact absurd H (by simp)
                          · rw [if_neg c16] at H
                            exact absurd H (by simp)
                        · rw [if_neg c15] at H
                          exact absurd H (by simp)
                      · rw [if_neg c14] at H
                        have c14b0 : decide (x38_2 < ((rd_L1 l3 x20_1).length : Int)) = false := decide_eq_false c14
                        clear c14
                        by_cases c26 : x11_2 = 1
                        · rw [if_pos c26] at H
                          have c26b0 : (x11_2 == 1) = true := beq_iff_eq.mpr c26
                          have c26b1 : (x11_2 != 1) = false := bne_eq_false_iff_eq.mpr c26
                          clear c26
                          have H' := Aside0.mk H
                          clear H
                          go_wp2
                          go_roundg k2
                          case measure => have := HK1.out; have := HK2.out; omega
                          case rel => exact ⟨(wrap64 (x20_1 + 1)), (by first | rfl | (simp; done) | (simp [*]; done)), H', ⟨by have := HK1.out; have := HK2.out; omega⟩, ⟨by repeat (first | (with_reducible first | exact HB.out | apply below_alloc | apply pw_below_drewN | apply below_drew1) | exact HB.out)⟩⟩
                        · rw [if_neg c26] at H
                          have c26b0 : (x11_2 == 1) = false := beq_eq_false_iff_ne.mpr c26
                          have c26b1 : (x11_2 != 1) = true := bne_iff_ne.mpr c26
                          obtain rfl := Option.some.inj H
                          go_wp2
                          go_ret
                          exact ⟨by first | rfl | (simp [errW_none, errW_some] <;> rfl) | (simp [*, errW_none, errW_some] <;> rfl), by repeat (first | (with_reducible first | exact HB.out | apply below_alloc | apply pw_below_drewN | apply below_drew1) | exact HB.out)⟩
              · replace c10 := Bool.eq_false_iff.mpr c10
                subst c10
                have H1 : (some false) = some r := by rw [if_neg (show ¬ (false = true) by decide)] at H; exact H
                clear H
                have H := H1
                clear H1
                obtain rfl := Option.some.inj H
                have p1009 : 0 ≤ (x20_1 : Int) := of_decide_eq_true (by first | (with_reducible assumption) | assumption)
                have q1009 : x20_1 < (l3.length : Int) := of_decide_eq_true (by first | (with_reducible assumption) | assumption)
                obtain ⟨ad1009, A1009_0, c1009_0, e1009, hx1009_0, hl1009_0, hi1009_0⟩ := at_L1 HR3.out x20_1 p1009 q1009
                cases e1009
                replace hx1009_0 := (HB.out.cell (World.block_lt_of_cell? w _ hx1009_0)).trans hx1009_0
                have HR1009_0 := Aside0.mk hi1009_0
                have HC1009_0 := Aside0.mk hl1009_0
                clear hi1009_0 hl1009_0
                replace p1009 := eq_true p1009
                replace q1009 := eq_true q1009
                go_wp2_with (first | ((with_reducible refine gate_callee (f := 23) rfl ?_); refine goesL_ (some 28) rfl rfl Try.func23 (by kernel_rfl) rfl #[.int .i64 a0, .slice A1 l1.length c1, .slice A1009_0 (rd_L1 l3 x20_1).length c1009_0] rfl (by (try simp only [List.map_toArray, List.map_cons, List.map_nil]); first | done | rfl | (simp only [List.length_drop, List.length_take]; rfl)) ?_; (with_reducible refine (sackbutref06_Two.calls k1 a0 _ _ l1 _ _ (rd_L1 l3 x20_1) false _ ?side1 ?side2 ?side3 ?side4 A9.out).mono ?_); (case side1 => repeat (first | exact (Kd.C_below HR1.out HB.out) | (with_reducible refine Kd.C_alloc ?_ _) | (with_reducible refine Kd.C_drewN ?_ _) | (with_reducible refine Kd.C_drew ?_))); (case side2 => exact HC1.out); (case side3 => repeat (first | exact (Kd.C_below HR1009_0.out HB.out) | (with_reducible refine Kd.C_alloc ?_ _) | (with_reducible refine Kd.C_drewN ?_ _) | (with_reducible refine Kd.C_drew ?_))); (case side4 => exact HC1009_0.out); rintro e w' ⟨rfl, ⟨nd, rfl⟩⟩; refine ⟨_, rfl, ?_⟩))
                go_ret
                exact ⟨by first | rfl | (simp [errW_none, errW_some] <;> rfl) | (simp [*, errW_none, errW_some] <;> rfl), by repeat (first | (with_reducible first | exact HB.out | apply below_alloc | apply pw_below_drewN | apply below_drew1) | exact HB.out)⟩
            · rw [if_neg c8] at H
              exact absurd H (by simp)
          · rw [if_neg c7] at H
            exact absurd H (by simp)
        · rw [if_neg c6] at H
          have c6b0 : decide (x20_1 < (l3.length : Int)) = false := decide_eq_false c6
          clear c6
          obtain ⟨ji27, hji27⟩ : ∃ j_ : Int, (wrap64 ((l3.length : Int) - 1)) = j_ := ⟨_, rfl⟩
          replace H : (if 0 ≤ (ji27) then (if (ji27) < (l3.length : Int) then ((sackbutref06_Rising.f (rd_L1 l3 (ji27))).bind fun t1002 => ((sackbutref06_Rising.f l2).bind fun t1005 => ((sackbutref06_same.f k1 t1002 t1005).bind fun t1008 => (some t1008)))) else (none)) else (none)) = some r := by first | (rw [hji27] at H; exact H) | (simp only [hji27] at H ⊢; exact H)
          have hji27w : (IntKind.i64.wrap ((l3.length : Int) - 1)) = ji27 := (i64_w _).trans hji27
          by_cases c28 : 0 ≤ (ji27)
          · rw [if_pos c28] at H
            have c28b0 : decide (0 ≤ (ji27)) = true := decide_eq_true c28
            clear c28
            by_cases c29 : (ji27) < (l3.length : Int)
            · rw [if_pos c29] at H
              have c29b0 : decide ((ji27) < (l3.length : Int)) = true := decide_eq_true c29
              clear c29
              replace H := Option.bind_eq_some_iff.mp H
              obtain ⟨t1002, A300, H⟩ := H
              replace H : ((sackbutref06_Rising.f l2).bind fun t1005 => ((sackbutref06_same.f k1 t1002 t1005).bind fun t1008 => (some t1008))) = some r := H
              have A30 := Aside0.mk A300
              clear A300
              replace H := Option.bind_eq_some_iff.mp H
              obtain ⟨t1005, A310, H⟩ := H
              replace H : ((sackbutref06_same.f k1 t1002 t1005).bind fun t1008 => (some t1008)) = some r := H
              have A31 := Aside0.mk A310
              clear A310
              replace H := Option.bind_eq_some_iff.mp H
              obtain ⟨t1008, A320, H⟩ := H
              replace H : (some t1008) = some r := H
              have A32 := Aside0.mk A320
              clear A320
              obtain rfl := Option.some.inj H
              have p1001 : 0 ≤ ((ji27) : Int) := of_decide_eq_true (by first | (with_reducible assumption) | assumption)
              have q1001 : (ji27) < (l3.length : Int) := of_decide_eq_true (by first | (with_reducible assumption) | assumption)
              obtain ⟨ad1001, A1001_0, c1001_0, e1001, hx1001_0, hl1001_0, hi1001_0⟩ := at_L1 HR3.out (ji27) p1001 q1001
              cases e1001
              replace hx1001_0 := (HB.out.cell (World.block_lt_of_cell? w _ hx1001_0)).trans hx1001_0
              have HR1001_0 := Aside0.mk hi1001_0
              have HC1001_0 := Aside0.mk hl1001_0
              clear hi1001_0 hl1001_0
              replace p1001 := eq_true p1001
              replace q1001 := eq_true q1001
              go_wp2_with (first | ((with_reducible refine gate_callee (f := 15) rfl ?_); refine goesL_ (some 71) rfl rfl Try.func15 (by kernel_rfl) rfl #[.slice A1001_0 (rd_L1 l3 (ji27)).length c1001_0] rfl (by (try simp only [List.map_toArray, List.map_cons, List.map_nil]); first | done | (simp only [hji27]; rfl) | rfl | (simp only [List.length_drop, List.length_take]; rfl)) ?_; (with_reducible refine (sackbutref06_Rising.calls _ _ (rd_L1 l3 (ji27)) t1002 _ ?side1 ?side2 A30.out).mono ?_); (case side1 => repeat (first | exact (Kd.C_below HR1001_0.out HB.out) | (with_reducible refine Kd.C_alloc ?_ _) | (with_reducible refine Kd.C_drewN ?_ _) | (with_reducible refine Kd.C_drew ?_))); (case side2 => exact HC1001_0.out); rintro e w33 ⟨v1003, rfl, ho0, hb⟩; refine ⟨_, rfl, ?_⟩; have n0_ := Aside0.mk (Kd.R_lower ho0 (below_size (by repeat (first | (with_reducible first | exact HB.out | apply below_alloc | apply pw_below_drewN | apply below_drew1) | exact HB.out)))); have n1_ := Aside0.mk (below_step (by repeat (first | (with_reducible first | exact HB.out | apply below_alloc | apply pw_below_drewN | apply below_drew1) | exact HB.out)) hb); clear HB; have HO1004 := n0_; have HB := n1_; clear n0_ n1_; (try clear hb); (try clear hb2); (try clear hk); (try clear hi); (try clear ho0)) | ((with_reducible refine gate_callee (f := 15) rfl ?_); refine goesL_ (some 73) rfl rfl Try.func15 (by kernel_rfl) rfl #[.slice A2 l2.length c2] rfl (by (try simp only [List.map_toArray, List.map_cons, List.map_nil]); first | done | rfl | (simp only [List.length_drop, List.length_take]; rfl)) ?_; (with_reducible refine (sackbutref06_Rising.calls _ _ l2 t1005 _ ?side1 ?side2 A31.out).mono ?_); (case side1 => repeat (first | exact (Kd.C_below HR2.out HB.out) | (with_reducible refine Kd.C_alloc ?_ _) | (with_reducible refine Kd.C_drewN ?_ _) | (with_reducible refine Kd.C_drew ?_))); (case side2 => exact HC2.out); rintro e w34 ⟨v1006, rfl, ho0, hb⟩; refine ⟨_, rfl, ?_⟩; have n0_ := Aside0.mk (Kd.R_elder' (by (with_reducible repeat (first | apply Kd.R_alloc | apply Kd.R_drewN | apply Kd.R_drew)); exact HO1004.out) (Kd.R_base ho0) hb); have n1_ := Aside0.mk (Kd.R_lower (Kd.R_new' ho0 (Kd.R_lt (by (with_reducible repeat (first | apply Kd.R_alloc | apply Kd.R_drewN | apply Kd.R_drew)); exact HO1004.out))) (below_size (by repeat (first | (with_reducible first | exact HB.out | apply below_alloc | apply pw_below_drewN | apply below_drew1) | exact HB.out)))); have n2_ := Aside0.mk (below_step (by repeat (first | (with_reducible first | exact HB.out | apply below_alloc | apply pw_below_drewN | apply below_drew1) | exact HB.out)) hb); clear HO1004; clear HB; have HO1004 := n0_; have HO1007 := n1_; have HB := n2_; clear n0_ n1_ n2_; (try clear hb); (try clear hb2); (try clear hk); (try clear hi); (try clear ho0); obtain ⟨Ao35, co35, eo35⟩ := Kd.R_slice HO1004.out; subst eo35; obtain ⟨Ao36, co36, eo36⟩ := Kd.R_slice HO1007.out; subst eo36) | ((with_reducible refine gate_callee (f := 48) rfl ?_); refine goesL_ (some 74) rfl rfl Try.func48 (by kernel_rfl) rfl #[.slice Ao35 t1002.length co35, .slice Ao36 t1005.length co36] rfl (by (try simp only [List.map_toArray, List.map_cons, List.map_nil]); first | done | rfl | (simp only [List.length_drop, List.length_take]; rfl)) ?_; (with_reducible refine (sackbutref06_same.calls k1 _ _ t1002 _ _ t1005 t1008 _ ?side1 ?side2 ?side3 ?side4 A32.out).mono ?_); (case side1 => repeat (first | exact (Kd.R_reads' HO1004.out).2.2 | (with_reducible refine Kd.C_alloc ?_ _) | (with_reducible refine Kd.C_drewN ?_ _) | (with_reducible refine Kd.C_drew ?_))); (case side2 => exact (Kd.R_reads' HO1004.out).2.1); (case side3 => repeat (first | exact (Kd.R_reads' HO1007.out).2.2 | (with_reducible refine Kd.C_alloc ?_ _) | (with_reducible refine Kd.C_drewN ?_ _) | (with_reducible refine Kd.C_drew ?_))); (case side4 => exact (Kd.R_reads' HO1007.out).2.1); rintro e w' ⟨rfl, ⟨nd, rfl⟩⟩; refine ⟨_, rfl, ?_⟩))
              go_ret
              exact ⟨by first | rfl | (simp [errW_none, errW_some] <;> rfl) | (simp only [← hji27]; first | rfl | (simp [errW_none, errW_some] <;> rfl)) | (simp [*, errW_none, errW_some] <;> rfl), by repeat (first | (with_reducible first | exact HB.out | apply below_alloc | apply pw_below_drewN | apply below_drew1) | exact HB.out)⟩
            · rw [if_neg c29] at H
              exact absurd H (by simp)
          · rw [if_neg c28] at H
            exact absurd H (by simp)

end Go.Proofs.Ytfjafmgaahfhgaa.P
namespace Go.Proofs.Ytfjafmgaahfhgaa.P
open Go.RowKit Go.Proofs.YtfjafmgaahfhgaaW.PrintWords Go.Proofs.YtfjafmgaahfhgaaW.PrintLast Go.Proofs.YtfjafmgaahfhgaaW.PrintMore
attribute [local go_sem] max2_int min2_int max_two min_two max_three min_three max_four min_four   -- for this text's walks alone
set_option linter.unusedVariables false
set_option linter.unusedSimpArgs false

/-! the document's list of all leadings -/
def rlead (k : Nat) : Nat → List Nat → List (List Nat)
  | 0, cur => [cur]
  | r + 1, cur => (List.range k).flatMap fun x => if x ∈ cur then [] else rlead k r (cur ++ [x])
def rleadTo (k r : Nat) (cur : List Nat) (m : Nat) : List (List Nat) := (List.range m).flatMap fun x => if x ∈ cur then [] else rlead k r (cur ++ [x])
theorem rleadTo_succ (k r : Nat) (cur : List Nat) (m : Nat) : rleadTo k r cur (m + 1) = rleadTo k r cur m ++ (if m ∈ cur then [] else rlead k r (cur ++ [m])) := by
  unfold rleadTo; rw [List.range_succ]; simp
theorem len_le_of_sub : ∀ (l l' : List Nat), l.Nodup → (∀ c, c ∈ l → c ∈ l') → l.length ≤ l'.length
  | [], _, _, _ => Nat.zero_le _
  | c :: l, l', hd, hs => by
    have h1 := hs c (by simp)
    have hd' := List.nodup_cons.1 hd
    have := len_le_of_sub l (l'.erase c) hd'.2 (fun x hx => by
      have hx' := hs x (by simp [hx])
      have hne : x ≠ c := fun e => hd'.1 (e ▸ hx)
      exact (List.mem_erase_of_ne hne).2 hx')
    rw [List.length_erase_of_mem h1] at this
    have hp : 0 < l'.length := List.length_pos_of_mem h1
    simp only [List.length_cons]; omega
theorem rlead_ne {k : Nat} : ∀ (r : Nat) (cur : List Nat), cur.length + r = k → rlead k r cur ≠ []
  | 0, _, _ => by simp [rlead]
  | r + 1, cur, h => by
    have : ∃ x, x < k ∧ x ∉ cur := by
      refine Classical.byContradiction fun hn => ?_
      have h1 := len_le_of_sub (List.range k) cur List.nodup_range (fun x hx => Classical.byContradiction fun h2 => hn ⟨x, List.mem_range.1 hx, h2⟩)
      rw [List.length_range] at h1; omega
    obtain ⟨x, hx, hc⟩ := this
    obtain ⟨l, hl⟩ := List.exists_mem_of_ne_nil _ (rlead_ne (k := k) r (cur ++ [x]) (by rw [List.length_append, List.length_singleton]; omega))
    refine List.ne_nil_of_mem (a := l) ?_
    simp only [rlead]
    rw [List.mem_flatMap]
    exact ⟨x, List.mem_range.2 hx, by rw [if_neg hc]; exact hl⟩
theorem flat_congr {l : List Nat} {f g : Nat → List (List Nat)} (h : ∀ x ∈ l, f x = g x) : l.flatMap f = l.flatMap g := by
  rw [List.flatMap_def, List.flatMap_def, List.map_congr_left h]
theorem ldg_rlead {k : Nat} : ∀ (r used : Nat) (cur : List Nat), (∀ x, x < k → used.testBit x = decide (x ∈ cur)) → ldg k r used cur = rlead k r cur
  | 0, _, _, _ => rfl
  | r + 1, used, cur, h => by
    simp only [ldg, rlead]
    refine flat_congr (fun x hx => ?_)
    have hx' := List.mem_range.1 hx
    rw [h x hx']
    by_cases hc : x ∈ cur
    · simp [hc]
    · simp only [hc, decide_false, Bool.false_eq_true, if_false]
      exact ldg_rlead r (used ||| 2 ^ x) (cur ++ [x]) (fun y hy => by
        rw [Nat.testBit_or, Nat.testBit_two_pow, h y hy]
        by_cases h1 : y ∈ cur <;> by_cases h2 : x = y <;> simp [h1, h2, eq_comm]
        all_goals (first | (intro h3; exact absurd h3.symm h2) | skip))
theorem ldg_all (k : Nat) : ldg k k 0 [] = rlead k k [] := ldg_rlead k 0 [] (fun x _ => by simp)
/-- rows of numbers of the call's own -/
def RowOf (W : World) (base : Nat) (v : Value) (l : List Nat) : Prop := ∃ A c, v = .slice A (nums l).length c ∧ Kd.R (Kd.int .i64) 3 W base (fun _ => True) v (nums l)
def All2 (W : World) (base : Nat) : List Value → List (List Nat) → Prop
  | [], [] => True
  | v :: vs, l :: ls => RowOf W base v l ∧ All2 W base vs ls
  | _, _ => False
theorem RowOf.below {W W' : World} {base : Nat} {v : Value} {l : List Nat} (h : RowOf W base v l) (hb : Below W.heap.size W W') : RowOf W' base v l := by
  obtain ⟨A, c, e, hR⟩ := h
  exact ⟨A, c, e, Kd.R_below hR hb⟩
theorem All2.below {W W' : World} {base : Nat} (hb : Below W.heap.size W W') : ∀ {vs : List Value} {ls : List (List Nat)}, All2 W base vs ls → All2 W' base vs ls
  | [], [], _ => trivial
  | _ :: _, _ :: _, h => ⟨h.1.below hb, All2.below hb h.2⟩
theorem All2.append {W : World} {base : Nat} : ∀ {vs us : List Value} {ls ms : List (List Nat)}, All2 W base vs ls → All2 W base us ms → All2 W base (vs ++ us) (ls ++ ms)
  | [], _, [], _, _, h => h
  | _ :: _, _, _ :: _, _, h, h2 => ⟨h.1, All2.append h.2 h2⟩
theorem All2.length {W : World} {base : Nat} : ∀ {vs : List Value} {ls : List (List Nat)}, All2 W base vs ls → vs.length = ls.length
  | [], [], _ => rfl
  | _ :: _, _ :: _, h => by rw [List.length_cons, List.length_cons, All2.length h.2]
theorem RowOf.over {W w1 : World} {base : Nat} {u v : Value} {l : List Nat} (h : RowOf W base u l) (hty : ∀ k, v.ownBlock = some k → ∃ cells, W.heap[k]? = some (.cells cells 23 (0, 0))) (hg : W.grownBy w1 v.ownBlock) : RowOf w1 base u l := by
  obtain ⟨A, c, e, hR⟩ := h
  exact ⟨A, c, e, Kd.R_over' hR hty (by intro q hq; simp [Kd.int, Kd.scalar] at hq; subst hq; decide) hg⟩
theorem All2.over {W w1 : World} {base : Nat} {v : Value} (hty : ∀ k, v.ownBlock = some k → ∃ cells, W.heap[k]? = some (.cells cells 23 (0, 0))) (hg : W.grownBy w1 v.ownBlock) : ∀ {vs : List Value} {ls : List (List Nat)}, All2 W base vs ls → All2 w1 base vs ls
  | [], [], _ => trivial
  | _ :: _, _ :: _, h => ⟨h.1.over hty hg, All2.over hty hg h.2⟩
theorem flat_len {l : List Nat} {f : Nat → List (List Nat)} {m : Nat} (h : ∀ x ∈ l, (f x).length ≤ m) : (l.flatMap f).length ≤ l.length * m := by
  induction l with
  | nil => simp
  | cons x l ih =>
    have h1 := h x (by simp)
    have h2 := ih (fun y hy => h y (by simp [hy]))
    rw [List.flatMap_cons, List.length_append, List.length_cons, Nat.add_mul]; omega
theorem rlead_len {k : Nat} : ∀ (r : Nat) (cur : List Nat), (rlead k r cur).length ≤ k ^ r
  | 0, _ => by simp [rlead]
  | r + 1, cur => by
    have : ∀ x ∈ List.range k, (if x ∈ cur then ([] : List (List Nat)) else rlead k r (cur ++ [x])).length ≤ k ^ r := fun x _ => by
      split
      · simp
      · exact rlead_len r _
    have h := flat_len this
    rw [List.length_range] at h
    simp only [rlead]
    rw [Nat.pow_succ, Nat.mul_comm]; exact h
theorem rleadTo_len {k r m : Nat} {cur : List Nat} (hm : m ≤ k) (hk : k ≤ 6) (hr : r + 1 ≤ 6) : (rleadTo k r cur m).length ≤ 46656 := by
  have : ∀ x ∈ List.range m, (if x ∈ cur then ([] : List (List Nat)) else rlead k r (cur ++ [x])).length ≤ 6 ^ 5 := fun x _ => by
    split
    · simp
    · refine Nat.le_trans (rlead_len r _) (Nat.le_trans (Nat.pow_le_pow_left hk r) (Nat.pow_le_pow_right (by omega) (by omega)))
  have h := flat_len this
  rw [List.length_range] at h
  unfold rleadTo
  have : m * 6 ^ 5 ≤ 6 * 6 ^ 5 := Nat.mul_le_mul_right _ (by omega)
  omega
theorem RowOf.one {W : World} {base : Nat} {v : Value} {l : List Nat} (h : RowOf W base v l) : v.oneCell' = true := by
  obtain ⟨A, c, e, _⟩ := h; rw [e]; rfl
theorem All2.one {W : World} {base : Nat} : ∀ {vs : List Value} {ls : List (List Nat)}, All2 W base vs ls → ∀ u ∈ vs, u.oneCell' = true
  | [], [], _, u, hu => by cases hu
  | _ :: _, _ :: _, h, u, hu => by
    rcases List.mem_cons.1 hu with rfl | hu
    · exact h.1.one
    · exact All2.one h.2 u hu
theorem All2.get {W : World} {base : Nat} : ∀ {vs : List Value} {ls : List (List Nat)}, All2 W base vs ls → ∀ (i : Nat) (l : List Nat), ls[i]? = some l → ∃ v, vs[i]? = some v ∧ RowOf W base v l
  | [], [], _, i, l, h => by simp at h
  | v :: vs, l' :: ls, h, 0, l, hl => by
    simp only [List.getElem?_cons_zero, Option.some.injEq] at hl
    subst hl
    exact ⟨v, rfl, h.1⟩
  | v :: vs, l' :: ls, h, i + 1, l, hl => by
    simp only [List.getElem?_cons_succ] at hl ⊢
    exact All2.get h.2 i l hl
def LeadsPost (base : Nat) (W : World) (L : List (List Nat)) (e : Ending) (w' : World) : Prop := ∃ v vs, e = .returned v ∧ w'.ownsRow W.heap.size 23 1 v vs.length vs ∧ All2 w' base vs L ∧ Below W.heap.size W w'
/-- a row of the call's own has its cells somewhere, where it has any -/
theorem own_some {w : World} {base : Nat} {e : TypeId} {v : Value} {vs : List Value} (h : w.ownsRow base e 1 v vs.length vs) (hne : 0 < vs.length) : ∃ g c, v = .slice (some ⟨g, 0, none⟩) vs.length c ∧ ∀ j u, vs[j]? = some u → w.cell? ((⟨g, 0, none⟩ : Addr).add j) = some u := by
  have hc : ∀ g, v.ownBlock = some g → ∀ j u, vs[j]? = some u → w.cell? ((⟨g, 0, none⟩ : Addr).add j) = some u := fun g hg => h.cells hg
  obtain ⟨_, h2⟩ := h
  rcases h2 with ⟨_, h0⟩ | ⟨g, cap, cur, e1, _⟩
  · omega
  · exact ⟨g, cap, e1, hc g (by rw [e1]; rfl)⟩
theorem infoS : (Try.prog.info? 23).map (fun i => (i.zero, i.size, i.bytes)) = some (some (.slice none 0 0), 1, 24) := by kernel_rfl
theorem R_fresh {w : World} {base : Nat} {v : Value} {xs : List Int} (h : w.ownsRow base 3 1 v xs.length (xs.map (Value.int .i64))) : Kd.R (Kd.int .i64) 3 w base (fun _ => True) v xs := Kd.R_of_own (h1 := fun _ => rfl) h (fun _ _ => trivial)
set_option maxHeartbeats 4000000 in
set_option maxRecDepth 100000 in
theorem leads_end (k : Nat) (base : Nat) (A : Option Addr) (c : Nat) (cur : List Nat) (W : World) (hc : cur.length = k) (hR : Kd.R (Kd.int .i64) 3 W base (fun _ => True) (.slice A (nums cur).length c) (nums cur)) :
    Calls Try.prog 69 #[.int .i64 (k : Int), .slice A (nums cur).length c] W (LeadsPost base W [cur]) := by
  have hlen : (nums cur).length = k := by rw [nums_length, hc]
  have HR := Aside0.mk hR
  have HL := Aside0.mk hlen
  rw [hlen]
  clear hR hc hlen
  go_enter Try.func69, Try.ntmps69
  go_wp2
  go_ret
  refine ⟨_, [.slice A k c], rfl, World.ownsRow_lit (base := W.heap.size) (e := 23) (size := 1) W #[.slice A k c] 1 (Nat.le_refl _) (by simp [maxLen]) (by simp), ⟨?_, trivial⟩, below_alloc (Below.refl _ _) _⟩
  refine ⟨A, c, by rw [HL.out], ?_⟩
  rw [← HL.out]
  exact Kd.R_alloc HR.out _
theorem nums_get {cur : List Nat} {j : Nat} (h : j < cur.length) : rd (nums cur) (j : Int) = (cur[j] : Int) := by
  rw [rd_get (by rw [nums_length]; exact h)]; simp [nums]
theorem any_take {cur : List Nat} {j x : Nat} (h : j < cur.length) : (decide (x ∈ cur.take (j + 1))) = (decide (x ∈ cur.take j) || decide (x = cur[j])) := by
  rw [List.take_succ_eq_append_getElem h, ← Bool.decide_or, decide_eq_decide, List.mem_append, List.mem_singleton]
theorem nums_cells {W : World} {A : Option Addr} {cur : List Nat} (h : Kd.C (Kd.int .i64) W A (nums cur).length (nums cur)) : ∀ b, A = some b → ∀ j u, ((nums cur).map (Value.int .i64))[j]? = some u → W.cell? (b.add j) = some u := by
  intro b hb j u hu
  rw [List.getElem?_map, Option.map_eq_some_iff] at hu
  obtain ⟨x, hx, rfl⟩ := hu
  have hj := (List.getElem?_eq_some_iff.1 hx).1
  obtain ⟨ad, e, hc⟩ := Kd.at_int h (j : Int) (by omega) (by omega)
  rw [hb] at e
  injection e with e
  subst e
  rw [Int.toNat_natCast, rd_get hj] at hc
  rw [hc, (List.getElem?_eq_some_iff.1 hx).2]
set_option maxHeartbeats 8000000 in
set_option maxRecDepth 100000 in
theorem leads_more (k : Nat) (hk : k ≤ 6) (r : Nat) (base : Nat) (A : Option Addr) (c : Nat) (cur : List Nat) (W : World) (hc : cur.length + (r + 1) = k) (hb : base ≤ W.heap.size) (hR : Kd.R (Kd.int .i64) 3 W base (fun _ => True) (.slice A (nums cur).length c) (nums cur))
    (ih : ∀ (x : Nat) (A : Option Addr) (c : Nat) (W : World), x < k → x ∉ cur → base ≤ W.heap.size → Kd.R (Kd.int .i64) 3 W base (fun _ => True) (.slice A (nums (cur ++ [x])).length c) (nums (cur ++ [x])) →
      Calls Try.prog 69 #[.int .i64 (k : Int), .slice A (nums (cur ++ [x])).length c] W (LeadsPost base W (rlead k r (cur ++ [x])))) :
    Calls Try.prog 69 #[.int .i64 (k : Int), .slice A (nums cur).length c] W (LeadsPost base W (rleadTo k r cur k)) := by
  obtain ⟨L, hlen⟩ : ∃ L, (nums cur).length = L := ⟨_, rfl⟩
  have hLk : L < k := by rw [nums_length] at hlen; omega
  have hcl : cur.length = L := by rw [← nums_length]; exact hlen
  have HR := Aside0.mk hR
  have HRC := Aside0.mk (Kd.R_reads' hR).2.2
  have hcc := (Kd.R_reads' hR).2.1
  rw [hlen] at hcc HR ⊢
  have HL := Aside0.mk hlen
  have HCL := Aside0.mk hcl
  have HIH := Aside0.mk ih
  have HB := Aside0.mk hb
  have HCK := Aside0.mk hc
  have hne : ((L : Int) == (k : Int)) = false := beq_eq_false_iff_ne.2 (by omega)
  obtain ⟨i0, hi, hz0, hz1, hz2⟩ := info_parts info3
  obtain ⟨i1, hi1, hy0, hy1, hy2⟩ := info_parts infoS
  have HI0 := Aside0.mk hi
  have HI1 := Aside0.mk hi1
  have HZ := Aside0.mk (show i0.zero = some (.int .i64 0) ∧ i0.size = 1 ∧ i0.bytes = 8 ∧ i1.zero = some (.slice none 0 0) ∧ i1.size = 1 ∧ i1.bytes = 24 from ⟨hz0, hz1, hz2, hy0, hy1, hy2⟩)
  have HNONE := Aside0.mk (show A = none → L = 0 ∧ L = 0 from fun e => by
    rcases Nat.eq_zero_or_pos L with h | h
    · exact ⟨h, h⟩
    · obtain ⟨ad, e2, _⟩ := Kd.at_int HRC.out 0 (by omega) (by omega)
      rw [e] at e2; cases e2)
  clear hR hlen hcl ih hb hc hi hz0 hz1 hz2 hi1 hy0 hy1 hy2
  go_enter Try.func69, Try.ntmps69
  go_wp2
  go_loopg [5, 17] k (fun gg s5 s17 wr => ∃ (x : Nat) (v : Value) (vs : List Value), s17 = .int .i64 x ∧ s5 = v ∧ Aside0 (x + gg = k) ∧ Aside0 (wr.ownsRow W.heap.size 23 1 v vs.length vs) ∧ Aside0 (All2 wr base vs (rleadTo k r cur x)) ∧ Aside0 (Below W.heap.size W wr))
  case atStart => exact ⟨0, _, [], rfl, rfl, ⟨by omega⟩, ⟨World.ownsRow_nil _ _ _ _⟩, ⟨trivial⟩, ⟨Below.refl _ _⟩⟩
  case round =>
    obtain ⟨x, v, vs, rfl, rfl, HX, HO, HA, HBW⟩ := hrel
    have HS := Aside0.mk (rleadTo_succ k r cur x)
    obtain ⟨G, rfl⟩ : ∃ G, G = gk := ⟨gk, rfl⟩
    obtain ⟨wo, rfl⟩ : ∃ wo : World, wo = wr := ⟨wr, rfl⟩
    by_cases hlt : x < k
    · have hltz : (x : Int) < (k : Int) := by omega
      clear hne
      go_wp2
      go_loopg [7, 22] L (fun gg s7 s22 w2 => ∃ (j q : Nat), s22 = .int .i64 j ∧ s7 = .bool (decide (x ∈ cur.take j)) ∧ w2 = wo.drewN q ∧ Aside0 (j + gg = L))
      case atStart => exact ⟨0, 0, rfl, by simp, rfl, ⟨by omega⟩⟩
      case round =>
        obtain ⟨j, q, rfl, rfl, rfl, HJ⟩ := hrel
        by_cases hj : j < L
        · have hjz : (j : Int) < (L : Int) := by omega
          obtain ⟨ad, e, hcell⟩ := Kd.at_int (Kd.C_below HRC.out HBW.out) (j : Int) (by omega) (by rw [HL.out]; exact hjz)
          rw [nums_get (by rw [HCL.out]; exact hj), Int.toNat_natCast] at hcell
          cases e
          have HT := Aside0.mk (any_take (x := x) (show j < cur.length by rw [HCL.out]; exact hj))
          generalize hy : cur[j]'(by rw [HCL.out]; exact hj) = y at hcell HT
          clear hy
          cases ho : decide (x ∈ cur.take j) with
          | true =>
            rw [ho, Bool.true_or] at HT
            clear ho
            go_wp2
            go_roundg (gk - 1)
            case measure => have := HJ.out; omega
            case rel => exact ⟨j + 1, q, by go_num, by rw [HT.out], rfl, ⟨by have := HJ.out; omega⟩⟩
          | false =>
            rw [ho, Bool.false_or] at HT
            clear ho
            by_cases hxy : x = y
            · rw [decide_eq_true hxy] at HT
              have e6 : ((x : Int) == (y : Int)) = true := by rw [hxy]; exact beq_self_eq_true _
              clear hxy
              go_wp2
              go_roundg (gk - 1)
              case measure => have := HJ.out; omega
              case rel => exact ⟨j + 1, q, by go_num, by rw [HT.out], rfl, ⟨by have := HJ.out; omega⟩⟩
            · rw [decide_eq_false hxy] at HT
              have e6 : ((x : Int) == (y : Int)) = false := beq_eq_false_iff_ne.2 (by omega)
              clear hxy
              go_wp2
              go_roundg (gk - 1)
              case measure => have := HJ.out; omega
              case rel => exact ⟨j + 1, q, by go_num, by rw [HT.out], rfl, ⟨by have := HJ.out; omega⟩⟩
        · have hjL : j = L := by have := HJ.out; omega
          have hjz : ¬ (j : Int) < (L : Int) := by omega
          have HALL := Aside0.mk (show decide (x ∈ cur.take j) = decide (x ∈ cur) by rw [List.take_of_length_le (by rw [HCL.out]; omega)])
          have HX5 := Aside0.mk hjL
          clear hjL
          cases ho : decide (x ∈ cur.take j) with
          | true =>
            rw [ho] at HALL
            have HM := Aside0.mk (of_decide_eq_true HALL.out.symm)
            rw [if_pos HM.out, List.append_nil] at HS
            clear ho
            go_wp2
            go_roundg (G - 1)
            case measure => have := HX.out; omega
            case rel => exact ⟨x + 1, _, vs, by go_num, rfl, ⟨by have := HX.out; omega⟩, ⟨own_move HO.out (fun _ _ => rfl)⟩, ⟨by rw [HS.out]; exact HA.out.below (pw_below_drewN (Below.refl _ _) q)⟩, ⟨pw_below_drewN HBW.out q⟩⟩
          | false =>
            rw [ho] at HALL
            have HM := Aside0.mk (of_decide_eq_false HALL.out.symm)
            rw [if_neg HM.out] at HS
            clear ho
            have hLc : (L : Int) ≤ (c : Int) := by omega
            have hsz := HBW.out.size
            have HCB := Aside0.mk (nums_cells (W := (wo.drewN q).alloc (.cells #[.int .i64 (x : Int)] 3)) (A := A) (cur := cur) (Kd.C_alloc (Kd.C_drewN (Kd.C_below HRC.out HBW.out) q) _))
            have HNL := Aside0.mk (show ((nums cur).map (Value.int .i64)).length = L * 1 by rw [List.length_map, HL.out, Nat.mul_one])
            have HNC := Aside0.mk (new_cell (wo.drewN q) (.int .i64 (x : Int)) 3)
            go_wp2_with (((with_reducible refine gate_builtin (b := .append) (xs := #[.tmp 42, .tmp 44]) rfl ?_); at_builtin; refine wpList_append_grows _ rfl _ _ 23 rfl 3 i0 (.int .i64 0) 1 8 Try.underlying23 HI0.out HZ.out.1 HZ.out.2.1 HZ.out.2.2.1 rfl (by decide) A L L ((nums cur).map (Value.int .i64)) rfl HNONE.out HNL.out HCB.out ⟨wo.heap.size, 0, none⟩ 1 1 [.int .i64 (x : Int)] rfl rfl ?c1 ?c2 (by omega) ?c3 ?c4 ?_; (case c1 => intro j u hu; cases j with
              | zero => simp only [List.getElem?_cons_zero, Option.some.injEq] at hu; subst hu; exact HNC.out.1
              | succ j => simp at hu); (case c2 => intro u hu; rw [List.mem_singleton] at hu; subst hu; rfl); (case c3 => simp only [maxLen]; omega); (case c4 => omega); intro v5 w5 ho5 hg5))
            have hrow : (((nums cur).map (Value.int .i64)) ++ [Value.int .i64 (x : Int)]) = (nums (cur ++ [x])).map (Value.int .i64) := by rw [nums_snoc]; simp
            have hlen2 : L + 1 = (nums (cur ++ [x])).length := by rw [nums_snoc, List.length_append, HL.out]; rfl
            rw [hrow] at ho5
            have ho6 := ho5
            rw [hlen2] at ho6
            have hR5 := R_fresh ho6
            obtain ⟨A5, c5, e5⟩ := Kd.R_slice hR5
            subst e5
            have hb5 : Below wo.heap.size wo w5 := ((below_alloc (pw_below_drewN (Below.refl wo.heap.size wo) q) _).grown hg5 (by simp) (fun k e => by cases e))
            have HB5 := Aside0.mk hb5
            have hrun := HIH.out x A5 c5 w5 hlt HM.out (Nat.le_trans HB.out (Nat.le_trans HBW.out.size hb5.size)) (Kd.R_lower hR5 (by simp only [World.size_alloc]; have := HB.out; have := HBW.out.size; show base ≤ wo.heap.size + 1; omega))
            rw [← hlen2] at hrun ⊢
            have HRUN := Aside0.mk hrun
            clear hrow hlen2 ho5 ho6 hR5 hb5 hg5 hrun hsz
            go_wp2_with fail
            refine HRUN.out.mono ?_
            rintro e w6 ⟨v6, vs6, rfl, ho6, ha6, hb6⟩
            have hne6 : 0 < vs6.length := by
              rw [ha6.length]
              exact List.length_pos_iff.2 (rlead_ne r _ (by rw [List.length_append, List.length_singleton]; have := HCK.out; omega))
            obtain ⟨g6, c6, e6, hc6⟩ := own_some ho6 hne6
            subst e6
            have HA6 := Aside0.mk ha6
            have HC6 := Aside0.mk hc6
            have HBL := Aside0.mk (HB5.out.trans (hb6.mono HB5.out.size))
            have HO6 := Aside0.mk (own_move HO.out (fun k hk => HBL.out.block k (own_lt HO.out k hk)))
            have HN1 := Aside0.mk (rleadTo_len (k := k) (r := r) (m := x + 1) (cur := cur) (by omega) hk (by have := HCK.out; omega))
            have HN2 : Aside0 (vs.length + vs6.length ≤ 46656) := ⟨by
              have h1 := HN1.out
              rw [HS.out, List.length_append] at h1
              rw [HA.out.length, ha6.length]; exact h1⟩
            clear ho6 ha6 hb6 hc6 hne6 HN1
            go_wp2_with (((with_reducible refine gate_builtin (b := .append) (xs := #[.tmp 35, .tmp 46]) rfl ?_); at_builtin; refine wpList_append_own _ rfl _ _ 22 rfl W.heap.size 23 i1 (.slice none 0 0) 1 24 Try.underlying22 HI1.out HZ.out.2.2.2.1 HZ.out.2.2.2.2.1 HZ.out.2.2.2.2.2 rfl (by decide) _ vs.length vs rfl HO6.out ⟨g6, 0, none⟩ vs6.length c6 vs6 rfl (Nat.mul_one _).symm HC6.out HA6.out.one ?c5 ?c6 ?c7 ?_; (case c5 => simp only [maxLen]; have := HN2.out; omega); (case c6 => have := HN2.out; omega); (case c7 => exact Nat.le_trans HBW.out.size HBL.out.size); intro v7 w7 ho7 hg7 _))
            go_roundg (G - 1)
            case measure => have := HX.out; omega
            case rel =>
              refine ⟨x + 1, v7, vs ++ vs6, by go_num, rfl, ⟨by have := HX.out; omega⟩, ⟨by rw [List.length_append]; exact ho7⟩, ⟨?_⟩, ⟨((HBW.out.trans (HBL.out.mono HBW.out.size))).grown hg7 (Nat.le_trans HBW.out.size HBL.out.size) (fun k hk => own_base HO6.out k hk)⟩⟩
              rw [HS.out]
              exact ((HA.out.below HBL.out).append HA6.out).over (fun k hk => own_typed HO6.out k hk) hg7
    · have hxk : x = k := by have := HX.out; omega
      have HXK := Aside0.mk hxk
      clear hxk
      have hltz : ¬ (x : Int) < (k : Int) := by omega
      go_wp2
      go_ret
      have ha := HA.out
      rw [HXK.out] at ha
      exact ⟨_, vs, rfl, HO.out, ha, HBW.out⟩
theorem refLeads_calls (k : Nat) (hk : k ≤ 6) (base : Nat) : ∀ (r : Nat) (A : Option Addr) (c : Nat) (cur : List Nat) (W : World), cur.length + r = k → base ≤ W.heap.size → Kd.R (Kd.int .i64) 3 W base (fun _ => True) (.slice A (nums cur).length c) (nums cur) →
    Calls Try.prog 69 #[.int .i64 (k : Int), .slice A (nums cur).length c] W (LeadsPost base W (rlead k r cur)) := by
  intro r
  induction r with
  | zero => intro A c cur W hc _ hR; exact leads_end k base A c cur W (by omega) hR
  | succ r ih =>
    intro A c cur W hc hb hR
    exact leads_more k hk r base A c cur W hc hb hR (fun x A c W _ _ hb hR => ih A c (cur ++ [x]) W (by rw [List.length_append, List.length_singleton]; omega) hb hR)

end Go.Proofs.Ytfjafmgaahfhgaa.P
namespace Go.Proofs.Ytfjafmgaahfhgaa.P
open Go.RowKit Go.Proofs.YtfjafmgaahfhgaaW.PrintWords Go.Proofs.YtfjafmgaahfhgaaW.PrintLast Go.Proofs.YtfjafmgaahfhgaaW.PrintMore
attribute [local go_sem] max2_int min2_int max_two min_two max_three min_three max_four min_four   -- for this text's walks alone
set_option linter.unusedVariables false
set_option linter.unusedSimpArgs false

/-! ### sackbutref06_Price: function 50 -/
def sackbutref06_Price.l0 : Nat → Int → List Int → List Int → Int → List Int → Int → Int → Option (Int)
  | 0, _, _, _, _, _, _, _ => none
  | k + 1, x0, x1, x2, x9, x12, x13, x14 => if x14 < x13 then (if 0 ≤ x14 then (if x14 < (x12.length : Int) then (if x14 < (x1.length : Int) then (if 0 ≤ (rd x12 x14) then (if (rd x12 x14) < (x2.length : Int) then ((sackbutref06_Distance.f x0 (rd x1 x14) (rd x2 (rd x12 x14))).bind fun t1004 => (sackbutref06_Price.l0 k x0 x1 x2 (wrap64 (x9 + t1004)) x12 x13 (wrap64 (x14 + 1)))) else (none)) else (none)) else (none)) else (none)) else (none)) else (some x9)
def sackbutref06_Price.f (k : Nat) (a0 : Int) (l1 : List Int) (l2 : List Int) (l3 : List Int) : Option (Int) := sackbutref06_Price.l0 k a0 l1 l2 0 l3 (l3.length : Int) 0
theorem sackbutref06_Price.mono_l : ∀ k, (∀ y0 y1 y2 y3 y4 y5 y6, LeO (sackbutref06_Price.l0 k y0 y1 y2 y3 y4 y5 y6) (sackbutref06_Price.l0 (k + 1) y0 y1 y2 y3 y4 y5 y6))
  | 0 => fun _ _ _ _ _ _ _ r h => by simp [sackbutref06_Price.l0] at h
  | k + 1 => by
    have ih0 := sackbutref06_Price.mono_l k
    · intro y0 y1 y2 y3 y4 y5 y6
      unfold sackbutref06_Price.l0
      repeat' first
      | (with_reducible exact ih0 _ _ _ _ _ _ _)
      | (with_reducible exact LeO.refl _)
      | (with_reducible exact LeO.none _)
      | (with_reducible refine LeO.ite ?_ ?_)
      | (with_reducible refine LeO.bind ?_ (fun _ => ?_))
      | exact ih0 _ _ _ _ _ _ _
      | exact LeO.none _
      | refine LeO.ite ?_ ?_
      | refine LeO.bind ?_ (fun _ => ?_)
theorem sackbutref06_Price.mono : ∀ a0 a1 a2 a3 k, LeO (sackbutref06_Price.f k a0 a1 a2 a3) (sackbutref06_Price.f (k + 1) a0 a1 a2 a3) := by
  intro a0 a1 a2 a3 k
  have ih0 := sackbutref06_Price.mono_l k
  unfold sackbutref06_Price.f
  repeat' first
      | (with_reducible exact ih0 _ _ _ _ _ _ _)
      | (with_reducible exact LeO.refl _)
      | (with_reducible exact LeO.none _)
      | (with_reducible refine LeO.ite ?_ ?_)
      | (with_reducible refine LeO.bind ?_ (fun _ => ?_))
      | exact ih0 _ _ _ _ _ _ _
      | exact LeO.none _
      | refine LeO.ite ?_ ?_
      | refine LeO.bind ?_ (fun _ => ?_)
def sackbutref06_Price.T5 : Bool × List (List Nat × List Nat) := (true, [([], []), ([], []), ([], []), ([], []), ([2, 3], [2, 3]), ([4], [4]), ([], []), ([], []), ([6, 7], [6, 7]), ([8], [8]), ([1, 5, 9], [1, 5, 9]), ([0, 10], [0, 10]), ([11, 10, 0, 1, 2, 3, 4, 5, 6, 7, 8, 9, 10, 11], [0, 11])])
def sackbutref06_Price.B5 : List Nat := [0, 0, 0, 0, 12, 28, 0, 0, 192, 448, 1022, 2047, 4095]
theorem sackbutref06_Price.tab5 : rtab .any (opsOf Try.f50 5) = sackbutref06_Price.T5 := by kernel_rfl
theorem sackbutref06_Price.bits5 : waitsOk sackbutref06_Price.T5.2 sackbutref06_Price.B5 = true := by kernel_rfl
set_option maxHeartbeats 8000000 in
set_option maxRecDepth 100000 in
theorem sackbutref06_Price.calls (k : Nat) (a0 : Int) (A1 : Option Addr) (c1 : Nat) (l1 : List Int) (A2 : Option Addr) (c2 : Nat) (l2 : List Int) (A3 : Option Addr) (c3 : Nat) (l3 : List Int) (r : Int) (w : World) (hr1 : Kd.C (Kd.int .i64) w A1 l1.length l1) (hc1 : l1.length ≤ c1) (hr2 : Kd.C (Kd.int .i64) w A2 l2.length l2) (hc2 : l2.length ≤ c2) (hr3 : Kd.C (Kd.int .i64) w A3 l3.length l3) (hc3 : l3.length ≤ c3) (h : sackbutref06_Price.f k a0 l1 l2 l3 = some r) :
    Calls Try.prog 50 #[.int .i64 a0, .slice A1 l1.length c1, .slice A2 l2.length c2, .slice A3 l3.length c3] w fun e w' => e = .returned (.int .i64 r) ∧ Below w.heap.size w w' := by
  have HR1 := Aside0.mk hr1
  have HC1 := Aside0.mk hc1
  clear hr1 hc1
  have HR2 := Aside0.mk hr2
  have HC2 := Aside0.mk hc2
  clear hr2 hc2
  have HR3 := Aside0.mk hr3
  have HC3 := Aside0.mk hc3
  clear hr3 hc3
  have HB := Aside0.mk (Below.refl w.heap.size w)
  have H : (sackbutref06_Price.l0 k a0 l1 l2 0 l3 (l3.length : Int) 0) = some r := h
  clear h
  have H' := Aside0.mk H
  clear H
  go_enter Try.func50, Try.ntmps50
  go_wp2
  go_loopg [9, 14] k (fun kq v9 v14 w' => ∃ (x9_1 : Int) (x14_1 : Int), v9 = .int .i64 x9_1 ∧ v14 = .int .i64 x14_1 ∧ Aside0 (sackbutref06_Price.l0 kq a0 l1 l2 x9_1 l3 (l3.length : Int) x14_1 = some r) ∧ Aside0 (kq ≤ k) ∧ Aside0 (Below w.heap.size w w'))
  case atStart => exact ⟨(0), (0), (by first | rfl | (simp; done) | (simp [*]; done)), (by first | rfl | (simp; done) | (simp [*]; done)), H', ⟨Nat.le_refl _⟩, ⟨by repeat (first | (with_reducible first | exact HB.out | apply below_alloc | apply pw_below_drewN | apply below_drew1) | exact HB.out)⟩⟩
  case round =>
    clear H'
    try clear c1
    try clear c2
    try clear p2
    try clear c3
    obtain ⟨x9_1, x14_1, rfl, rfl, HA, HK1, HB⟩ := hrel
    cases gk with
    | zero => exact absurd HA.out (by simp [sackbutref06_Price.l0])
    | succ k1 =>
      have H := HA.out
      clear HA
      simp only [sackbutref06_Price.l0] at H
      by_cases c5 : x14_1 < (l3.length : Int)
      · rw [if_pos c5] at H
        have c5b0 : decide (x14_1 < (l3.length : Int)) = true := decide_eq_true c5
        clear c5
        by_cases c6 : 0 ≤ x14_1
        · rw [if_pos c6] at H
          have c6b0 : decide (0 ≤ x14_1) = true := decide_eq_true c6
          clear c6
          by_cases c7 : x14_1 < (l3.length : Int)
          · rw [if_pos c7] at H
            have c7b0 : decide (x14_1 < (l3.length : Int)) = true := decide_eq_true c7
            clear c7
            by_cases c8 : x14_1 < (l1.length : Int)
            · rw [if_pos c8] at H
              have c8b0 : decide (x14_1 < (l1.length : Int)) = true := decide_eq_true c8
              clear c8
              by_cases c9 : 0 ≤ (rd l3 x14_1)
              · rw [if_pos c9] at H
                have c9b0 : decide (0 ≤ (rd l3 x14_1)) = true := decide_eq_true c9
                clear c9
                by_cases c10 : (rd l3 x14_1) < (l2.length : Int)
                · rw [if_pos c10] at H
                  have c10b0 : decide ((rd l3 x14_1) < (l2.length : Int)) = true := decide_eq_true c10
                  clear c10
                  replace H := Option.bind_eq_some_iff.mp H
                  obtain ⟨t1004, A110, H⟩ := H
                  replace H : (sackbutref06_Price.l0 k1 a0 l1 l2 (wrap64 (x9_1 + t1004)) l3 (l3.length : Int) (wrap64 (x14_1 + 1))) = some r := H
                  have A11 := Aside0.mk A110
                  clear A110
                  have H' := Aside0.mk H
                  clear H
                  have p1001 : 0 ≤ (x14_1 : Int) := of_decide_eq_true (by first | (with_reducible assumption) | assumption)
                  have q1001 : x14_1 < (l3.length : Int) := of_decide_eq_true (by first | (with_reducible assumption) | assumption)
                  obtain ⟨ad1001, e1001, hx1001_0⟩ := Kd.at_int HR3.out x14_1 p1001 q1001
                  cases e1001
                  replace hx1001_0 := (HB.out.cell (World.block_lt_of_cell? w _ hx1001_0)).trans hx1001_0
                  replace p1001 := eq_true p1001
                  replace q1001 := eq_true q1001
                  try go_wp2
                  have n0_ := Aside0.mk (below_drew1 HB.out)
                  clear HB
                  have HB := n0_
                  clear n0_
                  have p1002 : 0 ≤ (x14_1 : Int) := of_decide_eq_true (by first | (with_reducible assumption) | assumption)
                  have q1002 : x14_1 < (l1.length : Int) := of_decide_eq_true (by first | (with_reducible assumption) | assumption)
                  obtain ⟨ad1002, e1002, hx1002_0⟩ := Kd.at_int HR1.out x14_1 p1002 q1002
                  have hw1002_0 := hx1002_0
                  cases e1002
                  replace hx1002_0 := (HB.out.cell (World.block_lt_of_cell? w _ hx1002_0)).trans hx1002_0
                  replace p1002 := eq_true p1002
                  replace q1002 := eq_true q1002
                  have p1003 : 0 ≤ ((rd l3 x14_1) : Int) := of_decide_eq_true (by first | (with_reducible assumption) | assumption)
                  have q1003 : (rd l3 x14_1) < (l2.length : Int) := of_decide_eq_true (by first | (with_reducible assumption) | assumption)
                  obtain ⟨ad1003, e1003, hx1003_0⟩ := Kd.at_int HR2.out (rd l3 x14_1) p1003 q1003
                  have hw1003_0 := hx1003_0
                  cases e1003
                  replace hx1003_0 := (HB.out.cell (World.block_lt_of_cell? w _ hx1003_0)).trans hx1003_0
                  replace p1003 := eq_true p1003
                  replace q1003 := eq_true q1003
                  refine start_ (n := 13) (S := fun w' => w'.cell? (ad1002.add (x14_1).toNat) = some (.int .i64 (rd l1 x14_1)) ∧ w'.cell? (ad1003.add ((rd l3 x14_1)).toNat) = some (.int .i64 (rd l2 (rd l3 x14_1)))) (ds := []) #[false, false, false, false, false, false, false, false, false, false, false, false, false] (by kernel_rfl) rfl rfl ⟨((HB.out.cell (World.block_lt_of_cell? w _ hw1002_0)).trans hw1002_0), ((HB.out.cell (World.block_lt_of_cell? w _ hw1003_0)).trans hw1003_0)⟩ (fun hHeld => ?_); refine with_tabW sackbutref06_Price.tab5 sackbutref06_Price.bits5 (fun HT_ HW_ => ?_)
                  generalize wr.drew = w12 at HB hx1002_0 hx1003_0 hHeld ⊢
                  refine pure_ (i := 0) (N := some 19) (v := ?_) (a' := ?_) #[true, false, false, false, false, false, false, false, false, false, false, false, false] rfl rfl (any_of HT_.out (by kernel_rfl)) (fun _ _ _ h => h) (Or.inl ⟨by rfl, ?_⟩) ?_ ?_
                  rotate_left
                  · intro w'
                    go_simp
                    with_reducible rfl
                  rotate_left
                  · simp only [Act.put, List.setIfInBounds_toArray, List.set_cons_zero, List.set_cons_succ, i64_w, i32_w]
                    rfl
                  refine pure_ (i := 1) (N := some 20) (v := ?_) (a' := ?_) #[true, true, false, false, false, false, false, false, false, false, false, false, false] rfl rfl (any_of HT_.out (by kernel_rfl)) (fun _ _ _ h => h) (Or.inl ⟨by rfl, ?_⟩) ?_ ?_
                  rotate_left
                  · intro w'
                    go_simp
                    with_reducible rfl
                  rotate_left
                  · simp only [Act.put, List.setIfInBounds_toArray, List.set_cons_zero, List.set_cons_succ, i64_w, i32_w]
                    rfl
                  refine pure_ (i := 2) (N := some 21) (v := ?_) (a' := ?_) #[true, true, true, false, false, false, false, false, false, false, false, false, false] rfl rfl (any_of HT_.out (by kernel_rfl)) (fun _ _ _ h => h) (Or.inl ⟨by rfl, ?_⟩) ?_ ?_
                  rotate_left
                  · intro w'
                    go_simp
                    with_reducible rfl
                  rotate_left
                  · simp only [Act.put, List.setIfInBounds_toArray, List.set_cons_zero, List.set_cons_succ, i64_w, i32_w]
                    rfl
                  refine pure_ (i := 3) (N := some 22) (v := ?_) (a' := ?_) #[true, true, true, true, false, false, false, false, false, false, false, false, false] rfl rfl (any_of HT_.out (by kernel_rfl)) (fun _ _ _ h => h) (Or.inl ⟨by rfl, ?_⟩) ?_ ?_
                  rotate_left
                  · intro w'
                    go_simp
                    with_reducible rfl
                  rotate_left
                  · simp only [Act.put, List.setIfInBounds_toArray, List.set_cons_zero, List.set_cons_succ, i64_w, i32_w]
                    rfl
                  refine pure_ (i := 4) (N := some 23) (v := ?_) (a' := ?_) #[true, true, true, true, true, false, false, false, false, false, false, false, false] rfl rfl (any_of HT_.out (by kernel_rfl)) (fun _ _ _ h => h) (Or.inl ⟨by rfl, ?_⟩) ?_ ?_
                  rotate_left
                  · intro w'
                    go_simp
                    with_reducible rfl
                  rotate_left
                  · simp only [Act.put, List.setIfInBounds_toArray, List.set_cons_zero, List.set_cons_succ, i64_w, i32_w]
                    rfl
                  refine pure_ (i := 6) (N := some 25) (v := ?_) (a' := ?_) #[true, true, true, true, true, false, true, false, false, false, false, false, false] rfl rfl (any_of HT_.out (by kernel_rfl)) (fun _ _ _ h => h) (Or.inl ⟨by rfl, ?_⟩) ?_ ?_
                  rotate_left
                  · intro w'
                    go_simp
                    with_reducible rfl
                  rotate_left
                  · simp only [Act.put, List.setIfInBounds_toArray, List.set_cons_zero, List.set_cons_succ, i64_w, i32_w]
                    rfl
                  refine pure_ (i := 7) (N := some 26) (v := ?_) (a' := ?_) #[true, true, true, true, true, false, true, true, false, false, false, false, false] rfl rfl (any_of HT_.out (by kernel_rfl)) (fun _ _ _ h => h) (Or.inl ⟨by rfl, ?_⟩) ?_ ?_
                  rotate_left
                  · intro w'
                    go_simp
                    with_reducible rfl
                  rotate_left
                  · simp only [Act.put, List.setIfInBounds_toArray, List.set_cons_zero, List.set_cons_succ, i64_w, i32_w]
                    rfl
                  refine pure_ (i := 8) (N := some 27) (v := ?_) (a' := ?_) #[true, true, true, true, true, false, true, true, true, false, false, false, false] rfl rfl (any_of HT_.out (by kernel_rfl)) (fun _ _ _ h => h) (Or.inl ⟨by rfl, ?_⟩) ?_ ?_
                  rotate_left
                  · intro w'
                    go_simp
                    with_reducible rfl
                  rotate_left
                  · simp only [Act.put, List.setIfInBounds_toArray, List.set_cons_zero, List.set_cons_succ, i64_w, i32_w]
                    rfl
                  refine take_ (i := 5) (N := some 24) (v := ?_) (a' := ?_) #[true, true, true, true, true, true, true, true, true, false, false, false, false] rfl rfl (take_ofW HT_.out HW_.out (by kernel_rfl)) (fun _ _ _ h => h) (Or.inl ⟨by rfl, ?_⟩) hHeld ?_ ?_
                  rotate_left
                  · rintro w' ⟨s0, s1⟩
                    go_simp
                    with_reducible rfl
                  rotate_left
                  · simp only [Act.put, List.setIfInBounds_toArray, List.set_cons_zero, List.set_cons_succ, i64_w, i32_w]
                    rfl
                  refine take_ (i := 9) (N := some 28) (v := ?_) (a' := ?_) #[true, true, true, true, true, true, true, true, true, true, false, false, false] rfl rfl (take_ofW HT_.out HW_.out (by kernel_rfl)) (fun _ _ _ h => h) (Or.inl ⟨by rfl, ?_⟩) hHeld ?_ ?_
                  rotate_left
                  · rintro w' ⟨s0, s1⟩
                    go_simp
                    with_reducible rfl
                  rotate_left
                  · simp only [Act.put, List.setIfInBounds_toArray, List.set_cons_zero, List.set_cons_succ, i64_w, i32_w]
                    rfl
                  refine one_ (i := 10) (N := some 29) #[true, true, true, true, true, true, true, true, true, true, true, false, false] rfl rfl (one_of HT_.out (by kernel_rfl)) (by decide) (fun K hK => ?_)
                  refine goes_ Try.func49 (by kernel_rfl) rfl #[.int .i64 a0, .int .i64 (rd l1 x14_1), .int .i64 (rd l2 (rd l3 x14_1))] (by rfl) rfl rfl (by (try simp only [List.map_toArray, List.map_cons, List.map_nil]); first | done | rfl | (simp only [List.length_drop, List.length_take]; rfl)) ?_
                  with_reducible refine (sackbutref06_Distance.calls a0 (rd l1 x14_1) (rd l2 (rd l3 x14_1)) t1004 _ A11.out).mono ?_
                  rintro e w13 ⟨rfl, hb⟩
                  refine ⟨_, rfl, ?_⟩
                  have n0_ := Aside0.mk (below_step (by repeat (first | (with_reducible first | exact HB.out | apply below_alloc | apply pw_below_drewN | apply below_drew1) | exact HB.out)) hb)
                  clear HB
                  have HB := n0_
                  clear n0_
                  (try clear hb)
                  (try clear hb2)
                  (try clear hk)
                  (try clear hi)
                  refine hK.out _ _ ⟨((HB.out.cell (World.block_lt_of_cell? w _ hw1002_0)).trans hw1002_0), ((HB.out.cell (World.block_lt_of_cell? w _ hw1003_0)).trans hw1003_0)⟩ (fun hHeld => ?_)
                  clear hK K
                  refine norm_ (a' := ?_) ?_ ?_
                  rotate_left
                  · show Act.put _ (some 29) _ = _
                    simp only [Act.put, List.setIfInBounds_toArray, List.set_cons_zero, List.set_cons_succ, i64_w, i32_w]
                    rfl
                  refine pure_ (i := 11) (N := some 30) (v := ?_) (a' := ?_) #[true, true, true, true, true, true, true, true, true, true, true, true, false] rfl rfl (any_of HT_.out (by kernel_rfl)) (fun _ _ _ h => h) (Or.inl ⟨by rfl, ?_⟩) ?_ ?_
                  rotate_left
                  · intro w'
                    go_simp
                    with_reducible rfl
                  rotate_left
                  · simp only [Act.put, List.setIfInBounds_toArray, List.set_cons_zero, List.set_cons_succ, i64_w, i32_w]
                    rfl
                  refine pure_ (i := 12) (N := some 9) (v := ?_) (a' := ?_) #[true, true, true, true, true, true, true, true, true, true, true, true, true] rfl rfl (any_of HT_.out (by kernel_rfl)) (fun _ _ _ h => h) (Or.inl ⟨by rfl, ?_⟩) ?_ ?_
                  rotate_left
                  · intro w'
                    go_simp
                    with_reducible rfl
                  rotate_left
                  · simp only [Act.put, List.setIfInBounds_toArray, List.set_cons_zero, List.set_cons_succ, i64_w, i32_w]
                    rfl
                  refine done_ (done_of HT_.out (by kernel_rfl)) ?_
                  try go_wp2
                  go_roundg k1
                  case measure => have := HK1.out; omega
                  case rel => exact ⟨(wrap64 (x9_1 + t1004)), (wrap64 (x14_1 + 1)), (by first | rfl | (simp; done) | (simp [*]; done)), (by first | rfl | (simp; done) | (simp [*]; done)), H', ⟨by have := HK1.out; omega⟩, ⟨by repeat (first | (with_reducible first | exact HB.out | apply below_alloc | apply pw_below_drewN | apply below_drew1) | exact HB.out)⟩⟩
                · rw [if_neg c10] at H
                  exact absurd H (by simp)
              · rw [if_neg c9] at H
                exact absurd H (by simp)
            · rw [if_neg c8] at H
              exact absurd H (by simp)
          · rw [if_neg c7] at H
            exact absurd H (by simp)
        · rw [if_neg c6] at H
          exact absurd H (by simp)
      · rw [if_neg c5] at H
        have c5b0 : decide (x14_1 < (l3.length : Int)) = false := decide_eq_false c5
        clear c5
        obtain rfl := Option.some.inj H
        go_wp2
        go_ret
        exact ⟨by first | rfl | (simp [errW_none, errW_some] <;> rfl) | (simp [*, errW_none, errW_some] <;> rfl), by repeat (first | (with_reducible first | exact HB.out | apply below_alloc | apply pw_below_drewN | apply below_drew1) | exact HB.out)⟩

end Go.Proofs.Ytfjafmgaahfhgaa.P
namespace Go.Proofs.Ytfjafmgaahfhgaa.P
/-! Sets of small numbers as natural numbers; pigeonholes. Plain Lean. -/

def orAll (s : Nat) (xs : List Nat) : Nat := xs.foldl (fun s x => s ||| 2 ^ x) s

theorem orAll_nil (s : Nat) : orAll s [] = s := rfl
theorem orAll_cons (s x : Nat) (xs : List Nat) : orAll s (x :: xs) = orAll (s ||| 2 ^ x) xs := rfl
theorem orAll_snoc (s x : Nat) (xs : List Nat) : orAll s (xs ++ [x]) = orAll s xs ||| 2 ^ x := by
  simp [orAll, List.foldl_append]

theorem testBit_or_two_pow (s x i : Nat) : (s ||| 2 ^ x).testBit i = (s.testBit i || decide (x = i)) := by
  rw [Nat.testBit_or, Nat.testBit_two_pow]

theorem testBit_orAll (xs : List Nat) : ∀ (s i : Nat), (orAll s xs).testBit i = (s.testBit i || decide (i ∈ xs)) := by
  induction xs with
  | nil => intro s i; simp [orAll]
  | cons x xs ih =>
    intro s i
    rw [orAll_cons, ih, testBit_or_two_pow, Bool.or_assoc]
    congr 1
    by_cases h : x = i
    · subst h; simp
    · have h' : ¬ i = x := fun e => h e.symm
      simp [h, h']

theorem orAll_lt {m : Nat} (xs : List Nat) (h : ∀ x ∈ xs, x < m) : ∀ s, s < 2 ^ m → orAll s xs < 2 ^ m := by
  induction xs with
  | nil => intro s hs; exact hs
  | cons x xs ih =>
    intro s hs
    rw [orAll_cons]
    refine ih (fun y hy => h y (List.mem_cons_of_mem _ hy)) _ (Nat.or_lt_two_pow hs ?_)
    exact Nat.pow_lt_pow_right (by omega) (h x List.mem_cons_self)

theorem full_iff {n s : Nat} : s = 2 ^ n - 1 ↔ ∀ i, s.testBit i = decide (i < n) := by
  constructor
  · rintro rfl i; exact Nat.testBit_two_pow_sub_one n i
  · intro h; exact Nat.eq_of_testBit_eq fun i => by rw [h, Nat.testBit_two_pow_sub_one]

theorem testBit_full2 (n i : Nat) (hn : 1 ≤ n) : (2 ^ n - 2).testBit i = (decide (i < n) && decide (1 ≤ i)) := by
  obtain ⟨m, rfl⟩ : ∃ m, n = m + 1 := ⟨n - 1, by omega⟩
  have e : 2 ^ (m + 1) - 2 = 2 * (2 ^ m - 1) := by have := Nat.two_pow_pos m; rw [Nat.pow_succ]; omega
  rw [e]
  cases i with
  | zero => simp [Nat.testBit_zero]
  | succ i =>
    rw [Nat.testBit_succ, show 2 * (2 ^ m - 1) / 2 = 2 ^ m - 1 by omega, Nat.testBit_two_pow_sub_one]
    simp

theorem orAll_full {n : Nat} (xs : List Nat) (h : ∀ x ∈ xs, x < n) : orAll 0 xs = 2 ^ n - 1 ↔ ∀ i, i < n → i ∈ xs := by
  rw [full_iff]
  constructor
  · intro hh i hi
    have := hh i
    rw [testBit_orAll] at this
    simpa [hi] using this
  · intro hh i
    rw [testBit_orAll]
    by_cases hi : i < n
    · simp [hi, hh i hi]
    · have : i ∉ xs := fun hm => hi (h i hm)
      simp [hi, this]

theorem orAll_full2 {n : Nat} (hn : 1 ≤ n) (xs : List Nat) (h : ∀ x ∈ xs, 1 ≤ x ∧ x < n) : orAll 0 xs = 2 ^ n - 2 ↔ ∀ i, 1 ≤ i → i < n → i ∈ xs := by
  constructor
  · intro hh i h1 hi
    have h2 : (orAll 0 xs).testBit i = (2 ^ n - 2).testBit i := by rw [hh]
    rw [testBit_orAll, testBit_full2 n i hn] at h2
    simpa [hi, h1] using h2
  · intro hh
    refine Nat.eq_of_testBit_eq fun i => ?_
    rw [testBit_orAll, testBit_full2 n i hn]
    by_cases hi : i < n
    · by_cases h1 : 1 ≤ i
      · simp [hi, h1, hh i h1 hi]
      · have : i ∉ xs := fun hm => h1 (h i hm).1
        simp [h1, this]
    · have : i ∉ xs := fun hm => hi (h i hm).2
      simp [hi, this]

/-! pigeonholes -/
theorem nodup_of_full {n : Nat} {xs : List Nat} (hl : xs.length = n) (hf : ∀ i, i < n → i ∈ xs) : xs.Nodup := by
  rw [List.nodup_iff_count]
  intro a
  refine Nat.not_lt.1 fun hc => ?_
  have ha : a ∈ xs := List.count_pos_iff.1 (by omega)
  have hsub : List.range n ⊆ xs.erase a := by
    intro i hi
    have hm := hf i (List.mem_range.1 hi)
    by_cases e : i = a
    · subst e
      exact List.count_pos_iff.1 (by rw [List.count_erase_self]; omega)
    · exact (List.mem_erase_of_ne e).2 hm
  have := List.Nodup.length_le_of_subset List.nodup_range hsub
  rw [List.length_erase, if_pos ha, List.length_range] at this
  have : 0 < xs.length := List.length_pos_of_mem ha
  omega

theorem full_of_nodup {n : Nat} {xs : List Nat} (hl : xs.length = n) (hr : ∀ x ∈ xs, x < n) (hd : xs.Nodup) : ∀ i, i < n → i ∈ xs := by
  intro i hi
  refine Classical.byContradiction fun hni => ?_
  have hsub : (i :: xs) ⊆ List.range n := by
    intro x hx
    rcases List.mem_cons.1 hx with rfl | hx
    · exact List.mem_range.2 hi
    · exact List.mem_range.2 (hr x hx)
  have := List.Nodup.length_le_of_subset (List.nodup_cons.2 ⟨hni, hd⟩) hsub
  simp at this
  omega
end Go.Proofs.Ytfjafmgaahfhgaa.P
namespace Go.Proofs.Ytfjafmgaahfhgaa.P
open Go.RowKit Go.Proofs.YtfjafmgaahfhgaaW.PrintWords Go.Proofs.YtfjafmgaahfhgaaW.PrintLast Go.Proofs.YtfjafmgaahfhgaaW.PrintMore
attribute [local go_sem] max2_int min2_int max_two min_two max_three min_three max_four min_four   -- for this text's walks alone
set_option linter.unusedVariables false
set_option linter.unusedSimpArgs false

/-! runs over a list that gather a set -/
def validRun (n : Nat) : Nat → List Int → Bool
  | s, [] => decide (s = 2 ^ n - 1)
  | s, x :: xs => if x < 0 then false else if x ≥ n then false else validRun n (s ||| 2 ^ x.toNat) xs
theorem validRun_iff (n : Nat) : ∀ (xs : List Int) (s : Nat), validRun n s xs = decide ((∀ x ∈ xs, 0 ≤ x ∧ x < n) ∧ orAll s (xs.map Int.toNat) = 2 ^ n - 1) := by
  intro xs
  induction xs with
  | nil => intro s; simp [validRun, orAll]
  | cons x xs ih =>
    intro s
    simp only [validRun, List.map_cons, orAll_cons, ih, List.forall_mem_cons]
    by_cases h1 : x < 0
    · simp [h1]; intro h; omega
    · by_cases h2 : x ≥ n
      · simp [h1, h2]; intro _ h; omega
      · simp only [h1, h2, if_false]
        congr 1
        rw [eq_iff_iff]
        constructor
        · rintro ⟨a, b⟩; exact ⟨⟨⟨by omega, by omega⟩, a⟩, b⟩
        · rintro ⟨⟨_, a⟩, b⟩; exact ⟨a, b⟩
theorem nodup_toNat {xs : List Int} (h : ∀ x ∈ xs, 0 ≤ x) : (xs.map Int.toNat).Nodup ↔ xs.Nodup := by
  induction xs with
  | nil => simp
  | cons x xs ih =>
    have h' := ih (fun y hy => h y (List.mem_cons_of_mem _ hy))
    simp only [List.map_cons, List.nodup_cons, h']
    have : x.toNat ∈ xs.map Int.toNat ↔ x ∈ xs := by
      simp only [List.mem_map]
      constructor
      · rintro ⟨y, hy, e⟩
        have := h y (List.mem_cons_of_mem _ hy); have := h x List.mem_cons_self
        obtain rfl : y = x := by omega
        exact hy
      · intro hx; exact ⟨x, hx, rfl⟩
    rw [this]
def partRun (n : Nat) : Nat → List Int → Bool
  | _, [] => true
  | s, x :: xs => if x < 0 then false else if x ≥ n then false else if s.testBit x.toNat then false else partRun n (s ||| 2 ^ x.toNat) xs
theorem partRun_iff (n : Nat) : ∀ (xs : List Int) (s : Nat), partRun n s xs = decide ((∀ x ∈ xs, 0 ≤ x ∧ x < n ∧ s.testBit x.toNat = false) ∧ xs.Nodup) := by
  intro xs
  induction xs with
  | nil => intro s; simp [partRun]
  | cons x xs ih =>
    intro s
    simp only [partRun, ih, List.forall_mem_cons, List.nodup_cons]
    by_cases h1 : x < 0
    · simp [h1]; intro h; omega
    · by_cases h2 : x ≥ n
      · simp [h1, h2]; intro _ h; omega
      · by_cases h3 : s.testBit x.toNat = true
        · simp [h1, h2, h3]
        · rw [if_neg h1, if_neg h2, if_neg h3, decide_eq_decide]
          simp only [testBit_or_two_pow, Bool.or_eq_false_iff, decide_eq_false_iff_not]
          constructor
          · rintro ⟨a, b⟩
            refine ⟨⟨⟨by omega, by omega, by simpa using h3⟩, fun y hy => ⟨(a y hy).1, (a y hy).2.1, (a y hy).2.2.1⟩⟩, fun hx => (a x hx).2.2.2 rfl, b⟩
          · rintro ⟨⟨_, a⟩, b, c⟩
            refine ⟨fun y hy => ⟨(a y hy).1, (a y hy).2.1, (a y hy).2.2, fun e => b ?_⟩, c⟩
            have := (a y hy).1
            obtain rfl : x = y := by omega
            exact hy

end Go.Proofs.Ytfjafmgaahfhgaa.P
