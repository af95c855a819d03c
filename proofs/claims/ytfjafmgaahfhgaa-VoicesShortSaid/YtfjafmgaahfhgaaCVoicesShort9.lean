/- A part of a proof that a law's Go function returns true for every input, laid by this session's program mp.py (which drives the kit's print). Conditions: as each theorem states them. -/
import Derived.ArgAppend
import Derived.Laws.EntriesVeiled
import Derived.Test.YtfjafmgaahfhgaaCVoicesShort1
import Derived.Test.YtfjafmgaahfhgaaCVoicesShort2
import Derived.Test.YtfjafmgaahfhgaaCVoicesShort5
import Derived.Test.YtfjafmgaahfhgaaCVoicesShort7
import Derived.Test.YtfjafmgaahfhgaaCVoicesShort8
namespace Go.Proofs.Ytfjafmgaahfhgaa.P
open Go.RowKit Go.Proofs.YtfjafmgaahfhgaaW.PrintWords Go.Proofs.YtfjafmgaahfhgaaW.PrintLast Go.Proofs.YtfjafmgaahfhgaaW.PrintMore
attribute [local go_sem] max2_int min2_int max_two min_two max_three min_three max_four min_four   -- for this text's walks alone
set_option linter.unusedVariables false
set_option linter.unusedSimpArgs false

/-! ### sackbutref06_same: function 48 -/
def sackbutref06_same.f (k : Nat) (l0 : List Int) (l1 : List Int) : Option (Bool) := (sackbutref06_less.f k l0 l1).bind fun t1001 => (if t1001 = true then (some false) else ((sackbutref06_less.f k l1 l0).bind fun t1002 => (some (!t1002))))
theorem sackbutref06_same.mono : ∀ a0 a1 k, LeO (sackbutref06_same.f k a0 a1) (sackbutref06_same.f (k + 1) a0 a1) := by
  intro a0 a1 k
  unfold sackbutref06_same.f
  repeat' first
      | (with_reducible exact sackbutref06_less.mono _ _ _)
      | (with_reducible exact LeO.refl _)
      | (with_reducible exact LeO.none _)
      | (with_reducible refine LeO.ite ?_ ?_)
      | (with_reducible refine LeO.bind ?_ (fun _ => ?_))
      | exact sackbutref06_less.mono _ _ _
      | exact LeO.none _
      | refine LeO.ite ?_ ?_
      | refine LeO.bind ?_ (fun _ => ?_)
set_option maxHeartbeats 8000000 in
set_option maxRecDepth 100000 in
theorem sackbutref06_same.calls (k : Nat) (A0 : Option Addr) (c0 : Nat) (l0 : List Int) (A1 : Option Addr) (c1 : Nat) (l1 : List Int) (r : Bool) (w : World) (hr0 : Kd.C (Kd.int .i64) w A0 l0.length l0) (hc0 : l0.length ≤ c0) (hr1 : Kd.C (Kd.int .i64) w A1 l1.length l1) (hc1 : l1.length ≤ c1) (h : sackbutref06_same.f k l0 l1 = some r) :
    Calls Try.prog 48 #[.slice A0 l0.length c0, .slice A1 l1.length c1] w fun e w' => e = .returned (.bool r) ∧ Drawn0 w w' := by
  have HR0 := Aside0.mk hr0
  have HC0 := Aside0.mk hc0
  clear hr0 hc0
  have HR1 := Aside0.mk hr1
  have HC1 := Aside0.mk hc1
  clear hr1 hc1
  have H : ((sackbutref06_less.f k l0 l1).bind fun t1001 => (if t1001 = true then (some false) else ((sackbutref06_less.f k l1 l0).bind fun t1002 => (some (!t1002))))) = some r := h
  clear h
  replace H := Option.bind_eq_some_iff.mp H
  obtain ⟨t1001, A30, H⟩ := H
  replace H : (if t1001 = true then (some false) else ((sackbutref06_less.f k l1 l0).bind fun t1002 => (some (!t1002)))) = some r := H
  have A3 := Aside0.mk A30
  clear A30
  by_cases c4 : t1001 = true
  · subst c4
    have H1 : (some false) = some r := by rw [if_pos rfl] at H; exact H
    clear H
    have H := H1
    clear H1
    obtain rfl := Option.some.inj H
    go_enter Try.func48, Try.ntmps48
    go_wp2_with (first | ((with_reducible refine gate_callee (f := 52) rfl ?_); refine goesL_ (some 7) rfl rfl Try.func52 (by kernel_rfl) rfl #[.slice A0 l0.length c0, .slice A1 l1.length c1] rfl (by (try simp only [List.map_toArray, List.map_cons, List.map_nil]); first | done | rfl | (simp only [List.length_drop, List.length_take]; rfl)) ?_; (with_reducible refine (sackbutref06_less.calls k _ _ l0 _ _ l1 true _ ?side1 ?side2 ?side3 ?side4 A3.out).mono ?_); (case side1 => repeat (first | exact HR0.out | (with_reducible refine Kd.C_alloc ?_ _) | (with_reducible refine Kd.C_drewN ?_ _) | (with_reducible refine Kd.C_drew ?_))); (case side2 => exact HC0.out); (case side3 => repeat (first | exact HR1.out | (with_reducible refine Kd.C_alloc ?_ _) | (with_reducible refine Kd.C_drewN ?_ _) | (with_reducible refine Kd.C_drew ?_))); (case side4 => exact HC1.out); rintro e w' ⟨rfl, ⟨nd, rfl⟩⟩; refine ⟨_, rfl, ?_⟩))
    go_ret
    exact ⟨by first | rfl | (simp; done) | (simp [*]; done), by repeat (first | exact Drawn0.refl _ | apply Drawn0.step)⟩
  · replace c4 := Bool.eq_false_iff.mpr c4
    subst c4
    have H1 : ((sackbutref06_less.f k l1 l0).bind fun t1002 => (some (!t1002))) = some r := by rw [if_neg (show ¬ (false = true) by decide)] at H; exact H
    clear H
    have H := H1
    clear H1
    replace H := Option.bind_eq_some_iff.mp H
    obtain ⟨t1002, A50, H⟩ := H
    replace H : (some (!t1002)) = some r := H
    have A5 := Aside0.mk A50
    clear A50
    obtain rfl := Option.some.inj H
    go_enter Try.func48, Try.ntmps48
    go_wp2_with (first | ((with_reducible refine gate_callee (f := 52) rfl ?_); refine goesL_ (some 7) rfl rfl Try.func52 (by kernel_rfl) rfl #[.slice A0 l0.length c0, .slice A1 l1.length c1] rfl (by (try simp only [List.map_toArray, List.map_cons, List.map_nil]); first | done | rfl | (simp only [List.length_drop, List.length_take]; rfl)) ?_; (with_reducible refine (sackbutref06_less.calls k _ _ l0 _ _ l1 false _ ?side1 ?side2 ?side3 ?side4 A3.out).mono ?_); (case side1 => repeat (first | exact HR0.out | (with_reducible refine Kd.C_alloc ?_ _) | (with_reducible refine Kd.C_drewN ?_ _) | (with_reducible refine Kd.C_drew ?_))); (case side2 => exact HC0.out); (case side3 => repeat (first | exact HR1.out | (with_reducible refine Kd.C_alloc ?_ _) | (with_reducible refine Kd.C_drewN ?_ _) | (with_reducible refine Kd.C_drew ?_))); (case side4 => exact HC1.out); rintro e w' ⟨rfl, ⟨nd, rfl⟩⟩; refine ⟨_, rfl, ?_⟩) | (go_at_call 52; (with_reducible refine (sackbutref06_less.calls k _ _ l1 _ _ l0 t1002 _ ?side1 ?side2 ?side3 ?side4 A5.out).mono ?_); (case side1 => repeat (first | exact HR1.out | (with_reducible refine Kd.C_alloc ?_ _) | (with_reducible refine Kd.C_drewN ?_ _) | (with_reducible refine Kd.C_drew ?_))); (case side2 => exact HC1.out); (case side3 => repeat (first | exact HR0.out | (with_reducible refine Kd.C_alloc ?_ _) | (with_reducible refine Kd.C_drewN ?_ _) | (with_reducible refine Kd.C_drew ?_))); (case side4 => exact HC0.out); rintro e w' ⟨rfl, ⟨nd, rfl⟩⟩))
    go_ret
    exact ⟨by first | rfl | (simp; done) | (simp [*]; done), by repeat (first | exact Drawn0.refl _ | apply Drawn0.step)⟩

end Go.Proofs.Ytfjafmgaahfhgaa.P
namespace Go.Proofs.Ytfjafmgaahfhgaa.P
open Go.RowKit Go.Proofs.YtfjafmgaahfhgaaW.PrintWords Go.Proofs.YtfjafmgaahfhgaaW.PrintLast Go.Proofs.YtfjafmgaahfhgaaW.PrintMore
attribute [local go_sem] max2_int min2_int max_two min_two max_three min_three max_four min_four   -- for this text's walks alone
set_option linter.unusedVariables false
set_option linter.unusedSimpArgs false

/-! ### sackbutref06_IsPath: function 24 -/
mutual
def sackbutref06_IsPath.l0 : Nat → Int → List Int → List Int → List (List Int) → List (List Int) → Int → Int → Option (Bool)
  | 0, _, _, _, _, _, _, _ => none
  | k + 1, x0, x1, x2, x3, x18, x19, x20 => if x20 < x19 then (if 0 ≤ x20 then (if x20 < (x18.length : Int) then ((sackbutref06_Two.f k x0 x1 (rd_L1 x18 x20)).bind fun t1010 => (if t1010 = true then (if x20 = 0 then ((sackbutref06_same.f k x1 (rd_L1 x18 x20)).bind fun t1011 => (if t1011 = true then (sackbutref06_IsPath.l0 k x0 x1 x2 x3 x18 x19 (wrap64 (x20 + 1))) else (some false))) else (sackbutref06_IsPath.l1 k x0 x1 x2 x3 x20 0 x18 x19 x20 (rd_L1 x18 x20) ((rd_L1 x18 x20).length : Int) 0)) else (some false))) else (none)) else (none)) else (if 0 ≤ (wrap64 ((x3.length : Int) - 1)) then (if (wrap64 ((x3.length : Int) - 1)) < (x3.length : Int) then ((sackbutref06_Rising.f (rd_L1 x3 (wrap64 ((x3.length : Int) - 1)))).bind fun t1002 => ((sackbutref06_Rising.f x2).bind fun t1005 => ((sackbutref06_same.f k t1002 t1005).bind fun t1008 => (some t1008)))) else (none)) else (none))
def sackbutref06_IsPath.l1 : Nat → Int → List Int → List Int → List (List Int) → Int → Int → List (List Int) → Int → Int → List Int → Int → Int → Option (Bool)
  | 0, _, _, _, _, _, _, _, _, _, _, _, _ => none
  | k + 1, x0, x1, x2, x3, x9, x11, x18, x19, x20, x36, x37, x38 => if x38 < x37 then (if 0 ≤ x38 then (if x38 < (x36.length : Int) then (if 0 ≤ (wrap64 (x9 - 1)) then (if (wrap64 (x9 - 1)) < (x3.length : Int) then (if x38 < ((rd_L1 x3 (wrap64 (x9 - 1))).length : Int) then (if (rd x36 x38) = (rd (rd_L1 x3 (wrap64 (x9 - 1))) x38) then (sackbutref06_IsPath.l1 k x0 x1 x2 x3 x9 x11 x18 x19 x20 x36 x37 (wrap64 (x38 + 1))) else ((sackbutref06_Distance.f x0 (rd x36 x38) (rd (rd_L1 x3 (wrap64 (x9 - 1))) x38)).bind fun t1015 => (if t1015 = 1 then (sackbutref06_IsPath.l1 k x0 x1 x2 x3 x9 (wrap64 (x11 + 1)) x18 x19 x20 x36 x37 (wrap64 (x38 + 1))) else (some false)))) else (none)) else (none)) else (none)) else (none)) else (none)) else (if x11 = 1 then (sackbutref06_IsPath.l0 k x0 x1 x2 x3 x18 x19 (wrap64 (x20 + 1))) else (some false))
end
def sackbutref06_IsPath.f (k : Nat) (a0 : Int) (l1 : List Int) (l2 : List Int) (l3 : List (List Int)) : Option (Bool) := if (l3.length : Int) = 0 then (some false) else (sackbutref06_IsPath.l0 k a0 l1 l2 l3 l3 (l3.length : Int) 0)
theorem sackbutref06_IsPath.mono_l : ∀ k, (∀ y0 y1 y2 y3 y4 y5 y6, LeO (sackbutref06_IsPath.l0 k y0 y1 y2 y3 y4 y5 y6) (sackbutref06_IsPath.l0 (k + 1) y0 y1 y2 y3 y4 y5 y6)) ∧ (∀ y0 y1 y2 y3 y4 y5 y6 y7 y8 y9 y10 y11, LeO (sackbutref06_IsPath.l1 k y0 y1 y2 y3 y4 y5 y6 y7 y8 y9 y10 y11) (sackbutref06_IsPath.l1 (k + 1) y0 y1 y2 y3 y4 y5 y6 y7 y8 y9 y10 y11))
  | 0 => ⟨fun _ _ _ _ _ _ _ r h => by simp [sackbutref06_IsPath.l0] at h, fun _ _ _ _ _ _ _ _ _ _ _ _ r h => by simp [sackbutref06_IsPath.l1] at h⟩
  | k + 1 => by
    obtain ⟨ih0, ih1⟩ := sackbutref06_IsPath.mono_l k
    refine ⟨?_, ?_⟩
    · intro y0 y1 y2 y3 y4 y5 y6
      unfold sackbutref06_IsPath.l0
      repeat' first
      | (with_reducible exact ih0 _ _ _ _ _ _ _)
      | (with_reducible exact ih1 _ _ _ _ _ _ _ _ _ _ _ _)
      | (with_reducible exact sackbutref06_Two.mono _ _ _ _)
      | (with_reducible exact sackbutref06_same.mono _ _ _)
      | (with_reducible exact LeO.refl _)
      | (with_reducible exact LeO.none _)
      | (with_reducible refine LeO.ite ?_ ?_)
      | (with_reducible refine LeO.bind ?_ (fun _ => ?_))
      | exact ih0 _ _ _ _ _ _ _
      | exact ih1 _ _ _ _ _ _ _ _ _ _ _ _
      | exact sackbutref06_Two.mono _ _ _ _
      | exact sackbutref06_same.mono _ _ _
      | exact LeO.none _
      | refine LeO.ite ?_ ?_
      | refine LeO.bind ?_ (fun _ => ?_)
    · intro y0 y1 y2 y3 y4 y5 y6 y7 y8 y9 y10 y11
      unfold sackbutref06_IsPath.l1
      repeat' first
      | (with_reducible exact ih0 _ _ _ _ _ _ _)
      | (with_reducible exact ih1 _ _ _ _ _ _ _ _ _ _ _ _)
      | (with_reducible exact sackbutref06_Two.mono _ _ _ _)
      | (with_reducible exact sackbutref06_same.mono _ _ _)
      | (with_reducible exact LeO.refl _)
      | (with_reducible exact LeO.none _)
      | (with_reducible refine LeO.ite ?_ ?_)
      | (with_reducible refine LeO.bind ?_ (fun _ => ?_))
      | exact ih0 _ _ _ _ _ _ _
      | exact ih1 _ _ _ _ _ _ _ _ _ _ _ _
      | exact sackbutref06_Two.mono _ _ _ _
      | exact sackbutref06_same.mono _ _ _
      | exact LeO.none _
      | refine LeO.ite ?_ ?_
      | refine LeO.bind ?_ (fun _ => ?_)
theorem sackbutref06_IsPath.mono : ∀ a0 a1 a2 a3 k, LeO (sackbutref06_IsPath.f k a0 a1 a2 a3) (sackbutref06_IsPath.f (k + 1) a0 a1 a2 a3) := by
  intro a0 a1 a2 a3 k
  obtain ⟨ih0, ih1⟩ := sackbutref06_IsPath.mono_l k
  unfold sackbutref06_IsPath.f
  repeat' first
      | (with_reducible exact ih0 _ _ _ _ _ _ _)
      | (with_reducible exact ih1 _ _ _ _ _ _ _ _ _ _ _ _)
      | (with_reducible exact sackbutref06_Two.mono _ _ _ _)
      | (with_reducible exact sackbutref06_same.mono _ _ _)
      | (with_reducible exact LeO.refl _)
      | (with_reducible exact LeO.none _)
      | (with_reducible refine LeO.ite ?_ ?_)
      | (with_reducible refine LeO.bind ?_ (fun _ => ?_))
      | exact ih0 _ _ _ _ _ _ _
      | exact ih1 _ _ _ _ _ _ _ _ _ _ _ _
      | exact sackbutref06_Two.mono _ _ _ _
      | exact sackbutref06_same.mono _ _ _
      | exact LeO.none _
      | refine LeO.ite ?_ ?_
      | refine LeO.bind ?_ (fun _ => ?_)
set_option maxHeartbeats 8000000 in
set_option maxRecDepth 100000 in
theorem sackbutref06_IsPath.calls (k : Nat) (a0 : Int) (A1 : Option Addr) (c1 : Nat) (l1 : List Int) (A2 : Option Addr) (c2 : Nat) (l2 : List Int) (A3 : Option Addr) (c3 : Nat) (l3 : List (List Int)) (r : Bool) (w : World) (hr1 : Kd.C (Kd.int .i64) w A1 l1.length l1) (hc1 : l1.length ≤ c1) (hr2 : Kd.C (Kd.int .i64) w A2 l2.length l2) (hc2 : l2.length ≤ c2) (hr3 : Kd.C (Kd.slice 3 (Kd.int .i64)) w A3 l3.length l3) (hc3 : l3.length ≤ c3) (h : sackbutref06_IsPath.f k a0 l1 l2 l3 = some r) :
    Calls Try.prog 24 #[.int .i64 a0, .slice A1 l1.length c1, .slice A2 l2.length c2, .slice A3 l3.length c3] w fun e w' => e = .returned (.bool r) ∧ Below w.heap.size w w' := by
  have HR1 := Aside0.mk hr1
  have HC1 := Aside0.mk hc1
  clear hr1 hc1
  have HR2 := Aside0.mk hr2
  have HC2 := Aside0.mk hc2
  clear hr2 hc2
  have HR3 := Aside0.mk hr3
  have HC3 := Aside0.mk hc3
  clear hr3 hc3
  have HB := Aside0.mk (Below.refl w.heap.size w)
  have H : (if (l3.length : Int) = 0 then (some false) else (sackbutref06_IsPath.l0 k a0 l1 l2 l3 l3 (l3.length : Int) 0)) = some r := h
  clear h
  by_cases c5 : (l3.length : Int) = 0
  · rw [if_pos c5] at H
    have c5b0 : ((l3.length : Int) == 0) = true := beq_iff_eq.mpr c5
    have c5b1 : ((l3.length : Int) != 0) = false := bne_eq_false_iff_eq.mpr c5
    clear c5
    obtain rfl := Option.some.inj H
    go_enter Try.func24, Try.ntmps24
    go_wp2
    go_ret
    exact ⟨by first | rfl | (simp [errW_none, errW_some] <;> rfl) | (simp [*, errW_none, errW_some] <;> rfl), by repeat (first | (with_reducible first | exact HB.out | apply below_alloc | apply pw_below_drewN | apply below_drew1) | exact HB.out)⟩
  · rw [if_neg c5] at H
    have c5b0 : ((l3.length : Int) == 0) = false := beq_eq_false_iff_ne.mpr c5
    have c5b1 : ((l3.length : Int) != 0) = true := bne_iff_ne.mpr c5
    have c5b2 : ¬ (l3 = []) := fun h_ => c5 (by rw [h_]; rfl)
    have H' := Aside0.mk H
    clear H
    go_enter Try.func24, Try.ntmps24
    go_wp2
    go_loopg [20] k (fun kq v20 w' => ∃ (x20_1 : Int), v20 = .int .i64 x20_1 ∧ Aside0 (sackbutref06_IsPath.l0 kq a0 l1 l2 l3 l3 (l3.length : Int) x20_1 = some r) ∧ Aside0 (kq ≤ k) ∧ Aside0 (Below w.heap.size w w'))
    case atStart => exact ⟨(0), (by first | rfl | (simp; done) | (simp [*]; done)), H', ⟨Nat.le_refl _⟩, ⟨by repeat (first | (with_reducible first | exact HB.out | apply below_alloc | apply pw_below_drewN | apply below_drew1) | exact HB.out)⟩⟩
    case round =>
      clear H'
      try clear c1
      try clear c2
      try clear p2
      try clear c3
      try clear c5
      try clear c5b0
      try clear c5b1
      try clear c5b2
      obtain ⟨x20_1, rfl, HA, HK1, HB⟩ := hrel
      cases gk with
      | zero => exact absurd HA.out (by simp [sackbutref06_IsPath.l0])
      | succ k1 =>
        have H := HA.out
        clear HA
        simp only [sackbutref06_IsPath.l0] at H
        by_cases c6 : x20_1 < (l3.length : Int)
        · rw [if_pos c6] at H
          have c6b0 : decide (x20_1 < (l3.length : Int)) = true := decide_eq_true c6
          clear c6
          by_cases c7 : 0 ≤ x20_1
          · rw [if_pos c7] at H
            have c7b0 : decide (0 ≤ x20_1) = true := decide_eq_true c7
            clear c7
            by_cases c8 : x20_1 < (l3.length : Int)
            · rw [if_pos c8] at H
              have c8b0 : decide (x20_1 < (l3.length : Int)) = true := decide_eq_true c8
              clear c8
              replace H := Option.bind_eq_some_iff.mp H
              obtain ⟨t1010, A90, H⟩ := H
              replace H : (if t1010 = true then (if x20_1 = 0 then ((sackbutref06_same.f k1 l1 (rd_L1 l3 x20_1)).bind fun t1011 => (if t1011 = true then (sackbutref06_IsPath.l0 k1 a0 l1 l2 l3 l3 (l3.length : Int) (wrap64 (x20_1 + 1))) else (some false))) else (sackbutref06_IsPath.l1 k1 a0 l1 l2 l3 x20_1 0 l3 (l3.length : Int) x20_1 (rd_L1 l3 x20_1) ((rd_L1 l3 x20_1).length : Int) 0)) else (some false)) = some r := H
              have A9 := Aside0.mk A90
              clear A90
              by_cases c10 : t1010 = true
              · subst c10
                have H1 : (if x20_1 = 0 then ((sackbutref06_same.f k1 l1 (rd_L1 l3 x20_1)).bind fun t1011 => (if t1011 = true then (sackbutref06_IsPath.l0 k1 a0 l1 l2 l3 l3 (l3.length : Int) (wrap64 (x20_1 + 1))) else (some false))) else (sackbutref06_IsPath.l1 k1 a0 l1 l2 l3 x20_1 0 l3 (l3.length : Int) x20_1 (rd_L1 l3 x20_1) ((rd_L1 l3 x20_1).length : Int) 0)) = some r := by rw [if_pos rfl] at H; exact H
                clear H
                have H := H1
                clear H1
                by_cases c11 : x20_1 = 0
                · rw [if_pos c11] at H
                  have c11b0 : (x20_1 == 0) = true := beq_iff_eq.mpr c11
                  have c11b1 : (x20_1 != 0) = false := bne_eq_false_iff_eq.mpr c11
                  clear c11
                  replace H := Option.bind_eq_some_iff.mp H
                  obtain ⟨t1011, A120, H⟩ := H
                  replace H : (if t1011 = true then (sackbutref06_IsPath.l0 k1 a0 l1 l2 l3 l3 (l3.length : Int) (wrap64 (x20_1 + 1))) else (some false)) = some r := H
                  have A12 := Aside0.mk A120
                  clear A120
                  by_cases c13 : t1011 = true
                  · subst c13
                    have H1 : (sackbutref06_IsPath.l0 k1 a0 l1 l2 l3 l3 (l3.length : Int) (wrap64 (x20_1 + 1))) = some r := by rw [if_pos rfl] at H; exact H
                    clear H
                    have H := H1
                    clear H1
                    have H' := Aside0.mk H
                    clear H
                    have p1009 : 0 ≤ (x20_1 : Int) := of_decide_eq_true (by first | (with_reducible assumption) | assumption)
                    have q1009 : x20_1 < (l3.length : Int) := of_decide_eq_true (by first | (with_reducible assumption) | assumption)
                    obtain ⟨ad1009, A1009_0, c1009_0, e1009, hx1009_0, hl1009_0, hi1009_0⟩ := at_L1 HR3.out x20_1 p1009 q1009
                    cases e1009
                    replace hx1009_0 := (HB.out.cell (World.block_lt_of_cell? w _ hx1009_0)).trans hx1009_0
                    have HR1009_0 := Aside0.mk hi1009_0
                    have HC1009_0 := Aside0.mk hl1009_0
                    clear hi1009_0 hl1009_0
                    replace p1009 := eq_true p1009
                    replace q1009 := eq_true q1009
                    go_wp2_with (first | ((with_reducible refine gate_callee (f := 23) rfl ?_); refine goesL_ (some 28) rfl rfl Try.func23 (by kernel_rfl) rfl #[.int .i64 a0, .slice A1 l1.length c1, .slice A1009_0 (rd_L1 l3 x20_1).length c1009_0] rfl (by (try simp only [List.map_toArray, List.map_cons, List.map_nil]); first | done | rfl | (simp only [List.length_drop, List.length_take]; rfl)) ?_; (with_reducible refine (sackbutref06_Two.calls k1 a0 _ _ l1 _ _ (rd_L1 l3 x20_1) true _ ?side1 ?side2 ?side3 ?side4 A9.out).mono ?_); (case side1 => repeat (first | exact (Kd.C_below HR1.out HB.out) | (with_reducible refine Kd.C_alloc ?_ _) | (with_reducible refine Kd.C_drewN ?_ _) | (with_reducible refine Kd.C_drew ?_))); (case side2 => exact HC1.out); (case side3 => repeat (first | exact (Kd.C_below HR1009_0.out HB.out) | (with_reducible refine Kd.C_alloc ?_ _) | (with_reducible refine Kd.C_drewN ?_ _) | (with_reducible refine Kd.C_drew ?_))); (case side4 => exact HC1009_0.out); rintro e w' ⟨rfl, ⟨nd, rfl⟩⟩; refine ⟨_, rfl, ?_⟩) | ((with_reducible refine gate_callee (f := 48) rfl ?_); refine goesL_ (some 34) rfl rfl Try.func48 (by kernel_rfl) rfl #[.slice A1 l1.length c1, .slice A1009_0 (rd_L1 l3 x20_1).length c1009_0] rfl (by (try simp only [List.map_toArray, List.map_cons, List.map_nil]); first | done | rfl | (simp only [List.length_drop, List.length_take]; rfl)) ?_; (with_reducible refine (sackbutref06_same.calls k1 _ _ l1 _ _ (rd_L1 l3 x20_1) true _ ?side1 ?side2 ?side3 ?side4 A12.out).mono ?_); (case side1 => repeat (first | exact (Kd.C_below HR1.out (by repeat (first | (with_reducible first | exact HB.out | apply below_alloc | apply pw_below_drewN | apply below_drew1) | exact HB.out))) | (with_reducible refine Kd.C_alloc ?_ _) | (with_reducible refine Kd.C_drewN ?_ _) | (with_reducible refine Kd.C_drew ?_))); (case side2 => exact HC1.out); (case side3 => repeat (first | exact (Kd.C_below HR1009_0.out (by repeat (first | (with_reducible first | exact HB.out | apply below_alloc | apply pw_below_drewN | apply below_drew1) | exact HB.out))) | (with_reducible refine Kd.C_alloc ?_ _) | (with_reducible refine Kd.C_drewN ?_ _) | (with_reducible refine Kd.C_drew ?_))); (case side4 => exact HC1009_0.out); rintro e w' ⟨rfl, ⟨nd, rfl⟩⟩; refine ⟨_, rfl, ?_⟩))
                    go_roundg k1
                    case measure => have := HK1.out; omega
                    case rel => exact ⟨(wrap64 (x20_1 + 1)), (by first | rfl | (simp; done) | (simp [*]; done)), H', ⟨by have := HK1.out; omega⟩, ⟨by repeat (first | (with_reducible first | exact HB.out | apply below_alloc | apply pw_below_drewN | apply below_drew1) | exact HB.out)⟩⟩
                  · replace c13 := Bool.eq_false_iff.mpr c13
                    subst c13
                    have H1 : (some false) = some r := by rw [if_neg (show ¬ (false = true) by decide)] at H; exact H
                    clear H
                    have H := H1
                    clear H1
                    obtain rfl := Option.some.inj H
                    have p1009 : 0 ≤ (x20_1 : Int) := of_decide_eq_true (by first | (with_reducible assumption) | assumption)
                    have q1009 : x20_1 < (l3.length : Int) := of_decide_eq_true (by first | (with_reducible assumption) | assumption)
                    obtain ⟨ad1009, A1009_0, c1009_0, e1009, hx1009_0, hl1009_0, hi1009_0⟩ := at_L1 HR3.out x20_1 p1009 q1009
                    cases e1009
                    replace hx1009_0 := (HB.out.cell (World.block_lt_of_cell? w _ hx1009_0)).trans hx1009_0
                    have HR1009_0 := Aside0.mk hi1009_0
                    have HC1009_0 := Aside0.mk hl1009_0
                    clear hi1009_0 hl1009_0
                    replace p1009 := eq_true p1009
                    replace q1009 := eq_true q1009
                    go_wp2_with (first | ((with_reducible refine gate_callee (f := 23) rfl ?_); refine goesL_ (some 28) rfl rfl Try.func23 (by kernel_rfl) rfl #[.int .i64 a0, .slice A1 l1.length c1, .slice A1009_0 (rd_L1 l3 x20_1).length c1009_0] rfl (by (try simp only [List.map_toArray, List.map_cons, List.map_nil]); first | done | rfl | (simp only [List.length_drop, List.length_take]; rfl)) ?_; (with_reducible refine (sackbutref06_Two.calls k1 a0 _ _ l1 _ _ (rd_L1 l3 x20_1) true _ ?side1 ?side2 ?side3 ?side4 A9.out).mono ?_); (case side1 => repeat (first | exact (Kd.C_below HR1.out HB.out) | (with_reducible refine Kd.C_alloc ?_ _) | (with_reducible refine Kd.C_drewN ?_ _) | (with_reducible refine Kd.C_drew ?_))); (case side2 => exact HC1.out); (case side3 => repeat (first | exact (Kd.C_below HR1009_0.out HB.out) | (with_reducible refine Kd.C_alloc ?_ _) | (with_reducible refine Kd.C_drewN ?_ _) | (with_reducible refine Kd.C_drew ?_))); (case side4 => exact HC1009_0.out); rintro e w' ⟨rfl, ⟨nd, rfl⟩⟩; refine ⟨_, rfl, ?_⟩) | ((with_reducible refine gate_callee (f := 48) rfl ?_); refine goesL_ (some 34) rfl rfl Try.func48 (by kernel_rfl) rfl #[.slice A1 l1.length c1, .slice A1009_0 (rd_L1 l3 x20_1).length c1009_0] rfl (by (try simp only [List.map_toArray, List.map_cons, List.map_nil]); first | done | rfl | (simp only [List.length_drop, List.length_take]; rfl)) ?_; (with_reducible refine (sackbutref06_same.calls k1 _ _ l1 _ _ (rd_L1 l3 x20_1) false _ ?side1 ?side2 ?side3 ?side4 A12.out).mono ?_); (case side1 => repeat (first | exact (Kd.C_below HR1.out (by repeat (first | (with_reducible first | exact HB.out | apply below_alloc | apply pw_below_drewN | apply below_drew1) | exact HB.out))) | (with_reducible refine Kd.C_alloc ?_ _) | (with_reducible refine Kd.C_drewN ?_ _) | (with_reducible refine Kd.C_drew ?_))); (case side2 => exact HC1.out); (case side3 => repeat (first | exact (Kd.C_below HR1009_0.out (by repeat (first | (with_reducible first | exact HB.out | apply below_alloc | apply pw_below_drewN | apply below_drew1) | exact HB.out))) | (with_reducible refine Kd.C_alloc ?_ _) | (with_reducible refine Kd.C_drewN ?_ _) | (with_reducible refine Kd.C_drew ?_))); (case side4 => exact HC1009_0.out); rintro e w' ⟨rfl, ⟨nd, rfl⟩⟩; refine ⟨_, rfl, ?_⟩))
                    go_ret
                    exact ⟨by first | rfl | (simp [errW_none, errW_some] <;> rfl) | (simp [*, errW_none, errW_some] <;> rfl), by repeat (first | (with_reducible first | exact HB.out | apply below_alloc | apply pw_below_drewN | apply below_drew1) | exact HB.out)⟩
                · rw [if_neg c11] at H
                  have c11b0 : (x20_1 == 0) = false := beq_eq_false_iff_ne.mpr c11
                  have c11b1 : (x20_1 != 0) = true := bne_iff_ne.mpr c11
                  have H' := Aside0.mk H
                  clear H
                  have p1009 : 0 ≤ (x20_1 : Int) := of_decide_eq_true (by first | (with_reducible assumption) | assumption)
                  have q1009 : x20_1 < (l3.length : Int) := of_decide_eq_true (by first | (with_reducible assumption) | assumption)
                  obtain ⟨ad1009, A1009_0, c1009_0, e1009, hx1009_0, hl1009_0, hi1009_0⟩ := at_L1 HR3.out x20_1 p1009 q1009
                  cases e1009
                  replace hx1009_0 := (HB.out.cell (World.block_lt_of_cell? w _ hx1009_0)).trans hx1009_0
                  have HR1009_0 := Aside0.mk hi1009_0
                  have HC1009_0 := Aside0.mk hl1009_0
                  clear hi1009_0 hl1009_0
                  replace p1009 := eq_true p1009
                  replace q1009 := eq_true q1009
                  go_wp2_with (first | ((with_reducible refine gate_callee (f := 23) rfl ?_); refine goesL_ (some 28) rfl rfl Try.func23 (by kernel_rfl) rfl #[.int .i64 a0, .slice A1 l1.length c1, .slice A1009_0 (rd_L1 l3 x20_1).length c1009_0] rfl (by (try simp only [List.map_toArray, List.map_cons, List.map_nil]); first | done | rfl | (simp only [List.length_drop, List.length_take]; rfl)) ?_; (with_reducible refine (sackbutref06_Two.calls k1 a0 _ _ l1 _ _ (rd_L1 l3 x20_1) true _ ?side1 ?side2 ?side3 ?side4 A9.out).mono ?_); (case side1 => repeat (first | exact (Kd.C_below HR1.out HB.out) | (with_reducible refine Kd.C_alloc ?_ _) | (with_reducible refine Kd.C_drewN ?_ _) | (with_reducible refine Kd.C_drew ?_))); (case side2 => exact HC1.out); (case side3 => repeat (first | exact (Kd.C_below HR1009_0.out HB.out) | (with_reducible refine Kd.C_alloc ?_ _) | (with_reducible refine Kd.C_drewN ?_ _) | (with_reducible refine Kd.C_drew ?_))); (case side4 => exact HC1009_0.out); rintro e w' ⟨rfl, ⟨nd, rfl⟩⟩; refine ⟨_, rfl, ?_⟩))
                  go_loopg [11, 38] k1 (fun kq v11 v38 w' => ∃ (x11_2 : Int) (x38_2 : Int), v11 = .int .i64 x11_2 ∧ v38 = .int .i64 x38_2 ∧ Aside0 (sackbutref06_IsPath.l1 kq a0 l1 l2 l3 x20_1 x11_2 l3 (l3.length : Int) x20_1 (rd_L1 l3 x20_1) ((rd_L1 l3 x20_1).length : Int) x38_2 = some r) ∧ Aside0 (kq ≤ k1) ∧ Aside0 (Below w.heap.size w w'))
                  case atStart => exact ⟨(0), (0), (by first | rfl | (simp; done) | (simp [*]; done)), (by first | rfl | (simp; done) | (simp [*]; done)), H', ⟨Nat.le_refl _⟩, ⟨by repeat (first | (with_reducible first | exact HB.out | apply below_alloc | apply pw_below_drewN | apply below_drew1) | exact HB.out)⟩⟩
                  case round =>
                    clear H'
                    try clear c1
                    try clear p1
                    try clear q1
                    try clear hx1
                    try clear c2
                    try clear p2
                    try clear c3
                    try clear c4
                    try clear c5
                    try clear c5b0
                    try clear c5b1
                    try clear c5b2
                    try clear c6
                    try clear c6b0
                    try clear p6
                    try clear c7
                    try clear c7b0
                    try clear c8
                    try clear c8b0
                    try clear c10
                    try clear p10
                    try clear q10
                    try clear hx10
                    try clear c11
                    try clear c11b0
                    try clear c11b1
                    try clear c13
                    try clear hx1009_0
                    try clear p1009
                    try clear p2
                    try clear q1009
                    obtain ⟨x11_2, x38_2, rfl, rfl, HA, HK2, HB⟩ := hrel
                    cases gk with
                    | zero => exact absurd HA.out (by simp [sackbutref06_IsPath.l1])
                    | succ k2 =>
                      have H := HA.out
                      clear HA
                      simp only [sackbutref06_IsPath.l1] at H
                      by_cases c14 : x38_2 < ((rd_L1 l3 x20_1).length : Int)
                      · rw [if_pos c14] at H
                        have c14b0 : decide (x38_2 < ((rd_L1 l3 x20_1).length : Int)) = true := decide_eq_true c14
                        clear c14
                        by_cases c15 : 0 ≤ x38_2
                        · rw [if_pos c15] at H
                          have c15b0 : decide (0 ≤ x38_2) = true := decide_eq_true c15
                          clear c15
                          by_cases c16 : x38_2 < ((rd_L1 l3 x20_1).length : Int)
                          · rw [if_pos c16] at H
                            have c16b0 : decide (x38_2 < ((rd_L1 l3 x20_1).length : Int)) = true := decide_eq_true c16
                            clear c16
                            obtain ⟨ji17, hji17⟩ : ∃ j_ : Int, (wrap64 (x20_1 - 1)) = j_ := ⟨_, rfl⟩
                            replace H : (if 0 ≤ (ji17) then (if (ji17) < (l3.length : Int) then (if x38_2 < ((rd_L1 l3 (ji17)).length : Int) then (if (rd (rd_L1 l3 x20_1) x38_2) = (rd (rd_L1 l3 (ji17)) x38_2) then (sackbutref06_IsPath.l1 k2 a0 l1 l2 l3 x20_1 x11_2 l3 (l3.length : Int) x20_1 (rd_L1 l3 x20_1) ((rd_L1 l3 x20_1).length : Int) (wrap64 (x38_2 + 1))) else ((sackbutref06_Distance.f a0 (rd (rd_L1 l3 x20_1) x38_2) (rd (rd_L1 l3 (ji17)) x38_2)).bind fun t1015 => (if t1015 = 1 then (sackbutref06_IsPath.l1 k2 a0 l1 l2 l3 x20_1 (wrap64 (x11_2 + 1)) l3 (l3.length : Int) x20_1 (rd_L1 l3 x20_1) ((rd_L1 l3 x20_1).length : Int) (wrap64 (x38_2 + 1))) else (some false)))) else (none)) else (none)) else (none)) = some r := by first | (rw [hji17] at H; exact H) | (simp only [hji17] at H ⊢; exact H)
                            have hji17w : (IntKind.i64.wrap (x20_1 - 1)) = ji17 := (i64_w _).trans hji17
                            by_cases c18 : 0 ≤ (ji17)
                            · rw [if_pos c18] at H
                              have c18b0 : decide (0 ≤ (ji17)) = true := decide_eq_true c18
                              clear c18
                              by_cases c19 : (ji17) < (l3.length : Int)
                              · rw [if_pos c19] at H
                                have c19b0 : decide ((ji17) < (l3.length : Int)) = true := decide_eq_true c19
                                clear c19
                                by_cases c20 : x38_2 < ((rd_L1 l3 (ji17)).length : Int)
                                · rw [if_pos c20] at H
                                  have c20b0 : decide (x38_2 < ((rd_L1 l3 (ji17)).length : Int)) = true := decide_eq_true c20
                                  clear c20
                                  by_cases c21 : (rd (rd_L1 l3 x20_1) x38_2) = (rd (rd_L1 l3 (ji17)) x38_2)
                                  · rw [if_pos c21] at H
                                    have c21b0 : ((rd (rd_L1 l3 x20_1) x38_2) == (rd (rd_L1 l3 (ji17)) x38_2)) = true := beq_iff_eq.mpr c21
                                    have c21b1 : ((rd (rd_L1 l3 x20_1) x38_2) != (rd (rd_L1 l3 (ji17)) x38_2)) = false := bne_eq_false_iff_eq.mpr c21
                                    clear c21
                                    have H' := Aside0.mk H
                                    clear H
                                    have p1012 : 0 ≤ (x38_2 : Int) := of_decide_eq_true (by first | (with_reducible assumption) | assumption)
                                    have q1012 : x38_2 < ((rd_L1 l3 x20_1).length : Int) := of_decide_eq_true (by first | (with_reducible assumption) | assumption)
                                    obtain ⟨ad1012, e1012, hx1012_0⟩ := Kd.at_int HR1009_0.out x38_2 p1012 q1012
                                    cases e1012
                                    replace hx1012_0 := (HB.out.cell (World.block_lt_of_cell? w _ hx1012_0)).trans hx1012_0
                                    replace p1012 := eq_true p1012
                                    replace q1012 := eq_true q1012
                                    have p1013 : 0 ≤ ((ji17) : Int) := of_decide_eq_true (by first | (with_reducible assumption) | assumption)
                                    have q1013 : (ji17) < (l3.length : Int) := of_decide_eq_true (by first | (with_reducible assumption) | assumption)
                                    obtain ⟨ad1013, A1013_0, c1013_0, e1013, hx1013_0, hl1013_0, hi1013_0⟩ := at_L1 HR3.out (ji17) p1013 q1013
                                    obtain rfl : ad1009 = ad1013 := (by injection e1013)
                                    replace hx1013_0 := (HB.out.cell (World.block_lt_of_cell? w _ hx1013_0)).trans hx1013_0
                                    have HR1013_0 := Aside0.mk hi1013_0
                                    have HC1013_0 := Aside0.mk hl1013_0
                                    clear hi1013_0 hl1013_0
                                    replace p1013 := eq_true p1013
                                    replace q1013 := eq_true q1013
                                    have p1014 : 0 ≤ (x38_2 : Int) := of_decide_eq_true (by first | (with_reducible assumption) | assumption)
                                    have q1014 : x38_2 < ((rd_L1 l3 (ji17)).length : Int) := of_decide_eq_true (by first | (with_reducible assumption) | assumption)
                                    obtain ⟨ad1014, e1014, hx1014_0⟩ := Kd.at_int HR1013_0.out x38_2 p1014 q1014
                                    cases e1014
                                    replace hx1014_0 := (HB.out.cell (World.block_lt_of_cell? w _ hx1014_0)).trans hx1014_0
                                    replace p1014 := eq_true p1014
                                    replace q1014 := eq_true q1014
                                    go_wp2
                                    go_roundg k2
                                    case measure => have := HK1.out; have := HK2.out; omega
                                    case rel => exact ⟨(x11_2), (wrap64 (x38_2 + 1)), (by first | rfl | (simp; done) | (simp [*]; done)), (by first | rfl | (simp; done) | (simp [*]; done)), H', ⟨by have := HK1.out; have := HK2.out; omega⟩, ⟨by repeat (first | (with_reducible first | exact HB.out | apply below_alloc | apply pw_below_drewN | apply below_drew1) | exact HB.out)⟩⟩
                                  · rw [if_neg c21] at H
                                    have c21b0 : ((rd (rd_L1 l3 x20_1) x38_2) == (rd (rd_L1 l3 (ji17)) x38_2)) = false := beq_eq_false_iff_ne.mpr c21
                                    have c21b1 : ((rd (rd_L1 l3 x20_1) x38_2) != (rd (rd_L1 l3 (ji17)) x38_2)) = true := bne_iff_ne.mpr c21
                                    replace H := Option.bind_eq_some_iff.mp H
                                    obtain ⟨t1015, A220, H⟩ := H
                                    replace H : (if t1015 = 1 then (sackbutref06_IsPath.l1 k2 a0 l1 l2 l3 x20_1 (wrap64 (x11_2 + 1)) l3 (l3.length : Int) x20_1 (rd_L1 l3 x20_1) ((rd_L1 l3 x20_1).length : Int) (wrap64 (x38_2 + 1))) else (some false)) = some r := H
                                    have A22 := Aside0.mk A220
                                    clear A220
                                    by_cases c23 : t1015 = 1
                                    · rw [if_pos c23] at H
                                      have c23b0 : (t1015 == 1) = true := beq_iff_eq.mpr c23
                                      have c23b1 : (t1015 != 1) = false := bne_eq_false_iff_eq.mpr c23
                                      clear c23
                                      have H' := Aside0.mk H
                                      clear H
                                      have p1012 : 0 ≤ (x38_2 : Int) := of_decide_eq_true (by first | (with_reducible assumption) | assumption)
                                      have q1012 : x38_2 < ((rd_L1 l3 x20_1).length : Int) := of_decide_eq_true (by first | (with_reducible assumption) | assumption)
                                      obtain ⟨ad1012, e1012, hx1012_0⟩ := Kd.at_int HR1009_0.out x38_2 p1012 q1012
                                      cases e1012
                                      replace hx1012_0 := (HB.out.cell (World.block_lt_of_cell? w _ hx1012_0)).trans hx1012_0
                                      replace p1012 := eq_true p1012
                                      replace q1012 := eq_true q1012
                                      have p1013 : 0 ≤ ((ji17) : Int) := of_decide_eq_true (by first | (with_reducible assumption) | assumption)
                                      have q1013 : (ji17) < (l3.length : Int) := of_decide_eq_true (by first | (with_reducible assumption) | assumption)
                                      obtain ⟨ad1013, A1013_0, c1013_0, e1013, hx1013_0, hl1013_0, hi1013_0⟩ := at_L1 HR3.out (ji17) p1013 q1013
                                      obtain rfl : ad1009 = ad1013 := (by injection e1013)
                                      replace hx1013_0 := (HB.out.cell (World.block_lt_of_cell? w _ hx1013_0)).trans hx1013_0
                                      have HR1013_0 := Aside0.mk hi1013_0
                                      have HC1013_0 := Aside0.mk hl1013_0
                                      clear hi1013_0 hl1013_0
                                      replace p1013 := eq_true p1013
                                      replace q1013 := eq_true q1013
                                      have p1014 : 0 ≤ (x38_2 : Int) := of_decide_eq_true (by first | (with_reducible assumption) | assumption)
                                      have q1014 : x38_2 < ((rd_L1 l3 (ji17)).length : Int) := of_decide_eq_true (by first | (with_reducible assumption) | assumption)
                                      obtain ⟨ad1014, e1014, hx1014_0⟩ := Kd.at_int HR1013_0.out x38_2 p1014 q1014
                                      cases e1014
                                      replace hx1014_0 := (HB.out.cell (World.block_lt_of_cell? w _ hx1014_0)).trans hx1014_0
                                      replace p1014 := eq_true p1014
                                      replace q1014 := eq_true q1014
                                      go_wp2_with (first | ((with_reducible refine gate_callee (f := 49) rfl ?_); refine goesL_ (some 59) rfl rfl Try.func49 (by kernel_rfl) rfl #[.int .i64 a0, .int .i64 (rd (rd_L1 l3 x20_1) x38_2), .int .i64 (rd (rd_L1 l3 (ji17)) x38_2)] rfl (by (try simp only [List.map_toArray, List.map_cons, List.map_nil]); first | done | (simp only [hji17]; rfl) | rfl | (simp only [List.length_drop, List.length_take]; rfl)) ?_; (with_reducible refine (sackbutref06_Distance.calls a0 (rd (rd_L1 l3 x20_1) x38_2) (rd (rd_L1 l3 (ji17)) x38_2) t1015 _ A22.out).mono ?_); rintro e w24 ⟨rfl, hb⟩; refine ⟨_, rfl, ?_⟩; have n0_ := Aside0.mk (below_step (by repeat (first | (with_reducible first | exact HB.out | apply below_alloc | apply pw_below_drewN | apply below_drew1) | exact HB.out)) hb); clear HB; have HB := n0_; clear n0_; (try clear hb); (try clear hb2); (try clear hk); (try clear hi)))
                                      go_roundg k2
                                      case measure => have := HK1.out; have := HK2.out; omega
                                      case rel => exact ⟨(wrap64 (x11_2 + 1)), (wrap64 (x38_2 + 1)), (by first | rfl | (simp; done) | (simp [*]; done)), (by first | rfl | (simp; done) | (simp [*]; done)), H', ⟨by have := HK1.out; have := HK2.out; omega⟩, ⟨by repeat (first | (with_reducible first | exact HB.out | apply below_alloc | apply pw_below_drewN | apply below_drew1) | exact HB.out)⟩⟩
                                    · rw [if_neg c23] at H
                                      have c23b0 : (t1015 == 1) = false := beq_eq_false_iff_ne.mpr c23
                                      have c23b1 : (t1015 != 1) = true := bne_iff_ne.mpr c23
                                      obtain rfl := Option.some.inj H
                                      have p1012 : 0 ≤ (x38_2 : Int) := of_decide_eq_true (by first | (with_reducible assumption) | assumption)
                                      have q1012 : x38_2 < ((rd_L1 l3 x20_1).length : Int) := of_decide_eq_true (by first | (with_reducible assumption) | assumption)
                                      obtain ⟨ad1012, e1012, hx1012_0⟩ := Kd.at_int HR1009_0.out x38_2 p1012 q1012
                                      cases e1012
                                      replace hx1012_0 := (HB.out.cell (World.block_lt_of_cell? w _ hx1012_0)).trans hx1012_0
                                      replace p1012 := eq_true p1012
                                      replace q1012 := eq_true q1012
                                      have p1013 : 0 ≤ ((ji17) : Int) := of_decide_eq_true (by first | (with_reducible assumption) | assumption)
                                      have q1013 : (ji17) < (l3.length : Int) := of_decide_eq_true (by first | (with_reducible assumption) | assumption)
                                      obtain ⟨ad1013, A1013_0, c1013_0, e1013, hx1013_0, hl1013_0, hi1013_0⟩ := at_L1 HR3.out (ji17) p1013 q1013
                                      obtain rfl : ad1009 = ad1013 := (by injection e1013)
                                      replace hx1013_0 := (HB.out.cell (World.block_lt_of_cell? w _ hx1013_0)).trans hx1013_0
                                      have HR1013_0 := Aside0.mk hi1013_0
                                      have HC1013_0 := Aside0.mk hl1013_0
                                      clear hi1013_0 hl1013_0
                                      replace p1013 := eq_true p1013
                                      replace q1013 := eq_true q1013
                                      have p1014 : 0 ≤ (x38_2 : Int) := of_decide_eq_true (by first | (with_reducible assumption) | assumption)
                                      have q1014 : x38_2 < ((rd_L1 l3 (ji17)).length : Int) := of_decide_eq_true (by first | (with_reducible assumption) | assumption)
                                      obtain ⟨ad1014, e1014, hx1014_0⟩ := Kd.at_int HR1013_0.out x38_2 p1014 q1014
                                      cases e1014
                                      replace hx1014_0 := (HB.out.cell (World.block_lt_of_cell? w _ hx1014_0)).trans hx1014_0
                                      replace p1014 := eq_true p1014
                                      replace q1014 := eq_true q1014
                                      go_wp2_with (first | ((with_reducible refine gate_callee (f := 49) rfl ?_); refine goesL_ (some 59) rfl rfl Try.func49 (by kernel_rfl) rfl #[.int .i64 a0, .int .i64 (rd (rd_L1 l3 x20_1) x38_2), .int .i64 (rd (rd_L1 l3 (ji17)) x38_2)] rfl (by (try simp only [List.map_toArray, List.map_cons, List.map_nil]); first | done | (simp only [hji17]; rfl) | rfl | (simp only [List.length_drop, List.length_take]; rfl)) ?_; (with_reducible refine (sackbutref06_Distance.calls a0 (rd (rd_L1 l3 x20_1) x38_2) (rd (rd_L1 l3 (ji17)) x38_2) t1015 _ A22.out).mono ?_); rintro e w25 ⟨rfl, hb⟩; refine ⟨_, rfl, ?_⟩; have n0_ := Aside0.mk (below_step (by repeat (first | (with_reducible first | exact HB.out | apply below_alloc | apply pw_below_drewN | apply below_drew1) | exact HB.out)) hb); clear HB; have HB := n0_; clear n0_; (try clear hb); (try clear hb2); (try clear hk); (try clear hi)))
                                      go_ret
                                      exact ⟨by first | rfl | (simp [errW_none, errW_some] <;> rfl) | (simp only [← hji17]; first | rfl | (simp [errW_none, errW_some] <;> rfl)) | (simp [*, errW_none, errW_some] <;> rfl), by repeat (first | (with_reducible first | exact HB.out | apply below_alloc | apply pw_below_drewN | apply below_drew1) | exact HB.out)⟩
                                · rw [if_neg c20] at H
                                  exact absurd H (by simp)
                              · rw [if_neg c19] at H
                                exact absurd H (by simp)
                            · rw [if_neg c18] at H
                              exact absurd H (by simp)
                          · rw [if_neg c16] at H
                            exact absurd H (by simp)
                        · rw [if_neg c15] at H
                          exact absurd H (by simp)
                      · rw [if_neg c14] at H
                        have c14b0 : decide (x38_2 < ((rd_L1 l3 x20_1).length : Int)) = false := decide_eq_false c14
                        clear c14
                        by_cases c26 : x11_2 = 1
                        · rw [if_pos c26] at H
                          have c26b0 : (x11_2 == 1) = true := beq_iff_eq.mpr c26
                          have c26b1 : (x11_2 != 1) = false := bne_eq_false_iff_eq.mpr c26
                          clear c26
                          have H' := Aside0.mk H
                          clear H
                          go_wp2
                          go_roundg k2
                          case measure => have := HK1.out; have := HK2.out; omega
                          case rel => exact ⟨(wrap64 (x20_1 + 1)), (by first | rfl | (simp; done) | (simp [*]; done)), H', ⟨by have := HK1.out; have := HK2.out; omega⟩, ⟨by repeat (first | (with_reducible first | exact HB.out | apply below_alloc | apply pw_below_drewN | apply below_drew1) | exact HB.out)⟩⟩
                        · rw [if_neg c26] at H
                          have c26b0 : (x11_2 == 1) = false := beq_eq_false_iff_ne.mpr c26
                          have c26b1 : (x11_2 != 1) = true := bne_iff_ne.mpr c26
                          obtain rfl := Option.some.inj H
                          go_wp2
                          go_ret
                          exact ⟨by first | rfl | (simp [errW_none, errW_some] <;> rfl) | (simp [*, errW_none, errW_some] <;> rfl), by repeat (first | (with_reducible first | exact HB.out | apply below_alloc | apply pw_below_drewN | apply below_drew1) | exact HB.out)⟩
              · replace c10 := Bool.eq_false_iff.mpr c10
                subst c10
                have H1 : (some false) = some r := by rw [if_neg (show ¬ (false = true) by decide)] at H; exact H
                clear H
                have H := H1
                clear H1
                obtain rfl := Option.some.inj H
                have p1009 : 0 ≤ (x20_1 : Int) := of_decide_eq_true (by first | (with_reducible assumption) | assumption)
                have q1009 : x20_1 < (l3.length : Int) := of_decide_eq_true (by first | (with_reducible assumption) | assumption)
                obtain ⟨ad1009, A1009_0, c1009_0, e1009, hx1009_0, hl1009_0, hi1009_0⟩ := at_L1 HR3.out x20_1 p1009 q1009
                cases e1009
                replace hx1009_0 := (HB.out.cell (World.block_lt_of_cell? w _ hx1009_0)).trans hx1009_0
                have HR1009_0 := Aside0.mk hi1009_0
                have HC1009_0 := Aside0.mk hl1009_0
                clear hi1009_0 hl1009_0
                replace p1009 := eq_true p1009
                replace q1009 := eq_true q1009
                go_wp2_with (first | ((with_reducible refine gate_callee (f := 23) rfl ?_); refine goesL_ (some 28) rfl rfl Try.func23 (by kernel_rfl) rfl #[.int .i64 a0, .slice A1 l1.length c1, .slice A1009_0 (rd_L1 l3 x20_1).length c1009_0] rfl (by (try simp only [List.map_toArray, List.map_cons, List.map_nil]); first | done | rfl | (simp only [List.length_drop, List.length_take]; rfl)) ?_; (with_reducible refine (sackbutref06_Two.calls k1 a0 _ _ l1 _ _ (rd_L1 l3 x20_1) false _ ?side1 ?side2 ?side3 ?side4 A9.out).mono ?_); (case side1 => repeat (first | exact (Kd.C_below HR1.out HB.out) | (with_reducible refine Kd.C_alloc ?_ _) | (with_reducible refine Kd.C_drewN ?_ _) | (with_reducible refine Kd.C_drew ?_))); (case side2 => exact HC1.out); (case side3 => repeat (first | exact (Kd.C_below HR1009_0.out HB.out) | (with_reducible refine Kd.C_alloc ?_ _) | (with_reducible refine Kd.C_drewN ?_ _) | (with_reducible refine Kd.C_drew ?_))); (case side4 => exact HC1009_0.out); rintro e w' ⟨rfl, ⟨nd, rfl⟩⟩; refine ⟨_, rfl, ?_⟩))
                go_ret
                exact ⟨by first | rfl | (simp [errW_none, errW_some] <;> rfl) | (simp [*, errW_none, errW_some] <;> rfl), by repeat (first | (with_reducible first | exact HB.out | apply below_alloc | apply pw_below_drewN | apply below_drew1) | exact HB.out)⟩
            · rw [if_neg c8] at H
              exact absurd H (by simp)
          · rw [if_neg c7] at H
            exact absurd H (by simp)
        · rw [if_neg c6] at H
          have c6b0 : decide (x20_1 < (l3.length : Int)) = false := decide_eq_false c6
          clear c6
          obtain ⟨ji27, hji27⟩ : ∃ j_ : Int, (wrap64 ((l3.length : Int) - 1)) = j_ := ⟨_, rfl⟩
          replace H : (if 0 ≤ (ji27) then (if (ji27) < (l3.length : Int) then ((sackbutref06_Rising.f (rd_L1 l3 (ji27))).bind fun t1002 => ((sackbutref06_Rising.f l2).bind fun t1005 => ((sackbutref06_same.f k1 t1002 t1005).bind fun t1008 => (some t1008)))) else (none)) else (none)) = some r := by first | (rw [hji27] at H; exact H) | (simp only [hji27] at H ⊢; exact H)
          have hji27w : (IntKind.i64.wrap ((l3.length : Int) - 1)) = ji27 := (i64_w _).trans hji27
          by_cases c28 : 0 ≤ (ji27)
          · rw [if_pos c28] at H
            have c28b0 : decide (0 ≤ (ji27)) = true := decide_eq_true c28
            clear c28
            by_cases c29 : (ji27) < (l3.length : Int)
            · rw [if_pos c29] at H
              have c29b0 : decide ((ji27) < (l3.length : Int)) = true := decide_eq_true c29
              clear c29
              replace H := Option.bind_eq_some_iff.mp H
              obtain ⟨t1002, A300, H⟩ := H
              replace H : ((sackbutref06_Rising.f l2).bind fun t1005 => ((sackbutref06_same.f k1 t1002 t1005).bind fun t1008 => (some t1008))) = some r := H
              have A30 := Aside0.mk A300
              clear A300
              replace H := Option.bind_eq_some_iff.mp H
              obtain ⟨t1005, A310, H⟩ := H
              replace H : ((sackbutref06_same.f k1 t1002 t1005).bind fun t1008 => (some t1008)) = some r := H
              have A31 := Aside0.mk A310
              clear A310
              replace H := Option.bind_eq_some_iff.mp H
              obtain ⟨t1008, A320, H⟩ := H
              replace H : (some t1008) = some r := H
              have A32 := Aside0.mk A320
              clear A320
              obtain rfl := Option.some.inj H
              have p1001 : 0 ≤ ((ji27) : Int) := of_decide_eq_true (by first | (with_reducible assumption) | assumption)
              have q1001 : (ji27) < (l3.length : Int) := of_decide_eq_true (by first | (with_reducible assumption) | assumption)
              obtain ⟨ad1001, A1001_0, c1001_0, e1001, hx1001_0, hl1001_0, hi1001_0⟩ := at_L1 HR3.out (ji27) p1001 q1001
              cases e1001
              replace hx1001_0 := (HB.out.cell (World.block_lt_of_cell? w _ hx1001_0)).trans hx1001_0
              have HR1001_0 := Aside0.mk hi1001_0
              have HC1001_0 := Aside0.mk hl1001_0
              clear hi1001_0 hl1001_0
              replace p1001 := eq_true p1001
              replace q1001 := eq_true q1001
              go_wp2_with (first | ((with_reducible refine gate_callee (f := 15) rfl ?_); refine goesL_ (some 71) rfl rfl Try.func15 (by kernel_rfl) rfl #[.slice A1001_0 (rd_L1 l3 (ji27)).length c1001_0] rfl (by (try simp only [List.map_toArray, List.map_cons, List.map_nil]); first | done | (simp only [hji27]; rfl) | rfl | (simp only [List.length_drop, List.length_take]; rfl)) ?_; (with_reducible refine (sackbutref06_Rising.calls _ _ (rd_L1 l3 (ji27)) t1002 _ ?side1 ?side2 A30.out).mono ?_); (case side1 => repeat (first | exact (Kd.C_below HR1001_0.out HB.out) | (with_reducible refine Kd.C_alloc ?_ _) | (with_reducible refine Kd.C_drewN ?_ _) | (with_reducible refine Kd.C_drew ?_))); (case side2 => exact HC1001_0.out); rintro e w33 ⟨v1003, rfl, ho0, hb⟩; refine ⟨_, rfl, ?_⟩; have n0_ := Aside0.mk (Kd.R_lower ho0 (below_size (by repeat (first | (with_reducible first | exact HB.out | apply below_alloc | apply pw_below_drewN | apply below_drew1) | exact HB.out)))); have n1_ := Aside0.mk (below_step (by repeat (first | (with_reducible first | exact HB.out | apply below_alloc | apply pw_below_drewN | apply below_drew1) | exact HB.out)) hb); clear HB; have HO1004 := n0_; have HB := n1_; clear n0_ n1_; (try clear hb); (try clear hb2); (try clear hk); (try clear hi); (try clear ho0)) | ((with_reducible refine gate_callee (f := 15) rfl ?_); refine goesL_ (some 73) rfl rfl Try.func15 (by kernel_rfl) rfl #[.slice A2 l2.length c2] rfl (by (try simp only [List.map_toArray, List.map_cons, List.map_nil]); first | done | rfl | (simp only [List.length_drop, List.length_take]; rfl)) ?_; (with_reducible refine (sackbutref06_Rising.calls _ _ l2 t1005 _ ?side1 ?side2 A31.out).mono ?_); (case side1 => repeat (first | exact (Kd.C_below HR2.out HB.out) | (with_reducible refine Kd.C_alloc ?_ _) | (with_reducible refine Kd.C_drewN ?_ _) | (with_reducible refine Kd.C_drew ?_))); (case side2 => exact HC2.out); rintro e w34 ⟨v1006, rfl, ho0, hb⟩; refine ⟨_, rfl, ?_⟩; have n0_ := Aside0.mk (Kd.R_elder' (by (with_reducible repeat (first | apply Kd.R_alloc | apply Kd.R_drewN | apply Kd.R_drew)); exact HO1004.out) (Kd.R_base ho0) hb); have n1_ := Aside0.mk (Kd.R_lower (Kd.R_new' ho0 (Kd.R_lt (by (with_reducible repeat (first | apply Kd.R_alloc | apply Kd.R_drewN | apply Kd.R_drew)); exact HO1004.out))) (below_size (by repeat (first | (with_reducible first | exact HB.out | apply below_alloc | apply pw_below_drewN | apply below_drew1) | exact HB.out)))); have n2_ := Aside0.mk (below_step (by repeat (first | (with_reducible first | exact HB.out | apply below_alloc | apply pw_below_drewN | apply below_drew1) | exact HB.out)) hb); clear HO1004; clear HB; have HO1004 := n0_; have HO1007 := n1_; have HB := n2_; clear n0_ n1_ n2_; (try clear hb); (try clear hb2); (try clear hk); (try clear hi); (try clear ho0); obtain ⟨Ao35, co35, eo35⟩ := Kd.R_slice HO1004.out; subst eo35; obtain ⟨Ao36, co36, eo36⟩ := Kd.R_slice HO1007.out; subst eo36) | ((with_reducible refine gate_callee (f := 48) rfl ?_); refine goesL_ (some 74) rfl rfl Try.func48 (by kernel_rfl) rfl #[.slice Ao35 t1002.length co35, .slice Ao36 t1005.length co36] rfl (by (try simp only [List.map_toArray, List.map_cons, List.map_nil]); first | done | rfl | (simp only [List.length_drop, List.length_take]; rfl)) ?_; (with_reducible refine (sackbutref06_same.calls k1 _ _ t1002 _ _ t1005 t1008 _ ?side1 ?side2 ?side3 ?side4 A32.out).mono ?_); (case side1 => repeat (first | exact (Kd.R_reads' HO1004.out).2.2 | (with_reducible refine Kd.C_alloc ?_ _) | (with_reducible refine Kd.C_drewN ?_ _) | (with_reducible refine Kd.C_drew ?_))); (case side2 => exact (Kd.R_reads' HO1004.out).2.1); (case side3 => repeat (first | exact (Kd.R_reads' HO1007.out).2.2 | (with_reducible refine Kd.C_alloc ?_ _) | (with_reducible refine Kd.C_drewN ?_ _) | (with_reducible refine Kd.C_drew ?_))); (case side4 => exact (Kd.R_reads' HO1007.out).2.1); rintro e w' ⟨rfl, ⟨nd, rfl⟩⟩; refine ⟨_, rfl, ?_⟩))
              go_ret
              exact ⟨by first | rfl | (simp [errW_none, errW_some] <;> rfl) | (simp only [← hji27]; first | rfl | (simp [errW_none, errW_some] <;> rfl)) | (simp [*, errW_none, errW_some] <;> rfl), by repeat (first | (with_reducible first | exact HB.out | apply below_alloc | apply pw_below_drewN | apply below_drew1) | exact HB.out)⟩
            · rw [if_neg c29] at H
              exact absurd H (by simp)
          · rw [if_neg c28] at H
            exact absurd H (by simp)

end Go.Proofs.Ytfjafmgaahfhgaa.P
namespace Go.Proofs.Ytfjafmgaahfhgaa.P
open Go.RowKit Go.Proofs.YtfjafmgaahfhgaaW.PrintWords Go.Proofs.YtfjafmgaahfhgaaW.PrintLast Go.Proofs.YtfjafmgaahfhgaaW.PrintMore
attribute [local go_sem] max2_int min2_int max_two min_two max_three min_three max_four min_four   -- for this text's walks alone
set_option linter.unusedVariables false
set_option linter.unusedSimpArgs false

/-! slices.Equal -/
theorem Equal_loop (l0 l1 : List Int) (hlen : l0.length = l1.length) (hb : l0.length < 9223372036854775807) : ∀ (xs ys pre pre1 : List Int), l0 = pre ++ xs → l1 = pre1 ++ ys → pre.length = pre1.length →
    Ev (fun k => slices_Equal_int_int.l0 k l0 l1 (l0.length : Int) (pre.length : Int)) (decide (xs = ys)) := by
  intro xs
  induction xs with
  | nil =>
    intro ys pre pre1 h0 h1 hp
    have hy : ys = [] := by
      have := congrArg List.length h0; have := congrArg List.length h1
      simp at *
      exact List.eq_nil_of_length_eq_zero (by omega)
    subst hy
    refine Ev.succ ?_
    simp only [slices_Equal_int_int.l0, if_neg (mid_end h0)]
    simpa using Ev.some true
  | cons x xs ih =>
    intro ys pre pre1 h0 h1 hp
    cases ys with
    | nil => exfalso; have := congrArg List.length h0; have := congrArg List.length h1; simp at *; omega
    | cons y ys =>
      have r1 : rd l1 (pre.length : Int) = y := by rw [hp]; exact mid_rd h1
      have l1' : (pre.length : Int) < (l1.length : Int) := by rw [hp]; exact mid_lt h1
      refine Ev.succ ?_
      simp only [slices_Equal_int_int.l0, if_pos (mid_lt h0), if_pos (show (0 : Int) ≤ (pre.length : Int) by omega), if_pos l1', mid_rd h0, r1, mid_next h0 hb]
      refine Ev.ite (fun e => ?_) (fun e => ?_)
      · have := ih ys (pre ++ [x]) (pre1 ++ [y]) (mid_mv h0) (mid_mv h1) (by simp [hp])
        simpa [e] using this
      · simpa [e] using Ev.some false
theorem Equal_ev (l0 l1 : List Int) (hb : l0.length < 9223372036854775807) : Ev (fun k => slices_Equal_int_int.f k l0 l1) (decide (l0 = l1)) := by
  unfold slices_Equal_int_int.f
  refine Ev.ite (fun e => ?_) (fun e => ?_)
  · exact Equal_loop l0 l1 (by omega) hb l0 l1 [] [] rfl rfl rfl
  · have : l0 ≠ l1 := fun h => e (by rw [h])
    simpa [this] using Ev.some false


end Go.Proofs.Ytfjafmgaahfhgaa.P
namespace Go.Proofs.Ytfjafmgaahfhgaa.P
open Go.RowKit Go.Proofs.YtfjafmgaahfhgaaW.PrintWords Go.Proofs.YtfjafmgaahfhgaaW.PrintLast Go.Proofs.YtfjafmgaahfhgaaW.PrintMore
attribute [local go_sem] max2_int min2_int max_two min_two max_three min_three max_four min_four   -- for this text's walks alone
set_option linter.unusedVariables false
set_option linter.unusedSimpArgs false

/-! the document's list of all leadings -/
def rlead (k : Nat) : Nat → List Nat → List (List Nat)
  | 0, cur => [cur]
  | r + 1, cur => (List.range k).flatMap fun x => if x ∈ cur then [] else rlead k r (cur ++ [x])
def rleadTo (k r : Nat) (cur : List Nat) (m : Nat) : List (List Nat) := (List.range m).flatMap fun x => if x ∈ cur then [] else rlead k r (cur ++ [x])
theorem rleadTo_succ (k r : Nat) (cur : List Nat) (m : Nat) : rleadTo k r cur (m + 1) = rleadTo k r cur m ++ (if m ∈ cur then [] else rlead k r (cur ++ [m])) := by
  unfold rleadTo; rw [List.range_succ]; simp
theorem len_le_of_sub : ∀ (l l' : List Nat), l.Nodup → (∀ c, c ∈ l → c ∈ l') → l.length ≤ l'.length
  | [], _, _, _ => Nat.zero_le _
  | c :: l, l', hd, hs => by
    have h1 := hs c (by simp)
    have hd' := List.nodup_cons.1 hd
    have := len_le_of_sub l (l'.erase c) hd'.2 (fun x hx => by
      have hx' := hs x (by simp [hx])
      have hne : x ≠ c := fun e => hd'.1 (e ▸ hx)
      exact (List.mem_erase_of_ne hne).2 hx')
    rw [List.length_erase_of_mem h1] at this
    have hp : 0 < l'.length := List.length_pos_of_mem h1
    simp only [List.length_cons]; omega
theorem rlead_ne {k : Nat} : ∀ (r : Nat) (cur : List Nat), cur.length + r = k → rlead k r cur ≠ []
  | 0, _, _ => by simp [rlead]
  | r + 1, cur, h => by
    have : ∃ x, x < k ∧ x ∉ cur := by
      refine Classical.byContradiction fun hn => ?_
      have h1 := len_le_of_sub (List.range k) cur List.nodup_range (fun x hx => Classical.byContradiction fun h2 => hn ⟨x, List.mem_range.1 hx, h2⟩)
      rw [List.length_range] at h1; omega
    obtain ⟨x, hx, hc⟩ := this
    obtain ⟨l, hl⟩ := List.exists_mem_of_ne_nil _ (rlead_ne (k := k) r (cur ++ [x]) (by rw [List.length_append, List.length_singleton]; omega))
    refine List.ne_nil_of_mem (a := l) ?_
    simp only [rlead]
    rw [List.mem_flatMap]
    exact ⟨x, List.mem_range.2 hx, by rw [if_neg hc]; exact hl⟩
theorem flat_congr {l : List Nat} {f g : Nat → List (List Nat)} (h : ∀ x ∈ l, f x = g x) : l.flatMap f = l.flatMap g := by
  rw [List.flatMap_def, List.flatMap_def, List.map_congr_left h]
theorem ldg_rlead {k : Nat} : ∀ (r used : Nat) (cur : List Nat), (∀ x, x < k → used.testBit x = decide (x ∈ cur)) → ldg k r used cur = rlead k r cur
  | 0, _, _, _ => rfl
  | r + 1, used, cur, h => by
    simp only [ldg, rlead]
    refine flat_congr (fun x hx => ?_)
    have hx' := List.mem_range.1 hx
    rw [h x hx']
    by_cases hc : x ∈ cur
    · simp [hc]
    · simp only [hc, decide_false, Bool.false_eq_true, if_false]
      exact ldg_rlead r (used ||| 2 ^ x) (cur ++ [x]) (fun y hy => by
        rw [Nat.testBit_or, Nat.testBit_two_pow, h y hy]
        by_cases h1 : y ∈ cur <;> by_cases h2 : x = y <;> simp [h1, h2, eq_comm]
        all_goals (first | (intro h3; exact absurd h3.symm h2) | skip))
theorem ldg_all (k : Nat) : ldg k k 0 [] = rlead k k [] := ldg_rlead k 0 [] (fun x _ => by simp)
/-- rows of numbers of the call's own -/
def RowOf (W : World) (base : Nat) (v : Value) (l : List Nat) : Prop := ∃ A c, v = .slice A (nums l).length c ∧ Kd.R (Kd.int .i64) 3 W base (fun _ => True) v (nums l)
def All2 (W : World) (base : Nat) : List Value → List (List Nat) → Prop
  | [], [] => True
  | v :: vs, l :: ls => RowOf W base v l ∧ All2 W base vs ls
  | _, _ => False
theorem RowOf.below {W W' : World} {base : Nat} {v : Value} {l : List Nat} (h : RowOf W base v l) (hb : Below W.heap.size W W') : RowOf W' base v l := by
  obtain ⟨A, c, e, hR⟩ := h
  exact ⟨A, c, e, Kd.R_below hR hb⟩
theorem All2.below {W W' : World} {base : Nat} (hb : Below W.heap.size W W') : ∀ {vs : List Value} {ls : List (List Nat)}, All2 W base vs ls → All2 W' base vs ls
  | [], [], _ => trivial
  | _ :: _, _ :: _, h => ⟨h.1.below hb, All2.below hb h.2⟩
theorem All2.append {W : World} {base : Nat} : ∀ {vs us : List Value} {ls ms : List (List Nat)}, All2 W base vs ls → All2 W base us ms → All2 W base (vs ++ us) (ls ++ ms)
  | [], _, [], _, _, h => h
  | _ :: _, _, _ :: _, _, h, h2 => ⟨h.1, All2.append h.2 h2⟩
theorem All2.length {W : World} {base : Nat} : ∀ {vs : List Value} {ls : List (List Nat)}, All2 W base vs ls → vs.length = ls.length
  | [], [], _ => rfl
  | _ :: _, _ :: _, h => by rw [List.length_cons, List.length_cons, All2.length h.2]
theorem RowOf.over {W w1 : World} {base : Nat} {u v : Value} {l : List Nat} (h : RowOf W base u l) (hty : ∀ k, v.ownBlock = some k → ∃ cells, W.heap[k]? = some (.cells cells 23 (0, 0))) (hg : W.grownBy w1 v.ownBlock) : RowOf w1 base u l := by
  obtain ⟨A, c, e, hR⟩ := h
  exact ⟨A, c, e, Kd.R_over' hR hty (by intro q hq; simp [Kd.int, Kd.scalar] at hq; subst hq; decide) hg⟩
theorem All2.over {W w1 : World} {base : Nat} {v : Value} (hty : ∀ k, v.ownBlock = some k → ∃ cells, W.heap[k]? = some (.cells cells 23 (0, 0))) (hg : W.grownBy w1 v.ownBlock) : ∀ {vs : List Value} {ls : List (List Nat)}, All2 W base vs ls → All2 w1 base vs ls
  | [], [], _ => trivial
  | _ :: _, _ :: _, h => ⟨h.1.over hty hg, All2.over hty hg h.2⟩
theorem flat_len {l : List Nat} {f : Nat → List (List Nat)} {m : Nat} (h : ∀ x ∈ l, (f x).length ≤ m) : (l.flatMap f).length ≤ l.length * m := by
  induction l with
  | nil => simp
  | cons x l ih =>
    have h1 := h x (by simp)
    have h2 := ih (fun y hy => h y (by simp [hy]))
    rw [List.flatMap_cons, List.length_append, List.length_cons, Nat.add_mul]; omega
theorem rlead_len {k : Nat} : ∀ (r : Nat) (cur : List Nat), (rlead k r cur).length ≤ k ^ r
  | 0, _ => by simp [rlead]
  | r + 1, cur => by
    have : ∀ x ∈ List.range k, (if x ∈ cur then ([] : List (List Nat)) else rlead k r (cur ++ [x])).length ≤ k ^ r := fun x _ => by
      split
      · simp
      · exact rlead_len r _
    have h := flat_len this
    rw [List.length_range] at h
    simp only [rlead]
    rw [Nat.pow_succ, Nat.mul_comm]; exact h
theorem rleadTo_len {k r m : Nat} {cur : List Nat} (hm : m ≤ k) (hk : k ≤ 6) (hr : r + 1 ≤ 6) : (rleadTo k r cur m).length ≤ 46656 := by
  have : ∀ x ∈ List.range m, (if x ∈ cur then ([] : List (List Nat)) else rlead k r (cur ++ [x])).length ≤ 6 ^ 5 := fun x _ => by
    split
    · simp
    · refine Nat.le_trans (rlead_len r _) (Nat.le_trans (Nat.pow_le_pow_left hk r) (Nat.pow_le_pow_right (by omega) (by omega)))
  have h := flat_len this
  rw [List.length_range] at h
  unfold rleadTo
  have : m * 6 ^ 5 ≤ 6 * 6 ^ 5 := Nat.mul_le_mul_right _ (by omega)
  omega
theorem RowOf.one {W : World} {base : Nat} {v : Value} {l : List Nat} (h : RowOf W base v l) : v.oneCell' = true := by
  obtain ⟨A, c, e, _⟩ := h; rw [e]; rfl
theorem All2.one {W : World} {base : Nat} : ∀ {vs : List Value} {ls : List (List Nat)}, All2 W base vs ls → ∀ u ∈ vs, u.oneCell' = true
  | [], [], _, u, hu => by cases hu
  | _ :: _, _ :: _, h, u, hu => by
    rcases List.mem_cons.1 hu with rfl | hu
    · exact h.1.one
    · exact All2.one h.2 u hu
theorem All2.get {W : World} {base : Nat} : ∀ {vs : List Value} {ls : List (List Nat)}, All2 W base vs ls → ∀ (i : Nat) (l : List Nat), ls[i]? = some l → ∃ v, vs[i]? = some v ∧ RowOf W base v l
  | [], [], _, i, l, h => by simp at h
  | v :: vs, l' :: ls, h, 0, l, hl => by
    simp only [List.getElem?_cons_zero, Option.some.injEq] at hl
    subst hl
    exact ⟨v, rfl, h.1⟩
  | v :: vs, l' :: ls, h, i + 1, l, hl => by
    simp only [List.getElem?_cons_succ] at hl ⊢
    exact All2.get h.2 i l hl
def LeadsPost (base : Nat) (W : World) (L : List (List Nat)) (e : Ending) (w' : World) : Prop := ∃ v vs, e = .returned v ∧ w'.ownsRow W.heap.size 23 1 v vs.length vs ∧ All2 w' base vs L ∧ Below W.heap.size W w'
/-- a row of the call's own has its cells somewhere, where it has any -/
theorem own_some {w : World} {base : Nat} {e : TypeId} {v : Value} {vs : List Value} (h : w.ownsRow base e 1 v vs.length vs) (hne : 0 < vs.length) : ∃ g c, v = .slice (some ⟨g, 0, none⟩) vs.length c ∧ ∀ j u, vs[j]? = some u → w.cell? ((⟨g, 0, none⟩ : Addr).add j) = some u := by
  have hc : ∀ g, v.ownBlock = some g → ∀ j u, vs[j]? = some u → w.cell? ((⟨g, 0, none⟩ : Addr).add j) = some u := fun g hg => h.cells hg
  obtain ⟨_, h2⟩ := h
  rcases h2 with ⟨_, h0⟩ | ⟨g, cap, cur, e1, _⟩
  · omega
  · exact ⟨g, cap, e1, hc g (by rw [e1]; rfl)⟩
theorem infoS : (Try.prog.info? 23).map (fun i => (i.zero, i.size, i.bytes)) = some (some (.slice none 0 0), 1, 24) := by kernel_rfl
theorem R_fresh {w : World} {base : Nat} {v : Value} {xs : List Int} (h : w.ownsRow base 3 1 v xs.length (xs.map (Value.int .i64))) : Kd.R (Kd.int .i64) 3 w base (fun _ => True) v xs := Kd.R_of_own (h1 := fun _ => rfl) h (fun _ _ => trivial)
set_option maxHeartbeats 4000000 in
set_option maxRecDepth 100000 in
theorem leads_end (k : Nat) (base : Nat) (A : Option Addr) (c : Nat) (cur : List Nat) (W : World) (hc : cur.length = k) (hR : Kd.R (Kd.int .i64) 3 W base (fun _ => True) (.slice A (nums cur).length c) (nums cur)) :
    Calls Try.prog 69 #[.int .i64 (k : Int), .slice A (nums cur).length c] W (LeadsPost base W [cur]) := by
  have hlen : (nums cur).length = k := by rw [nums_length, hc]
  have HR := Aside0.mk hR
  have HL := Aside0.mk hlen
  rw [hlen]
  clear hR hc hlen
  go_enter Try.func69, Try.ntmps69
  go_wp2
  go_ret
  refine ⟨_, [.slice A k c], rfl, World.ownsRow_lit (base := W.heap.size) (e := 23) (size := 1) W #[.slice A k c] 1 (Nat.le_refl _) (by simp [maxLen]) (by simp), ⟨?_, trivial⟩, below_alloc (Below.refl _ _) _⟩
  refine ⟨A, c, by rw [HL.out], ?_⟩
  rw [← HL.out]
  exact Kd.R_alloc HR.out _
theorem nums_get {cur : List Nat} {j : Nat} (h : j < cur.length) : rd (nums cur) (j : Int) = (cur[j] : Int) := by
  rw [rd_get (by rw [nums_length]; exact h)]; simp [nums]
theorem any_take {cur : List Nat} {j x : Nat} (h : j < cur.length) : (decide (x ∈ cur.take (j + 1))) = (decide (x ∈ cur.take j) || decide (x = cur[j])) := by
  rw [List.take_succ_eq_append_getElem h, ← Bool.decide_or, decide_eq_decide, List.mem_append, List.mem_singleton]
theorem nums_cells {W : World} {A : Option Addr} {cur : List Nat} (h : Kd.C (Kd.int .i64) W A (nums cur).length (nums cur)) : ∀ b, A = some b → ∀ j u, ((nums cur).map (Value.int .i64))[j]? = some u → W.cell? (b.add j) = some u := by
  intro b hb j u hu
  rw [List.getElem?_map, Option.map_eq_some_iff] at hu
  obtain ⟨x, hx, rfl⟩ := hu
  have hj := (List.getElem?_eq_some_iff.1 hx).1
  obtain ⟨ad, e, hc⟩ := Kd.at_int h (j : Int) (by omega) (by omega)
  rw [hb] at e
  injection e with e
  subst e
  rw [Int.toNat_natCast, rd_get hj] at hc
  rw [hc, (List.getElem?_eq_some_iff.1 hx).2]
set_option maxHeartbeats 8000000 in
set_option maxRecDepth 100000 in
theorem leads_more (k : Nat) (hk : k ≤ 6) (r : Nat) (base : Nat) (A : Option Addr) (c : Nat) (cur : List Nat) (W : World) (hc : cur.length + (r + 1) = k) (hb : base ≤ W.heap.size) (hR : Kd.R (Kd.int .i64) 3 W base (fun _ => True) (.slice A (nums cur).length c) (nums cur))
    (ih : ∀ (x : Nat) (A : Option Addr) (c : Nat) (W : World), x < k → x ∉ cur → base ≤ W.heap.size → Kd.R (Kd.int .i64) 3 W base (fun _ => True) (.slice A (nums (cur ++ [x])).length c) (nums (cur ++ [x])) →
      Calls Try.prog 69 #[.int .i64 (k : Int), .slice A (nums (cur ++ [x])).length c] W (LeadsPost base W (rlead k r (cur ++ [x])))) :
    Calls Try.prog 69 #[.int .i64 (k : Int), .slice A (nums cur).length c] W (LeadsPost base W (rleadTo k r cur k)) := by
  obtain ⟨L, hlen⟩ : ∃ L, (nums cur).length = L := ⟨_, rfl⟩
  have hLk : L < k := by rw [nums_length] at hlen; omega
  have hcl : cur.length = L := by rw [← nums_length]; exact hlen
  have HR := Aside0.mk hR
  have HRC := Aside0.mk (Kd.R_reads' hR).2.2
  have hcc := (Kd.R_reads' hR).2.1
  rw [hlen] at hcc HR ⊢
  have HL := Aside0.mk hlen
  have HCL := Aside0.mk hcl
  have HIH := Aside0.mk ih
  have HB := Aside0.mk hb
  have HCK := Aside0.mk hc
  have hne : ((L : Int) == (k : Int)) = false := beq_eq_false_iff_ne.2 (by omega)
  obtain ⟨i0, hi, hz0, hz1, hz2⟩ := info_parts info3
  obtain ⟨i1, hi1, hy0, hy1, hy2⟩ := info_parts infoS
  have HI0 := Aside0.mk hi
  have HI1 := Aside0.mk hi1
  have HZ := Aside0.mk (show i0.zero = some (.int .i64 0) ∧ i0.size = 1 ∧ i0.bytes = 8 ∧ i1.zero = some (.slice none 0 0) ∧ i1.size = 1 ∧ i1.bytes = 24 from ⟨hz0, hz1, hz2, hy0, hy1, hy2⟩)
  have HNONE := Aside0.mk (show A = none → L = 0 ∧ L = 0 from fun e => by
    rcases Nat.eq_zero_or_pos L with h | h
    · exact ⟨h, h⟩
    · obtain ⟨ad, e2, _⟩ := Kd.at_int HRC.out 0 (by omega) (by omega)
      rw [e] at e2; cases e2)
  clear hR hlen hcl ih hb hc hi hz0 hz1 hz2 hi1 hy0 hy1 hy2
  go_enter Try.func69, Try.ntmps69
  go_wp2
  go_loopg [5, 17] k (fun gg s5 s17 wr => ∃ (x : Nat) (v : Value) (vs : List Value), s17 = .int .i64 x ∧ s5 = v ∧ Aside0 (x + gg = k) ∧ Aside0 (wr.ownsRow W.heap.size 23 1 v vs.length vs) ∧ Aside0 (All2 wr base vs (rleadTo k r cur x)) ∧ Aside0 (Below W.heap.size W wr))
  case atStart => exact ⟨0, _, [], rfl, rfl, ⟨by omega⟩, ⟨World.ownsRow_nil _ _ _ _⟩, ⟨trivial⟩, ⟨Below.refl _ _⟩⟩
  case round =>
    obtain ⟨x, v, vs, rfl, rfl, HX, HO, HA, HBW⟩ := hrel
    have HS := Aside0.mk (rleadTo_succ k r cur x)
    obtain ⟨G, rfl⟩ : ∃ G, G = gk := ⟨gk, rfl⟩
    obtain ⟨wo, rfl⟩ : ∃ wo : World, wo = wr := ⟨wr, rfl⟩
    by_cases hlt : x < k
    · have hltz : (x : Int) < (k : Int) := by omega
      clear hne
      go_wp2
      go_loopg [7, 22] L (fun gg s7 s22 w2 => ∃ (j q : Nat), s22 = .int .i64 j ∧ s7 = .bool (decide (x ∈ cur.take j)) ∧ w2 = wo.drewN q ∧ Aside0 (j + gg = L))
      case atStart => exact ⟨0, 0, rfl, by simp, rfl, ⟨by omega⟩⟩
      case round =>
        obtain ⟨j, q, rfl, rfl, rfl, HJ⟩ := hrel
        by_cases hj : j < L
        · have hjz : (j : Int) < (L : Int) := by omega
          obtain ⟨ad, e, hcell⟩ := Kd.at_int (Kd.C_below HRC.out HBW.out) (j : Int) (by omega) (by rw [HL.out]; exact hjz)
          rw [nums_get (by rw [HCL.out]; exact hj), Int.toNat_natCast] at hcell
          cases e
          have HT := Aside0.mk (any_take (x := x) (show j < cur.length by rw [HCL.out]; exact hj))
          generalize hy : cur[j]'(by rw [HCL.out]; exact hj) = y at hcell HT
          clear hy
          cases ho : decide (x ∈ cur.take j) with
          | true =>
            rw [ho, Bool.true_or] at HT
            clear ho
            go_wp2
            go_roundg (gk - 1)
            case measure => have := HJ.out; omega
            case rel => exact ⟨j + 1, q, by go_num, by rw [HT.out], rfl, ⟨by have := HJ.out; omega⟩⟩
          | false =>
            rw [ho, Bool.false_or] at HT
            clear ho
            by_cases hxy : x = y
            · rw [decide_eq_true hxy] at HT
              have e6 : ((x : Int) == (y : Int)) = true := by rw [hxy]; exact beq_self_eq_true _
              clear hxy
              go_wp2
              go_roundg (gk - 1)
              case measure => have := HJ.out; omega
              case rel => exact ⟨j + 1, q, by go_num, by rw [HT.out], rfl, ⟨by have := HJ.out; omega⟩⟩
            · rw [decide_eq_false hxy] at HT
              have e6 : ((x : Int) == (y : Int)) = false := beq_eq_false_iff_ne.2 (by omega)
              clear hxy
              go_wp2
              go_roundg (gk - 1)
              case measure => have := HJ.out; omega
              case rel => exact ⟨j + 1, q, by go_num, by rw [HT.out], rfl, ⟨by have := HJ.out; omega⟩⟩
        · have hjL : j = L := by have := HJ.out; omega
          have hjz : ¬ (j : Int) < (L : Int) := by omega
          have HALL := Aside0.mk (show decide (x ∈ cur.take j) = decide (x ∈ cur) by rw [List.take_of_length_le (by rw [HCL.out]; omega)])
          have HX5 := Aside0.mk hjL
          clear hjL
          cases ho : decide (x ∈ cur.take j) with
          | true =>
            rw [ho] at HALL
            have HM := Aside0.mk (of_decide_eq_true HALL.out.symm)
            rw [if_pos HM.out, List.append_nil] at HS
            clear ho
            go_wp2
            go_roundg (G - 1)
            case measure => have := HX.out; omega
            case rel => exact ⟨x + 1, _, vs, by go_num, rfl, ⟨by have := HX.out; omega⟩, ⟨own_move HO.out (fun _ _ => rfl)⟩, ⟨by rw [HS.out]; exact HA.out.below (pw_below_drewN (Below.refl _ _) q)⟩, ⟨pw_below_drewN HBW.out q⟩⟩
          | false =>
            rw [ho] at HALL
            have HM := Aside0.mk (of_decide_eq_false HALL.out.symm)
            rw [if_neg HM.out] at HS
            clear ho
            have hLc : (L : Int) ≤ (c : Int) := by omega
            have hsz := HBW.out.size
            have HCB := Aside0.mk (nums_cells (W := (wo.drewN q).alloc (.cells #[.int .i64 (x : Int)] 3)) (A := A) (cur := cur) (Kd.C_alloc (Kd.C_drewN (Kd.C_below HRC.out HBW.out) q) _))
            have HNL := Aside0.mk (show ((nums cur).map (Value.int .i64)).length = L * 1 by rw [List.length_map, HL.out, Nat.mul_one])
            have HNC := Aside0.mk (new_cell (wo.drewN q) (.int .i64 (x : Int)) 3)
            go_wp2_with (((with_reducible refine gate_builtin (b := .append) (xs := #[.tmp 42, .tmp 44]) rfl ?_); at_builtin; refine wpList_append_grows _ rfl _ _ 23 rfl 3 i0 (.int .i64 0) 1 8 Try.underlying23 HI0.out HZ.out.1 HZ.out.2.1 HZ.out.2.2.1 rfl (by decide) A L L ((nums cur).map (Value.int .i64)) rfl HNONE.out HNL.out HCB.out ⟨wo.heap.size, 0, none⟩ 1 1 [.int .i64 (x : Int)] rfl rfl ?c1 ?c2 (by omega) ?c3 ?c4 ?_; (case c1 => intro j u hu; cases j with
              | zero => simp only [List.getElem?_cons_zero, Option.some.injEq] at hu; subst hu; exact HNC.out.1
              | succ j => simp at hu); (case c2 => intro u hu; rw [List.mem_singleton] at hu; subst hu; rfl); (case c3 => simp only [maxLen]; omega); (case c4 => omega); intro v5 w5 ho5 hg5))
            have hrow : (((nums cur).map (Value.int .i64)) ++ [Value.int .i64 (x : Int)]) = (nums (cur ++ [x])).map (Value.int .i64) := by rw [nums_snoc]; simp
            have hlen2 : L + 1 = (nums (cur ++ [x])).length := by rw [nums_snoc, List.length_append, HL.out]; rfl
            rw [hrow] at ho5
            have ho6 := ho5
            rw [hlen2] at ho6
            have hR5 := R_fresh ho6
            obtain ⟨A5, c5, e5⟩ := Kd.R_slice hR5
            subst e5
            have hb5 : Below wo.heap.size wo w5 := ((below_alloc (pw_below_drewN (Below.refl wo.heap.size wo) q) _).grown hg5 (by simp) (fun k e => by cases e))
            have HB5 := Aside0.mk hb5
            have hrun := HIH.out x A5 c5 w5 hlt HM.out (Nat.le_trans HB.out (Nat.le_trans HBW.out.size hb5.size)) (Kd.R_lower hR5 (by simp only [World.size_alloc]; have := HB.out; have := HBW.out.size; show base ≤ wo.heap.size + 1; omega))
            rw [← hlen2] at hrun ⊢
            have HRUN := Aside0.mk hrun
            clear hrow hlen2 ho5 ho6 hR5 hb5 hg5 hrun hsz
            go_wp2_with fail
            refine HRUN.out.mono ?_
            rintro e w6 ⟨v6, vs6, rfl, ho6, ha6, hb6⟩
            have hne6 : 0 < vs6.length := by
              rw [ha6.length]
              exact List.length_pos_iff.2 (rlead_ne r _ (by rw [List.length_append, List.length_singleton]; have := HCK.out; omega))
            obtain ⟨g6, c6, e6, hc6⟩ := own_some ho6 hne6
            subst e6
            have HA6 := Aside0.mk ha6
            have HC6 := Aside0.mk hc6
            have HBL := Aside0.mk (HB5.out.trans (hb6.mono HB5.out.size))
            have HO6 := Aside0.mk (own_move HO.out (fun k hk => HBL.out.block k (own_lt HO.out k hk)))
            have HN1 := Aside0.mk (rleadTo_len (k := k) (r := r) (m := x + 1) (cur := cur) (by omega) hk (by have := HCK.out; omega))
            have HN2 : Aside0 (vs.length + vs6.length ≤ 46656) := ⟨by
              have h1 := HN1.out
              rw [HS.out, List.length_append] at h1
              rw [HA.out.length, ha6.length]; exact h1⟩
            clear ho6 ha6 hb6 hc6 hne6 HN1
            go_wp2_with (((with_reducible refine gate_builtin (b := .append) (xs := #[.tmp 35, .tmp 46]) rfl ?_); at_builtin; refine wpList_append_own _ rfl _ _ 22 rfl W.heap.size 23 i1 (.slice none 0 0) 1 24 Try.underlying22 HI1.out HZ.out.2.2.2.1 HZ.out.2.2.2.2.1 HZ.out.2.2.2.2.2 rfl (by decide) _ vs.length vs rfl HO6.out ⟨g6, 0, none⟩ vs6.length c6 vs6 rfl (Nat.mul_one _).symm HC6.out HA6.out.one ?c5 ?c6 ?c7 ?_; (case c5 => simp only [maxLen]; have := HN2.out; omega); (case c6 => have := HN2.out; omega); (case c7 => exact Nat.le_trans HBW.out.size HBL.out.size); intro v7 w7 ho7 hg7 _))
            go_roundg (G - 1)
            case measure => have := HX.out; omega
            case rel =>
              refine ⟨x + 1, v7, vs ++ vs6, by go_num, rfl, ⟨by have := HX.out; omega⟩, ⟨by rw [List.length_append]; exact ho7⟩, ⟨?_⟩, ⟨((HBW.out.trans (HBL.out.mono HBW.out.size))).grown hg7 (Nat.le_trans HBW.out.size HBL.out.size) (fun k hk => own_base HO6.out k hk)⟩⟩
              rw [HS.out]
              exact ((HA.out.below HBL.out).append HA6.out).over (fun k hk => own_typed HO6.out k hk) hg7
    · have hxk : x = k := by have := HX.out; omega
      have HXK := Aside0.mk hxk
      clear hxk
      have hltz : ¬ (x : Int) < (k : Int) := by omega
      go_wp2
      go_ret
      have ha := HA.out
      rw [HXK.out] at ha
      exact ⟨_, vs, rfl, HO.out, ha, HBW.out⟩
theorem refLeads_calls (k : Nat) (hk : k ≤ 6) (base : Nat) : ∀ (r : Nat) (A : Option Addr) (c : Nat) (cur : List Nat) (W : World), cur.length + r = k → base ≤ W.heap.size → Kd.R (Kd.int .i64) 3 W base (fun _ => True) (.slice A (nums cur).length c) (nums cur) →
    Calls Try.prog 69 #[.int .i64 (k : Int), .slice A (nums cur).length c] W (LeadsPost base W (rlead k r cur)) := by
  intro r
  induction r with
  | zero => intro A c cur W hc _ hR; exact leads_end k base A c cur W (by omega) hR
  | succ r ih =>
    intro A c cur W hc hb hR
    exact leads_more k hk r base A c cur W hc hb hR (fun x A c W _ _ hb hR => ih A c (cur ++ [x]) W (by rw [List.length_append, List.length_singleton]; omega) hb hR)

end Go.Proofs.Ytfjafmgaahfhgaa.P
namespace Go.Proofs.Ytfjafmgaahfhgaa.P
open Go.RowKit Go.Proofs.YtfjafmgaahfhgaaW.PrintWords Go.Proofs.YtfjafmgaahfhgaaW.PrintLast Go.Proofs.YtfjafmgaahfhgaaW.PrintMore
attribute [local go_sem] max2_int min2_int max_two min_two max_three min_three max_four min_four   -- for this text's walks alone
set_option linter.unusedVariables false
set_option linter.unusedSimpArgs false

/-! crossing voices, in numbers -/
def stB (n lo hi j : Int) : Bool := decide (lo < j * n ∧ j * n < hi)
def meetB (n a am b bm : Int) : Bool := decide (a ≠ b) && (stB n (min ((b - a) % n) ((b - a) % n + bm - am)) (max ((b - a) % n) ((b - a) % n + bm - am)) (-1) || (stB n (min ((b - a) % n) ((b - a) % n + bm - am)) (max ((b - a) % n) ((b - a) % n + bm - am)) 0 || (stB n (min ((b - a) % n) ((b - a) % n + bm - am)) (max ((b - a) % n) ((b - a) % n + bm - am)) 1 || (stB n (min ((b - a) % n) ((b - a) % n + bm - am)) (max ((b - a) % n) ((b - a) % n + bm - am)) 2 || false))))
def rtB (n ap gr j : Int) : Bool := decide ((0 < j * n - ap ∧ j * n - ap < gr) ∨ (j * n - ap < 0 ∧ gr < j * n - ap))
def crB (n a am b bm : Int) : Bool := decide (a ≠ b) && (rtB n (a - b) (am - bm) (-2) || (rtB n (a - b) (am - bm) (-1) || (rtB n (a - b) (am - bm) 0 || (rtB n (a - b) (am - bm) 1 || (rtB n (a - b) (am - bm) 2 || false)))))
theorem diff_mod {n a b : Int} (ha : 0 ≤ a ∧ a < n) (hb : 0 ≤ b ∧ b < n) : (a ≤ b ∧ (b - a) % n = b - a) ∨ (b < a ∧ (b - a) % n = b - a + n) := by
  rcases Int.lt_or_le b a with h | h
  · right; refine ⟨h, ?_⟩
    rw [← Int.add_emod_right, Int.emod_eq_of_lt (by omega) (by omega)]
  · left; exact ⟨h, Int.emod_eq_of_lt (by omega) (by omega)⟩
theorem rtB_neg (n ap gr j : Int) : rtB n ap gr j = rtB n (-ap) (-gr) (-j) := by
  unfold rtB
  rw [decide_eq_decide, Int.neg_mul]
  generalize j * n = v
  omega
theorem crB_symm {n a am b bm : Int} : crB n a am b bm = crB n b bm a am := by
  unfold crB
  have e1 : b - a = -(a - b) := by omega
  have e2 : bm - am = -(am - bm) := by omega
  have e3 : decide (a ≠ b) = decide (b ≠ a) := by rw [decide_eq_decide]; exact ⟨fun h e => h e.symm, fun h e => h e.symm⟩
  rw [e1, e2, e3]
  generalize a - b = ap
  generalize am - bm = gr
  rw [rtB_neg n ap gr (-2), rtB_neg n ap gr (-1), rtB_neg n ap gr 0, rtB_neg n ap gr 1, rtB_neg n ap gr 2]
  simp only [Int.neg_neg, Int.neg_zero]
  generalize rtB n (-ap) (-gr) 2 = b2
  generalize rtB n (-ap) (-gr) 1 = b1
  generalize rtB n (-ap) (-gr) 0 = b0
  generalize rtB n (-ap) (-gr) (-1) = c1
  generalize rtB n (-ap) (-gr) (-2) = c2
  cases b2 <;> cases b1 <;> cases b0 <;> cases c1 <;> cases c2 <;> rfl
theorem nextI {j : Nat} (h : j ≤ 100000) : wrap64 ((j : Int) + 1) = ((j + 1 : Nat) : Int) := by rw [wrap_id (by omega) (by omega)]; omega
theorem nextJ {j : Nat} (h : j ≤ 100000) : wrap64 ((j : Int) + 1) = (j : Int) + 1 := wrap_id (by omega) (by omega)
theorem meet_cr {n a am b bm : Int} (ha : 0 ≤ a ∧ a < n) (hb : 0 ≤ b ∧ b < n) (h1 : -n ≤ 2 * am ∧ 2 * am ≤ n) (h2 : -n ≤ 2 * bm ∧ 2 * bm ≤ n) : meetB n a am b bm = crB n a am b bm := by
  rw [Bool.eq_iff_iff]
  unfold meetB crB rtB stB
  rcases diff_mod ha hb with ⟨h, e⟩ | ⟨h, e⟩
  all_goals
    rw [e]
    simp only [Bool.and_eq_true, Bool.or_eq_true, decide_eq_true_eq, Bool.false_eq_true, or_false]
    omega
/-- what two voices need of each other -/
def toneI (a : List Int) (i : Nat) : Int := a.getD i 0
def mvAt (n : Int) (a b l : List Int) (i : Nat) : Int := mvN n (toneI a i) (toneI b (toneI l i).toNat)
theorem rd_toneI (a : List Int) (i : Nat) : rd a (i : Int) = toneI a i := rd_nat a i
theorem mv_all {n : Int} {a b l : List Int} (h : TwoN n a b) (hl : l.length = a.length) (hk : ∀ k ∈ l, 0 ≤ k ∧ k < (a.length : Int)) {i : Nat} (hi : i < a.length) :
    (0 ≤ toneI a i ∧ toneI a i < n) ∧ (0 ≤ toneI l i ∧ toneI l i < (b.length : Int)) ∧ (0 ≤ toneI b (toneI l i).toNat ∧ toneI b (toneI l i).toNat < n) ∧ (-n ≤ 2 * mvAt n a b l i ∧ 2 * mvAt n a b l i ≤ n) := by
  have h1 := h.1.2.2.2.2 _ (getD_mem (l := a) (i := i) hi)
  have h2 := hk _ (getD_mem (l := l) (i := i) (by omega))
  have hab := h.2.2
  have h3 := h.2.1.2.2.2.2 _ (getD_mem (l := b) (i := (l.getD i 0).toNat) (by omega))
  exact ⟨h1, ⟨h2.1, by show l.getD i 0 < _; omega⟩, h3, mvN_bd h.1.1⟩
def meetF (n : Int) (a b l : List Int) (i j : Nat) : Bool := meetB n (toneI a i) (mvAt n a b l i) (toneI a j) (mvAt n a b l j)
def crF (n : Int) (a b l : List Int) (i j : Nat) : Bool := crB n (toneI a i) (mvAt n a b l i) (toneI a j) (mvAt n a b l j)
def CrossP (n : Int) (a b l : List Int) : Prop := ∃ i, i < a.length ∧ ∃ j, j < a.length ∧ crF n a b l i j = true
noncomputable instance (n : Int) (a b l : List Int) : Decidable (CrossP n a b l) := Classical.propDecidable _
theorem crF_self (n : Int) (a b l : List Int) (i : Nat) : crF n a b l i i = false := by unfold crF crB; simp
theorem cross_iff {n : Int} {a b l : List Int} (h : TwoN n a b) (hl : l.length = a.length) (hk : ∀ k ∈ l, 0 ≤ k ∧ k < (a.length : Int)) : (∃ i, i < a.length ∧ ∃ j, j < i ∧ meetF n a b l i j = true) ↔ CrossP n a b l := by
  have hm : ∀ i j, i < a.length → j < a.length → meetF n a b l i j = crF n a b l i j := fun i j hi hj => by
    obtain ⟨x1, _, _, x4⟩ := mv_all h hl hk hi
    obtain ⟨y1, _, _, y4⟩ := mv_all h hl hk hj
    exact meet_cr x1 y1 x4 y4
  constructor
  · rintro ⟨i, h1, j, h2, h3⟩
    exact ⟨i, h1, j, by omega, by rw [← hm i j h1 (by omega)]; exact h3⟩
  · rintro ⟨i, h1, j, h2, h3⟩
    rcases Nat.lt_trichotomy i j with h4 | h4 | h4
    · refine ⟨j, h2, i, h4, ?_⟩
      rw [hm j i h2 h1]
      unfold crF at h3 ⊢
      rw [crB_symm]; exact h3
    · subst h4; rw [crF_self] at h3; cases h3
    · exact ⟨i, h1, j, h4, by rw [hm i j h1 h2]; exact h3⟩

end Go.Proofs.Ytfjafmgaahfhgaa.P
namespace Go.Proofs.Ytfjafmgaahfhgaa.P
open Go.RowKit Go.Proofs.YtfjafmgaahfhgaaW.PrintWords Go.Proofs.YtfjafmgaahfhgaaW.PrintLast Go.Proofs.YtfjafmgaahfhgaaW.PrintMore
attribute [local go_sem] max2_int min2_int max_two min_two max_three min_three max_four min_four   -- for this text's walks alone
set_option linter.unusedVariables false
set_option linter.unusedSimpArgs false

/-! the document's first cheapest leading -/
def rstep (pr : List Nat → Int) (s : Option (List Nat)) (l : List Nat) : Option (List Nat) := match s with
  | none => some l
  | some b => if pr l < pr b then some l else some b
def rfold (pr : List Nat → Int) (L : List (List Nat)) : Option (List Nat) := L.foldl (rstep pr) none
theorem rfold_snoc (pr : List Nat → Int) (L : List (List Nat)) (l : List Nat) : rfold pr (L ++ [l]) = rstep pr (rfold pr L) l := by unfold rfold; rw [List.foldl_append]; rfl
theorem fold_same (pr : List Nat → Int) : ∀ (L : List (List Nat)) (s : Option (List Nat) × Int), (∀ b, s.1 = some b → s.2 = pr b) → (L.foldl (bstep pr (fun _ => true)) s).1 = L.foldl (rstep pr) s.1 ∧ ∀ b, (L.foldl (bstep pr (fun _ => true)) s).1 = some b → (L.foldl (bstep pr (fun _ => true)) s).2 = pr b
  | [], s, h => ⟨rfl, h⟩
  | l :: L, s, h => by
    rw [List.foldl_cons, List.foldl_cons]
    have h1 : (bstep pr (fun _ => true) s l).1 = rstep pr s.1 l ∧ ∀ b, (bstep pr (fun _ => true) s l).1 = some b → (bstep pr (fun _ => true) s l).2 = pr b := by
      obtain ⟨s1, s2⟩ := s
      cases s1 with
      | none =>
        unfold bstep rstep
        rw [if_pos ⟨.inl rfl, rfl⟩]
        exact ⟨rfl, fun b hb => by cases hb; rfl⟩
      | some b =>
        have hb := h b rfl
        simp only at hb
        unfold bstep rstep
        by_cases hlt : pr l < pr b
        · rw [if_pos ⟨.inr (by rw [hb]; exact hlt), rfl⟩]
          exact ⟨by simp only; rw [if_pos hlt], fun c hc => by cases hc; rfl⟩
        · rw [if_neg (fun h => h.1.elim (fun h => by cases h) (fun h => hlt (by rw [← hb]; exact h)))]
          exact ⟨by simp only; rw [if_neg hlt], fun c hc => by cases hc; exact hb⟩
    have := fold_same pr L (bstep pr (fun _ => true) s l) h1.2
    rw [h1.1] at this
    exact this
theorem best_ref (n : Int) (a b : List Int) : rfold (prV n a b) (rlead a.length a.length []) = (bestV n a b).1 ∧ ∀ l, (bestV n a b).1 = some l → (bestV n a b).2 = prV n a b l := by
  have h := fold_same (prV n a b) (ldg a.length a.length 0 []) (none, 0) (fun b hb => by cases hb)
  unfold bestV bfold rfold
  rw [← ldg_all]
  exact ⟨h.1.symm, h.2⟩
theorem add_block_ (a : Addr) (n : Nat) : (a.add n).block = a.block := by unfold Addr.add; split <;> rfl
theorem own_some_ {w : World} {base : Nat} {e : TypeId} {v : Value} {vs : List Value} (h : w.ownsRow base e 1 v vs.length vs) (hne : 0 < vs.length) : ∃ ad c, v = .slice (some ad) vs.length c ∧ (∀ j u, vs[j]? = some u → w.cell? (ad.add j) = some u) ∧ ad.block < w.heap.size := by
  obtain ⟨g, c, e1, hc⟩ := own_some h hne
  refine ⟨⟨g, 0, none⟩, c, e1, hc, own_lt h g (by rw [e1]; rfl)⟩
theorem rfold_mem (pr : List Nat → Int) : ∀ (L : List (List Nat)) (s : Option (List Nat)) (b : List Nat), L.foldl (rstep pr) s = some b → b ∈ L ∨ s = some b
  | [], s, b, h => .inr h
  | l :: L, s, b, h => by
    rw [List.foldl_cons] at h
    rcases rfold_mem pr L _ b h with h1 | h1
    · exact .inl (by simp [h1])
    · unfold rstep at h1
      split at h1
      · cases h1; exact .inl (by simp)
      · split at h1
        · cases h1; exact .inl (by simp)
        · exact .inr h1
def sackbutref06_Lead.f (a0 : Int) (l1 l2 : List Int) : Option (List Int) := if TwoN a0 l1 l2 then some (optL (bestV a0 l1 l2).1) else none
theorem rlead_all {k : Nat} : ∀ (r : Nat) (cur : List Nat), cur.length + r = k → (∀ y ∈ cur, y < k) → ∀ l ∈ rlead k r cur, l.length = k ∧ ∀ y ∈ l, y < k
  | 0, cur, h, hc, l, hl => by
    simp only [rlead, List.mem_singleton] at hl
    subst hl; exact ⟨by omega, hc⟩
  | r + 1, cur, h, hc, l, hl => by
    simp only [rlead, List.mem_flatMap, List.mem_range] at hl
    obtain ⟨x, hx, hl⟩ := hl
    split at hl
    · cases hl
    · exact rlead_all r (cur ++ [x]) (by rw [List.length_append, List.length_singleton]; omega) (fun y hy => by
        rcases List.mem_append.1 hy with h | h
        · exact hc y h
        · rw [List.mem_singleton] at h; omega) l hl
theorem refPrice_nums {n : Int} {a b : List Int} (h : TwoN n a b) (x : List Nat) (hx : x.length = a.length) (hl : ∀ y ∈ x, y < a.length) : ∃ kk, sackbutref06_Price.f kk n a b (nums x) = some (prV n a b x) :=
  Ev.rounds (g := fun k => sackbutref06_Price.f k n a b (nums x)) (refPrice_ev h.1 h.2.1 (nums x) (by rw [nums_length]; omega) (fun k hk => by
    unfold nums at hk
    rw [List.mem_map] at hk
    obtain ⟨y, hy, rfl⟩ := hk
    have := hl y hy
    have := h.2.2
    show (0 : Int) ≤ (y : Int) ∧ (y : Int) < _
    omega))
set_option maxHeartbeats 8000000 in
set_option maxRecDepth 100000 in
theorem sackbutref06_Lead.calls (a0 : Int) (A1 : Option Addr) (c1 : Nat) (l1 : List Int) (A2 : Option Addr) (c2 : Nat) (l2 : List Int) (r : List Int) (w : World) (hr1 : Kd.C (Kd.int .i64) w A1 l1.length l1) (hc1 : l1.length ≤ c1) (hr2 : Kd.C (Kd.int .i64) w A2 l2.length l2) (hc2 : l2.length ≤ c2) (h : sackbutref06_Lead.f a0 l1 l2 = some r) :
    Calls Try.prog 51 #[.int .i64 a0, .slice A1 l1.length c1, .slice A2 l2.length c2] w fun e w' => ∃ v0_ : Value, e = .returned v0_ ∧ Kd.R (Kd.int .i64) 3 w' w.heap.size (fun _ => True) v0_ r ∧ Below w.heap.size w w' := by
  unfold sackbutref06_Lead.f at h
  by_cases hc : TwoN a0 l1 l2
  · rw [if_pos hc] at h
    have hres := Option.some.inj h
    have HRES := Aside0.mk hres
    have HT := Aside0.mk hc
    have HR1 := Aside0.mk hr1
    have HR2 := Aside0.mk hr2
    have HC1 := Aside0.mk hc1
    have HC2 := Aside0.mk hc2
    have hn1 := hc.1.2.2.1
    have hn6 := hc.1.2.2.2.1
    obtain ⟨LL, hLL⟩ : ∃ LL, rlead l1.length l1.length [] = LL := ⟨_, rfl⟩
    have HLL := Aside0.mk hLL
    have hrun := refLeads_calls l1.length hn6 w.heap.size l1.length none 0 [] w (by simp) (Nat.le_refl _) (Kd.R_nil _ _ _ _ _)
    rw [hLL] at hrun
    have HRUN := Aside0.mk hrun
    have HALL := Aside0.mk (show ∀ l ∈ LL, l.length = l1.length ∧ ∀ y ∈ l, y < l1.length from fun l hl => by
      rw [← hLL] at hl
      exact rlead_all l1.length [] (by simp) (by simp) l hl)
    have hlenLL : LL.length ≤ 46656 := by
      rw [← hLL]
      exact Nat.le_trans (rlead_len _ _) (Nat.le_trans (Nat.pow_le_pow_left hn6 _) (Nat.pow_le_pow_right (by omega) hn6))
    have hposLL : 0 < LL.length := by rw [← hLL]; exact List.length_pos_iff.2 (rlead_ne _ _ (by simp))
    have HPR := Aside0.mk (fun l hl => refPrice_nums hc l (HALL.out l hl).1 (HALL.out l hl).2)
    have q22 : ∀ (w : World) (a : Option Addr) (n c n' c' : Nat), (binOp .eql 23 (.slice a n c) (.slice none n' c')).run Try.prog w = .ok (.bool a.isNone) w := fun w a n c n' c' => Lib.run_eql_slice_nil w _ _ a n c n' c' Try.underlying23
    clear hr1 hr2 hc1 hc2 hc h hres hrun hLL
    go_enter Try.func51, Try.ntmps51
    go_wp2_with fail
    refine HRUN.out.mono ?_
    rintro e w1 ⟨v1, vs, rfl, ho1, ha1, hb1⟩
    have hvl := ha1.length
    obtain ⟨ad, c9, e1, hcell, hg1⟩ := own_some_ ho1 (by omega)
    subst e1
    rw [hvl] at ho1 ⊢
    have HA1 := Aside0.mk ha1
    have HC := Aside0.mk hcell
    have HB1 := Aside0.mk hb1
    have HG1 := Aside0.mk hg1
    clear ho1 ha1 hcell hb1 hvl HRUN hg1
    go_wp2
    go_loopg [7, 14] LL.length (fun gg s7 s14 wr => ∃ (i : Nat) (Ab : Option Addr) (cb : Nat), s14 = .int .i64 i ∧ s7 = .slice Ab (optL (rfold (prV a0 l1 l2) (LL.take i))).length cb ∧ Aside0 (i + gg = LL.length) ∧ Aside0 (Kd.R (Kd.int .i64) 3 wr w.heap.size (fun _ => True) (.slice Ab (optL (rfold (prV a0 l1 l2) (LL.take i))).length cb) (optL (rfold (prV a0 l1 l2) (LL.take i)))) ∧ Aside0 (Ab.isNone = (rfold (prV a0 l1 l2) (LL.take i)).isNone) ∧ Aside0 (Below w1.heap.size w1 wr))
    case atStart => exact ⟨0, none, 0, rfl, by simp [rfold, optL, nums], ⟨by omega⟩, ⟨Kd.R_nil _ _ _ _ _⟩, ⟨rfl⟩, ⟨Below.refl _ _⟩⟩
    case round =>
      obtain ⟨i, Ab, cb, rfl, rfl, HI, HR, HN, HB⟩ := hrel
      obtain ⟨wo, rfl⟩ : ∃ wo : World, wo = wr := ⟨wr, rfl⟩
      by_cases hlt : i < LL.length
      · have hltz : (i : Int) < (LL.length : Int) := by omega
        obtain ⟨l, hl⟩ : ∃ l, LL[i]? = some l := ⟨LL[i], List.getElem?_eq_getElem hlt⟩
        have hlm : l ∈ LL := List.mem_of_getElem? hl
        obtain ⟨vl, hvl, A, c, e, hRl⟩ := HA1.out.get i l hl
        subst e
        have hcell : wo.cell? (ad.add i) = some (.slice A (nums l).length c) := (HB.out.cell (p := ad.add i) (by rw [add_block_]; exact HG1.out)).trans (HC.out i _ hvl)
        have hRw := Kd.R_below hRl HB.out
        have HRL := Aside0.mk hRw
        have HRLC := Aside0.mk (Kd.R_reads' hRw)
        have HTK := Aside0.mk (show LL.take (i + 1) = LL.take i ++ [l] by rw [List.take_add_one, hl]; rfl)
        obtain ⟨kk, hkk⟩ := HPR.out l hlm
        have HP1 := Aside0.mk (fun (w2 : World) (hb : Below wo.heap.size wo w2) => sackbutref06_Price.calls kk a0 A1 c1 l1 A2 c2 l2 A c (nums l) (prV a0 l1 l2 l) w2 (Kd.C_below (Kd.C_below (Kd.C_below HR1.out HB1.out) (HB.out.mono HB1.out.size |> fun h => HB.out)) hb) HC1.out (Kd.C_below (Kd.C_below (Kd.C_below HR2.out HB1.out) HB.out) hb) HC2.out (Kd.C_below HRLC.out.2.2 hb) HRLC.out.2.1 hkk)
        have HAS := Aside0.mk (show A.isNone = false from by
          obtain ⟨ad5, e5, _⟩ := Kd.at_int HRLC.out.2.2 0 (by omega) (by rw [nums_length, (HALL.out l hlm).1]; omega)
          rw [e5]; rfl)
        clear hl hlm hvl hRl hRw hkk
        have HRF := Aside0.mk (show rfold (prV a0 l1 l2) (LL.take (i + 1)) = rstep (prV a0 l1 l2) (rfold (prV a0 l1 l2) (LL.take i)) l by rw [HTK.out, rfold_snoc])
        have HMEM := Aside0.mk (fun b (hb : rfold (prV a0 l1 l2) (LL.take i) = some b) => HPR.out b (List.mem_of_mem_take ((rfold_mem _ _ _ b hb).elim id (fun h => by cases h))))
        generalize rfold (prV a0 l1 l2) (LL.take i) = bo at HR HN HRF HMEM ⊢
        have HRLB := HRL
        cases bo with
        | none =>
          have hAb : Ab = none := by
            have := HN.out
            cases Ab with
            | none => rfl
            | some _ => cases this
          subst hAb
          have HF := Aside0.mk (show rfold (prV a0 l1 l2) (LL.take (i + 1)) = some l from HRF.out)
          clear HMEM HRF
          generalize hoz : (optL (none : Option (List Nat))).length = oz
          clear hoz
          go_wp2
          go_roundg (gk - 1)
          case measure => have := HI.out; omega
          case rel => exact ⟨i + 1, A, c, by go_num, by rw [HF.out]; rfl, ⟨by have := HI.out; omega⟩, ⟨by rw [HF.out]; exact HRL.out⟩, ⟨by rw [HF.out]; exact HAS.out⟩, HB⟩
        | some b =>
          obtain ⟨ab, hAb⟩ : ∃ ab, Ab = some ab := by
            have := HN.out
            cases Ab with
            | none => cases this
            | some ab => exact ⟨ab, rfl⟩
          subst hAb
          obtain ⟨kk2, hkk2⟩ := HMEM.out b rfl
          have HF := Aside0.mk (show rfold (prV a0 l1 l2) (LL.take (i + 1)) = if prV a0 l1 l2 l < prV a0 l1 l2 b then some l else some b from HRF.out)
          have HRB := Aside0.mk (show Kd.R (Kd.int .i64) 3 wo w.heap.size (fun _ => True) (.slice (some ab) (nums b).length cb) (nums b) from HR.out)
          have HRBC := Aside0.mk (Kd.R_reads' HRB.out)
          have HP2 := Aside0.mk (fun (w2 : World) (hb : Below wo.heap.size wo w2) => sackbutref06_Price.calls kk2 a0 A1 c1 l1 A2 c2 l2 (some ab) cb (nums b) (prV a0 l1 l2 b) w2 (Kd.C_below (Kd.C_below (Kd.C_below HR1.out HB1.out) HB.out) hb) HC1.out (Kd.C_below (Kd.C_below (Kd.C_below HR2.out HB1.out) HB.out) hb) HC2.out (Kd.C_below HRBC.out.2.2 hb) HRBC.out.2.1 hkk2)
          clear HMEM HRF hkk2
          rw [show optL (some b) = nums b from rfl]
          generalize hlb : (nums b).length = lb at *
          have HLB := Aside0.mk hlb
          clear hlb
          generalize hp1 : prV a0 l1 l2 l = p1 at *
          have HP1E := Aside0.mk hp1
          clear hp1
          generalize hp2 : prV a0 l1 l2 b = p2 at *
          have HP2E := Aside0.mk hp2
          clear hp2
          by_cases hlt2 : p1 < p2
          · have q1 : decide (p1 < p2) = true := decide_eq_true hlt2
            rw [if_pos hlt2] at HF
            clear hlt2
            go_wp2_with fail
            refine (HP1.out _ (Below.refl _ _)).mono ?_
            rintro e w2 ⟨rfl, hb2⟩
            have HB2 := Aside0.mk hb2
            clear hb2
            go_wp2_with fail
            refine (HP2.out _ HB2.out).mono ?_
            rintro e w3 ⟨rfl, hb3⟩
            have HB3 := Aside0.mk (HB2.out.trans (hb3.mono HB2.out.size))
            clear hb3
            go_wp2
            go_roundg (gk - 1)
            case measure => have := HI.out; omega
            case rel => exact ⟨i + 1, A, c, by go_num, by rw [HF.out]; rfl, ⟨by have := HI.out; omega⟩, ⟨by rw [HF.out]; exact Kd.R_below HRL.out HB3.out⟩, ⟨by rw [HF.out]; exact HAS.out⟩, ⟨HB.out.trans (HB3.out.mono HB.out.size)⟩⟩
          · have q1 : decide (p1 < p2) = false := decide_eq_false hlt2
            rw [if_neg hlt2] at HF
            clear hlt2
            go_wp2_with fail
            refine (HP1.out _ (Below.refl _ _)).mono ?_
            rintro e w2 ⟨rfl, hb2⟩
            have HB2 := Aside0.mk hb2
            clear hb2
            go_wp2_with fail
            refine (HP2.out _ HB2.out).mono ?_
            rintro e w3 ⟨rfl, hb3⟩
            have HB3 := Aside0.mk (HB2.out.trans (hb3.mono HB2.out.size))
            clear hb3
            go_wp2
            go_roundg (gk - 1)
            case measure => have := HI.out; omega
            case rel => exact ⟨i + 1, some ab, cb, by go_num, by rw [HF.out, ← HLB.out]; rfl, ⟨by have := HI.out; omega⟩, ⟨by rw [HF.out]; have h5 := Kd.R_below HRB.out HB3.out; rw [← HLB.out] at h5; exact h5⟩, ⟨by rw [HF.out]; rfl⟩, ⟨HB.out.trans (HB3.out.mono HB.out.size)⟩⟩
      · have hil : i = LL.length := by have := HI.out; omega
        have HIL := Aside0.mk hil
        clear hil
        have hltz : ¬ (i : Int) < (LL.length : Int) := by omega
        have HFIN := Aside0.mk (show rfold (prV a0 l1 l2) (LL.take i) = (bestV a0 l1 l2).1 by
          rw [HIL.out, List.take_length, ← HLL.out]; exact (best_ref a0 l1 l2).1)
        go_wp2
        go_ret
        refine ⟨_, rfl, ?_, HB1.out.trans (HB.out.mono HB1.out.size)⟩
        have h1 := HR.out
        rw [HFIN.out] at h1
        rw [← HRES.out, ← HFIN.out]
        rw [← HFIN.out] at h1
        exact h1
  · rw [if_neg hc] at h; cases h

end Go.Proofs.Ytfjafmgaahfhgaa.P
