/- A part of a proof that a law's Go function returns true for every input, laid by this session's program mp.py (which drives the kit's print). Conditions: as each theorem states them. -/
import Derived.Test.YtknchioabngbiaaCRowsForms1
import Derived.Test.YtknchioabngbiaaCRowsForms3
import Derived.Test.YtknchioabngbiaaCRowsForms4
namespace Go.Proofs.Ytknchioabngbiaa.P
open Go.RowKit Go.Proofs.YtknchioabngbiaaW.PrintWords Go.Proofs.YtknchioabngbiaaW.PrintLast Go.Proofs.YtknchioabngbiaaW.PrintMore
attribute [local go_sem] max2_int min2_int max_two min_two max_three min_three max_four min_four   -- for this text's walks alone
set_option linter.unusedVariables false
set_option linter.unusedSimpArgs false
theorem am {p : Prop} (h : p) : Aside0 p := ⟨h⟩

/-! ### sackbutref05_Forms: function 23 -/
mutual
def sackbutref05_Forms.l0 : Nat → List Int → List (List Int) → Int → Option ((List (List Int)))
  | 0, _, _, _ => none
  | k + 1, x0, x3, x8 => if x8 < 4 then (sackbutref05_Forms.l1 k x0 x3 x8 x8 (x0.length : Int) 0) else (some x3)
def sackbutref05_Forms.l1 : Nat → List Int → List (List Int) → Int → Int → Int → Int → Option ((List (List Int)))
  | 0, _, _, _, _, _, _ => none
  | k + 1, x0, x3, x4, x8, x12, x13 => if x13 < x12 then ((sackbutref05_Form.f k x0 (x0.length : Int) x4 x13).bind fun t1001 => (sackbutref05_Forms.l2 k x0 x3 x4 t1001 0 x8 x12 x13)) else (sackbutref05_Forms.l0 k x0 x3 (wrap64 (x8 + 1)))
def sackbutref05_Forms.l2 : Nat → List Int → List (List Int) → Int → List Int → Int → Int → Int → Int → Option ((List (List Int)))
  | 0, _, _, _, _, _, _, _, _ => none
  | k + 1, x0, x3, x4, x6, x7, x8, x12, x13 => if x7 < (x3.length : Int) then (if 0 ≤ x7 then ((sackbutref05_less.f k (rd_L1 x3 x7) x6).bind fun t1005 => (if t1005 = true then (sackbutref05_Forms.l2 k x0 x3 x4 x6 (wrap64 (x7 + 1)) x8 x12 x13) else (if x7 = (x3.length : Int) then ((some (([] : List (List Int)) : List (List Int))).bind fun y1006 => (if x7 ≤ (x3.length : Int) then ((some (x3.take (x7 : Int).toNat : List (List Int))).bind fun y1009 => (if y1006.length + y1009.length < 5864062014805 then ((some (y1006 ++ y1009 : List (List Int))).bind fun y1014 => ((some (([x6] : List (List Int)) : List (List Int))).bind fun y1017 => (if y1014.length + y1017.length < 5864062014805 then ((some (y1014 ++ y1017 : List (List Int))).bind fun y1020 => ((some (x3.drop (x7 : Int).toNat : List (List Int))).bind fun y1023 => (if y1020.length + y1023.length < 5864062014805 then (sackbutref05_Forms.l1 k x0 (y1020 ++ y1023) x4 x8 x12 (wrap64 (x13 + 1))) else (none)))) else (none)))) else (none))) else (none))) else ((sackbutref05_same.f k (rd_L1 x3 x7) x6).bind fun t1032 => (if t1032 = true then (sackbutref05_Forms.l1 k x0 x3 x4 x8 x12 (wrap64 (x13 + 1))) else ((some (([] : List (List Int)) : List (List Int))).bind fun y1033 => (if x7 ≤ (x3.length : Int) then ((some (x3.take (x7 : Int).toNat : List (List Int))).bind fun y1036 => (if y1033.length + y1036.length < 5864062014805 then ((some (y1033 ++ y1036 : List (List Int))).bind fun y1041 => ((some (([x6] : List (List Int)) : List (List Int))).bind fun y1044 => (if y1041.length + y1044.length < 5864062014805 then ((some (y1041 ++ y1044 : List (List Int))).bind fun y1047 => ((some (x3.drop (x7 : Int).toNat : List (List Int))).bind fun y1050 => (if y1047.length + y1050.length < 5864062014805 then (sackbutref05_Forms.l1 k x0 (y1047 ++ y1050) x4 x8 x12 (wrap64 (x13 + 1))) else (none)))) else (none)))) else (none))) else (none)))))))) else (none)) else (if x7 = (x3.length : Int) then ((some (([] : List (List Int)) : List (List Int))).bind fun y1058 => (if 0 ≤ x7 then (if x7 ≤ (x3.length : Int) then ((some (x3.take (x7 : Int).toNat : List (List Int))).bind fun y1061 => (if y1058.length + y1061.length < 5864062014805 then ((some (y1058 ++ y1061 : List (List Int))).bind fun y1066 => ((some (([x6] : List (List Int)) : List (List Int))).bind fun y1069 => (if y1066.length + y1069.length < 5864062014805 then ((some (y1066 ++ y1069 : List (List Int))).bind fun y1072 => ((some (x3.drop (x7 : Int).toNat : List (List Int))).bind fun y1075 => (if y1072.length + y1075.length < 5864062014805 then (sackbutref05_Forms.l1 k x0 (y1072 ++ y1075) x4 x8 x12 (wrap64 (x13 + 1))) else (none)))) else (none)))) else (none))) else (none)) else (none))) else (if 0 ≤ x7 then (none) else (none)))
end
def sackbutref05_Forms.f (k : Nat) (l0 : List Int) : Option ((List (List Int))) := sackbutref05_Forms.l0 k l0 ([] : List (List Int)) 0
theorem sackbutref05_Forms.mono_l : ∀ k, (∀ y0 y1 y2, LeO (sackbutref05_Forms.l0 k y0 y1 y2) (sackbutref05_Forms.l0 (k + 1) y0 y1 y2)) ∧ (∀ y0 y1 y2 y3 y4 y5, LeO (sackbutref05_Forms.l1 k y0 y1 y2 y3 y4 y5) (sackbutref05_Forms.l1 (k + 1) y0 y1 y2 y3 y4 y5)) ∧ (∀ y0 y1 y2 y3 y4 y5 y6 y7, LeO (sackbutref05_Forms.l2 k y0 y1 y2 y3 y4 y5 y6 y7) (sackbutref05_Forms.l2 (k + 1) y0 y1 y2 y3 y4 y5 y6 y7))
  | 0 => ⟨fun _ _ _ r h => by simp [sackbutref05_Forms.l0] at h, fun _ _ _ _ _ _ r h => by simp [sackbutref05_Forms.l1] at h, fun _ _ _ _ _ _ _ _ r h => by simp [sackbutref05_Forms.l2] at h⟩
  | k + 1 => by
    obtain ⟨ih0, ih1, ih2⟩ := sackbutref05_Forms.mono_l k
    refine ⟨?_, ?_, ?_⟩
    · intro y0 y1 y2
      unfold sackbutref05_Forms.l0
      repeat' first
      | (with_reducible exact ih0 _ _ _)
      | (with_reducible exact ih1 _ _ _ _ _ _)
      | (with_reducible exact ih2 _ _ _ _ _ _ _ _)
      | (with_reducible exact sackbutref05_Form.mono _ _ _ _ _)
      | (with_reducible exact sackbutref05_less.mono _ _ _)
      | (with_reducible exact sackbutref05_same.mono _ _ _)
      | (with_reducible exact LeO.refl _)
      | (with_reducible exact LeO.none _)
      | (with_reducible refine LeO.ite ?_ ?_)
      | (with_reducible refine LeO.bind ?_ (fun _ => ?_))
      | exact ih0 _ _ _
      | exact ih1 _ _ _ _ _ _
      | exact ih2 _ _ _ _ _ _ _ _
      | exact sackbutref05_Form.mono _ _ _ _ _
      | exact sackbutref05_less.mono _ _ _
      | exact sackbutref05_same.mono _ _ _
      | exact LeO.none _
      | refine LeO.ite ?_ ?_
      | refine LeO.bind ?_ (fun _ => ?_)
    · intro y0 y1 y2 y3 y4 y5
      unfold sackbutref05_Forms.l1
      repeat' first
      | (with_reducible exact ih0 _ _ _)
      | (with_reducible exact ih1 _ _ _ _ _ _)
      | (with_reducible exact ih2 _ _ _ _ _ _ _ _)
      | (with_reducible exact sackbutref05_Form.mono _ _ _ _ _)
      | (with_reducible exact sackbutref05_less.mono _ _ _)
      | (with_reducible exact sackbutref05_same.mono _ _ _)
      | (with_reducible exact LeO.refl _)
      | (with_reducible exact LeO.none _)
      | (with_reducible refine LeO.ite ?_ ?_)
      | (with_reducible refine LeO.bind ?_ (fun _ => ?_))
      | exact ih0 _ _ _
      | exact ih1 _ _ _ _ _ _
      | exact ih2 _ _ _ _ _ _ _ _
      | exact sackbutref05_Form.mono _ _ _ _ _
      | exact sackbutref05_less.mono _ _ _
      | exact sackbutref05_same.mono _ _ _
      | exact LeO.none _
      | refine LeO.ite ?_ ?_
      | refine LeO.bind ?_ (fun _ => ?_)
    · intro y0 y1 y2 y3 y4 y5 y6 y7
      unfold sackbutref05_Forms.l2
      repeat' first
      | (with_reducible exact ih0 _ _ _)
      | (with_reducible exact ih1 _ _ _ _ _ _)
      | (with_reducible exact ih2 _ _ _ _ _ _ _ _)
      | (with_reducible exact sackbutref05_Form.mono _ _ _ _ _)
      | (with_reducible exact sackbutref05_less.mono _ _ _)
      | (with_reducible exact sackbutref05_same.mono _ _ _)
      | (with_reducible exact LeO.refl _)
      | (with_reducible exact LeO.none _)
      | (with_reducible refine LeO.ite ?_ ?_)
      | (with_reducible refine LeO.bind ?_ (fun _ => ?_))
      | exact ih0 _ _ _
      | exact ih1 _ _ _ _ _ _
      | exact ih2 _ _ _ _ _ _ _ _
      | exact sackbutref05_Form.mono _ _ _ _ _
      | exact sackbutref05_less.mono _ _ _
      | exact sackbutref05_same.mono _ _ _
      | exact LeO.none _
      | refine LeO.ite ?_ ?_
      | refine LeO.bind ?_ (fun _ => ?_)
theorem sackbutref05_Forms.mono : ∀ a0 k, LeO (sackbutref05_Forms.f k a0) (sackbutref05_Forms.f (k + 1) a0) := by
  intro a0 k
  obtain ⟨ih0, ih1, ih2⟩ := sackbutref05_Forms.mono_l k
  unfold sackbutref05_Forms.f
  repeat' first
      | (with_reducible exact ih0 _ _ _)
      | (with_reducible exact ih1 _ _ _ _ _ _)
      | (with_reducible exact ih2 _ _ _ _ _ _ _ _)
      | (with_reducible exact sackbutref05_Form.mono _ _ _ _ _)
      | (with_reducible exact sackbutref05_less.mono _ _ _)
      | (with_reducible exact sackbutref05_same.mono _ _ _)
      | (with_reducible exact LeO.refl _)
      | (with_reducible exact LeO.none _)
      | (with_reducible refine LeO.ite ?_ ?_)
      | (with_reducible refine LeO.bind ?_ (fun _ => ?_))
      | exact ih0 _ _ _
      | exact ih1 _ _ _ _ _ _
      | exact ih2 _ _ _ _ _ _ _ _
      | exact sackbutref05_Form.mono _ _ _ _ _
      | exact sackbutref05_less.mono _ _ _
      | exact sackbutref05_same.mono _ _ _
      | exact LeO.none _
      | refine LeO.ite ?_ ?_
      | refine LeO.bind ?_ (fun _ => ?_)
def sackbutref05_Forms.T13 : Bool × List (List Nat × List Nat) := (true, [([], []), ([], []), ([], []), ([1, 2], [1, 2]), ([0, 3], [0, 3]), ([], []), ([5], [5]), ([4, 6, 4], [4, 6]), ([], []), ([], []), ([8, 9], [8, 9]), ([7, 10, 7], [7, 10]), ([11, 11, 0, 1, 2, 3, 4, 5, 6, 7, 8, 9, 10, 11], [1, 8, 11])])
def sackbutref05_Forms.B13 : List Nat := [0, 0, 0, 6, 15, 0, 32, 127, 0, 0, 768, 2047, 4095]
theorem sackbutref05_Forms.tab13 : rtab .any (opsOf Try.f23 13) = sackbutref05_Forms.T13 := by kernel_rfl
theorem sackbutref05_Forms.bits13 : waitsOk sackbutref05_Forms.T13.2 sackbutref05_Forms.B13 = true := by kernel_rfl
set_option maxHeartbeats 8000000 in
set_option maxRecDepth 100000 in
theorem sackbutref05_Forms.calls (k : Nat) (A0 : Option Addr) (c0 : Nat) (l0 : List Int) (r : List (List Int)) (w : World) (hr0 : Kd.C (Kd.int .i64) w A0 l0.length l0) (hc0 : l0.length ≤ c0) (h : sackbutref05_Forms.f k l0 = some r) :
    Calls Try.prog 23 #[.slice A0 l0.length c0] w fun e w' => ∃ v0_ : Value, e = .returned (v0_) ∧ Kd.N (Kd.slice 3 (Kd.int .i64)) 27 w' w.heap.size (fun k_ => (w.heap.size ≤ k_)) v0_ r ∧ Below w.heap.size w w' := by
  have HR0 := am hr0
  have HC0 := am hc0
  clear hr0 hc0
  have HB := am (Below.refl w.heap.size w)
  have H : (sackbutref05_Forms.l0 k l0 ([] : List (List Int)) 0) = some r := h
  clear h
  have H' := am H
  clear H
  go_enter Try.func23, Try.ntmps23
  go_wp2
  go_loopg [3, 8] k (fun kq v3 v8 w' => ∃ (x3_1 : List (List Int)) (x8_1 : Int), v8 = .int .i64 x8_1 ∧ Aside0 (sackbutref05_Forms.l0 kq l0 x3_1 x8_1 = some r) ∧ Aside0 (kq ≤ k) ∧ Aside0 (Kd.N (Kd.slice 3 (Kd.int .i64)) 27 w' w.heap.size (fun k_ => (w.heap.size ≤ k_)) v3 x3_1) ∧ Aside0 (Below w.heap.size w w'))
  case atStart => exact ⟨(([] : List (List Int))), (0), (by first | rfl | (simp; done) | (simp [*]; done)), H', ⟨Nat.le_refl _⟩, ⟨by first | exact Kd.S_nil _ _ _ _ _ | exact Kd.N_nil _ _ _ _ _ | exact Kd.V_nil _ _ _ _ _ | exact Kd.Q_nil _ _ _ _ _ | exact Kd.R_nil _ _ _ _ _⟩, ⟨by repeat (first | (with_reducible first | exact HB.out | apply below_alloc | apply pw_below_drewN | apply below_drew1) | exact HB.out)⟩⟩
  case round =>
    clear H'
    obtain ⟨x3_1, x8_1, rfl, HA, HK1, HO_3, HB⟩ := hrel
    cases gk with
    | zero => exact absurd HA.out (by simp [sackbutref05_Forms.l0])
    | succ k1 =>
      have H := HA.out
      clear HA
      simp only [sackbutref05_Forms.l0] at H
      by_cases c2 : x8_1 < 4
      · rw [if_pos c2] at H
        have c2b0 : decide (x8_1 < 4) = true := decide_eq_true c2
        clear c2
        have H' := am H
        clear H
        go_wp2
        go_loopg [3, 13] k1 (fun kq v3 v13 w' => ∃ (x3_2 : List (List Int)) (x13_2 : Int), v13 = .int .i64 x13_2 ∧ Aside0 (sackbutref05_Forms.l1 kq l0 x3_2 x8_1 x8_1 (l0.length : Int) x13_2 = some r) ∧ Aside0 (kq ≤ k1) ∧ Aside0 (Kd.N (Kd.slice 3 (Kd.int .i64)) 27 w' w.heap.size (fun k_ => (w.heap.size ≤ k_)) v3 x3_2) ∧ Aside0 (Below w.heap.size w w'))
        case atStart => exact ⟨(x3_1), (0), (by first | rfl | (simp; done) | (simp [*]; done)), H', ⟨Nat.le_refl _⟩, ⟨by (with_reducible repeat (first | apply Kd.N_alloc | apply Kd.N_drewN | apply Kd.N_drew)); exact HO_3.out⟩, ⟨by repeat (first | (with_reducible first | exact HB.out | apply below_alloc | apply pw_below_drewN | apply below_drew1) | exact HB.out)⟩⟩
        case round =>
          clear H'
          try clear c2
          try clear c2b0
          try clear p2
          obtain ⟨x3_2, x13_2, rfl, HA, HK2, HO_3, HB⟩ := hrel
          cases gk with
          | zero => exact absurd HA.out (by simp [sackbutref05_Forms.l1])
          | succ k2 =>
            have H := HA.out
            clear HA
            simp only [sackbutref05_Forms.l1] at H
            by_cases c3 : x13_2 < (l0.length : Int)
            · rw [if_pos c3] at H
              have c3b0 : decide (x13_2 < (l0.length : Int)) = true := decide_eq_true c3
              clear c3
              replace H := Option.bind_eq_some_iff.mp H
              obtain ⟨t1001, A40, H⟩ := H
              replace H : (sackbutref05_Forms.l2 k2 l0 x3_2 x8_1 t1001 0 x8_1 (l0.length : Int) x13_2) = some r := H
              have A4 := am A40
              clear A40
              have H' := am H
              clear H
              go_wp2_with (first | ((with_reducible refine gate_callee (f := 25) rfl ?_); refine goesL_ (some 21) rfl rfl Try.func25 (by kernel_rfl) rfl #[.slice A0 l0.length c0, .int .i64 (l0.length : Int), .int .i64 x8_1, .int .i64 x13_2] rfl (by (try simp only [List.map_toArray, List.map_cons, List.map_nil]); first | done | rfl | (simp only [List.length_drop, List.length_take]; rfl)) ?_; (with_reducible refine (sackbutref05_Form.calls k2 _ _ l0 (l0.length : Int) x8_1 x13_2 t1001 _ ?side1 ?side2 A4.out).mono ?_); (case side1 => repeat (first | exact (Kd.C_below HR0.out HB.out) | (with_reducible refine Kd.C_alloc ?_ _) | (with_reducible refine Kd.C_drewN ?_ _) | (with_reducible refine Kd.C_drew ?_))); (case side2 => exact HC0.out); rintro e w5 ⟨v1002, rfl, ho0, hb⟩; refine ⟨_, rfl, ?_⟩; have n0_ := am (Kd.N_elder' (by (with_reducible repeat (first | apply Kd.N_alloc | apply Kd.N_drewN | apply Kd.N_drew)); exact HO_3.out) (Kd.R_base ho0) hb); have n1_ := am (Kd.R_lower (Kd.R_newM (M := fun k_ => (w.heap.size ≤ k_)) ho0 (below_size (by repeat (first | (with_reducible first | exact HB.out | apply below_alloc | apply pw_below_drewN | apply below_drew1) | exact HB.out))) (fun k_ h_ => h_)) (below_size (by repeat (first | (with_reducible first | exact HB.out | apply below_alloc | apply pw_below_drewN | apply below_drew1) | exact HB.out)))); have n2_ := am (below_step (by repeat (first | (with_reducible first | exact HB.out | apply below_alloc | apply pw_below_drewN | apply below_drew1) | exact HB.out)) hb); clear HO_3; clear HB; have HO_3 := n0_; have HO1003 := n1_; have HB := n2_; clear n0_ n1_ n2_; (try clear hb); (try clear hb2); (try clear hk); (try clear hi); (try clear ho0)))
              go_loopg [7] k2 (fun kq v7 w' => ∃ (x7_3 : Int), v7 = .int .i64 x7_3 ∧ Aside0 (sackbutref05_Forms.l2 kq l0 x3_2 x8_1 t1001 x7_3 x8_1 (l0.length : Int) x13_2 = some r) ∧ Aside0 (kq ≤ k2) ∧ Aside0 (Kd.N (Kd.slice 3 (Kd.int .i64)) 27 w' w.heap.size (fun k_ => (w.heap.size ≤ k_) ∧ some k_ ≠ (v1002 : Value).ownBlock) u3 x3_2) ∧ Aside0 (Kd.R (Kd.int .i64) 3 w' w.heap.size (fun k_ => (w.heap.size ≤ k_)) v1002 t1001) ∧ Aside0 (Below w.heap.size w w'))
              case atStart => exact ⟨(0), (by first | rfl | (simp; done) | (simp [*]; done)), H', ⟨Nat.le_refl _⟩, ⟨by (with_reducible repeat (first | apply Kd.N_alloc | apply Kd.N_drewN | apply Kd.N_drew)); exact HO_3.out⟩, ⟨by (with_reducible repeat (first | apply Kd.R_alloc | apply Kd.R_drewN | apply Kd.R_drew)); exact Kd.R_mono HO1003.out (fun _ hk => hk.1)⟩, ⟨by repeat (first | (with_reducible first | exact HB.out | apply below_alloc | apply pw_below_drewN | apply below_drew1) | exact HB.out)⟩⟩
              case round =>
                clear H'
                try clear c2
                try clear c2b0
                try clear p2
                try clear c3
                try clear c3b0
                try clear p2
                obtain ⟨x7_3, rfl, HA, HK3, HO_3, HO_6, HB⟩ := hrel
                cases gk with
                | zero => exact absurd HA.out (by simp [sackbutref05_Forms.l2])
                | succ k3 =>
                  have H := HA.out
                  clear HA
                  simp only [sackbutref05_Forms.l2] at H
                  by_cases c6 : x7_3 < (x3_2.length : Int)
                  · rw [if_pos c6] at H
                    have c6b0 : decide (x7_3 < (x3_2.length : Int)) = true := decide_eq_true c6
                    clear c6
                    by_cases c7 : 0 ≤ x7_3
                    · rw [if_pos c7] at H
                      have c7b0 : decide (0 ≤ x7_3) = true := decide_eq_true c7
                      clear c7
                      replace H := Option.bind_eq_some_iff.mp H
                      obtain ⟨t1005, A80, H⟩ := H
                      replace H : (if t1005 = true then (sackbutref05_Forms.l2 k3 l0 x3_2 x8_1 t1001 (wrap64 (x7_3 + 1)) x8_1 (l0.length : Int) x13_2) else (if x7_3 = (x3_2.length : Int) then ((some (([] : List (List Int)) : List (List Int))).bind fun y1006 => (if x7_3 ≤ (x3_2.length : Int) then ((some (x3_2.take (x7_3 : Int).toNat : List (List Int))).bind fun y1009 => (if y1006.length + y1009.length < 5864062014805 then ((some (y1006 ++ y1009 : List (List Int))).bind fun y1014 => ((some (([t1001] : List (List Int)) : List (List Int))).bind fun y1017 => (if y1014.length + y1017.length < 5864062014805 then ((some (y1014 ++ y1017 : List (List Int))).bind fun y1020 => ((some (x3_2.drop (x7_3 : Int).toNat : List (List Int))).bind fun y1023 => (if y1020.length + y1023.length < 5864062014805 then (sackbutref05_Forms.l1 k3 l0 (y1020 ++ y1023) x8_1 x8_1 (l0.length : Int) (wrap64 (x13_2 + 1))) else (none)))) else (none)))) else (none))) else (none))) else ((sackbutref05_same.f k3 (rd_L1 x3_2 x7_3) t1001).bind fun t1032 => (if t1032 = true then (sackbutref05_Forms.l1 k3 l0 x3_2 x8_1 x8_1 (l0.length : Int) (wrap64 (x13_2 + 1))) else ((some (([] : List (List Int)) : List (List Int))).bind fun y1033 => (if x7_3 ≤ (x3_2.length : Int) then ((some (x3_2.take (x7_3 : Int).toNat : List (List Int))).bind fun y1036 => (if y1033.length + y1036.length < 5864062014805 then ((some (y1033 ++ y1036 : List (List Int))).bind fun y1041 => ((some (([t1001] : List (List Int)) : List (List Int))).bind fun y1044 => (if y1041.length + y1044.length < 5864062014805 then ((some (y1041 ++ y1044 : List (List Int))).bind fun y1047 => ((some (x3_2.drop (x7_3 : Int).toNat : List (List Int))).bind fun y1050 => (if y1047.length + y1050.length < 5864062014805 then (sackbutref05_Forms.l1 k3 l0 (y1047 ++ y1050) x8_1 x8_1 (l0.length : Int) (wrap64 (x13_2 + 1))) else (none)))) else (none)))) else (none))) else (none))))))) = some r := H
                      have A8 := am A80
                      clear A80
                      by_cases c9 : t1005 = true
                      · subst c9
                        have H1 : (sackbutref05_Forms.l2 k3 l0 x3_2 x8_1 t1001 (wrap64 (x7_3 + 1)) x8_1 (l0.length : Int) x13_2) = some r := by rw [if_pos rfl] at H; exact H
                        clear H
                        have H := H1
                        clear H1
                        have H' := am H
                        clear H
                        obtain ⟨Ao10, co10, eo10⟩ := Kd.N_slice HO_3.out
                        subst eo10
                        have p1004 : 0 ≤ (x7_3 : Int) := of_decide_eq_true (by first | (with_reducible assumption) | assumption)
                        have q1004 : x7_3 < (x3_2.length : Int) := of_decide_eq_true (by first | (with_reducible assumption) | assumption)
                        obtain ⟨ad1004, A1004_0, c1004_0, e1004, hx1004_0, hl1004_0, hi1004_0⟩ := at_L1 (Kd.N_reads' HO_3.out).2.2 x7_3 p1004 q1004
                        cases e1004
                        obtain ⟨ce1004, hce1004, hMe1004, hcc1004⟩ := Kd.N_get HO_3.out [] x7_3 p1004 (by first | exact q1004 | exact of_decide_eq_true (by first | (with_reducible assumption) | assumption) | (have e_ := (Kd.N_reads' HO_3.out).1; omega))
                        obtain ⟨ua1004_0, uc1004_0, rfl, ul1004_0, ge1004_0⟩ := Kd.FK_slice_open hMe1004
                        have hv1004_0 := hcc1004 0 _ rfl
                        rw [Nat.add_zero, show ((Kd.slice 3 (Kd.int .i64))).sz = 1 from rfl, Nat.mul_one] at hv1004_0
                        replace hv1004_0 := Option.some.inj (hv1004_0.symm.trans hx1004_0)
                        injection hv1004_0 with hva_ hvn_ hvc_
                        rw [hva_] at ge1004_0
                        rw [hvc_] at ul1004_0
                        have HL1004_0 := am (show Kd.V (Kd.int .i64) 3 _ w.heap.size _ _ (rd_L1 x3_2 x7_3) from Kd.V_mk ul1004_0 ge1004_0)
                        clear hva_ hvn_ hvc_ ge1004_0 ul1004_0
                        clear hcc1004 hce1004
                        have HR1004_0 := am hi1004_0
                        have HC1004_0 := am hl1004_0
                        clear hi1004_0 hl1004_0
                        replace p1004 := eq_true p1004
                        replace q1004 := eq_true q1004
                        obtain ⟨Ao11, co11, eo11⟩ := Kd.R_slice HO_6.out
                        subst eo11
                        go_wp2_with (first | (go_at_call 48; (with_reducible refine (sackbutref05_less.calls k3 _ _ (rd_L1 x3_2 x7_3) _ _ t1001 true _ ?side1 ?side2 ?side3 ?side4 A8.out).mono ?_); (case side1 => repeat (first | exact (by repeat (first | (with_reducible exact HR1004_0.out) | (with_reducible refine Kd.C_alloc ?_ _) | (with_reducible refine Kd.C_drewN ?_ _) | (with_reducible refine Kd.C_drew ?_) | exact HR1004_0.out)) | (with_reducible refine Kd.C_alloc ?_ _) | (with_reducible refine Kd.C_drewN ?_ _) | (with_reducible refine Kd.C_drew ?_))); (case side2 => exact HC1004_0.out); (case side3 => repeat (first | exact (Kd.R_reads' HO_6.out).2.2 | (with_reducible refine Kd.C_alloc ?_ _) | (with_reducible refine Kd.C_drewN ?_ _) | (with_reducible refine Kd.C_drew ?_))); (case side4 => exact (Kd.R_reads' HO_6.out).2.1); rintro e w' ⟨rfl, ⟨nd, rfl⟩⟩))
                        go_roundg k3
                        case measure => have := HK1.out; have := HK2.out; have := HK3.out; omega
                        case rel => exact ⟨(wrap64 (x7_3 + 1)), (by first | rfl | (simp; done) | (simp [*]; done)), H', ⟨by have := HK1.out; have := HK2.out; have := HK3.out; omega⟩, ⟨by (with_reducible repeat (first | apply Kd.N_alloc | apply Kd.N_drewN | apply Kd.N_drew)); exact HO_3.out⟩, ⟨by (with_reducible repeat (first | apply Kd.R_alloc | apply Kd.R_drewN | apply Kd.R_drew)); exact HO_6.out⟩, ⟨by repeat (first | (with_reducible first | exact HB.out | apply below_alloc | apply pw_below_drewN | apply below_drew1) | exact HB.out)⟩⟩
                      · replace c9 := Bool.eq_false_iff.mpr c9
                        subst c9
                        have H1 : (if x7_3 = (x3_2.length : Int) then ((some (([] : List (List Int)) : List (List Int))).bind fun y1006 => (if x7_3 ≤ (x3_2.length : Int) then ((some (x3_2.take (x7_3 : Int).toNat : List (List Int))).bind fun y1009 => (if y1006.length + y1009.length < 5864062014805 then ((some (y1006 ++ y1009 : List (List Int))).bind fun y1014 => ((some (([t1001] : List (List Int)) : List (List Int))).bind fun y1017 => (if y1014.length + y1017.length < 5864062014805 then ((some (y1014 ++ y1017 : List (List Int))).bind fun y1020 => ((some (x3_2.drop (x7_3 : Int).toNat : List (List Int))).bind fun y1023 => (if y1020.length + y1023.length < 5864062014805 then (sackbutref05_Forms.l1 k3 l0 (y1020 ++ y1023) x8_1 x8_1 (l0.length : Int) (wrap64 (x13_2 + 1))) else (none)))) else (none)))) else (none))) else (none))) else ((sackbutref05_same.f k3 (rd_L1 x3_2 x7_3) t1001).bind fun t1032 => (if t1032 = true then (sackbutref05_Forms.l1 k3 l0 x3_2 x8_1 x8_1 (l0.length : Int) (wrap64 (x13_2 + 1))) else ((some (([] : List (List Int)) : List (List Int))).bind fun y1033 => (if x7_3 ≤ (x3_2.length : Int) then ((some (x3_2.take (x7_3 : Int).toNat : List (List Int))).bind fun y1036 => (if y1033.length + y1036.length < 5864062014805 then ((some (y1033 ++ y1036 : List (List Int))).bind fun y1041 => ((some (([t1001] : List (List Int)) : List (List Int))).bind fun y1044 => (if y1041.length + y1044.length < 5864062014805 then ((some (y1041 ++ y1044 : List (List Int))).bind fun y1047 => ((some (x3_2.drop (x7_3 : Int).toNat : List (List Int))).bind fun y1050 => (if y1047.length + y1050.length < 5864062014805 then (sackbutref05_Forms.l1 k3 l0 (y1047 ++ y1050) x8_1 x8_1 (l0.length : Int) (wrap64 (x13_2 + 1))) else (none)))) else (none)))) else (none))) else (none)))))) = some r := by rw [if_neg (show ¬ (false = true) by decide)] at H; exact H
                        clear H
                        have H := H1
                        clear H1
                        by_cases c12 : x7_3 = (x3_2.length : Int)
                        · rw [if_pos c12] at H
                          have c12b0 : (x7_3 == (x3_2.length : Int)) = true := beq_iff_eq.mpr c12
                          have c12b1 : (x7_3 != (x3_2.length : Int)) = false := bne_eq_false_iff_eq.mpr c12
                          clear c12
                          obtain ⟨y1006, hy1006⟩ : ∃ y_ : List (List Int), y_ = (([] : List (List Int))) := ⟨_, rfl⟩
                          replace H : (if x7_3 ≤ (x3_2.length : Int) then ((some (x3_2.take (x7_3 : Int).toNat : List (List Int))).bind fun y1009 => (if y1006.length + y1009.length < 5864062014805 then ((some (y1006 ++ y1009 : List (List Int))).bind fun y1014 => ((some (([t1001] : List (List Int)) : List (List Int))).bind fun y1017 => (if y1014.length + y1017.length < 5864062014805 then ((some (y1014 ++ y1017 : List (List Int))).bind fun y1020 => ((some (x3_2.drop (x7_3 : Int).toNat : List (List Int))).bind fun y1023 => (if y1020.length + y1023.length < 5864062014805 then (sackbutref05_Forms.l1 k3 l0 (y1020 ++ y1023) x8_1 x8_1 (l0.length : Int) (wrap64 (x13_2 + 1))) else (none)))) else (none)))) else (none))) else (none)) = some r := by first | (rw [hy1006]; with_reducible exact H) | (have H2_ := (Option.bind_some _ _).symm.trans H; rw [hy1006]; with_reducible exact H2_) | (have H2_ := (Option.bind_some _ _).symm.trans H; with_reducible exact H2_) | with_reducible exact H | (rw [hy1006]; exact H) | exact H
                          have Ny1006 := am hy1006
                          clear hy1006
                          have c13b0 := eq_true (of_decide_eq_true (by first | (with_reducible assumption) | assumption) : 0 ≤ x7_3)
                          by_cases c14 : x7_3 ≤ (x3_2.length : Int)
                          · rw [if_pos c14] at H
                            have c14b0 := eq_true c14
                            have c14b1 : decide (x7_3 ≤ (x3_2.length : Int)) = true := decide_eq_true c14
                            clear c14
                            obtain ⟨y1009, hy1009⟩ : ∃ y_ : List (List Int), y_ = (x3_2.take (x7_3 : Int).toNat) := ⟨_, rfl⟩
                            replace H : (if y1006.length + y1009.length < 5864062014805 then ((some (y1006 ++ y1009 : List (List Int))).bind fun y1014 => ((some (([t1001] : List (List Int)) : List (List Int))).bind fun y1017 => (if y1014.length + y1017.length < 5864062014805 then ((some (y1014 ++ y1017 : List (List Int))).bind fun y1020 => ((some (x3_2.drop (x7_3 : Int).toNat : List (List Int))).bind fun y1023 => (if y1020.length + y1023.length < 5864062014805 then (sackbutref05_Forms.l1 k3 l0 (y1020 ++ y1023) x8_1 x8_1 (l0.length : Int) (wrap64 (x13_2 + 1))) else (none)))) else (none)))) else (none)) = some r := by first | (rw [hy1009]; with_reducible exact H) | (have H2_ := (Option.bind_some _ _).symm.trans H; rw [hy1009]; with_reducible exact H2_) | (have H2_ := (Option.bind_some _ _).symm.trans H; with_reducible exact H2_) | with_reducible exact H | (rw [hy1009]; exact H) | exact H
                            have Ny1009 := am hy1009
                            clear hy1009
                            by_cases c15 : y1006.length + y1009.length < 5864062014805
                            · rw [if_pos c15] at H
                              have LMc15 := am c15
                              clear c15
                              obtain ⟨y1014, hy1014⟩ : ∃ y_ : List (List Int), y_ = (y1006 ++ y1009) := ⟨_, rfl⟩
                              replace H : ((some (([t1001] : List (List Int)) : List (List Int))).bind fun y1017 => (if y1014.length + y1017.length < 5864062014805 then ((some (y1014 ++ y1017 : List (List Int))).bind fun y1020 => ((some (x3_2.drop (x7_3 : Int).toNat : List (List Int))).bind fun y1023 => (if y1020.length + y1023.length < 5864062014805 then (sackbutref05_Forms.l1 k3 l0 (y1020 ++ y1023) x8_1 x8_1 (l0.length : Int) (wrap64 (x13_2 + 1))) else (none)))) else (none))) = some r := by first | (rw [hy1014]; with_reducible exact H) | (have H2_ := (Option.bind_some _ _).symm.trans H; rw [hy1014]; with_reducible exact H2_) | (have H2_ := (Option.bind_some _ _).symm.trans H; with_reducible exact H2_) | with_reducible exact H | (rw [hy1014]; exact H) | exact H
                              have Ny1014 := am hy1014
                              clear hy1014
                              obtain ⟨y1017, hy1017⟩ : ∃ y_ : List (List Int), y_ = (([t1001] : List (List Int))) := ⟨_, rfl⟩
                              replace H : (if y1014.length + y1017.length < 5864062014805 then ((some (y1014 ++ y1017 : List (List Int))).bind fun y1020 => ((some (x3_2.drop (x7_3 : Int).toNat : List (List Int))).bind fun y1023 => (if y1020.length + y1023.length < 5864062014805 then (sackbutref05_Forms.l1 k3 l0 (y1020 ++ y1023) x8_1 x8_1 (l0.length : Int) (wrap64 (x13_2 + 1))) else (none)))) else (none)) = some r := by first | (rw [hy1017]; with_reducible exact H) | (have H2_ := (Option.bind_some _ _).symm.trans H; rw [hy1017]; with_reducible exact H2_) | (have H2_ := (Option.bind_some _ _).symm.trans H; with_reducible exact H2_) | with_reducible exact H | (rw [hy1017]; exact H) | exact H
                              have Ny1017 := am hy1017
                              clear hy1017
                              by_cases c16 : y1014.length + y1017.length < 5864062014805
                              · rw [if_pos c16] at H
                                have LMc16 := am c16
                                clear c16
                                obtain ⟨y1020, hy1020⟩ : ∃ y_ : List (List Int), y_ = (y1014 ++ y1017) := ⟨_, rfl⟩
                                replace H : ((some (x3_2.drop (x7_3 : Int).toNat : List (List Int))).bind fun y1023 => (if y1020.length + y1023.length < 5864062014805 then (sackbutref05_Forms.l1 k3 l0 (y1020 ++ y1023) x8_1 x8_1 (l0.length : Int) (wrap64 (x13_2 + 1))) else (none))) = some r := by first | (rw [hy1020]; with_reducible exact H) | (have H2_ := (Option.bind_some _ _).symm.trans H; rw [hy1020]; with_reducible exact H2_) | (have H2_ := (Option.bind_some _ _).symm.trans H; with_reducible exact H2_) | with_reducible exact H | (rw [hy1020]; exact H) | exact H
                                have Ny1020 := am hy1020
                                clear hy1020
                                have c17b0 := eq_true (of_decide_eq_true (by first | (with_reducible assumption) | assumption) : 0 ≤ x7_3)
                                have c18b0 := eq_true (of_decide_eq_true (by first | (with_reducible assumption) | assumption) : x7_3 ≤ (x3_2.length : Int))
                                obtain ⟨y1023, hy1023⟩ : ∃ y_ : List (List Int), y_ = (x3_2.drop (x7_3 : Int).toNat) := ⟨_, rfl⟩
                                replace H : (if y1020.length + y1023.length < 5864062014805 then (sackbutref05_Forms.l1 k3 l0 (y1020 ++ y1023) x8_1 x8_1 (l0.length : Int) (wrap64 (x13_2 + 1))) else (none)) = some r := by first | (rw [hy1023]; with_reducible exact H) | (have H2_ := (Option.bind_some _ _).symm.trans H; rw [hy1023]; with_reducible exact H2_) | (have H2_ := (Option.bind_some _ _).symm.trans H; with_reducible exact H2_) | with_reducible exact H | (rw [hy1023]; exact H) | exact H
                                have Ny1023 := am hy1023
                                clear hy1023
                                by_cases c19 : y1020.length + y1023.length < 5864062014805
                                · rw [if_pos c19] at H
                                  have LMc19 := am c19
                                  clear c19
                                  obtain ⟨y1028, hy1028⟩ : ∃ y_ : List (List Int), y_ = (y1020 ++ y1023) := ⟨_, rfl⟩
                                  replace H : (sackbutref05_Forms.l1 k3 l0 y1028 x8_1 x8_1 (l0.length : Int) (wrap64 (x13_2 + 1))) = some r := by first | (rw [hy1028]; with_reducible exact H) | (have H2_ := (Option.bind_some _ _).symm.trans H; rw [hy1028]; with_reducible exact H2_) | (have H2_ := (Option.bind_some _ _).symm.trans H; with_reducible exact H2_) | with_reducible exact H | (rw [hy1028]; exact H) | exact H
                                  have Ny1028 := am hy1028
                                  clear hy1028
                                  have H' := am H
                                  clear H
                                  obtain ⟨Ao20, co20, eo20⟩ := Kd.N_slice HO_3.out
                                  subst eo20
                                  have p1004 : 0 ≤ (x7_3 : Int) := of_decide_eq_true (by first | (with_reducible assumption) | assumption)
                                  have q1004 : x7_3 < (x3_2.length : Int) := of_decide_eq_true (by first | (with_reducible assumption) | assumption)
                                  obtain ⟨ad1004, A1004_0, c1004_0, e1004, hx1004_0, hl1004_0, hi1004_0⟩ := at_L1 (Kd.N_reads' HO_3.out).2.2 x7_3 p1004 q1004
                                  cases e1004
                                  obtain ⟨ce1004, hce1004, hMe1004, hcc1004⟩ := Kd.N_get HO_3.out [] x7_3 p1004 (by first | exact q1004 | exact of_decide_eq_true (by first | (with_reducible assumption) | assumption) | (have e_ := (Kd.N_reads' HO_3.out).1; omega))
                                  obtain ⟨ua1004_0, uc1004_0, rfl, ul1004_0, ge1004_0⟩ := Kd.FK_slice_open hMe1004
                                  have hv1004_0 := hcc1004 0 _ rfl
                                  rw [Nat.add_zero, show ((Kd.slice 3 (Kd.int .i64))).sz = 1 from rfl, Nat.mul_one] at hv1004_0
                                  replace hv1004_0 := Option.some.inj (hv1004_0.symm.trans hx1004_0)
                                  injection hv1004_0 with hva_ hvn_ hvc_
                                  rw [hva_] at ge1004_0
                                  rw [hvc_] at ul1004_0
                                  have HL1004_0 := am (show Kd.V (Kd.int .i64) 3 _ w.heap.size _ _ (rd_L1 x3_2 x7_3) from Kd.V_mk ul1004_0 ge1004_0)
                                  clear hva_ hvn_ hvc_ ge1004_0 ul1004_0
                                  clear hcc1004 hce1004
                                  have HR1004_0 := am hi1004_0
                                  have HC1004_0 := am hl1004_0
                                  clear hi1004_0 hl1004_0
                                  replace p1004 := eq_true p1004
                                  replace q1004 := eq_true q1004
                                  obtain ⟨Ao21, co21, eo21⟩ := Kd.R_slice HO_6.out
                                  subst eo21
                                  try go_wp2_with (first | (go_at_call 48; (with_reducible refine (sackbutref05_less.calls k3 _ _ (rd_L1 x3_2 x7_3) _ _ t1001 false _ ?side1 ?side2 ?side3 ?side4 A8.out).mono ?_); (case side1 => repeat (first | exact (by repeat (first | (with_reducible exact HR1004_0.out) | (with_reducible refine Kd.C_alloc ?_ _) | (with_reducible refine Kd.C_drewN ?_ _) | (with_reducible refine Kd.C_drew ?_) | exact HR1004_0.out)) | (with_reducible refine Kd.C_alloc ?_ _) | (with_reducible refine Kd.C_drewN ?_ _) | (with_reducible refine Kd.C_drew ?_))); (case side2 => exact HC1004_0.out); (case side3 => repeat (first | exact (Kd.R_reads' HO_6.out).2.2 | (with_reducible refine Kd.C_alloc ?_ _) | (with_reducible refine Kd.C_drewN ?_ _) | (with_reducible refine Kd.C_drew ?_))); (case side4 => exact (Kd.R_reads' HO_6.out).2.1); rintro e w' ⟨rfl, ⟨nd, rfl⟩⟩))
                                  (try (rw [drewN_self wr]; generalize hq_ : World.drewN wr _ = wr; have n0_ : Aside0 (Kd.V (Kd.int .i64) 3 wr w.heap.size (fun k_ => (w.heap.size ≤ k_) ∧ some k_ ≠ (.slice (some ad1004) x3_2.length co20 : Value).ownBlock ∧ some k_ ≠ (.slice Ao21 t1001.length co21 : Value).ownBlock) (.slice A1004_0 (rd_L1 x3_2 x7_3).length c1004_0) (rd_L1 x3_2 x7_3)) := ⟨by rw [← hq_]; exact (by (with_reducible repeat (first | apply Kd.V_alloc | apply Kd.V_drewN | apply Kd.V_drew)); exact Kd.V_mono HL1004_0.out (fun _ hk => ⟨hk.1.1, ⟨hk.2, hk.1.2⟩⟩))⟩; have n1_ : Aside0 (Kd.N (Kd.slice 3 (Kd.int .i64)) 27 wr w.heap.size (fun k_ => (w.heap.size ≤ k_) ∧ some k_ ≠ (.slice Ao21 t1001.length co21 : Value).ownBlock) (.slice (some ad1004) x3_2.length co20) x3_2) := ⟨by rw [← hq_]; exact (by (with_reducible repeat (first | apply Kd.N_alloc | apply Kd.N_drewN | apply Kd.N_drew)); exact HO_3.out)⟩; have n2_ : Aside0 (Kd.R (Kd.int .i64) 3 wr w.heap.size (fun k_ => (w.heap.size ≤ k_)) (.slice Ao21 t1001.length co21) t1001) := ⟨by rw [← hq_]; exact (by (with_reducible repeat (first | apply Kd.R_alloc | apply Kd.R_drewN | apply Kd.R_drew)); exact HO_6.out)⟩; have n3_ : Aside0 (Below w.heap.size w wr) := ⟨by rw [← hq_]; exact (by repeat (first | (with_reducible first | exact HB.out | apply below_alloc | apply pw_below_drewN | apply below_drew1) | exact HB.out))⟩; have n4_ : Aside0 (Kd.C (Kd.int .i64) wr A1004_0 (rd_L1 x3_2 x7_3).length (rd_L1 x3_2 x7_3)) := ⟨by rw [← hq_]; exact (by repeat (first | (with_reducible exact HR1004_0.out) | (with_reducible refine Kd.C_alloc ?_ _) | (with_reducible refine Kd.C_drewN ?_ _) | (with_reducible refine Kd.C_drew ?_) | exact HR1004_0.out))⟩; clear HL1004_0 HO_3 HO_6 HB HR1004_0 hq_; have HL1004_0 := n0_; have HO_3 := n1_; have HO_6 := n2_; have HB := n3_; have HR1004_0 := n4_; clear n0_ n1_ n2_ n3_ n4_))
                                  have n0_ := am (Kd.N_drew HO_3.out)
                                  have n1_ := am (Kd.R_drew HO_6.out)
                                  have n2_ := am (Kd.V_drew HL1004_0.out)
                                  have n3_ := am (Kd.C_drew HR1004_0.out)
                                  have n4_ := am (below_drew1 HB.out)
                                  clear HO_3
                                  clear HO_6
                                  clear HL1004_0
                                  clear HR1004_0
                                  clear HB
                                  have HO_3 := n0_
                                  have HO_6 := n1_
                                  have HL1004_0 := n2_
                                  have HR1004_0 := n3_
                                  have HB := n4_
                                  clear n0_ n1_ n2_ n3_ n4_
                                  have q23 : (x7_3 : Int) ≤ ((x3_2.length : Int) : Int) := of_decide_eq_true (by first | (with_reducible assumption) | assumption)
                                  obtain ⟨i023, hi023, _, hsz23, _⟩ := info_parts info27
                                  have hroom23 : x3_2.length ≤ co20 := (Kd.N_reads' HO_3.out).2.1
                                  have hC23 : Kd.F (Kd.slice 3 (Kd.int .i64)) _ _ (some ad1004) x3_2.length x3_2 := (Kd.V_at (base := w.heap.size) (Kd.N_V HO_3.out)).2.2
                                  have hcut23 := cut_to (P := Try.prog) 30 27 .i64 Try.underlying30 hi023 (some ad1004) x3_2.length co20 x7_3 (of_decide_eq_true (by first | (with_reducible assumption) | assumption)) q23 hroom23
                                  have hr23 := Kd.F_take (m := (x7_3 : Int).toNat) hC23 (by omega)
                                  have hy23 : y1009.length = (x7_3 : Int).toNat := (by rw [Ny1009.out, List.length_take]; omega)
                                  rw [← Ny1009.out] at hr23
                                  rw [← hy23] at hcut23
                                  have HO1013 := am (show Kd.V (Kd.slice 3 (Kd.int .i64)) 27 _ w.heap.size _ (.slice (some ad1004) y1009.length co20) y1009 from Kd.V_mk (by omega) hr23)
                                  have HC1013 := am (show y1009.length ≤ co20 from by omega)
                                  clear hr23 hC23 hroom23 hi023 hsz23
                                  have KY23 := am hy23
                                  clear hy23
                                  replace q23 := eq_true q23
                                  have q24 : (x7_3 : Int) ≤ ((x3_2.length : Int) : Int) := of_decide_eq_true (by first | (with_reducible assumption) | assumption)
                                  obtain ⟨i024, hi024, _, hsz24, _⟩ := info_parts info27
                                  have hroom24 : x3_2.length ≤ co20 := (Kd.N_reads' HO_3.out).2.1
                                  have hC24 : Kd.F (Kd.slice 3 (Kd.int .i64)) _ _ (some ad1004) x3_2.length x3_2 := (Kd.V_at (base := w.heap.size) (Kd.N_V HO_3.out)).2.2
                                  have q024 : (0 : Int) ≤ (x7_3 : Int) := of_decide_eq_true (by first | (with_reducible assumption) | assumption)
                                  have hcut24 := cut_from (P := Try.prog) 30 27 .i64 Try.underlying30 hi024 1 hsz24 (some ad1004) x3_2.length co20 x7_3 q024 q24
                                  have hr24 := Kd.F_cut (m := (x7_3 : Int).toNat) (c := co20) hC24 (by omega) hroom24
                                  obtain ⟨A24, hA24⟩ : ∃ A1, A1 = (if co20 = (x7_3 : Int).toNat then (some ad1004) else ((some ad1004) : Option Addr).map (·.add ((x7_3 : Int).toNat * 1))) := ⟨_, rfl⟩
                                  obtain ⟨c24, hc24⟩ : ∃ c1, c1 = co20 - (x7_3 : Int).toNat := ⟨_, rfl⟩
                                  have hy24 : y1023.length = x3_2.length - (x7_3 : Int).toNat := (by rw [Ny1023.out, List.length_drop] <;> omega)
                                  rw [show (x3_2).drop (x7_3 : Int).toNat = y1023 from Ny1023.out.symm] at hr24
                                  replace hr24 : Kd.F (Kd.slice 3 (Kd.int .i64)) _ _ A24 y1023.length y1023 := (by rw [hA24]; exact hr24)
                                  rw [← hy24, ← hA24, ← hc24] at hcut24
                                  have HO1027 := am (show Kd.V (Kd.slice 3 (Kd.int .i64)) 27 _ w.heap.size _ (.slice A24 y1023.length c24) y1023 from Kd.V_mk (by rw [hy24, hc24]; exact Nat.sub_le_sub_right hroom24 _) hr24)
                                  have HC1027 := am (show y1023.length ≤ c24 from by rw [hy24, hc24]; exact Nat.sub_le_sub_right hroom24 _)
                                  clear hr24 hC24 hroom24 hi024 hsz24 hc24
                                  have KY24 := am hy24
                                  have KA24 := am hA24
                                  clear hy24 hA24
                                  replace q24 := eq_true q24
                                  refine start_ (n := 13) (S := fun w' => True) (ds := []) #[false, false, false, false, false, false, false, false, false, false, false, false, false] (by kernel_rfl) rfl rfl trivial (fun hHeld => ?_); refine with_tabW sackbutref05_Forms.tab13 sackbutref05_Forms.bits13 (fun HT_ HW_ => ?_)
                                  generalize wr.drew = w22 at HO_3 HO_6 HL1004_0 HR1004_0 HB HO1013 HO1027 hHeld ⊢
                                  refine pure_ (i := 1) (N := some 50) (v := ?_) (a' := ?_) #[false, true, false, false, false, false, false, false, false, false, false, false, false] rfl rfl (any_of HT_.out (by kernel_rfl)) (fun _ _ _ h => h) (Or.inl ⟨by rfl, ?_⟩) ?_ ?_
                                  rotate_left
                                  · intro w'
                                    go_simp
                                    with_reducible rfl
                                  rotate_left
                                  · simp only [Act.put, List.setIfInBounds_toArray, List.set_cons_zero, List.set_cons_succ, i64_w, i32_w]
                                    rfl
                                  refine pure_ (i := 2) (N := some 51) (v := ?_) (a' := ?_) #[false, true, true, false, false, false, false, false, false, false, false, false, false] rfl rfl (any_of HT_.out (by kernel_rfl)) (fun _ _ _ h => h) (Or.inl ⟨by rfl, ?_⟩) ?_ ?_
                                  rotate_left
                                  · intro w'
                                    go_simp
                                    with_reducible rfl
                                  rotate_left
                                  · simp only [Act.put, List.setIfInBounds_toArray, List.set_cons_zero, List.set_cons_succ, i64_w, i32_w]
                                    rfl
                                  refine pure_ (i := 3) (N := some 52) (v := ?_) (a' := ?_) #[false, true, true, true, false, false, false, false, false, false, false, false, false] rfl rfl (any_of HT_.out (by kernel_rfl)) (fun _ _ _ h => h) (Or.inl ⟨by rfl, ?_⟩) ?_ ?_
                                  rotate_left
                                  · intro w'
                                    go_simp
                                    with_reducible rfl
                                  rotate_left
                                  · simp only [Act.put, List.setIfInBounds_toArray, List.set_cons_zero, List.set_cons_succ, i64_w, i32_w]
                                    rfl
                                  refine pure_ (i := 5) (N := some 54) (v := ?_) (a' := ?_) #[false, true, true, true, false, true, false, false, false, false, false, false, false] rfl rfl (any_of HT_.out (by kernel_rfl)) (fun _ _ _ h => h) (Or.inl ⟨by rfl, ?_⟩) ?_ ?_
                                  rotate_left
                                  · intro w'
                                    go_simp
                                    with_reducible rfl
                                  rotate_left
                                  · simp only [Act.put, List.setIfInBounds_toArray, List.set_cons_zero, List.set_cons_succ, i64_w, i32_w]
                                    rfl
                                  refine pure_ (i := 8) (N := some 57) (v := ?_) (a' := ?_) #[false, true, true, true, false, true, false, false, true, false, false, false, false] rfl rfl (any_of HT_.out (by kernel_rfl)) (fun _ _ _ h => h) (Or.inl ⟨by rfl, ?_⟩) ?_ ?_
                                  rotate_left
                                  · intro w'
                                    go_simp
                                    with_reducible rfl
                                  rotate_left
                                  · simp only [Act.put, List.setIfInBounds_toArray, List.set_cons_zero, List.set_cons_succ, i64_w, i32_w]
                                    rfl
                                  refine pure_ (i := 9) (N := some 58) (v := ?_) (a' := ?_) #[false, true, true, true, false, true, false, false, true, true, false, false, false] rfl rfl (any_of HT_.out (by kernel_rfl)) (fun _ _ _ h => h) (Or.inl ⟨by rfl, ?_⟩) ?_ ?_
                                  rotate_left
                                  · intro w'
                                    go_simp
                                    with_reducible rfl
                                  rotate_left
                                  · simp only [Act.put, List.setIfInBounds_toArray, List.set_cons_zero, List.set_cons_succ, i64_w, i32_w]
                                    rfl
                                  refine pure_ (i := 10) (N := some 59) (v := ?_) (a' := ?_) #[false, true, true, true, false, true, false, false, true, true, true, false, false] rfl rfl (any_of HT_.out (by kernel_rfl)) (fun _ _ _ h => h) (Or.inl ⟨by rfl, ?_⟩) ?_ ?_
                                  rotate_left
                                  · intro w'
                                    go_simp
                                    with_reducible rfl
                                  rotate_left
                                  · simp only [Act.put, List.setIfInBounds_toArray, List.set_cons_zero, List.set_cons_succ, i64_w, i32_w]
                                    rfl
                                  refine join_ (σ := Value × Value × Value) 3 #[true, true, true, true, true, true, true, false, true, true, true, false, false] (fun s_ => [(49, s_.1), (53, s_.2.1), (55, s_.2.2)]) (fun s_ w' => (Kd.V (Kd.int .i64) 3 w' w.heap.size (fun k_ => (w.heap.size ≤ k_) ∧ some k_ ≠ (s_.2.1 : Value).ownBlock ∧ some k_ ≠ (s_.2.2 : Value).ownBlock ∧ some k_ ≠ (.slice (some ad1004) x3_2.length co20 : Value).ownBlock) (.slice A1004_0 (rd_L1 x3_2 x7_3).length c1004_0) (rd_L1 x3_2 x7_3)) ∧ (Kd.V (Kd.slice 3 (Kd.int .i64)) 27 w' w.heap.size (fun k_ => (w.heap.size ≤ k_) ∧ some k_ ≠ (s_.2.1 : Value).ownBlock ∧ some k_ ≠ (s_.2.2 : Value).ownBlock) (.slice (some ad1004) y1009.length co20) y1009) ∧ (Kd.N (Kd.slice 3 (Kd.int .i64)) 27 w' w.heap.size (fun k_ => (w.heap.size ≤ k_) ∧ some k_ ≠ (s_.2.2 : Value).ownBlock) s_.2.1 y1014) ∧ (Kd.N (Kd.slice 3 (Kd.int .i64)) 27 w' w.heap.size (fun k_ => (w.heap.size ≤ k_) ∧ some k_ ≠ (s_.2.1 : Value).ownBlock ∧ some k_ ≠ (.slice (some ad1004) x3_2.length co20 : Value).ownBlock) s_.2.2 y1017) ∧ (Kd.V (Kd.slice 3 (Kd.int .i64)) 27 w' w.heap.size (fun k_ => (w.heap.size ≤ k_) ∧ some k_ ≠ (s_.2.1 : Value).ownBlock ∧ some k_ ≠ (s_.2.2 : Value).ownBlock) (.slice A24 y1023.length c24) y1023) ∧ (Kd.N (Kd.slice 3 (Kd.int .i64)) 27 w' w.heap.size (fun k_ => (w.heap.size ≤ k_) ∧ some k_ ≠ (s_.2.1 : Value).ownBlock ∧ some k_ ≠ (s_.2.2 : Value).ownBlock) (.slice (some ad1004) x3_2.length co20) x3_2) ∧ (Below w.heap.size w w')) ?_ ?_
                                  rotate_left
                                  · intro hCont
                                    refine two_ (i := 0) (j := 6) (Ni := some 49) (Nj := some 55) #[true, true, true, true, false, true, false, false, true, true, true, false, false] #[false, true, true, true, false, true, true, false, true, true, true, false, false] rfl rfl rfl rfl (two_of HT_.out (by kernel_rfl)) (by decide) (by decide) (fun K hK => ?_) (fun K hK => ?_)
                                    · skip
                                      refine Kd.N_lit_step (Kd.slice 3 (Kd.int .i64)) _ 27 ?hg (N' := 49) ?hd (xs := ([] : List (List Int))) (inner := []) (ok := (fun k_ => (w.heap.size ≤ k_) ∧ some k_ ≠ (.slice (some ad1004) x3_2.length co20 : Value).ownBlock ∧ some k_ ≠ (.slice Ao21 t1001.length co21 : Value).ownBlock)) (okp := (fun k_ => (w.heap.size ≤ k_) ∧ some k_ ≠ (.slice (some ad1004) x3_2.length co20 : Value).ownBlock ∧ some k_ ≠ (.slice Ao21 t1001.length co21 : Value).ownBlock)) ?hr ?hp (fun _ hk => hk) ((show ∀ k_, w22.heap.size ≤ k_ → (fun k_ => (w.heap.size ≤ k_) ∧ some k_ ≠ (.slice (some ad1004) x3_2.length co20 : Value).ownBlock ∧ some k_ ≠ (.slice Ao21 t1001.length co21 : Value).ownBlock) k_ from fun k_ hk => ⟨(Nat.le_trans (below_size (by repeat (first | (with_reducible first | exact HB.out | apply below_alloc | apply pw_below_drewN | apply below_drew1) | exact HB.out))) hk), Kd.fresh' (Kd.N_lt (by (with_reducible repeat (first | apply Kd.N_alloc | apply Kd.N_drewN | apply Kd.N_drew)); exact HO_3.out)) k_ hk, Kd.fresh' (Kd.R_lt (by (with_reducible repeat (first | apply Kd.R_alloc | apply Kd.R_drewN | apply Kd.R_drew)); exact HO_6.out)) k_ hk⟩) _ (Nat.le_refl _)) (Below.refl _ _) (Nat.le_refl _) (by simp) ?_; (case hd => rfl); (case hg => rfl); (case hr => first | (go_simp; done) | (go_simp; rfl)); (case hp => exact (Reps.none _ _))
                                      intro v1007 w25 ho26 hb hg_ hnew_
                                      clear hg_ hnew_
                                      (first | rw [← Ny1006.out] at ho26 | (simp only [Int.reduceToNat] at ho26; rw [← Ny1006.out] at ho26))
                                      have n0_ := am (Kd.N_elder' (by (with_reducible repeat (first | apply Kd.N_alloc | apply Kd.N_drewN | apply Kd.N_drew)); exact HO_3.out) (by first | exact Kd.N_base ho26 | exact Kd.N_base (Kd.S_N ho26)) hb)
                                      have n1_ := am (Kd.R_below (by (with_reducible repeat (first | apply Kd.R_alloc | apply Kd.R_drewN | apply Kd.R_drew)); exact HO_6.out) hb)
                                      have n2_ := am (Kd.V_elder' (by (with_reducible repeat (first | apply Kd.V_alloc | apply Kd.V_drewN | apply Kd.V_drew)); exact HL1004_0.out) (by first | exact Kd.N_base ho26 | exact Kd.N_base (Kd.S_N ho26)) hb)
                                      have n3_ := am (Kd.V_elder' (by (with_reducible repeat (first | apply Kd.V_alloc | apply Kd.V_drewN | apply Kd.V_drew)); exact HO1013.out) (by first | exact Kd.N_base ho26 | exact Kd.N_base (Kd.S_N ho26)) hb)
                                      have n4_ := am (Kd.V_elder' (by (with_reducible repeat (first | apply Kd.V_alloc | apply Kd.V_drewN | apply Kd.V_drew)); exact HO1027.out) (by first | exact Kd.N_base ho26 | exact Kd.N_base (Kd.S_N ho26)) hb)
                                      have n5_ := am (Kd.N_lower ho26 (below_size (by repeat (first | (with_reducible first | exact HB.out | apply below_alloc | apply pw_below_drewN | apply below_drew1) | exact HB.out))))
                                      have n6_ := am (Kd.C_below (by repeat (first | (with_reducible exact HR1004_0.out) | (with_reducible refine Kd.C_alloc ?_ _) | (with_reducible refine Kd.C_drewN ?_ _) | (with_reducible refine Kd.C_drew ?_) | exact HR1004_0.out)) hb)
                                      have n7_ := am (below_step (by repeat (first | (with_reducible first | exact HB.out | apply below_alloc | apply pw_below_drewN | apply below_drew1) | exact HB.out)) hb)
                                      clear HO_3
                                      clear HO_6
                                      clear HL1004_0
                                      clear HO1013
                                      clear HO1027
                                      clear HR1004_0
                                      clear HB
                                      have HO_3 := n0_
                                      have HO_6 := n1_
                                      have HL1004_0 := n2_
                                      have HO1013 := n3_
                                      have HO1027 := n4_
                                      have HO1008 := n5_
                                      have HR1004_0 := n6_
                                      have HB := n7_
                                      clear n0_ n1_ n2_ n3_ n4_ n5_ n6_ n7_
                                      clear hb ho26
                                      refine hK.out _ _ trivial (fun hHeld => ?_)
                                      clear hK K
                                      refine norm_ (a' := ?_) ?_ ?_
                                      rotate_left
                                      · show Act.put _ (some 49) _ = _
                                        simp only [Act.put, List.setIfInBounds_toArray, List.set_cons_zero, List.set_cons_succ, i64_w, i32_w]
                                        rfl
                                      refine two_ (i := 4) (j := 6) (Ni := some 53) (Nj := some 55) #[true, true, true, true, true, true, false, false, true, true, true, false, false] #[true, true, true, true, false, true, true, false, true, true, true, false, false] rfl rfl rfl rfl (two_of HT_.out (by kernel_rfl)) (by decide) (by decide) (fun K hK => ?_) (fun K hK => ?_)
                                      · skip
                                        refine Kd.N_append_rows_step (Kd.slice 3 (Kd.int .i64)) (w0 := w) w.heap.size (by rfl) (.tmp 49) (.tmp 52) 30 27 (.slice none 0 0) 24 rfl Try.underlying30 info27 rfl (by decide) (by omega) v1007 y1006 y1009 _ _ _ (fun k_ => (w.heap.size ≤ k_) ∧ some k_ ≠ (.slice Ao21 t1001.length co21 : Value).ownBlock) (fun k_ => ((fun k_ => (w.heap.size ≤ k_) ∧ some k_ ≠ (.slice Ao21 t1001.length co21 : Value).ownBlock)) k_ ∧ some k_ ≠ (v1007 : Value).ownBlock) rfl rfl ?aO ?aR (fun _ hk => hk) ?aF ?aB ?aS ?aL ?_
                                        (case aR => exact (by skip; exact Kd.V_F (Kd.V_mono (ok' := (fun k_ => ((fun k_ => (w.heap.size ≤ k_) ∧ some k_ ≠ (.slice Ao21 t1001.length co21 : Value).ownBlock)) k_ ∧ some k_ ≠ (v1007 : Value).ownBlock)) (HO1013.out) (fun k_ hk => ⟨⟨hk.1.1, hk.1.2⟩, hk.2⟩))))
                                        (case aB => exact (by repeat (first | (with_reducible first | exact HB.out | apply below_alloc | apply pw_below_drewN | apply below_drew1) | exact HB.out)))
                                        (case aF => exact (fun k_ hk => ⟨(Nat.le_trans (below_size (by repeat (first | (with_reducible first | exact HB.out | apply below_alloc | apply pw_below_drewN | apply below_drew1) | exact HB.out))) hk), Kd.fresh' (Kd.R_lt (by (with_reducible repeat (first | apply Kd.R_alloc | apply Kd.R_drewN | apply Kd.R_drew)); exact HO_6.out)) k_ hk⟩))
                                        (case aO => exact (by (with_reducible repeat (first | apply Kd.N_alloc | apply Kd.N_drewN | apply Kd.N_drew)); exact Kd.N_mono HO1008.out (fun _ hk => ⟨hk.1, hk.2.2⟩)))
                                        (case aS => exact (below_size (by repeat (first | (with_reducible first | exact HB.out | apply below_alloc | apply pw_below_drewN | apply below_drew1) | exact HB.out))))
                                        (case aL => have := LMc15.out; omega)
                                        intro v1015 w27 ho hb hg hat
                                        rw [← Ny1014.out] at ho
                                        have n0_ := am (Kd.N_afterv (ok := (fun k_ => (w.heap.size ≤ k_) ∧ some k_ ≠ (.slice Ao21 t1001.length co21 : Value).ownBlock)) (by (with_reducible repeat (first | apply Kd.N_alloc | apply Kd.N_drewN | apply Kd.N_drew)); exact HO_3.out) hg hat)
                                        have n1_ := am (Kd.R_over' (by (with_reducible repeat (first | apply Kd.R_alloc | apply Kd.R_drewN | apply Kd.R_drew)); exact HO_6.out) (Kd.N_typed (by (with_reducible repeat (first | apply Kd.N_alloc | apply Kd.N_drewN | apply Kd.N_drew)); exact HO1008.out)) (by decide) hg)
                                        have n2_ := am (Kd.V_afterv (ok := (fun k_ => (w.heap.size ≤ k_) ∧ some k_ ≠ (.slice (some ad1004) x3_2.length co20 : Value).ownBlock ∧ some k_ ≠ (.slice Ao21 t1001.length co21 : Value).ownBlock)) (by (with_reducible repeat (first | apply Kd.V_alloc | apply Kd.V_drewN | apply Kd.V_drew)); exact Kd.V_mono HL1004_0.out (fun _ hk => hk)) hg hat)
                                        have n3_ := am (Kd.V_afterv (ok := (fun k_ => (w.heap.size ≤ k_) ∧ some k_ ≠ (.slice Ao21 t1001.length co21 : Value).ownBlock)) (by (with_reducible repeat (first | apply Kd.V_alloc | apply Kd.V_drewN | apply Kd.V_drew)); exact HO1013.out) hg hat)
                                        have n4_ := am (Kd.V_afterv (ok := (fun k_ => (w.heap.size ≤ k_) ∧ some k_ ≠ (.slice Ao21 t1001.length co21 : Value).ownBlock)) (by (with_reducible repeat (first | apply Kd.V_alloc | apply Kd.V_drewN | apply Kd.V_drew)); exact HO1027.out) hg hat)
                                        have n5_ := am (hb)
                                        have n6_ := am (ho)
                                        clear HO_3
                                        clear HO_6
                                        clear HL1004_0
                                        clear HO1013
                                        clear HO1027
                                        clear HB
                                        clear HO1008
                                        have HO_3 := n0_
                                        have HO_6 := n1_
                                        have HL1004_0 := n2_
                                        have HO1013 := n3_
                                        have HO1027 := n4_
                                        have HB := n5_
                                        have HO1016 := n6_
                                        clear n0_ n1_ n2_ n3_ n4_ n5_ n6_
                                        clear ho hb hg hat
                                        refine hK.out _ _ trivial (fun hHeld => ?_)
                                        clear hK K
                                        refine norm_ (a' := ?_) ?_ ?_
                                        rotate_left
                                        · show Act.put _ (some 53) _ = _
                                          simp only [Act.put, List.setIfInBounds_toArray, List.set_cons_zero, List.set_cons_succ, i64_w, i32_w]
                                          rfl
                                        refine one_ (i := 6) (N := some 55) #[true, true, true, true, true, true, true, false, true, true, true, false, false] rfl rfl (one_of HT_.out (by kernel_rfl)) (by decide) (fun K hK => ?_)
                                        refine Kd.N_lit_step (Kd.slice 3 (Kd.int .i64)) _ 27 ?hg (N' := 55) ?hd (xs := ([t1001] : List (List Int))) (inner := [.slice Ao21 t1001.length co21]) (ok := (fun k_ => (w.heap.size ≤ k_) ∧ some k_ ≠ (.slice (some ad1004) x3_2.length co20 : Value).ownBlock ∧ some k_ ≠ (v1015 : Value).ownBlock)) (okp := (fun k_ => (w.heap.size ≤ k_) ∧ some k_ ≠ (.slice (some ad1004) x3_2.length co20 : Value).ownBlock ∧ some k_ ≠ (v1015 : Value).ownBlock)) ?hr ?hp (fun _ hk => hk) ((show ∀ k_, w27.heap.size ≤ k_ → (fun k_ => (w.heap.size ≤ k_) ∧ some k_ ≠ (.slice (some ad1004) x3_2.length co20 : Value).ownBlock ∧ some k_ ≠ (v1015 : Value).ownBlock) k_ from fun k_ hk => ⟨(Nat.le_trans (below_size (by repeat (first | (with_reducible first | exact HB.out | apply below_alloc | apply pw_below_drewN | apply below_drew1) | exact HB.out))) hk), Kd.fresh' (Kd.N_lt (by (with_reducible repeat (first | apply Kd.N_alloc | apply Kd.N_drewN | apply Kd.N_drew)); exact HO_3.out)) k_ hk, Kd.fresh' (Kd.N_lt (by (with_reducible repeat (first | apply Kd.N_alloc | apply Kd.N_drewN | apply Kd.N_drew)); exact HO1016.out)) k_ hk⟩) _ (Nat.le_refl _)) (Below.refl _ _) (Nat.le_refl _) (by simp) ?_; (case hd => rfl); (case hg => rfl); (case hr => first | (go_simp; done) | (go_simp; rfl)); (case hp => exact (Reps.one (show Kd.FK (Kd.slice 3 (Kd.int .i64)) _ _ t1001 [.slice Ao21 t1001.length co21] from (Kd.FK_slice_mk (Kd.R_reads' (Kd.R_mono (ok' := (fun k_ => (w.heap.size ≤ k_) ∧ some k_ ≠ (.slice (some ad1004) x3_2.length co20 : Value).ownBlock ∧ some k_ ≠ (v1015 : Value).ownBlock)) (Kd.R_apart' (Kd.R_apart' (HO_6.out) (Kd.N_typed HO_3.out) (by decide)) (Kd.N_typed HO1016.out) (by decide)) (fun k_ hk => ⟨hk.1.1, ⟨hk.1.2, hk.2⟩⟩))).2.1 (Kd.R_F (Kd.R_mono (ok' := (fun k_ => (w.heap.size ≤ k_) ∧ some k_ ≠ (.slice (some ad1004) x3_2.length co20 : Value).ownBlock ∧ some k_ ≠ (v1015 : Value).ownBlock)) (Kd.R_apart' (Kd.R_apart' (HO_6.out) (Kd.N_typed HO_3.out) (by decide)) (Kd.N_typed HO1016.out) (by decide)) (fun k_ hk => ⟨hk.1.1, ⟨hk.1.2, hk.2⟩⟩))))) (Reps.none _ _)))
                                        intro v1018 w28 ho29 hb hg_ hnew_
                                        clear hg_ hnew_
                                        (first | rw [← Ny1017.out] at ho29 | (simp only [Int.reduceToNat] at ho29; rw [← Ny1017.out] at ho29))
                                        have n0_ := am (Kd.N_elder' (by (with_reducible repeat (first | apply Kd.N_alloc | apply Kd.N_drewN | apply Kd.N_drew)); exact HO_3.out) (by first | exact Kd.N_base ho29 | exact Kd.N_base (Kd.S_N ho29)) hb)
                                        have n1_ := am (Kd.V_elder' (by (with_reducible repeat (first | apply Kd.V_alloc | apply Kd.V_drewN | apply Kd.V_drew)); exact HL1004_0.out) (by first | exact Kd.N_base ho29 | exact Kd.N_base (Kd.S_N ho29)) hb)
                                        have n2_ := am (Kd.V_elder' (by (with_reducible repeat (first | apply Kd.V_alloc | apply Kd.V_drewN | apply Kd.V_drew)); exact HO1013.out) (by first | exact Kd.N_base ho29 | exact Kd.N_base (Kd.S_N ho29)) hb)
                                        have n3_ := am (Kd.V_elder' (by (with_reducible repeat (first | apply Kd.V_alloc | apply Kd.V_drewN | apply Kd.V_drew)); exact HO1027.out) (by first | exact Kd.N_base ho29 | exact Kd.N_base (Kd.S_N ho29)) hb)
                                        have n4_ := am (Kd.N_elder' (by (with_reducible repeat (first | apply Kd.N_alloc | apply Kd.N_drewN | apply Kd.N_drew)); exact HO1016.out) (by first | exact Kd.N_base ho29 | exact Kd.N_base (Kd.S_N ho29)) hb)
                                        have n5_ := am (Kd.N_lower ho29 (below_size (by repeat (first | (with_reducible first | exact HB.out | apply below_alloc | apply pw_below_drewN | apply below_drew1) | exact HB.out))))
                                        have n6_ := am (below_step (by repeat (first | (with_reducible first | exact HB.out | apply below_alloc | apply pw_below_drewN | apply below_drew1) | exact HB.out)) hb)
                                        clear HO_3
                                        clear HL1004_0
                                        clear HO1013
                                        clear HO1027
                                        clear HO1016
                                        clear HB
                                        clear HO_6
                                        have HO_3 := n0_
                                        have HL1004_0 := n1_
                                        have HO1013 := n2_
                                        have HO1027 := n3_
                                        have HO1016 := n4_
                                        have HO1019 := n5_
                                        have HB := n6_
                                        clear n0_ n1_ n2_ n3_ n4_ n5_ n6_
                                        clear hb ho29
                                        refine hK.out _ _ trivial (fun hHeld => ?_)
                                        clear hK K
                                        refine norm_ (a' := ?_) ?_ ?_
                                        rotate_left
                                        · show Act.put _ (some 55) _ = _
                                          simp only [Act.put, List.setIfInBounds_toArray, List.set_cons_zero, List.set_cons_succ, i64_w, i32_w]
                                          rfl
                                        exact norm_ (by simp only [putAll, Act.put, List.setIfInBounds_toArray, List.set_cons_zero, List.set_cons_succ]) (hCont (v1007, v1015, v1018) _ ⟨(by (with_reducible repeat (first | apply Kd.V_alloc | apply Kd.V_drewN | apply Kd.V_drew)); exact Kd.V_mono HL1004_0.out (fun _ hk => ⟨hk.1.1.1, ⟨hk.1.2, ⟨hk.2, hk.1.1.2.1⟩⟩⟩)), (by (with_reducible repeat (first | apply Kd.V_alloc | apply Kd.V_drewN | apply Kd.V_drew)); exact Kd.V_mono HO1013.out (fun _ hk => ⟨hk.1.1.1, ⟨hk.1.2, hk.2⟩⟩)), (by (with_reducible repeat (first | apply Kd.N_alloc | apply Kd.N_drewN | apply Kd.N_drew)); exact Kd.N_mono HO1016.out (fun _ hk => ⟨hk.1.1, hk.2⟩)), (by (with_reducible repeat (first | apply Kd.N_alloc | apply Kd.N_drewN | apply Kd.N_drew)); exact Kd.N_mono HO1019.out (fun _ hk => ⟨hk.1, ⟨hk.2.2, hk.2.1⟩⟩)), (by (with_reducible repeat (first | apply Kd.V_alloc | apply Kd.V_drewN | apply Kd.V_drew)); exact Kd.V_mono HO1027.out (fun _ hk => ⟨hk.1.1.1, ⟨hk.1.2, hk.2⟩⟩)), (by (with_reducible repeat (first | apply Kd.N_alloc | apply Kd.N_drewN | apply Kd.N_drew)); exact Kd.N_mono HO_3.out (fun _ hk => ⟨hk.1.1.1, ⟨hk.1.2, hk.2⟩⟩)), (by repeat (first | (with_reducible first | exact HB.out | apply below_alloc | apply pw_below_drewN | apply below_drew1) | exact HB.out))⟩)
                                      · skip
                                        refine Kd.N_lit_step (Kd.slice 3 (Kd.int .i64)) _ 27 ?hg (N' := 55) ?hd (xs := ([t1001] : List (List Int))) (inner := [.slice Ao21 t1001.length co21]) (ok := (fun k_ => (w.heap.size ≤ k_) ∧ some k_ ≠ (.slice (some ad1004) x3_2.length co20 : Value).ownBlock ∧ some k_ ≠ (v1007 : Value).ownBlock)) (okp := (fun k_ => (w.heap.size ≤ k_) ∧ some k_ ≠ (.slice (some ad1004) x3_2.length co20 : Value).ownBlock ∧ some k_ ≠ (v1007 : Value).ownBlock)) ?hr ?hp (fun _ hk => hk) ((show ∀ k_, w25.heap.size ≤ k_ → (fun k_ => (w.heap.size ≤ k_) ∧ some k_ ≠ (.slice (some ad1004) x3_2.length co20 : Value).ownBlock ∧ some k_ ≠ (v1007 : Value).ownBlock) k_ from fun k_ hk => ⟨(Nat.le_trans (below_size (by repeat (first | (with_reducible first | exact HB.out | apply below_alloc | apply pw_below_drewN | apply below_drew1) | exact HB.out))) hk), Kd.fresh' (Kd.N_lt (by (with_reducible repeat (first | apply Kd.N_alloc | apply Kd.N_drewN | apply Kd.N_drew)); exact HO_3.out)) k_ hk, Kd.fresh' (Kd.N_lt (by (with_reducible repeat (first | apply Kd.N_alloc | apply Kd.N_drewN | apply Kd.N_drew)); exact HO1008.out)) k_ hk⟩) _ (Nat.le_refl _)) (Below.refl _ _) (Nat.le_refl _) (by simp) ?_; (case hd => rfl); (case hg => rfl); (case hr => first | (go_simp; done) | (go_simp; rfl)); (case hp => exact (Reps.one (show Kd.FK (Kd.slice 3 (Kd.int .i64)) _ _ t1001 [.slice Ao21 t1001.length co21] from (Kd.FK_slice_mk (Kd.R_reads' (Kd.R_mono (ok' := (fun k_ => (w.heap.size ≤ k_) ∧ some k_ ≠ (.slice (some ad1004) x3_2.length co20 : Value).ownBlock ∧ some k_ ≠ (v1007 : Value).ownBlock)) (Kd.R_apart' (Kd.R_apart' (HO_6.out) (Kd.N_typed HO_3.out) (by decide)) (Kd.N_typed HO1008.out) (by decide)) (fun k_ hk => ⟨hk.1.1, ⟨hk.1.2, hk.2⟩⟩))).2.1 (Kd.R_F (Kd.R_mono (ok' := (fun k_ => (w.heap.size ≤ k_) ∧ some k_ ≠ (.slice (some ad1004) x3_2.length co20 : Value).ownBlock ∧ some k_ ≠ (v1007 : Value).ownBlock)) (Kd.R_apart' (Kd.R_apart' (HO_6.out) (Kd.N_typed HO_3.out) (by decide)) (Kd.N_typed HO1008.out) (by decide)) (fun k_ hk => ⟨hk.1.1, ⟨hk.1.2, hk.2⟩⟩))))) (Reps.none _ _)))
                                        intro v1018 w27 ho28 hb hg_ hnew_
                                        clear hg_ hnew_
                                        (first | rw [← Ny1017.out] at ho28 | (simp only [Int.reduceToNat] at ho28; rw [← Ny1017.out] at ho28))
                                        have n0_ := am (Kd.N_elder' (by (with_reducible repeat (first | apply Kd.N_alloc | apply Kd.N_drewN | apply Kd.N_drew)); exact HO_3.out) (by first | exact Kd.N_base ho28 | exact Kd.N_base (Kd.S_N ho28)) hb)
                                        have n1_ := am (Kd.V_elder' (by (with_reducible repeat (first | apply Kd.V_alloc | apply Kd.V_drewN | apply Kd.V_drew)); exact HL1004_0.out) (by first | exact Kd.N_base ho28 | exact Kd.N_base (Kd.S_N ho28)) hb)
                                        have n2_ := am (Kd.V_elder' (by (with_reducible repeat (first | apply Kd.V_alloc | apply Kd.V_drewN | apply Kd.V_drew)); exact HO1013.out) (by first | exact Kd.N_base ho28 | exact Kd.N_base (Kd.S_N ho28)) hb)
                                        have n3_ := am (Kd.V_elder' (by (with_reducible repeat (first | apply Kd.V_alloc | apply Kd.V_drewN | apply Kd.V_drew)); exact HO1027.out) (by first | exact Kd.N_base ho28 | exact Kd.N_base (Kd.S_N ho28)) hb)
                                        have n4_ := am (Kd.N_elder' (by (with_reducible repeat (first | apply Kd.N_alloc | apply Kd.N_drewN | apply Kd.N_drew)); exact HO1008.out) (by first | exact Kd.N_base ho28 | exact Kd.N_base (Kd.S_N ho28)) hb)
                                        have n5_ := am (Kd.N_lower ho28 (below_size (by repeat (first | (with_reducible first | exact HB.out | apply below_alloc | apply pw_below_drewN | apply below_drew1) | exact HB.out))))
                                        have n6_ := am (Kd.C_below (by repeat (first | (with_reducible exact HR1004_0.out) | (with_reducible refine Kd.C_alloc ?_ _) | (with_reducible refine Kd.C_drewN ?_ _) | (with_reducible refine Kd.C_drew ?_) | exact HR1004_0.out)) hb)
                                        have n7_ := am (below_step (by repeat (first | (with_reducible first | exact HB.out | apply below_alloc | apply pw_below_drewN | apply below_drew1) | exact HB.out)) hb)
                                        clear HO_3
                                        clear HL1004_0
                                        clear HO1013
                                        clear HO1027
                                        clear HO1008
                                        clear HR1004_0
                                        clear HB
                                        clear HO_6
                                        have HO_3 := n0_
                                        have HL1004_0 := n1_
                                        have HO1013 := n2_
                                        have HO1027 := n3_
                                        have HO1008 := n4_
                                        have HO1019 := n5_
                                        have HR1004_0 := n6_
                                        have HB := n7_
                                        clear n0_ n1_ n2_ n3_ n4_ n5_ n6_ n7_
                                        clear hb ho28
                                        refine hK.out _ _ trivial (fun hHeld => ?_)
                                        clear hK K
                                        refine norm_ (a' := ?_) ?_ ?_
                                        rotate_left
                                        · show Act.put _ (some 55) _ = _
                                          simp only [Act.put, List.setIfInBounds_toArray, List.set_cons_zero, List.set_cons_succ, i64_w, i32_w]
                                          rfl
                                        refine one_ (i := 4) (N := some 53) #[true, true, true, true, true, true, true, false, true, true, true, false, false] rfl rfl (one_of HT_.out (by kernel_rfl)) (by decide) (fun K hK => ?_)
                                        refine Kd.N_append_rows_step (Kd.slice 3 (Kd.int .i64)) (w0 := w) w.heap.size (by rfl) (.tmp 49) (.tmp 52) 30 27 (.slice none 0 0) 24 rfl Try.underlying30 info27 rfl (by decide) (by omega) v1007 y1006 y1009 _ _ _ (fun k_ => (w.heap.size ≤ k_) ∧ some k_ ≠ (v1018 : Value).ownBlock) (fun k_ => ((fun k_ => (w.heap.size ≤ k_) ∧ some k_ ≠ (v1018 : Value).ownBlock)) k_ ∧ some k_ ≠ (v1007 : Value).ownBlock) rfl rfl ?aO ?aR (fun _ hk => hk) ?aF ?aB ?aS ?aL ?_
                                        (case aR => exact (by skip; exact Kd.V_F (Kd.V_mono (ok' := (fun k_ => ((fun k_ => (w.heap.size ≤ k_) ∧ some k_ ≠ (v1018 : Value).ownBlock)) k_ ∧ some k_ ≠ (v1007 : Value).ownBlock)) (HO1013.out) (fun k_ hk => ⟨⟨hk.1.1.1, hk.2⟩, hk.1.2⟩))))
                                        (case aB => exact (by repeat (first | (with_reducible first | exact HB.out | apply below_alloc | apply pw_below_drewN | apply below_drew1) | exact HB.out)))
                                        (case aF => exact (fun k_ hk => ⟨(Nat.le_trans (below_size (by repeat (first | (with_reducible first | exact HB.out | apply below_alloc | apply pw_below_drewN | apply below_drew1) | exact HB.out))) hk), Kd.fresh' (Kd.N_lt (by (with_reducible repeat (first | apply Kd.N_alloc | apply Kd.N_drewN | apply Kd.N_drew)); exact HO1019.out)) k_ hk⟩))
                                        (case aO => exact (by (with_reducible repeat (first | apply Kd.N_alloc | apply Kd.N_drewN | apply Kd.N_drew)); exact Kd.N_mono HO1008.out (fun _ hk => ⟨hk.1.1, hk.2⟩)))
                                        (case aS => exact (below_size (by repeat (first | (with_reducible first | exact HB.out | apply below_alloc | apply pw_below_drewN | apply below_drew1) | exact HB.out))))
                                        (case aL => have := LMc15.out; omega)
                                        intro v1015 w29 ho hb hg hat
                                        rw [← Ny1014.out] at ho
                                        have n0_ := am (Kd.N_afterv (ok := (fun k_ => (w.heap.size ≤ k_) ∧ some k_ ≠ (v1018 : Value).ownBlock)) (by (with_reducible repeat (first | apply Kd.N_alloc | apply Kd.N_drewN | apply Kd.N_drew)); exact Kd.N_mono HO_3.out (fun _ hk => ⟨⟨hk.1.1.1, hk.2⟩, hk.1.2⟩)) hg hat)
                                        have n1_ := am (Kd.V_afterv (ok := (fun k_ => (w.heap.size ≤ k_) ∧ some k_ ≠ (.slice (some ad1004) x3_2.length co20 : Value).ownBlock ∧ some k_ ≠ (v1018 : Value).ownBlock)) (by (with_reducible repeat (first | apply Kd.V_alloc | apply Kd.V_drewN | apply Kd.V_drew)); exact Kd.V_mono HL1004_0.out (fun _ hk => ⟨⟨hk.1.1.1, ⟨hk.1.1.2.1, hk.2⟩⟩, hk.1.2⟩)) hg hat)
                                        have n2_ := am (Kd.V_afterv (ok := (fun k_ => (w.heap.size ≤ k_) ∧ some k_ ≠ (v1018 : Value).ownBlock)) (by (with_reducible repeat (first | apply Kd.V_alloc | apply Kd.V_drewN | apply Kd.V_drew)); exact Kd.V_mono HO1013.out (fun _ hk => ⟨⟨hk.1.1.1, hk.2⟩, hk.1.2⟩)) hg hat)
                                        have n3_ := am (Kd.V_afterv (ok := (fun k_ => (w.heap.size ≤ k_) ∧ some k_ ≠ (v1018 : Value).ownBlock)) (by (with_reducible repeat (first | apply Kd.V_alloc | apply Kd.V_drewN | apply Kd.V_drew)); exact Kd.V_mono HO1027.out (fun _ hk => ⟨⟨hk.1.1.1, hk.2⟩, hk.1.2⟩)) hg hat)
                                        have n4_ := am (Kd.N_afterv (ok := (fun k_ => (w.heap.size ≤ k_) ∧ some k_ ≠ (.slice (some ad1004) x3_2.length co20 : Value).ownBlock)) (by (with_reducible repeat (first | apply Kd.N_alloc | apply Kd.N_drewN | apply Kd.N_drew)); exact Kd.N_mono HO1019.out (fun _ hk => ⟨⟨hk.1, hk.2.1⟩, hk.2.2⟩)) hg hat)
                                        have n5_ := am (hb)
                                        have n6_ := am (ho)
                                        clear HO_3
                                        clear HL1004_0
                                        clear HO1013
                                        clear HO1027
                                        clear HO1019
                                        clear HB
                                        clear HO1008
                                        have HO_3 := n0_
                                        have HL1004_0 := n1_
                                        have HO1013 := n2_
                                        have HO1027 := n3_
                                        have HO1019 := n4_
                                        have HB := n5_
                                        have HO1016 := n6_
                                        clear n0_ n1_ n2_ n3_ n4_ n5_ n6_
                                        clear ho hb hg hat
                                        refine hK.out _ _ trivial (fun hHeld => ?_)
                                        clear hK K
                                        refine norm_ (a' := ?_) ?_ ?_
                                        rotate_left
                                        · show Act.put _ (some 53) _ = _
                                          simp only [Act.put, List.setIfInBounds_toArray, List.set_cons_zero, List.set_cons_succ, i64_w, i32_w]
                                          rfl
                                        exact norm_ (by simp only [putAll, Act.put, List.setIfInBounds_toArray, List.set_cons_zero, List.set_cons_succ]) (hCont (v1007, v1015, v1018) _ ⟨(by (with_reducible repeat (first | apply Kd.V_alloc | apply Kd.V_drewN | apply Kd.V_drew)); exact Kd.V_mono HL1004_0.out (fun _ hk => ⟨hk.1.1, ⟨hk.2, ⟨hk.1.2.2, hk.1.2.1⟩⟩⟩)), (by (with_reducible repeat (first | apply Kd.V_alloc | apply Kd.V_drewN | apply Kd.V_drew)); exact Kd.V_mono HO1013.out (fun _ hk => ⟨hk.1.1, ⟨hk.2, hk.1.2⟩⟩)), (by (with_reducible repeat (first | apply Kd.N_alloc | apply Kd.N_drewN | apply Kd.N_drew)); exact HO1016.out), (by (with_reducible repeat (first | apply Kd.N_alloc | apply Kd.N_drewN | apply Kd.N_drew)); exact Kd.N_mono HO1019.out (fun _ hk => ⟨hk.1.1, ⟨hk.2, hk.1.2⟩⟩)), (by (with_reducible repeat (first | apply Kd.V_alloc | apply Kd.V_drewN | apply Kd.V_drew)); exact Kd.V_mono HO1027.out (fun _ hk => ⟨hk.1.1, ⟨hk.2, hk.1.2⟩⟩)), (by (with_reducible repeat (first | apply Kd.N_alloc | apply Kd.N_drewN | apply Kd.N_drew)); exact Kd.N_mono HO_3.out (fun _ hk => ⟨hk.1.1, ⟨hk.2, hk.1.2⟩⟩)), (by repeat (first | (with_reducible first | exact HB.out | apply below_alloc | apply pw_below_drewN | apply below_drew1) | exact HB.out))⟩)
                                    · skip
                                      refine Kd.N_lit_step (Kd.slice 3 (Kd.int .i64)) _ 27 ?hg (N' := 55) ?hd (xs := ([t1001] : List (List Int))) (inner := [.slice Ao21 t1001.length co21]) (ok := (fun k_ => (w.heap.size ≤ k_) ∧ some k_ ≠ (.slice (some ad1004) x3_2.length co20 : Value).ownBlock)) (okp := (fun k_ => (w.heap.size ≤ k_) ∧ some k_ ≠ (.slice (some ad1004) x3_2.length co20 : Value).ownBlock)) ?hr ?hp (fun _ hk => hk) ((show ∀ k_, w22.heap.size ≤ k_ → (fun k_ => (w.heap.size ≤ k_) ∧ some k_ ≠ (.slice (some ad1004) x3_2.length co20 : Value).ownBlock) k_ from fun k_ hk => ⟨(Nat.le_trans (below_size (by repeat (first | (with_reducible first | exact HB.out | apply below_alloc | apply pw_below_drewN | apply below_drew1) | exact HB.out))) hk), Kd.fresh' (Kd.N_lt (by (with_reducible repeat (first | apply Kd.N_alloc | apply Kd.N_drewN | apply Kd.N_drew)); exact HO_3.out)) k_ hk⟩) _ (Nat.le_refl _)) (Below.refl _ _) (Nat.le_refl _) (by simp) ?_; (case hd => rfl); (case hg => rfl); (case hr => first | (go_simp; done) | (go_simp; rfl)); (case hp => exact (Reps.one (show Kd.FK (Kd.slice 3 (Kd.int .i64)) _ _ t1001 [.slice Ao21 t1001.length co21] from (Kd.FK_slice_mk (Kd.R_reads' (Kd.R_mono (ok' := (fun k_ => (w.heap.size ≤ k_) ∧ some k_ ≠ (.slice (some ad1004) x3_2.length co20 : Value).ownBlock)) (Kd.R_apart' (HO_6.out) (Kd.N_typed HO_3.out) (by decide)) (fun k_ hk => ⟨hk.1, hk.2⟩))).2.1 (Kd.R_F (Kd.R_mono (ok' := (fun k_ => (w.heap.size ≤ k_) ∧ some k_ ≠ (.slice (some ad1004) x3_2.length co20 : Value).ownBlock)) (Kd.R_apart' (HO_6.out) (Kd.N_typed HO_3.out) (by decide)) (fun k_ hk => ⟨hk.1, hk.2⟩))))) (Reps.none _ _)))
                                      intro v1018 w25 ho26 hb hg_ hnew_
                                      clear hg_ hnew_
                                      (first | rw [← Ny1017.out] at ho26 | (simp only [Int.reduceToNat] at ho26; rw [← Ny1017.out] at ho26))
                                      have n0_ := am (Kd.N_elder' (by (with_reducible repeat (first | apply Kd.N_alloc | apply Kd.N_drewN | apply Kd.N_drew)); exact HO_3.out) (by first | exact Kd.N_base ho26 | exact Kd.N_base (Kd.S_N ho26)) hb)
                                      have n1_ := am (Kd.V_elder' (by (with_reducible repeat (first | apply Kd.V_alloc | apply Kd.V_drewN | apply Kd.V_drew)); exact HL1004_0.out) (by first | exact Kd.N_base ho26 | exact Kd.N_base (Kd.S_N ho26)) hb)
                                      have n2_ := am (Kd.V_elder' (by (with_reducible repeat (first | apply Kd.V_alloc | apply Kd.V_drewN | apply Kd.V_drew)); exact HO1013.out) (by first | exact Kd.N_base ho26 | exact Kd.N_base (Kd.S_N ho26)) hb)
                                      have n3_ := am (Kd.V_elder' (by (with_reducible repeat (first | apply Kd.V_alloc | apply Kd.V_drewN | apply Kd.V_drew)); exact HO1027.out) (by first | exact Kd.N_base ho26 | exact Kd.N_base (Kd.S_N ho26)) hb)
                                      have n4_ := am (Kd.N_lower ho26 (below_size (by repeat (first | (with_reducible first | exact HB.out | apply below_alloc | apply pw_below_drewN | apply below_drew1) | exact HB.out))))
                                      have n5_ := am (Kd.C_below (by repeat (first | (with_reducible exact HR1004_0.out) | (with_reducible refine Kd.C_alloc ?_ _) | (with_reducible refine Kd.C_drewN ?_ _) | (with_reducible refine Kd.C_drew ?_) | exact HR1004_0.out)) hb)
                                      have n6_ := am (below_step (by repeat (first | (with_reducible first | exact HB.out | apply below_alloc | apply pw_below_drewN | apply below_drew1) | exact HB.out)) hb)
                                      clear HO_3
                                      clear HL1004_0
                                      clear HO1013
                                      clear HO1027
                                      clear HR1004_0
                                      clear HB
                                      clear HO_6
                                      have HO_3 := n0_
                                      have HL1004_0 := n1_
                                      have HO1013 := n2_
                                      have HO1027 := n3_
                                      have HO1019 := n4_
                                      have HR1004_0 := n5_
                                      have HB := n6_
                                      clear n0_ n1_ n2_ n3_ n4_ n5_ n6_
                                      clear hb ho26
                                      refine hK.out _ _ trivial (fun hHeld => ?_)
                                      clear hK K
                                      refine norm_ (a' := ?_) ?_ ?_
                                      rotate_left
                                      · show Act.put _ (some 55) _ = _
                                        simp only [Act.put, List.setIfInBounds_toArray, List.set_cons_zero, List.set_cons_succ, i64_w, i32_w]
                                        rfl
                                      refine one_ (i := 0) (N := some 49) #[true, true, true, true, false, true, true, false, true, true, true, false, false] rfl rfl (one_of HT_.out (by kernel_rfl)) (by decide) (fun K hK => ?_)
                                      refine Kd.N_lit_step (Kd.slice 3 (Kd.int .i64)) _ 27 ?hg (N' := 49) ?hd (xs := ([] : List (List Int))) (inner := []) (ok := (fun k_ => (w.heap.size ≤ k_) ∧ some k_ ≠ (.slice (some ad1004) x3_2.length co20 : Value).ownBlock ∧ some k_ ≠ (v1018 : Value).ownBlock)) (okp := (fun k_ => (w.heap.size ≤ k_) ∧ some k_ ≠ (.slice (some ad1004) x3_2.length co20 : Value).ownBlock ∧ some k_ ≠ (v1018 : Value).ownBlock)) ?hr ?hp (fun _ hk => hk) ((show ∀ k_, w25.heap.size ≤ k_ → (fun k_ => (w.heap.size ≤ k_) ∧ some k_ ≠ (.slice (some ad1004) x3_2.length co20 : Value).ownBlock ∧ some k_ ≠ (v1018 : Value).ownBlock) k_ from fun k_ hk => ⟨(Nat.le_trans (below_size (by repeat (first | (with_reducible first | exact HB.out | apply below_alloc | apply pw_below_drewN | apply below_drew1) | exact HB.out))) hk), Kd.fresh' (Kd.N_lt (by (with_reducible repeat (first | apply Kd.N_alloc | apply Kd.N_drewN | apply Kd.N_drew)); exact HO_3.out)) k_ hk, Kd.fresh' (Kd.N_lt (by (with_reducible repeat (first | apply Kd.N_alloc | apply Kd.N_drewN | apply Kd.N_drew)); exact HO1019.out)) k_ hk⟩) _ (Nat.le_refl _)) (Below.refl _ _) (Nat.le_refl _) (by simp) ?_; (case hd => rfl); (case hg => rfl); (case hr => first | (go_simp; done) | (go_simp; rfl)); (case hp => exact (Reps.none _ _))
                                      intro v1007 w27 ho28 hb hg_ hnew_
                                      clear hg_ hnew_
                                      (first | rw [← Ny1006.out] at ho28 | (simp only [Int.reduceToNat] at ho28; rw [← Ny1006.out] at ho28))
                                      have n0_ := am (Kd.N_elder' (by (with_reducible repeat (first | apply Kd.N_alloc | apply Kd.N_drewN | apply Kd.N_drew)); exact HO_3.out) (by first | exact Kd.N_base ho28 | exact Kd.N_base (Kd.S_N ho28)) hb)
                                      have n1_ := am (Kd.V_elder' (by (with_reducible repeat (first | apply Kd.V_alloc | apply Kd.V_drewN | apply Kd.V_drew)); exact HL1004_0.out) (by first | exact Kd.N_base ho28 | exact Kd.N_base (Kd.S_N ho28)) hb)
                                      have n2_ := am (Kd.V_elder' (by (with_reducible repeat (first | apply Kd.V_alloc | apply Kd.V_drewN | apply Kd.V_drew)); exact HO1013.out) (by first | exact Kd.N_base ho28 | exact Kd.N_base (Kd.S_N ho28)) hb)
                                      have n3_ := am (Kd.V_elder' (by (with_reducible repeat (first | apply Kd.V_alloc | apply Kd.V_drewN | apply Kd.V_drew)); exact HO1027.out) (by first | exact Kd.N_base ho28 | exact Kd.N_base (Kd.S_N ho28)) hb)
                                      have n4_ := am (Kd.N_elder' (by (with_reducible repeat (first | apply Kd.N_alloc | apply Kd.N_drewN | apply Kd.N_drew)); exact HO1019.out) (by first | exact Kd.N_base ho28 | exact Kd.N_base (Kd.S_N ho28)) hb)
                                      have n5_ := am (Kd.N_lower ho28 (below_size (by repeat (first | (with_reducible first | exact HB.out | apply below_alloc | apply pw_below_drewN | apply below_drew1) | exact HB.out))))
                                      have n6_ := am (Kd.C_below (by repeat (first | (with_reducible exact HR1004_0.out) | (with_reducible refine Kd.C_alloc ?_ _) | (with_reducible refine Kd.C_drewN ?_ _) | (with_reducible refine Kd.C_drew ?_) | exact HR1004_0.out)) hb)
                                      have n7_ := am (below_step (by repeat (first | (with_reducible first | exact HB.out | apply below_alloc | apply pw_below_drewN | apply below_drew1) | exact HB.out)) hb)
                                      clear HO_3
                                      clear HL1004_0
                                      clear HO1013
                                      clear HO1027
                                      clear HO1019
                                      clear HR1004_0
                                      clear HB
                                      have HO_3 := n0_
                                      have HL1004_0 := n1_
                                      have HO1013 := n2_
                                      have HO1027 := n3_
                                      have HO1019 := n4_
                                      have HO1008 := n5_
                                      have HR1004_0 := n6_
                                      have HB := n7_
                                      clear n0_ n1_ n2_ n3_ n4_ n5_ n6_ n7_
                                      clear hb ho28
                                      refine hK.out _ _ trivial (fun hHeld => ?_)
                                      clear hK K
                                      refine norm_ (a' := ?_) ?_ ?_
                                      rotate_left
                                      · show Act.put _ (some 49) _ = _
                                        simp only [Act.put, List.setIfInBounds_toArray, List.set_cons_zero, List.set_cons_succ, i64_w, i32_w]
                                        rfl
                                      refine one_ (i := 4) (N := some 53) #[true, true, true, true, true, true, true, false, true, true, true, false, false] rfl rfl (one_of HT_.out (by kernel_rfl)) (by decide) (fun K hK => ?_)
                                      refine Kd.N_append_rows_step (Kd.slice 3 (Kd.int .i64)) (w0 := w) w.heap.size (by rfl) (.tmp 49) (.tmp 52) 30 27 (.slice none 0 0) 24 rfl Try.underlying30 info27 rfl (by decide) (by omega) v1007 y1006 y1009 _ _ _ (fun k_ => (w.heap.size ≤ k_) ∧ some k_ ≠ (v1018 : Value).ownBlock) (fun k_ => ((fun k_ => (w.heap.size ≤ k_) ∧ some k_ ≠ (v1018 : Value).ownBlock)) k_ ∧ some k_ ≠ (v1007 : Value).ownBlock) rfl rfl ?aO ?aR (fun _ hk => hk) ?aF ?aB ?aS ?aL ?_
                                      (case aR => exact (by skip; exact Kd.V_F (Kd.V_mono (ok' := (fun k_ => ((fun k_ => (w.heap.size ≤ k_) ∧ some k_ ≠ (v1018 : Value).ownBlock)) k_ ∧ some k_ ≠ (v1007 : Value).ownBlock)) (HO1013.out) (fun k_ hk => ⟨⟨hk.1.1.1, hk.1.2⟩, hk.2⟩))))
                                      (case aB => exact (by repeat (first | (with_reducible first | exact HB.out | apply below_alloc | apply pw_below_drewN | apply below_drew1) | exact HB.out)))
                                      (case aF => exact (fun k_ hk => ⟨(Nat.le_trans (below_size (by repeat (first | (with_reducible first | exact HB.out | apply below_alloc | apply pw_below_drewN | apply below_drew1) | exact HB.out))) hk), Kd.fresh' (Kd.N_lt (by (with_reducible repeat (first | apply Kd.N_alloc | apply Kd.N_drewN | apply Kd.N_drew)); exact HO1019.out)) k_ hk⟩))
                                      (case aO => exact (by (with_reducible repeat (first | apply Kd.N_alloc | apply Kd.N_drewN | apply Kd.N_drew)); exact Kd.N_mono HO1008.out (fun _ hk => ⟨hk.1, hk.2.2⟩)))
                                      (case aS => exact (below_size (by repeat (first | (with_reducible first | exact HB.out | apply below_alloc | apply pw_below_drewN | apply below_drew1) | exact HB.out))))
                                      (case aL => have := LMc15.out; omega)
                                      intro v1015 w29 ho hb hg hat
                                      rw [← Ny1014.out] at ho
                                      have n0_ := am (Kd.N_afterv (ok := (fun k_ => (w.heap.size ≤ k_) ∧ some k_ ≠ (v1018 : Value).ownBlock)) (by (with_reducible repeat (first | apply Kd.N_alloc | apply Kd.N_drewN | apply Kd.N_drew)); exact Kd.N_mono HO_3.out (fun _ hk => ⟨⟨hk.1.1.1, hk.1.2⟩, hk.2⟩)) hg hat)
                                      have n1_ := am (Kd.V_afterv (ok := (fun k_ => (w.heap.size ≤ k_) ∧ some k_ ≠ (.slice (some ad1004) x3_2.length co20 : Value).ownBlock ∧ some k_ ≠ (v1018 : Value).ownBlock)) (by (with_reducible repeat (first | apply Kd.V_alloc | apply Kd.V_drewN | apply Kd.V_drew)); exact Kd.V_mono HL1004_0.out (fun _ hk => ⟨⟨hk.1.1.1, ⟨hk.1.1.2.1, hk.1.2⟩⟩, hk.2⟩)) hg hat)
                                      have n2_ := am (Kd.V_afterv (ok := (fun k_ => (w.heap.size ≤ k_) ∧ some k_ ≠ (v1018 : Value).ownBlock)) (by (with_reducible repeat (first | apply Kd.V_alloc | apply Kd.V_drewN | apply Kd.V_drew)); exact Kd.V_mono HO1013.out (fun _ hk => ⟨⟨hk.1.1.1, hk.1.2⟩, hk.2⟩)) hg hat)
                                      have n3_ := am (Kd.V_afterv (ok := (fun k_ => (w.heap.size ≤ k_) ∧ some k_ ≠ (v1018 : Value).ownBlock)) (by (with_reducible repeat (first | apply Kd.V_alloc | apply Kd.V_drewN | apply Kd.V_drew)); exact Kd.V_mono HO1027.out (fun _ hk => ⟨⟨hk.1.1.1, hk.1.2⟩, hk.2⟩)) hg hat)
                                      have n4_ := am (Kd.N_afterv (ok := (fun k_ => (w.heap.size ≤ k_) ∧ some k_ ≠ (.slice (some ad1004) x3_2.length co20 : Value).ownBlock)) (by (with_reducible repeat (first | apply Kd.N_alloc | apply Kd.N_drewN | apply Kd.N_drew)); exact HO1019.out) hg hat)
                                      have n5_ := am (hb)
                                      have n6_ := am (ho)
                                      clear HO_3
                                      clear HL1004_0
                                      clear HO1013
                                      clear HO1027
                                      clear HO1019
                                      clear HB
                                      clear HO1008
                                      have HO_3 := n0_
                                      have HL1004_0 := n1_
                                      have HO1013 := n2_
                                      have HO1027 := n3_
                                      have HO1019 := n4_
                                      have HB := n5_
                                      have HO1016 := n6_
                                      clear n0_ n1_ n2_ n3_ n4_ n5_ n6_
                                      clear ho hb hg hat
                                      refine hK.out _ _ trivial (fun hHeld => ?_)
                                      clear hK K
                                      refine norm_ (a' := ?_) ?_ ?_
                                      rotate_left
                                      · show Act.put _ (some 53) _ = _
                                        simp only [Act.put, List.setIfInBounds_toArray, List.set_cons_zero, List.set_cons_succ, i64_w, i32_w]
                                        rfl
                                      exact norm_ (by simp only [putAll, Act.put, List.setIfInBounds_toArray, List.set_cons_zero, List.set_cons_succ]) (hCont (v1007, v1015, v1018) _ ⟨(by (with_reducible repeat (first | apply Kd.V_alloc | apply Kd.V_drewN | apply Kd.V_drew)); exact Kd.V_mono HL1004_0.out (fun _ hk => ⟨hk.1.1, ⟨hk.2, ⟨hk.1.2.2, hk.1.2.1⟩⟩⟩)), (by (with_reducible repeat (first | apply Kd.V_alloc | apply Kd.V_drewN | apply Kd.V_drew)); exact Kd.V_mono HO1013.out (fun _ hk => ⟨hk.1.1, ⟨hk.2, hk.1.2⟩⟩)), (by (with_reducible repeat (first | apply Kd.N_alloc | apply Kd.N_drewN | apply Kd.N_drew)); exact HO1016.out), (by (with_reducible repeat (first | apply Kd.N_alloc | apply Kd.N_drewN | apply Kd.N_drew)); exact Kd.N_mono HO1019.out (fun _ hk => ⟨hk.1.1, ⟨hk.2, hk.1.2⟩⟩)), (by (with_reducible repeat (first | apply Kd.V_alloc | apply Kd.V_drewN | apply Kd.V_drew)); exact Kd.V_mono HO1027.out (fun _ hk => ⟨hk.1.1, ⟨hk.2, hk.1.2⟩⟩)), (by (with_reducible repeat (first | apply Kd.N_alloc | apply Kd.N_drewN | apply Kd.N_drew)); exact Kd.N_mono HO_3.out (fun _ hk => ⟨hk.1.1, ⟨hk.2, hk.1.2⟩⟩)), (by repeat (first | (with_reducible first | exact HB.out | apply below_alloc | apply pw_below_drewN | apply below_drew1) | exact HB.out))⟩)
                                  rintro ⟨v1007, v1015, v1018⟩ w30 ⟨h0_, h1_, h2_, h3_, h4_, h5_, h6_⟩
                                  have n0_ : Aside0 (Kd.V (Kd.int .i64) 3 w30 w.heap.size (fun k_ => (w.heap.size ≤ k_) ∧ some k_ ≠ (v1015 : Value).ownBlock ∧ some k_ ≠ (v1018 : Value).ownBlock ∧ some k_ ≠ (.slice (some ad1004) x3_2.length co20 : Value).ownBlock) (.slice A1004_0 (rd_L1 x3_2 x7_3).length c1004_0) (rd_L1 x3_2 x7_3)) := ⟨h0_⟩
                                  have n1_ : Aside0 (Kd.V (Kd.slice 3 (Kd.int .i64)) 27 w30 w.heap.size (fun k_ => (w.heap.size ≤ k_) ∧ some k_ ≠ (v1015 : Value).ownBlock ∧ some k_ ≠ (v1018 : Value).ownBlock) (.slice (some ad1004) y1009.length co20) y1009) := ⟨h1_⟩
                                  have n2_ : Aside0 (Kd.N (Kd.slice 3 (Kd.int .i64)) 27 w30 w.heap.size (fun k_ => (w.heap.size ≤ k_) ∧ some k_ ≠ (v1018 : Value).ownBlock) v1015 y1014) := ⟨h2_⟩
                                  have n3_ : Aside0 (Kd.N (Kd.slice 3 (Kd.int .i64)) 27 w30 w.heap.size (fun k_ => (w.heap.size ≤ k_) ∧ some k_ ≠ (v1015 : Value).ownBlock ∧ some k_ ≠ (.slice (some ad1004) x3_2.length co20 : Value).ownBlock) v1018 y1017) := ⟨h3_⟩
                                  have n4_ : Aside0 (Kd.V (Kd.slice 3 (Kd.int .i64)) 27 w30 w.heap.size (fun k_ => (w.heap.size ≤ k_) ∧ some k_ ≠ (v1015 : Value).ownBlock ∧ some k_ ≠ (v1018 : Value).ownBlock) (.slice A24 y1023.length c24) y1023) := ⟨h4_⟩
                                  have n5_ : Aside0 (Kd.N (Kd.slice 3 (Kd.int .i64)) 27 w30 w.heap.size (fun k_ => (w.heap.size ≤ k_) ∧ some k_ ≠ (v1015 : Value).ownBlock ∧ some k_ ≠ (v1018 : Value).ownBlock) (.slice (some ad1004) x3_2.length co20) x3_2) := ⟨h5_⟩
                                  have n6_ : Aside0 (Below w.heap.size w w30) := ⟨h6_⟩
                                  clear HO_3
                                  clear HO_6
                                  clear HL1004_0
                                  clear HR1004_0
                                  clear HB
                                  clear h0_ h1_ h2_ h3_ h4_ h5_ h6_
                                  have HL1004_0 := n0_
                                  have HO1013 := n1_
                                  have HO1016 := n2_
                                  have HO1019 := n3_
                                  have HO1027 := n4_
                                  have HO_3 := n5_
                                  have HB := n6_
                                  clear n0_ n1_ n2_ n3_ n4_ n5_ n6_
                                  have hHeld := trivial
                                  obtain ⟨Ao32, co32, eo32⟩ := Kd.N_slice HO1019.out
                                  (first | subst eo32 | (injection eo32 with f1_ f2_ f3_; have f4_ := f1_.symm; have f5_ := f3_.symm; clear f1_ f2_ f3_; subst f4_; subst f5_))
                                  refine norm_ (a' := ?_) ?_ ?_
                                  rotate_left
                                  · simp only [putAll, Act.put, List.setIfInBounds_toArray, List.set_cons_zero, List.set_cons_succ]
                                    rfl
                                  refine one_ (i := 7) (N := some 56) #[true, true, true, true, true, true, true, true, true, true, true, false, false] rfl rfl (one_of HT_.out (by kernel_rfl)) (by decide) (fun K hK => ?_)
                                  refine Kd.N_append_rows_step (Kd.slice 3 (Kd.int .i64)) (w0 := w) w.heap.size (by rfl) (.tmp 53) (.tmp 55) 30 27 (.slice none 0 0) 24 rfl Try.underlying30 info27 rfl (by decide) (by omega) v1015 y1014 y1017 _ _ _ (fun k_ => (w.heap.size ≤ k_)) (fun k_ => ((fun k_ => (w.heap.size ≤ k_))) k_ ∧ some k_ ≠ (v1015 : Value).ownBlock) rfl rfl ?aO ?aR (fun _ hk => hk) ?aF ?aB ?aS ?aL ?_
                                  (case aR => exact (by skip; exact Kd.N_F (Kd.N_mono (ok' := (fun k_ => ((fun k_ => (w.heap.size ≤ k_))) k_ ∧ some k_ ≠ (v1015 : Value).ownBlock)) (HO1019.out) (fun k_ hk => ⟨hk.1, hk.2.1⟩))))
                                  (case aB => exact (by repeat (first | (with_reducible first | exact HB.out | apply below_alloc | apply pw_below_drewN | apply below_drew1) | exact HB.out)))
                                  (case aF => exact (fun k_ hk => (Nat.le_trans (below_size (by repeat (first | (with_reducible first | exact HB.out | apply below_alloc | apply pw_below_drewN | apply below_drew1) | exact HB.out))) hk)))
                                  (case aO => exact (by (with_reducible repeat (first | apply Kd.N_alloc | apply Kd.N_drewN | apply Kd.N_drew)); exact Kd.N_mono HO1016.out (fun _ hk => hk.1)))
                                  (case aS => exact (below_size (by repeat (first | (with_reducible first | exact HB.out | apply below_alloc | apply pw_below_drewN | apply below_drew1) | exact HB.out))))
                                  (case aL => have := LMc16.out; omega)
                                  intro v1021 w31 ho hb hg hat
                                  rw [← Ny1020.out] at ho
                                  have n0_ := am (Kd.N_afterv (ok := (fun k_ => (w.heap.size ≤ k_) ∧ some k_ ≠ (.slice Ao32 y1017.length co32 : Value).ownBlock)) (by (with_reducible repeat (first | apply Kd.N_alloc | apply Kd.N_drewN | apply Kd.N_drew)); exact Kd.N_mono HO_3.out (fun _ hk => ⟨⟨hk.1, hk.2.2⟩, hk.2.1⟩)) hg hat)
                                  have n1_ := am (Kd.V_afterv (ok := (fun k_ => (w.heap.size ≤ k_) ∧ some k_ ≠ (.slice (some ad1004) x3_2.length co20 : Value).ownBlock ∧ some k_ ≠ (.slice Ao32 y1017.length co32 : Value).ownBlock)) (by (with_reducible repeat (first | apply Kd.V_alloc | apply Kd.V_drewN | apply Kd.V_drew)); exact Kd.V_mono HL1004_0.out (fun _ hk => ⟨⟨hk.1, ⟨hk.2.2.2, hk.2.2.1⟩⟩, hk.2.1⟩)) hg hat)
                                  have n2_ := am (Kd.V_afterv (ok := (fun k_ => (w.heap.size ≤ k_) ∧ some k_ ≠ (.slice Ao32 y1017.length co32 : Value).ownBlock)) (by (with_reducible repeat (first | apply Kd.V_alloc | apply Kd.V_drewN | apply Kd.V_drew)); exact Kd.V_mono HO1013.out (fun _ hk => ⟨⟨hk.1, hk.2.2⟩, hk.2.1⟩)) hg hat)
                                  have n3_ := am (Kd.V_afterv (ok := (fun k_ => (w.heap.size ≤ k_) ∧ some k_ ≠ (.slice Ao32 y1017.length co32 : Value).ownBlock)) (by (with_reducible repeat (first | apply Kd.V_alloc | apply Kd.V_drewN | apply Kd.V_drew)); exact Kd.V_mono HO1027.out (fun _ hk => ⟨⟨hk.1, hk.2.2⟩, hk.2.1⟩)) hg hat)
                                  have n4_ := am (Kd.N_afterv (ok := (fun k_ => (w.heap.size ≤ k_) ∧ some k_ ≠ (.slice (some ad1004) x3_2.length co20 : Value).ownBlock)) (by (with_reducible repeat (first | apply Kd.N_alloc | apply Kd.N_drewN | apply Kd.N_drew)); exact Kd.N_mono HO1019.out (fun _ hk => ⟨⟨hk.1, hk.2.2⟩, hk.2.1⟩)) hg hat)
                                  have n5_ := am (hb)
                                  have n6_ := am (ho)
                                  clear HO_3
                                  clear HL1004_0
                                  clear HO1013
                                  clear HO1027
                                  clear HO1019
                                  clear HB
                                  clear HO1016
                                  have HO_3 := n0_
                                  have HL1004_0 := n1_
                                  have HO1013 := n2_
                                  have HO1027 := n3_
                                  have HO1019 := n4_
                                  have HB := n5_
                                  have HO1022 := n6_
                                  clear n0_ n1_ n2_ n3_ n4_ n5_ n6_
                                  clear ho hb hg hat
                                  refine hK.out _ _ trivial (fun hHeld => ?_)
                                  clear hK K
                                  refine norm_ (a' := ?_) ?_ ?_
                                  rotate_left
                                  · show Act.put _ (some 56) _ = _
                                    simp only [Act.put, List.setIfInBounds_toArray, List.set_cons_zero, List.set_cons_succ, i64_w, i32_w]
                                    rfl
                                  refine one_ (i := 11) (N := some 60) #[true, true, true, true, true, true, true, true, true, true, true, true, false] rfl rfl (one_of HT_.out (by kernel_rfl)) (by decide) (fun K hK => ?_)
                                  refine Kd.N_append_rows_step (Kd.slice 3 (Kd.int .i64)) (w0 := w) w.heap.size (by rfl) (.tmp 56) (.tmp 59) 30 27 (.slice none 0 0) 24 rfl Try.underlying30 info27 rfl (by decide) (by omega) v1021 y1020 y1023 _ _ _ (fun k_ => (w.heap.size ≤ k_)) (fun k_ => ((fun k_ => (w.heap.size ≤ k_))) k_ ∧ some k_ ≠ (v1021 : Value).ownBlock) rfl rfl ?aO ?aR (fun _ hk => hk) ?aF ?aB ?aS ?aL ?_
                                  (case aR => exact (by skip; exact Kd.V_F (Kd.V_mono (ok' := (fun k_ => ((fun k_ => (w.heap.size ≤ k_))) k_ ∧ some k_ ≠ (v1021 : Value).ownBlock)) (HO1027.out) (fun k_ hk => ⟨hk.1.1, hk.2⟩))))
                                  (case aB => exact (by repeat (first | (with_reducible first | exact HB.out | apply below_alloc | apply pw_below_drewN | apply below_drew1) | exact HB.out)))
                                  (case aF => exact (fun k_ hk => (Nat.le_trans (below_size (by repeat (first | (with_reducible first | exact HB.out | apply below_alloc | apply pw_below_drewN | apply below_drew1) | exact HB.out))) hk)))
                                  (case aO => exact (by (with_reducible repeat (first | apply Kd.N_alloc | apply Kd.N_drewN | apply Kd.N_drew)); exact HO1022.out))
                                  (case aS => exact (below_size (by repeat (first | (with_reducible first | exact HB.out | apply below_alloc | apply pw_below_drewN | apply below_drew1) | exact HB.out))))
                                  (case aL => have := LMc19.out; omega)
                                  intro v1029 w33 ho hb hg hat
                                  rw [← Ny1028.out] at ho
                                  have n0_ := am (Kd.N_afterv (ok := (fun k_ => (w.heap.size ≤ k_) ∧ some k_ ≠ (.slice Ao32 y1017.length co32 : Value).ownBlock)) (by (with_reducible repeat (first | apply Kd.N_alloc | apply Kd.N_drewN | apply Kd.N_drew)); exact HO_3.out) hg hat)
                                  have n1_ := am (Kd.V_afterv (ok := (fun k_ => (w.heap.size ≤ k_) ∧ some k_ ≠ (.slice (some ad1004) x3_2.length co20 : Value).ownBlock ∧ some k_ ≠ (.slice Ao32 y1017.length co32 : Value).ownBlock)) (by (with_reducible repeat (first | apply Kd.V_alloc | apply Kd.V_drewN | apply Kd.V_drew)); exact HL1004_0.out) hg hat)
                                  have n2_ := am (Kd.V_afterv (ok := (fun k_ => (w.heap.size ≤ k_) ∧ some k_ ≠ (.slice Ao32 y1017.length co32 : Value).ownBlock)) (by (with_reducible repeat (first | apply Kd.V_alloc | apply Kd.V_drewN | apply Kd.V_drew)); exact HO1013.out) hg hat)
                                  have n3_ := am (Kd.V_afterv (ok := (fun k_ => (w.heap.size ≤ k_) ∧ some k_ ≠ (.slice Ao32 y1017.length co32 : Value).ownBlock)) (by (with_reducible repeat (first | apply Kd.V_alloc | apply Kd.V_drewN | apply Kd.V_drew)); exact HO1027.out) hg hat)
                                  have n4_ := am (Kd.N_afterv (ok := (fun k_ => (w.heap.size ≤ k_) ∧ some k_ ≠ (.slice (some ad1004) x3_2.length co20 : Value).ownBlock)) (by (with_reducible repeat (first | apply Kd.N_alloc | apply Kd.N_drewN | apply Kd.N_drew)); exact HO1019.out) hg hat)
                                  have n5_ := am (hb)
                                  have n6_ := am (ho)
                                  clear HO_3
                                  clear HL1004_0
                                  clear HO1013
                                  clear HO1027
                                  clear HO1019
                                  clear HB
                                  clear HO1022
                                  have HO_3 := n0_
                                  have HL1004_0 := n1_
                                  have HO1013 := n2_
                                  have HO1027 := n3_
                                  have HO1019 := n4_
                                  have HB := n5_
                                  have HO1030 := n6_
                                  clear n0_ n1_ n2_ n3_ n4_ n5_ n6_
                                  clear ho hb hg hat
                                  refine hK.out _ _ trivial (fun hHeld => ?_)
                                  clear hK K
                                  refine norm_ (a' := ?_) ?_ ?_
                                  rotate_left
                                  · show Act.put _ (some 60) _ = _
                                    simp only [Act.put, List.setIfInBounds_toArray, List.set_cons_zero, List.set_cons_succ, i64_w, i32_w]
                                    rfl
                                  refine pure_ (i := 12) (N := some 3) (v := ?_) (a' := ?_) #[true, true, true, true, true, true, true, true, true, true, true, true, true] rfl rfl (any_of HT_.out (by kernel_rfl)) (fun _ _ _ h => h) (Or.inl ⟨by rfl, ?_⟩) ?_ ?_
                                  rotate_left
                                  · intro w'
                                    go_simp
                                    with_reducible rfl
                                  rotate_left
                                  · simp only [Act.put, List.setIfInBounds_toArray, List.set_cons_zero, List.set_cons_succ, i64_w, i32_w]
                                    rfl
                                  refine done_ (done_of HT_.out (by kernel_rfl)) ?_
                                  try go_wp2
                                  go_roundg k3
                                  case measure => have := HK1.out; have := HK2.out; have := HK3.out; omega
                                  case rel => exact ⟨(y1028), (wrap64 (x13_2 + 1)), (by first | rfl | (simp; done) | (simp [*]; done)), H', ⟨by have := HK1.out; have := HK2.out; have := HK3.out; omega⟩, ⟨by (with_reducible repeat (first | apply Kd.N_alloc | apply Kd.N_drewN | apply Kd.N_drew)); exact HO1030.out⟩, ⟨by repeat (first | (with_reducible first | exact HB.out | apply below_alloc | apply pw_below_drewN | apply below_drew1) | exact HB.out)⟩⟩
                                · rw [if_neg c19] at H
                                  exact absurd H (by simp)
                              · rw [if_neg c16] at H
                                exact absurd H (by simp)
                            · rw [if_neg c15] at H
                              exact absurd H (by simp)
                          · rw [if_neg c14] at H
                            exact absurd H (by simp)
                        · rw [if_neg c12] at H
                          have c12b0 : (x7_3 == (x3_2.length : Int)) = false := beq_eq_false_iff_ne.mpr c12
                          have c12b1 : (x7_3 != (x3_2.length : Int)) = true := bne_iff_ne.mpr c12
                          replace H := Option.bind_eq_some_iff.mp H
                          obtain ⟨t1032, A340, H⟩ := H
                          replace H : (if t1032 = true then (sackbutref05_Forms.l1 k3 l0 x3_2 x8_1 x8_1 (l0.length : Int) (wrap64 (x13_2 + 1))) else ((some (([] : List (List Int)) : List (List Int))).bind fun y1033 => (if x7_3 ≤ (x3_2.length : Int) then ((some (x3_2.take (x7_3 : Int).toNat : List (List Int))).bind fun y1036 => (if y1033.length + y1036.length < 5864062014805 then ((some (y1033 ++ y1036 : List (List Int))).bind fun y1041 => ((some (([t1001] : List (List Int)) : List (List Int))).bind fun y1044 => (if y1041.length + y1044.length < 5864062014805 then ((some (y1041 ++ y1044 : List (List Int))).bind fun y1047 => ((some (x3_2.drop (x7_3 : Int).toNat : List (List Int))).bind fun y1050 => (if y1047.length + y1050.length < 5864062014805 then (sackbutref05_Forms.l1 k3 l0 (y1047 ++ y1050) x8_1 x8_1 (l0.length : Int) (wrap64 (x13_2 + 1))) else (none)))) else (none)))) else (none))) else (none)))) = some r := H
                          have A34 := am A340
                          clear A340
                          by_cases c35 : t1032 = true
                          · subst c35
                            have H1 : (sackbutref05_Forms.l1 k3 l0 x3_2 x8_1 x8_1 (l0.length : Int) (wrap64 (x13_2 + 1))) = some r := by rw [if_pos rfl] at H; exact H
                            clear H
                            have H := H1
                            clear H1
                            have H' := am H
                            clear H
                            obtain ⟨Ao36, co36, eo36⟩ := Kd.N_slice HO_3.out
                            subst eo36
                            have p1004 : 0 ≤ (x7_3 : Int) := of_decide_eq_true (by first | (with_reducible assumption) | assumption)
                            have q1004 : x7_3 < (x3_2.length : Int) := of_decide_eq_true (by first | (with_reducible assumption) | assumption)
                            obtain ⟨ad1004, A1004_0, c1004_0, e1004, hx1004_0, hl1004_0, hi1004_0⟩ := at_L1 (Kd.N_reads' HO_3.out).2.2 x7_3 p1004 q1004
                            cases e1004
                            obtain ⟨ce1004, hce1004, hMe1004, hcc1004⟩ := Kd.N_get HO_3.out [] x7_3 p1004 (by first | exact q1004 | exact of_decide_eq_true (by first | (with_reducible assumption) | assumption) | (have e_ := (Kd.N_reads' HO_3.out).1; omega))
                            obtain ⟨ua1004_0, uc1004_0, rfl, ul1004_0, ge1004_0⟩ := Kd.FK_slice_open hMe1004
                            have hv1004_0 := hcc1004 0 _ rfl
                            rw [Nat.add_zero, show ((Kd.slice 3 (Kd.int .i64))).sz = 1 from rfl, Nat.mul_one] at hv1004_0
                            replace hv1004_0 := Option.some.inj (hv1004_0.symm.trans hx1004_0)
                            injection hv1004_0 with hva_ hvn_ hvc_
                            rw [hva_] at ge1004_0
                            rw [hvc_] at ul1004_0
                            have HL1004_0 := am (show Kd.V (Kd.int .i64) 3 _ w.heap.size _ _ (rd_L1 x3_2 x7_3) from Kd.V_mk ul1004_0 ge1004_0)
                            clear hva_ hvn_ hvc_ ge1004_0 ul1004_0
                            clear hcc1004 hce1004
                            have HR1004_0 := am hi1004_0
                            have HC1004_0 := am hl1004_0
                            clear hi1004_0 hl1004_0
                            replace p1004 := eq_true p1004
                            replace q1004 := eq_true q1004
                            obtain ⟨Ao37, co37, eo37⟩ := Kd.R_slice HO_6.out
                            subst eo37
                            go_wp2_with (first | (go_at_call 48; (with_reducible refine (sackbutref05_less.calls k3 _ _ (rd_L1 x3_2 x7_3) _ _ t1001 false _ ?side1 ?side2 ?side3 ?side4 A8.out).mono ?_); (case side1 => repeat (first | exact (by repeat (first | (with_reducible exact HR1004_0.out) | (with_reducible refine Kd.C_alloc ?_ _) | (with_reducible refine Kd.C_drewN ?_ _) | (with_reducible refine Kd.C_drew ?_) | exact HR1004_0.out)) | (with_reducible refine Kd.C_alloc ?_ _) | (with_reducible refine Kd.C_drewN ?_ _) | (with_reducible refine Kd.C_drew ?_))); (case side2 => exact HC1004_0.out); (case side3 => repeat (first | exact (Kd.R_reads' HO_6.out).2.2 | (with_reducible refine Kd.C_alloc ?_ _) | (with_reducible refine Kd.C_drewN ?_ _) | (with_reducible refine Kd.C_drew ?_))); (case side4 => exact (Kd.R_reads' HO_6.out).2.1); rintro e w' ⟨rfl, ⟨nd, rfl⟩⟩; have p1031 : 0 ≤ (x7_3 : Int) := of_decide_eq_true (by first | (with_reducible assumption) | assumption); have q1031 : x7_3 < (x3_2.length : Int) := of_decide_eq_true (by first | (with_reducible assumption) | assumption); obtain ⟨ad1031, A1031_0, c1031_0, e1031, hx1031_0, hl1031_0, hi1031_0⟩ := at_L1 (Kd.N_reads' HO_3.out).2.2 x7_3 p1031 q1031; obtain rfl : ad1004 = ad1031 := (by injection e1031); obtain ⟨ce1031, hce1031, hMe1031, hcc1031⟩ := Kd.N_get HO_3.out [] x7_3 p1031 (by first | exact q1031 | exact of_decide_eq_true (by first | (with_reducible assumption) | assumption) | (have e_ := (Kd.N_reads' HO_3.out).1; omega)); obtain ⟨ua1031_0, uc1031_0, rfl, ul1031_0, ge1031_0⟩ := Kd.FK_slice_open hMe1031; have hv1031_0 := hcc1031 0 _ rfl; rw [Nat.add_zero, show ((Kd.slice 3 (Kd.int .i64))).sz = 1 from rfl, Nat.mul_one] at hv1031_0; replace hv1031_0 := Option.some.inj (hv1031_0.symm.trans hx1031_0); injection hv1031_0 with hva_ hvn_ hvc_; rw [hva_] at ge1031_0; rw [hvc_] at ul1031_0; have HL1031_0 := am (show Kd.V (Kd.int .i64) 3 _ w.heap.size _ _ (rd_L1 x3_2 x7_3) from Kd.V_mk ul1031_0 ge1031_0); clear hva_ hvn_ hvc_ ge1031_0 ul1031_0; clear hcc1031 hce1031; have HR1031_0 := am hi1031_0; have HC1031_0 := am hl1031_0; clear hi1031_0 hl1031_0; replace p1031 := eq_true p1031; replace q1031 := eq_true q1031; have ea_ := Option.some.inj (hx1004_0.symm.trans hx1031_0); injection ea_ with ea_ en_ ec_; subst ea_; subst ec_; clear en_) | (go_at_call 49; (with_reducible refine (sackbutref05_same.calls k3 _ _ (rd_L1 x3_2 x7_3) _ _ t1001 true _ ?side1 ?side2 ?side3 ?side4 A34.out).mono ?_); (case side1 => repeat (first | exact (by repeat (first | (with_reducible exact HR1031_0.out) | (with_reducible refine Kd.C_alloc ?_ _) | (with_reducible refine Kd.C_drewN ?_ _) | (with_reducible refine Kd.C_drew ?_) | exact HR1031_0.out)) | (with_reducible refine Kd.C_alloc ?_ _) | (with_reducible refine Kd.C_drewN ?_ _) | (with_reducible refine Kd.C_drew ?_))); (case side2 => exact HC1031_0.out); (case side3 => repeat (first | exact (Kd.R_reads' HO_6.out).2.2 | (with_reducible refine Kd.C_alloc ?_ _) | (with_reducible refine Kd.C_drewN ?_ _) | (with_reducible refine Kd.C_drew ?_))); (case side4 => exact (Kd.R_reads' HO_6.out).2.1); rintro e w' ⟨rfl, ⟨nd, rfl⟩⟩))
                            go_roundg k3
                            case measure => have := HK1.out; have := HK2.out; have := HK3.out; omega
                            case rel => exact ⟨(x3_2), (wrap64 (x13_2 + 1)), (by first | rfl | (simp; done) | (simp [*]; done)), H', ⟨by have := HK1.out; have := HK2.out; have := HK3.out; omega⟩, ⟨by (with_reducible repeat (first | apply Kd.N_alloc | apply Kd.N_drewN | apply Kd.N_drew)); exact Kd.N_mono HO_3.out (fun _ hk => hk.1)⟩, ⟨by repeat (first | (with_reducible first | exact HB.out | apply below_alloc | apply pw_below_drewN | apply below_drew1) | exact HB.out)⟩⟩
                          · replace c35 := Bool.eq_false_iff.mpr c35
                            subst c35
                            have H1 : ((some (([] : List (List Int)) : List (List Int))).bind fun y1033 => (if x7_3 ≤ (x3_2.length : Int) then ((some (x3_2.take (x7_3 : Int).toNat : List (List Int))).bind fun y1036 => (if y1033.length + y1036.length < 5864062014805 then ((some (y1033 ++ y1036 : List (List Int))).bind fun y1041 => ((some (([t1001] : List (List Int)) : List (List Int))).bind fun y1044 => (if y1041.length + y1044.length < 5864062014805 then ((some (y1041 ++ y1044 : List (List Int))).bind fun y1047 => ((some (x3_2.drop (x7_3 : Int).toNat : List (List Int))).bind fun y1050 => (if y1047.length + y1050.length < 5864062014805 then (sackbutref05_Forms.l1 k3 l0 (y1047 ++ y1050) x8_1 x8_1 (l0.length : Int) (wrap64 (x13_2 + 1))) else (none)))) else (none)))) else (none))) else (none))) = some r := by rw [if_neg (show ¬ (false = true) by decide)] at H; exact H
                            clear H
                            have H := H1
                            clear H1
                            obtain ⟨y1033, hy1033⟩ : ∃ y_ : List (List Int), y_ = (([] : List (List Int))) := ⟨_, rfl⟩
                            replace H : (if x7_3 ≤ (x3_2.length : Int) then ((some (x3_2.take (x7_3 : Int).toNat : List (List Int))).bind fun y1036 => (if y1033.length + y1036.length < 5864062014805 then ((some (y1033 ++ y1036 : List (List Int))).bind fun y1041 => ((some (([t1001] : List (List Int)) : List (List Int))).bind fun y1044 => (if y1041.length + y1044.length < 5864062014805 then ((some (y1041 ++ y1044 : List (List Int))).bind fun y1047 => ((some (x3_2.drop (x7_3 : Int).toNat : List (List Int))).bind fun y1050 => (if y1047.length + y1050.length < 5864062014805 then (sackbutref05_Forms.l1 k3 l0 (y1047 ++ y1050) x8_1 x8_1 (l0.length : Int) (wrap64 (x13_2 + 1))) else (none)))) else (none)))) else (none))) else (none)) = some r := by first | (rw [hy1033]; with_reducible exact H) | (have H2_ := (Option.bind_some _ _).symm.trans H; rw [hy1033]; with_reducible exact H2_) | (have H2_ := (Option.bind_some _ _).symm.trans H; with_reducible exact H2_) | with_reducible exact H | (rw [hy1033]; exact H) | exact H
                            have Ny1033 := am hy1033
                            clear hy1033
                            have c38b0 := eq_true (of_decide_eq_true (by first | (with_reducible assumption) | assumption) : 0 ≤ x7_3)
                            by_cases c39 : x7_3 ≤ (x3_2.length : Int)
                            · rw [if_pos c39] at H
                              have c39b0 := eq_true c39
                              have c39b1 : decide (x7_3 ≤ (x3_2.length : Int)) = true := decide_eq_true c39
                              clear c39
                              obtain ⟨y1036, hy1036⟩ : ∃ y_ : List (List Int), y_ = (x3_2.take (x7_3 : Int).toNat) := ⟨_, rfl⟩
                              replace H : (if y1033.length + y1036.length < 5864062014805 then ((some (y1033 ++ y1036 : List (List Int))).bind fun y1041 => ((some (([t1001] : List (List Int)) : List (List Int))).bind fun y1044 => (if y1041.length + y1044.length < 5864062014805 then ((some (y1041 ++ y1044 : List (List Int))).bind fun y1047 => ((some (x3_2.drop (x7_3 : Int).toNat : List (List Int))).bind fun y1050 => (if y1047.length + y1050.length < 5864062014805 then (sackbutref05_Forms.l1 k3 l0 (y1047 ++ y1050) x8_1 x8_1 (l0.length : Int) (wrap64 (x13_2 + 1))) else (none)))) else (none)))) else (none)) = some r := by first | (rw [hy1036]; with_reducible exact H) | (have H2_ := (Option.bind_some _ _).symm.trans H; rw [hy1036]; with_reducible exact H2_) | (have H2_ := (Option.bind_some _ _).symm.trans H; with_reducible exact H2_) | with_reducible exact H | (rw [hy1036]; exact H) | exact H
                              have Ny1036 := am hy1036
                              clear hy1036
                              by_cases c40 : y1033.length + y1036.length < 5864062014805
                              · rw [if_pos c40] at H
                                have LMc40 := am c40
                                clear c40
                                obtain ⟨y1041, hy1041⟩ : ∃ y_ : List (List Int), y_ = (y1033 ++ y1036) := ⟨_, rfl⟩
                                replace H : ((some (([t1001] : List (List Int)) : List (List Int))).bind fun y1044 => (if y1041.length + y1044.length < 5864062014805 then ((some (y1041 ++ y1044 : List (List Int))).bind fun y1047 => ((some (x3_2.drop (x7_3 : Int).toNat : List (List Int))).bind fun y1050 => (if y1047.length + y1050.length < 5864062014805 then (sackbutref05_Forms.l1 k3 l0 (y1047 ++ y1050) x8_1 x8_1 (l0.length : Int) (wrap64 (x13_2 + 1))) else (none)))) else (none))) = some r := by first | (rw [hy1041]; with_reducible exact H) | (have H2_ := (Option.bind_some _ _).symm.trans H; rw [hy1041]; with_reducible exact H2_) | (have H2_ := (Option.bind_some _ _).symm.trans H; with_reducible exact H2_) | with_reducible exact H | (rw [hy1041]; exact H) | exact H
                                have Ny1041 := am hy1041
                                clear hy1041
                                obtain ⟨y1044, hy1044⟩ : ∃ y_ : List (List Int), y_ = (([t1001] : List (List Int))) := ⟨_, rfl⟩
                                replace H : (if y1041.length + y1044.length < 5864062014805 then ((some (y1041 ++ y1044 : List (List Int))).bind fun y1047 => ((some (x3_2.drop (x7_3 : Int).toNat : List (List Int))).bind fun y1050 => (if y1047.length + y1050.length < 5864062014805 then (sackbutref05_Forms.l1 k3 l0 (y1047 ++ y1050) x8_1 x8_1 (l0.length : Int) (wrap64 (x13_2 + 1))) else (none)))) else (none)) = some r := by first | (rw [hy1044]; with_reducible exact H) | (have H2_ := (Option.bind_some _ _).symm.trans H; rw [hy1044]; with_reducible exact H2_) | (have H2_ := (Option.bind_some _ _).symm.trans H; with_reducible exact H2_) | with_reducible exact H | (rw [hy1044]; exact H) | exact H
                                have Ny1044 := am hy1044
                                clear hy1044
                                by_cases c41 : y1041.length + y1044.length < 5864062014805
                                · rw [if_pos c41] at H
                                  have LMc41 := am c41
                                  clear c41
                                  obtain ⟨y1047, hy1047⟩ : ∃ y_ : List (List Int), y_ = (y1041 ++ y1044) := ⟨_, rfl⟩
                                  replace H : ((some (x3_2.drop (x7_3 : Int).toNat : List (List Int))).bind fun y1050 => (if y1047.length + y1050.length < 5864062014805 then (sackbutref05_Forms.l1 k3 l0 (y1047 ++ y1050) x8_1 x8_1 (l0.length : Int) (wrap64 (x13_2 + 1))) else (none))) = some r := by first | (rw [hy1047]; with_reducible exact H) | (have H2_ := (Option.bind_some _ _).symm.trans H; rw [hy1047]; with_reducible exact H2_) | (have H2_ := (Option.bind_some _ _).symm.trans H; with_reducible exact H2_) | with_reducible exact H | (rw [hy1047]; exact H) | exact H
                                  have Ny1047 := am hy1047
                                  clear hy1047
                                  have c42b0 := eq_true (of_decide_eq_true (by first | (with_reducible assumption) | assumption) : 0 ≤ x7_3)
                                  have c43b0 := eq_true (of_decide_eq_true (by first | (with_reducible assumption) | assumption) : x7_3 ≤ (x3_2.length : Int))
                                  obtain ⟨y1050, hy1050⟩ : ∃ y_ : List (List Int), y_ = (x3_2.drop (x7_3 : Int).toNat) := ⟨_, rfl⟩
                                  replace H : (if y1047.length + y1050.length < 5864062014805 then (sackbutref05_Forms.l1 k3 l0 (y1047 ++ y1050) x8_1 x8_1 (l0.length : Int) (wrap64 (x13_2 + 1))) else (none)) = some r := by first | (rw [hy1050]; with_reducible exact H) | (have H2_ := (Option.bind_some _ _).symm.trans H; rw [hy1050]; with_reducible exact H2_) | (have H2_ := (Option.bind_some _ _).symm.trans H; with_reducible exact H2_) | with_reducible exact H | (rw [hy1050]; exact H) | exact H
                                  have Ny1050 := am hy1050
                                  clear hy1050
                                  by_cases c44 : y1047.length + y1050.length < 5864062014805
                                  · rw [if_pos c44] at H
                                    have LMc44 := am c44
                                    clear c44
                                    obtain ⟨y1055, hy1055⟩ : ∃ y_ : List (List Int), y_ = (y1047 ++ y1050) := ⟨_, rfl⟩
                                    replace H : (sackbutref05_Forms.l1 k3 l0 y1055 x8_1 x8_1 (l0.length : Int) (wrap64 (x13_2 + 1))) = some r := by first | (rw [hy1055]; with_reducible exact H) | (have H2_ := (Option.bind_some _ _).symm.trans H; rw [hy1055]; with_reducible exact H2_) | (have H2_ := (Option.bind_some _ _).symm.trans H; with_reducible exact H2_) | with_reducible exact H | (rw [hy1055]; exact H) | exact H
                                    have Ny1055 := am hy1055
                                    clear hy1055
                                    have H' := am H
                                    clear H
                                    obtain ⟨Ao45, co45, eo45⟩ := Kd.N_slice HO_3.out
                                    subst eo45
                                    have p1004 : 0 ≤ (x7_3 : Int) := of_decide_eq_true (by first | (with_reducible assumption) | assumption)
                                    have q1004 : x7_3 < (x3_2.length : Int) := of_decide_eq_true (by first | (with_reducible assumption) | assumption)
                                    obtain ⟨ad1004, A1004_0, c1004_0, e1004, hx1004_0, hl1004_0, hi1004_0⟩ := at_L1 (Kd.N_reads' HO_3.out).2.2 x7_3 p1004 q1004
                                    cases e1004
                                    obtain ⟨ce1004, hce1004, hMe1004, hcc1004⟩ := Kd.N_get HO_3.out [] x7_3 p1004 (by first | exact q1004 | exact of_decide_eq_true (by first | (with_reducible assumption) | assumption) | (have e_ := (Kd.N_reads' HO_3.out).1; omega))
                                    obtain ⟨ua1004_0, uc1004_0, rfl, ul1004_0, ge1004_0⟩ := Kd.FK_slice_open hMe1004
                                    have hv1004_0 := hcc1004 0 _ rfl
                                    rw [Nat.add_zero, show ((Kd.slice 3 (Kd.int .i64))).sz = 1 from rfl, Nat.mul_one] at hv1004_0
                                    replace hv1004_0 := Option.some.inj (hv1004_0.symm.trans hx1004_0)
                                    injection hv1004_0 with hva_ hvn_ hvc_
                                    rw [hva_] at ge1004_0
                                    rw [hvc_] at ul1004_0
                                    have HL1004_0 := am (show Kd.V (Kd.int .i64) 3 _ w.heap.size _ _ (rd_L1 x3_2 x7_3) from Kd.V_mk ul1004_0 ge1004_0)
                                    clear hva_ hvn_ hvc_ ge1004_0 ul1004_0
                                    clear hcc1004 hce1004
                                    have HR1004_0 := am hi1004_0
                                    have HC1004_0 := am hl1004_0
                                    clear hi1004_0 hl1004_0
                                    replace p1004 := eq_true p1004
                                    replace q1004 := eq_true q1004
                                    obtain ⟨Ao46, co46, eo46⟩ := Kd.R_slice HO_6.out
                                    subst eo46
                                    try go_wp2_with (first | (go_at_call 48; (with_reducible refine (sackbutref05_less.calls k3 _ _ (rd_L1 x3_2 x7_3) _ _ t1001 false _ ?side1 ?side2 ?side3 ?side4 A8.out).mono ?_); (case side1 => repeat (first | exact (by repeat (first | (with_reducible exact HR1004_0.out) | (with_reducible refine Kd.C_alloc ?_ _) | (with_reducible refine Kd.C_drewN ?_ _) | (with_reducible refine Kd.C_drew ?_) | exact HR1004_0.out)) | (with_reducible refine Kd.C_alloc ?_ _) | (with_reducible refine Kd.C_drewN ?_ _) | (with_reducible refine Kd.C_drew ?_))); (case side2 => exact HC1004_0.out); (case side3 => repeat (first | exact (Kd.R_reads' HO_6.out).2.2 | (with_reducible refine Kd.C_alloc ?_ _) | (with_reducible refine Kd.C_drewN ?_ _) | (with_reducible refine Kd.C_drew ?_))); (case side4 => exact (Kd.R_reads' HO_6.out).2.1); rintro e w' ⟨rfl, ⟨nd, rfl⟩⟩; have p1031 : 0 ≤ (x7_3 : Int) := of_decide_eq_true (by first | (with_reducible assumption) | assumption); have q1031 : x7_3 < (x3_2.length : Int) := of_decide_eq_true (by first | (with_reducible assumption) | assumption); obtain ⟨ad1031, A1031_0, c1031_0, e1031, hx1031_0, hl1031_0, hi1031_0⟩ := at_L1 (Kd.N_reads' HO_3.out).2.2 x7_3 p1031 q1031; obtain rfl : ad1004 = ad1031 := (by injection e1031); obtain ⟨ce1031, hce1031, hMe1031, hcc1031⟩ := Kd.N_get HO_3.out [] x7_3 p1031 (by first | exact q1031 | exact of_decide_eq_true (by first | (with_reducible assumption) | assumption) | (have e_ := (Kd.N_reads' HO_3.out).1; omega)); obtain ⟨ua1031_0, uc1031_0, rfl, ul1031_0, ge1031_0⟩ := Kd.FK_slice_open hMe1031; have hv1031_0 := hcc1031 0 _ rfl; rw [Nat.add_zero, show ((Kd.slice 3 (Kd.int .i64))).sz = 1 from rfl, Nat.mul_one] at hv1031_0; replace hv1031_0 := Option.some.inj (hv1031_0.symm.trans hx1031_0); injection hv1031_0 with hva_ hvn_ hvc_; rw [hva_] at ge1031_0; rw [hvc_] at ul1031_0; have HL1031_0 := am (show Kd.V (Kd.int .i64) 3 _ w.heap.size _ _ (rd_L1 x3_2 x7_3) from Kd.V_mk ul1031_0 ge1031_0); clear hva_ hvn_ hvc_ ge1031_0 ul1031_0; clear hcc1031 hce1031; have HR1031_0 := am hi1031_0; have HC1031_0 := am hl1031_0; clear hi1031_0 hl1031_0; replace p1031 := eq_true p1031; replace q1031 := eq_true q1031; have ea_ := Option.some.inj (hx1004_0.symm.trans hx1031_0); injection ea_ with ea_ en_ ec_; subst ea_; subst ec_; clear en_) | (go_at_call 49; (with_reducible refine (sackbutref05_same.calls k3 _ _ (rd_L1 x3_2 x7_3) _ _ t1001 false _ ?side1 ?side2 ?side3 ?side4 A34.out).mono ?_); (case side1 => repeat (first | exact (by repeat (first | (with_reducible exact HR1031_0.out) | (with_reducible refine Kd.C_alloc ?_ _) | (with_reducible refine Kd.C_drewN ?_ _) | (with_reducible refine Kd.C_drew ?_) | exact HR1031_0.out)) | (with_reducible refine Kd.C_alloc ?_ _) | (with_reducible refine Kd.C_drewN ?_ _) | (with_reducible refine Kd.C_drew ?_))); (case side2 => exact HC1031_0.out); (case side3 => repeat (first | exact (Kd.R_reads' HO_6.out).2.2 | (with_reducible refine Kd.C_alloc ?_ _) | (with_reducible refine Kd.C_drewN ?_ _) | (with_reducible refine Kd.C_drew ?_))); (case side4 => exact (Kd.R_reads' HO_6.out).2.1); rintro e w' ⟨rfl, ⟨nd, rfl⟩⟩))
                                    (try (rw [drewN_self wr]; generalize hq_ : World.drewN wr _ = wr; have n0_ : Aside0 (Kd.V (Kd.int .i64) 3 wr w.heap.size (fun k_ => (w.heap.size ≤ k_) ∧ some k_ ≠ (.slice (some ad1004) x3_2.length co45 : Value).ownBlock ∧ some k_ ≠ (.slice Ao46 t1001.length co46 : Value).ownBlock) (.slice A1004_0 (rd_L1 x3_2 x7_3).length c1004_0) (rd_L1 x3_2 x7_3)) := ⟨by rw [← hq_]; exact (by (with_reducible repeat (first | apply Kd.V_alloc | apply Kd.V_drewN | apply Kd.V_drew)); exact Kd.V_mono HL1004_0.out (fun _ hk => ⟨hk.1.1, ⟨hk.2, hk.1.2⟩⟩))⟩; have n1_ : Aside0 (Kd.V (Kd.int .i64) 3 wr w.heap.size (fun k_ => (w.heap.size ≤ k_) ∧ some k_ ≠ (.slice (some ad1004) x3_2.length co45 : Value).ownBlock ∧ some k_ ≠ (.slice Ao46 t1001.length co46 : Value).ownBlock) (.slice A1004_0 (rd_L1 x3_2 x7_3).length c1004_0) (rd_L1 x3_2 x7_3)) := ⟨by rw [← hq_]; exact (by (with_reducible repeat (first | apply Kd.V_alloc | apply Kd.V_drewN | apply Kd.V_drew)); exact Kd.V_mono HL1031_0.out (fun _ hk => ⟨hk.1.1, ⟨hk.2, hk.1.2⟩⟩))⟩; have n2_ : Aside0 (Kd.N (Kd.slice 3 (Kd.int .i64)) 27 wr w.heap.size (fun k_ => (w.heap.size ≤ k_) ∧ some k_ ≠ (.slice Ao46 t1001.length co46 : Value).ownBlock) (.slice (some ad1004) x3_2.length co45) x3_2) := ⟨by rw [← hq_]; exact (by (with_reducible repeat (first | apply Kd.N_alloc | apply Kd.N_drewN | apply Kd.N_drew)); exact HO_3.out)⟩; have n3_ : Aside0 (Kd.R (Kd.int .i64) 3 wr w.heap.size (fun k_ => (w.heap.size ≤ k_)) (.slice Ao46 t1001.length co46) t1001) := ⟨by rw [← hq_]; exact (by (with_reducible repeat (first | apply Kd.R_alloc | apply Kd.R_drewN | apply Kd.R_drew)); exact HO_6.out)⟩; have n4_ : Aside0 (Below w.heap.size w wr) := ⟨by rw [← hq_]; exact (by repeat (first | (with_reducible first | exact HB.out | apply below_alloc | apply pw_below_drewN | apply below_drew1) | exact HB.out))⟩; have n5_ : Aside0 (Kd.C (Kd.int .i64) wr A1004_0 (rd_L1 x3_2 x7_3).length (rd_L1 x3_2 x7_3)) := ⟨by rw [← hq_]; exact (by repeat (first | (with_reducible exact HR1004_0.out) | (with_reducible refine Kd.C_alloc ?_ _) | (with_reducible refine Kd.C_drewN ?_ _) | (with_reducible refine Kd.C_drew ?_) | exact HR1004_0.out))⟩; have n6_ : Aside0 (Kd.C (Kd.int .i64) wr A1004_0 (rd_L1 x3_2 x7_3).length (rd_L1 x3_2 x7_3)) := ⟨by rw [← hq_]; exact (by repeat (first | (with_reducible exact HR1031_0.out) | (with_reducible refine Kd.C_alloc ?_ _) | (with_reducible refine Kd.C_drewN ?_ _) | (with_reducible refine Kd.C_drew ?_) | exact HR1031_0.out))⟩; clear HL1004_0 HL1031_0 HO_3 HO_6 HB HR1004_0 HR1031_0 hq_; have HL1004_0 := n0_; have HL1031_0 := n1_; have HO_3 := n2_; have HO_6 := n3_; have HB := n4_; have HR1004_0 := n5_; have HR1031_0 := n6_; clear n0_ n1_ n2_ n3_ n4_ n5_ n6_))
                                    have n0_ := am (Kd.N_drew HO_3.out)
                                    have n1_ := am (Kd.R_drew HO_6.out)
                                    have n2_ := am (Kd.V_drew HL1004_0.out)
                                    have n3_ := am (Kd.V_drew HL1031_0.out)
                                    have n4_ := am (Kd.C_drew HR1004_0.out)
                                    have n5_ := am (Kd.C_drew HR1031_0.out)
                                    have n6_ := am (below_drew1 HB.out)
                                    clear HO_3
                                    clear HO_6
                                    clear HL1004_0
                                    clear HL1031_0
                                    clear HR1004_0
                                    clear HR1031_0
                                    clear HB
                                    have HO_3 := n0_
                                    have HO_6 := n1_
                                    have HL1004_0 := n2_
                                    have HL1031_0 := n3_
                                    have HR1004_0 := n4_
                                    have HR1031_0 := n5_
                                    have HB := n6_
                                    clear n0_ n1_ n2_ n3_ n4_ n5_ n6_
                                    have q48 : (x7_3 : Int) ≤ ((x3_2.length : Int) : Int) := of_decide_eq_true (by first | (with_reducible assumption) | assumption)
                                    obtain ⟨i048, hi048, _, hsz48, _⟩ := info_parts info27
                                    have hroom48 : x3_2.length ≤ co45 := (Kd.N_reads' HO_3.out).2.1
                                    have hC48 : Kd.F (Kd.slice 3 (Kd.int .i64)) _ _ (some ad1004) x3_2.length x3_2 := (Kd.V_at (base := w.heap.size) (Kd.N_V HO_3.out)).2.2
                                    have hcut48 := cut_to (P := Try.prog) 30 27 .i64 Try.underlying30 hi048 (some ad1004) x3_2.length co45 x7_3 (of_decide_eq_true (by first | (with_reducible assumption) | assumption)) q48 hroom48
                                    have hr48 := Kd.F_take (m := (x7_3 : Int).toNat) hC48 (by omega)
                                    have hy48 : y1036.length = (x7_3 : Int).toNat := (by rw [Ny1036.out, List.length_take]; omega)
                                    rw [← Ny1036.out] at hr48
                                    rw [← hy48] at hcut48
                                    have HO1040 := am (show Kd.V (Kd.slice 3 (Kd.int .i64)) 27 _ w.heap.size _ (.slice (some ad1004) y1036.length co45) y1036 from Kd.V_mk (by omega) hr48)
                                    have HC1040 := am (show y1036.length ≤ co45 from by omega)
                                    clear hr48 hC48 hroom48 hi048 hsz48
                                    have KY48 := am hy48
                                    clear hy48
                                    replace q48 := eq_true q48
                                    have q49 : (x7_3 : Int) ≤ ((x3_2.length : Int) : Int) := of_decide_eq_true (by first | (with_reducible assumption) | assumption)
                                    obtain ⟨i049, hi049, _, hsz49, _⟩ := info_parts info27
                                    have hroom49 : x3_2.length ≤ co45 := (Kd.N_reads' HO_3.out).2.1
                                    have hC49 : Kd.F (Kd.slice 3 (Kd.int .i64)) _ _ (some ad1004) x3_2.length x3_2 := (Kd.V_at (base := w.heap.size) (Kd.N_V HO_3.out)).2.2
                                    have q049 : (0 : Int) ≤ (x7_3 : Int) := of_decide_eq_true (by first | (with_reducible assumption) | assumption)
                                    have hcut49 := cut_from (P := Try.prog) 30 27 .i64 Try.underlying30 hi049 1 hsz49 (some ad1004) x3_2.length co45 x7_3 q049 q49
                                    have hr49 := Kd.F_cut (m := (x7_3 : Int).toNat) (c := co45) hC49 (by omega) hroom49
                                    obtain ⟨A49, hA49⟩ : ∃ A1, A1 = (if co45 = (x7_3 : Int).toNat then (some ad1004) else ((some ad1004) : Option Addr).map (·.add ((x7_3 : Int).toNat * 1))) := ⟨_, rfl⟩
                                    obtain ⟨c49, hc49⟩ : ∃ c1, c1 = co45 - (x7_3 : Int).toNat := ⟨_, rfl⟩
                                    have hy49 : y1050.length = x3_2.length - (x7_3 : Int).toNat := (by rw [Ny1050.out, List.length_drop] <;> omega)
                                    rw [show (x3_2).drop (x7_3 : Int).toNat = y1050 from Ny1050.out.symm] at hr49
                                    replace hr49 : Kd.F (Kd.slice 3 (Kd.int .i64)) _ _ A49 y1050.length y1050 := (by rw [hA49]; exact hr49)
                                    rw [← hy49, ← hA49, ← hc49] at hcut49
                                    have HO1054 := am (show Kd.V (Kd.slice 3 (Kd.int .i64)) 27 _ w.heap.size _ (.slice A49 y1050.length c49) y1050 from Kd.V_mk (by rw [hy49, hc49]; exact Nat.sub_le_sub_right hroom49 _) hr49)
                                    have HC1054 := am (show y1050.length ≤ c49 from by rw [hy49, hc49]; exact Nat.sub_le_sub_right hroom49 _)
                                    clear hr49 hC49 hroom49 hi049 hsz49 hc49
                                    have KY49 := am hy49
                                    have KA49 := am hA49
                                    clear hy49 hA49
                                    replace q49 := eq_true q49
                                    refine start_ (n := 13) (S := fun w' => True) (ds := []) #[false, false, false, false, false, false, false, false, false, false, false, false, false] (by kernel_rfl) rfl rfl trivial (fun hHeld => ?_); refine with_tabW sackbutref05_Forms.tab13 sackbutref05_Forms.bits13 (fun HT_ HW_ => ?_)
                                    generalize wr.drew = w47 at HO_3 HO_6 HL1004_0 HL1031_0 HR1004_0 HR1031_0 HB HO1040 HO1054 hHeld ⊢
                                    refine pure_ (i := 1) (N := some 50) (v := ?_) (a' := ?_) #[false, true, false, false, false, false, false, false, false, false, false, false, false] rfl rfl (any_of HT_.out (by kernel_rfl)) (fun _ _ _ h => h) (Or.inl ⟨by rfl, ?_⟩) ?_ ?_
                                    rotate_left
                                    · intro w'
                                      go_simp
                                      with_reducible rfl
                                    rotate_left
                                    · simp only [Act.put, List.setIfInBounds_toArray, List.set_cons_zero, List.set_cons_succ, i64_w, i32_w]
                                      rfl
                                    refine pure_ (i := 2) (N := some 51) (v := ?_) (a' := ?_) #[false, true, true, false, false, false, false, false, false, false, false, false, false] rfl rfl (any_of HT_.out (by kernel_rfl)) (fun _ _ _ h => h) (Or.inl ⟨by rfl, ?_⟩) ?_ ?_
                                    rotate_left
                                    · intro w'
                                      go_simp
                                      with_reducible rfl
                                    rotate_left
                                    · simp only [Act.put, List.setIfInBounds_toArray, List.set_cons_zero, List.set_cons_succ, i64_w, i32_w]
                                      rfl
                                    refine pure_ (i := 3) (N := some 52) (v := ?_) (a' := ?_) #[false, true, true, true, false, false, false, false, false, false, false, false, false] rfl rfl (any_of HT_.out (by kernel_rfl)) (fun _ _ _ h => h) (Or.inl ⟨by rfl, ?_⟩) ?_ ?_
                                    rotate_left
                                    · intro w'
                                      go_simp
                                      with_reducible rfl
                                    rotate_left
                                    · simp only [Act.put, List.setIfInBounds_toArray, List.set_cons_zero, List.set_cons_succ, i64_w, i32_w]
                                      rfl
                                    refine pure_ (i := 5) (N := some 54) (v := ?_) (a' := ?_) #[false, true, true, true, false, true, false, false, false, false, false, false, false] rfl rfl (any_of HT_.out (by kernel_rfl)) (fun _ _ _ h => h) (Or.inl ⟨by rfl, ?_⟩) ?_ ?_
                                    rotate_left
                                    · intro w'
                                      go_simp
                                      with_reducible rfl
                                    rotate_left
                                    · simp only [Act.put, List.setIfInBounds_toArray, List.set_cons_zero, List.set_cons_succ, i64_w, i32_w]
                                      rfl
                                    refine pure_ (i := 8) (N := some 57) (v := ?_) (a' := ?_) #[false, true, true, true, false, true, false, false, true, false, false, false, false] rfl rfl (any_of HT_.out (by kernel_rfl)) (fun _ _ _ h => h) (Or.inl ⟨by rfl, ?_⟩) ?_ ?_
                                    rotate_left
                                    · intro w'
                                      go_simp
                                      with_reducible rfl
                                    rotate_left
                                    · simp only [Act.put, List.setIfInBounds_toArray, List.set_cons_zero, List.set_cons_succ, i64_w, i32_w]
                                      rfl
                                    refine pure_ (i := 9) (N := some 58) (v := ?_) (a' := ?_) #[false, true, true, true, false, true, false, false, true, true, false, false, false] rfl rfl (any_of HT_.out (by kernel_rfl)) (fun _ _ _ h => h) (Or.inl ⟨by rfl, ?_⟩) ?_ ?_
                                    rotate_left
                                    · intro w'
                                      go_simp
                                      with_reducible rfl
                                    rotate_left
                                    · simp only [Act.put, List.setIfInBounds_toArray, List.set_cons_zero, List.set_cons_succ, i64_w, i32_w]
                                      rfl
                                    refine pure_ (i := 10) (N := some 59) (v := ?_) (a' := ?_) #[false, true, true, true, false, true, false, false, true, true, true, false, false] rfl rfl (any_of HT_.out (by kernel_rfl)) (fun _ _ _ h => h) (Or.inl ⟨by rfl, ?_⟩) ?_ ?_
                                    rotate_left
                                    · intro w'
                                      go_simp
                                      with_reducible rfl
                                    rotate_left
                                    · simp only [Act.put, List.setIfInBounds_toArray, List.set_cons_zero, List.set_cons_succ, i64_w, i32_w]
                                      rfl
                                    refine join_ (σ := Value × Value × Value) 3 #[true, true, true, true, true, true, true, false, true, true, true, false, false] (fun s_ => [(49, s_.1), (53, s_.2.1), (55, s_.2.2)]) (fun s_ w' => (Kd.V (Kd.int .i64) 3 w' w.heap.size (fun k_ => (w.heap.size ≤ k_) ∧ some k_ ≠ (s_.2.1 : Value).ownBlock ∧ some k_ ≠ (s_.2.2 : Value).ownBlock ∧ some k_ ≠ (.slice (some ad1004) x3_2.length co45 : Value).ownBlock) (.slice A1004_0 (rd_L1 x3_2 x7_3).length c1004_0) (rd_L1 x3_2 x7_3)) ∧ (Kd.V (Kd.int .i64) 3 w' w.heap.size (fun k_ => (w.heap.size ≤ k_) ∧ some k_ ≠ (s_.2.1 : Value).ownBlock ∧ some k_ ≠ (s_.2.2 : Value).ownBlock ∧ some k_ ≠ (.slice (some ad1004) x3_2.length co45 : Value).ownBlock) (.slice A1004_0 (rd_L1 x3_2 x7_3).length c1004_0) (rd_L1 x3_2 x7_3)) ∧ (Kd.V (Kd.slice 3 (Kd.int .i64)) 27 w' w.heap.size (fun k_ => (w.heap.size ≤ k_) ∧ some k_ ≠ (s_.2.1 : Value).ownBlock ∧ some k_ ≠ (s_.2.2 : Value).ownBlock) (.slice (some ad1004) y1036.length co45) y1036) ∧ (Kd.N (Kd.slice 3 (Kd.int .i64)) 27 w' w.heap.size (fun k_ => (w.heap.size ≤ k_) ∧ some k_ ≠ (s_.2.2 : Value).ownBlock) s_.2.1 y1041) ∧ (Kd.N (Kd.slice 3 (Kd.int .i64)) 27 w' w.heap.size (fun k_ => (w.heap.size ≤ k_) ∧ some k_ ≠ (s_.2.1 : Value).ownBlock ∧ some k_ ≠ (.slice (some ad1004) x3_2.length co45 : Value).ownBlock) s_.2.2 y1044) ∧ (Kd.V (Kd.slice 3 (Kd.int .i64)) 27 w' w.heap.size (fun k_ => (w.heap.size ≤ k_) ∧ some k_ ≠ (s_.2.1 : Value).ownBlock ∧ some k_ ≠ (s_.2.2 : Value).ownBlock) (.slice A49 y1050.length c49) y1050) ∧ (Kd.N (Kd.slice 3 (Kd.int .i64)) 27 w' w.heap.size (fun k_ => (w.heap.size ≤ k_) ∧ some k_ ≠ (s_.2.1 : Value).ownBlock ∧ some k_ ≠ (s_.2.2 : Value).ownBlock) (.slice (some ad1004) x3_2.length co45) x3_2) ∧ (Below w.heap.size w w')) ?_ ?_
                                    rotate_left
                                    · intro hCont
                                      refine two_ (i := 0) (j := 6) (Ni := some 49) (Nj := some 55) #[true, true, true, true, false, true, false, false, true, true, true, false, false] #[false, true, true, true, false, true, true, false, true, true, true, false, false] rfl rfl rfl rfl (two_of HT_.out (by kernel_rfl)) (by decide) (by decide) (fun K hK => ?_) (fun K hK => ?_)
                                      · skip
                                        refine Kd.N_lit_step (Kd.slice 3 (Kd.int .i64)) _ 27 ?hg (N' := 49) ?hd (xs := ([] : List (List Int))) (inner := []) (ok := (fun k_ => (w.heap.size ≤ k_) ∧ some k_ ≠ (.slice (some ad1004) x3_2.length co45 : Value).ownBlock ∧ some k_ ≠ (.slice Ao46 t1001.length co46 : Value).ownBlock)) (okp := (fun k_ => (w.heap.size ≤ k_) ∧ some k_ ≠ (.slice (some ad1004) x3_2.length co45 : Value).ownBlock ∧ some k_ ≠ (.slice Ao46 t1001.length co46 : Value).ownBlock)) ?hr ?hp (fun _ hk => hk) ((show ∀ k_, w47.heap.size ≤ k_ → (fun k_ => (w.heap.size ≤ k_) ∧ some k_ ≠ (.slice (some ad1004) x3_2.length co45 : Value).ownBlock ∧ some k_ ≠ (.slice Ao46 t1001.length co46 : Value).ownBlock) k_ from fun k_ hk => ⟨(Nat.le_trans (below_size (by repeat (first | (with_reducible first | exact HB.out | apply below_alloc | apply pw_below_drewN | apply below_drew1) | exact HB.out))) hk), Kd.fresh' (Kd.N_lt (by (with_reducible repeat (first | apply Kd.N_alloc | apply Kd.N_drewN | apply Kd.N_drew)); exact HO_3.out)) k_ hk, Kd.fresh' (Kd.R_lt (by (with_reducible repeat (first | apply Kd.R_alloc | apply Kd.R_drewN | apply Kd.R_drew)); exact HO_6.out)) k_ hk⟩) _ (Nat.le_refl _)) (Below.refl _ _) (Nat.le_refl _) (by simp) ?_; (case hd => rfl); (case hg => rfl); (case hr => first | (go_simp; done) | (go_simp; rfl)); (case hp => exact (Reps.none _ _))
                                        intro v1034 w50 ho51 hb hg_ hnew_
                                        clear hg_ hnew_
                                        (first | rw [← Ny1033.out] at ho51 | (simp only [Int.reduceToNat] at ho51; rw [← Ny1033.out] at ho51))
                                        have n0_ := am (Kd.N_elder' (by (with_reducible repeat (first | apply Kd.N_alloc | apply Kd.N_drewN | apply Kd.N_drew)); exact HO_3.out) (by first | exact Kd.N_base ho51 | exact Kd.N_base (Kd.S_N ho51)) hb)
                                        have n1_ := am (Kd.R_below (by (with_reducible repeat (first | apply Kd.R_alloc | apply Kd.R_drewN | apply Kd.R_drew)); exact HO_6.out) hb)
                                        have n2_ := am (Kd.V_elder' (by (with_reducible repeat (first | apply Kd.V_alloc | apply Kd.V_drewN | apply Kd.V_drew)); exact HL1004_0.out) (by first | exact Kd.N_base ho51 | exact Kd.N_base (Kd.S_N ho51)) hb)
                                        have n3_ := am (Kd.V_elder' (by (with_reducible repeat (first | apply Kd.V_alloc | apply Kd.V_drewN | apply Kd.V_drew)); exact HL1031_0.out) (by first | exact Kd.N_base ho51 | exact Kd.N_base (Kd.S_N ho51)) hb)
                                        have n4_ := am (Kd.V_elder' (by (with_reducible repeat (first | apply Kd.V_alloc | apply Kd.V_drewN | apply Kd.V_drew)); exact HO1040.out) (by first | exact Kd.N_base ho51 | exact Kd.N_base (Kd.S_N ho51)) hb)
                                        have n5_ := am (Kd.V_elder' (by (with_reducible repeat (first | apply Kd.V_alloc | apply Kd.V_drewN | apply Kd.V_drew)); exact HO1054.out) (by first | exact Kd.N_base ho51 | exact Kd.N_base (Kd.S_N ho51)) hb)
                                        have n6_ := am (Kd.N_lower ho51 (below_size (by repeat (first | (with_reducible first | exact HB.out | apply below_alloc | apply pw_below_drewN | apply below_drew1) | exact HB.out))))
                                        have n7_ := am (Kd.C_below (by repeat (first | (with_reducible exact HR1004_0.out) | (with_reducible refine Kd.C_alloc ?_ _) | (with_reducible refine Kd.C_drewN ?_ _) | (with_reducible refine Kd.C_drew ?_) | exact HR1004_0.out)) hb)
                                        have n8_ := am (Kd.C_below (by repeat (first | (with_reducible exact HR1031_0.out) | (with_reducible refine Kd.C_alloc ?_ _) | (with_reducible refine Kd.C_drewN ?_ _) | (with_reducible refine Kd.C_drew ?_) | exact HR1031_0.out)) hb)
                                        have n9_ := am (below_step (by repeat (first | (with_reducible first | exact HB.out | apply below_alloc | apply pw_below_drewN | apply below_drew1) | exact HB.out)) hb)
                                        clear HO_3
                                        clear HO_6
                                        clear HL1004_0
                                        clear HL1031_0
                                        clear HO1040
                                        clear HO1054
                                        clear HR1004_0
                                        clear HR1031_0
                                        clear HB
                                        have HO_3 := n0_
                                        have HO_6 := n1_
                                        have HL1004_0 := n2_
                                        have HL1031_0 := n3_
                                        have HO1040 := n4_
                                        have HO1054 := n5_
                                        have HO1035 := n6_
                                        have HR1004_0 := n7_
                                        have HR1031_0 := n8_
                                        have HB := n9_
                                        clear n0_ n1_ n2_ n3_ n4_ n5_ n6_ n7_ n8_ n9_
                                        clear hb ho51
                                        refine hK.out _ _ trivial (fun hHeld => ?_)
                                        clear hK K
                                        refine norm_ (a' := ?_) ?_ ?_
                                        rotate_left
                                        · show Act.put _ (some 49) _ = _
                                          simp only [Act.put, List.setIfInBounds_toArray, List.set_cons_zero, List.set_cons_succ, i64_w, i32_w]
                                          rfl
                                        refine two_ (i := 4) (j := 6) (Ni := some 53) (Nj := some 55) #[true, true, true, true, true, true, false, false, true, true, true, false, false] #[true, true, true, true, false, true, true, false, true, true, true, false, false] rfl rfl rfl rfl (two_of HT_.out (by kernel_rfl)) (by decide) (by decide) (fun K hK => ?_) (fun K hK => ?_)
                                        · skip
                                          refine Kd.N_append_rows_step (Kd.slice 3 (Kd.int .i64)) (w0 := w) w.heap.size (by rfl) (.tmp 49) (.tmp 52) 30 27 (.slice none 0 0) 24 rfl Try.underlying30 info27 rfl (by decide) (by omega) v1034 y1033 y1036 _ _ _ (fun k_ => (w.heap.size ≤ k_) ∧ some k_ ≠ (.slice Ao46 t1001.length co46 : Value).ownBlock) (fun k_ => ((fun k_ => (w.heap.size ≤ k_) ∧ some k_ ≠ (.slice Ao46 t1001.length co46 : Value).ownBlock)) k_ ∧ some k_ ≠ (v1034 : Value).ownBlock) rfl rfl ?aO ?aR (fun _ hk => hk) ?aF ?aB ?aS ?aL ?_
                                          (case aR => exact (by skip; exact Kd.V_F (Kd.V_mono (ok' := (fun k_ => ((fun k_ => (w.heap.size ≤ k_) ∧ some k_ ≠ (.slice Ao46 t1001.length co46 : Value).ownBlock)) k_ ∧ some k_ ≠ (v1034 : Value).ownBlock)) (HO1040.out) (fun k_ hk => ⟨⟨hk.1.1, hk.1.2⟩, hk.2⟩))))
                                          (case aB => exact (by repeat (first | (with_reducible first | exact HB.out | apply below_alloc | apply pw_below_drewN | apply below_drew1) | exact HB.out)))
                                          (case aF => exact (fun k_ hk => ⟨(Nat.le_trans (below_size (by repeat (first | (with_reducible first | exact HB.out | apply below_alloc | apply pw_below_drewN | apply below_drew1) | exact HB.out))) hk), Kd.fresh' (Kd.R_lt (by (with_reducible repeat (first | apply Kd.R_alloc | apply Kd.R_drewN | apply Kd.R_drew)); exact HO_6.out)) k_ hk⟩))
                                          (case aO => exact (by (with_reducible repeat (first | apply Kd.N_alloc | apply Kd.N_drewN | apply Kd.N_drew)); exact Kd.N_mono HO1035.out (fun _ hk => ⟨hk.1, hk.2.2⟩)))
                                          (case aS => exact (below_size (by repeat (first | (with_reducible first | exact HB.out | apply below_alloc | apply pw_below_drewN | apply below_drew1) | exact HB.out))))
                                          (case aL => have := LMc40.out; omega)
                                          intro v1042 w52 ho hb hg hat
                                          rw [← Ny1041.out] at ho
                                          have n0_ := am (Kd.N_afterv (ok := (fun k_ => (w.heap.size ≤ k_) ∧ some k_ ≠ (.slice Ao46 t1001.length co46 : Value).ownBlock)) (by (with_reducible repeat (first | apply Kd.N_alloc | apply Kd.N_drewN | apply Kd.N_drew)); exact HO_3.out) hg hat)
                                          have n1_ := am (Kd.R_over' (by (with_reducible repeat (first | apply Kd.R_alloc | apply Kd.R_drewN | apply Kd.R_drew)); exact HO_6.out) (Kd.N_typed (by (with_reducible repeat (first | apply Kd.N_alloc | apply Kd.N_drewN | apply Kd.N_drew)); exact HO1035.out)) (by decide) hg)
                                          have n2_ := am (Kd.V_afterv (ok := (fun k_ => (w.heap.size ≤ k_) ∧ some k_ ≠ (.slice (some ad1004) x3_2.length co45 : Value).ownBlock ∧ some k_ ≠ (.slice Ao46 t1001.length co46 : Value).ownBlock)) (by (with_reducible repeat (first | apply Kd.V_alloc | apply Kd.V_drewN | apply Kd.V_drew)); exact Kd.V_mono HL1004_0.out (fun _ hk => hk)) hg hat)
                                          have n3_ := am (Kd.V_afterv (ok := (fun k_ => (w.heap.size ≤ k_) ∧ some k_ ≠ (.slice (some ad1004) x3_2.length co45 : Value).ownBlock ∧ some k_ ≠ (.slice Ao46 t1001.length co46 : Value).ownBlock)) (by (with_reducible repeat (first | apply Kd.V_alloc | apply Kd.V_drewN | apply Kd.V_drew)); exact Kd.V_mono HL1031_0.out (fun _ hk => hk)) hg hat)
                                          have n4_ := am (Kd.V_afterv (ok := (fun k_ => (w.heap.size ≤ k_) ∧ some k_ ≠ (.slice Ao46 t1001.length co46 : Value).ownBlock)) (by (with_reducible repeat (first | apply Kd.V_alloc | apply Kd.V_drewN | apply Kd.V_drew)); exact HO1040.out) hg hat)
                                          have n5_ := am (Kd.V_afterv (ok := (fun k_ => (w.heap.size ≤ k_) ∧ some k_ ≠ (.slice Ao46 t1001.length co46 : Value).ownBlock)) (by (with_reducible repeat (first | apply Kd.V_alloc | apply Kd.V_drewN | apply Kd.V_drew)); exact HO1054.out) hg hat)
                                          have n6_ := am (hb)
                                          have n7_ := am (ho)
                                          clear HO_3
                                          clear HO_6
                                          clear HL1004_0
                                          clear HL1031_0
                                          clear HO1040
                                          clear HO1054
                                          clear HB
                                          clear HO1035
                                          have HO_3 := n0_
                                          have HO_6 := n1_
                                          have HL1004_0 := n2_
                                          have HL1031_0 := n3_
                                          have HO1040 := n4_
                                          have HO1054 := n5_
                                          have HB := n6_
                                          have HO1043 := n7_
                                          clear n0_ n1_ n2_ n3_ n4_ n5_ n6_ n7_
                                          clear ho hb hg hat
                                          refine hK.out _ _ trivial (fun hHeld => ?_)
                                          clear hK K
                                          refine norm_ (a' := ?_) ?_ ?_
                                          rotate_left
                                          · show Act.put _ (some 53) _ = _
                                            simp only [Act.put, List.setIfInBounds_toArray, List.set_cons_zero, List.set_cons_succ, i64_w, i32_w]
                                            rfl
                                          refine one_ (i := 6) (N := some 55) #[true, true, true, true, true, true, true, false, true, true, true, false, false] rfl rfl (one_of HT_.out (by kernel_rfl)) (by decide) (fun K hK => ?_)
                                          refine Kd.N_lit_step (Kd.slice 3 (Kd.int .i64)) _ 27 ?hg (N' := 55) ?hd (xs := ([t1001] : List (List Int))) (inner := [.slice Ao46 t1001.length co46]) (ok := (fun k_ => (w.heap.size ≤ k_) ∧ some k_ ≠ (.slice (some ad1004) x3_2.length co45 : Value).ownBlock ∧ some k_ ≠ (v1042 : Value).ownBlock)) (okp := (fun k_ => (w.heap.size ≤ k_) ∧ some k_ ≠ (.slice (some ad1004) x3_2.length co45 : Value).ownBlock ∧ some k_ ≠ (v1042 : Value).ownBlock)) ?hr ?hp (fun _ hk => hk) ((show ∀ k_, w52.heap.size ≤ k_ → (fun k_ => (w.heap.size ≤ k_) ∧ some k_ ≠ (.slice (some ad1004) x3_2.length co45 : Value).ownBlock ∧ some k_ ≠ (v1042 : Value).ownBlock) k_ from fun k_ hk => ⟨(Nat.le_trans (below_size (by repeat (first | (with_reducible first | exact HB.out | apply below_alloc | apply pw_below_drewN | apply below_drew1) | exact HB.out))) hk), Kd.fresh' (Kd.N_lt (by (with_reducible repeat (first | apply Kd.N_alloc | apply Kd.N_drewN | apply Kd.N_drew)); exact HO_3.out)) k_ hk, Kd.fresh' (Kd.N_lt (by (with_reducible repeat (first | apply Kd.N_alloc | apply Kd.N_drewN | apply Kd.N_drew)); exact HO1043.out)) k_ hk⟩) _ (Nat.le_refl _)) (Below.refl _ _) (Nat.le_refl _) (by simp) ?_; (case hd => rfl); (case hg => rfl); (case hr => first | (go_simp; done) | (go_simp; rfl)); (case hp => exact (Reps.one (show Kd.FK (Kd.slice 3 (Kd.int .i64)) _ _ t1001 [.slice Ao46 t1001.length co46] from (Kd.FK_slice_mk (Kd.R_reads' (Kd.R_mono (ok' := (fun k_ => (w.heap.size ≤ k_) ∧ some k_ ≠ (.slice (some ad1004) x3_2.length co45 : Value).ownBlock ∧ some k_ ≠ (v1042 : Value).ownBlock)) (Kd.R_apart' (Kd.R_apart' (HO_6.out) (Kd.N_typed HO_3.out) (by decide)) (Kd.N_typed HO1043.out) (by decide)) (fun k_ hk => ⟨hk.1.1, ⟨hk.1.2, hk.2⟩⟩))).2.1 (Kd.R_F (Kd.R_mono (ok' := (fun k_ => (w.heap.size ≤ k_) ∧ some k_ ≠ (.slice (some ad1004) x3_2.length co45 : Value).ownBlock ∧ some k_ ≠ (v1042 : Value).ownBlock)) (Kd.R_apart' (Kd.R_apart' (HO_6.out) (Kd.N_typed HO_3.out) (by decide)) (Kd.N_typed HO1043.out) (by decide)) (fun k_ hk => ⟨hk.1.1, ⟨hk.1.2, hk.2⟩⟩))))) (Reps.none _ _)))
                                          intro v1045 w53 ho54 hb hg_ hnew_
                                          clear hg_ hnew_
                                          (first | rw [← Ny1044.out] at ho54 | (simp only [Int.reduceToNat] at ho54; rw [← Ny1044.out] at ho54))
                                          have n0_ := am (Kd.N_elder' (by (with_reducible repeat (first | apply Kd.N_alloc | apply Kd.N_drewN | apply Kd.N_drew)); exact HO_3.out) (by first | exact Kd.N_base ho54 | exact Kd.N_base (Kd.S_N ho54)) hb)
                                          have n1_ := am (Kd.V_elder' (by (with_reducible repeat (first | apply Kd.V_alloc | apply Kd.V_drewN | apply Kd.V_drew)); exact HL1004_0.out) (by first | exact Kd.N_base ho54 | exact Kd.N_base (Kd.S_N ho54)) hb)
                                          have n2_ := am (Kd.V_elder' (by (with_reducible repeat (first | apply Kd.V_alloc | apply Kd.V_drewN | apply Kd.V_drew)); exact HL1031_0.out) (by first | exact Kd.N_base ho54 | exact Kd.N_base (Kd.S_N ho54)) hb)
                                          have n3_ := am (Kd.V_elder' (by (with_reducible repeat (first | apply Kd.V_alloc | apply Kd.V_drewN | apply Kd.V_drew)); exact HO1040.out) (by first | exact Kd.N_base ho54 | exact Kd.N_base (Kd.S_N ho54)) hb)
                                          have n4_ := am (Kd.V_elder' (by (with_reducible repeat (first | apply Kd.V_alloc | apply Kd.V_drewN | apply Kd.V_drew)); exact HO1054.out) (by first | exact Kd.N_base ho54 | exact Kd.N_base (Kd.S_N ho54)) hb)
                                          have n5_ := am (Kd.N_elder' (by (with_reducible repeat (first | apply Kd.N_alloc | apply Kd.N_drewN | apply Kd.N_drew)); exact HO1043.out) (by first | exact Kd.N_base ho54 | exact Kd.N_base (Kd.S_N ho54)) hb)
                                          have n6_ := am (Kd.N_lower ho54 (below_size (by repeat (first | (with_reducible first | exact HB.out | apply below_alloc | apply pw_below_drewN | apply below_drew1) | exact HB.out))))
                                          have n7_ := am (below_step (by repeat (first | (with_reducible first | exact HB.out | apply below_alloc | apply pw_below_drewN | apply below_drew1) | exact HB.out)) hb)
                                          clear HO_3
                                          clear HL1004_0
                                          clear HL1031_0
                                          clear HO1040
                                          clear HO1054
                                          clear HO1043
                                          clear HB
                                          clear HO_6
                                          have HO_3 := n0_
                                          have HL1004_0 := n1_
                                          have HL1031_0 := n2_
                                          have HO1040 := n3_
                                          have HO1054 := n4_
                                          have HO1043 := n5_
                                          have HO1046 := n6_
                                          have HB := n7_
                                          clear n0_ n1_ n2_ n3_ n4_ n5_ n6_ n7_
                                          clear hb ho54
                                          refine hK.out _ _ trivial (fun hHeld => ?_)
                                          clear hK K
                                          refine norm_ (a' := ?_) ?_ ?_
                                          rotate_left
                                          · show Act.put _ (some 55) _ = _
                                            simp only [Act.put, List.setIfInBounds_toArray, List.set_cons_zero, List.set_cons_succ, i64_w, i32_w]
                                            rfl
                                          exact norm_ (by simp only [putAll, Act.put, List.setIfInBounds_toArray, List.set_cons_zero, List.set_cons_succ]) (hCont (v1034, v1042, v1045) _ ⟨(by (with_reducible repeat (first | apply Kd.V_alloc | apply Kd.V_drewN | apply Kd.V_drew)); exact Kd.V_mono HL1004_0.out (fun _ hk => ⟨hk.1.1.1, ⟨hk.1.2, ⟨hk.2, hk.1.1.2.1⟩⟩⟩)), (by (with_reducible repeat (first | apply Kd.V_alloc | apply Kd.V_drewN | apply Kd.V_drew)); exact Kd.V_mono HL1031_0.out (fun _ hk => ⟨hk.1.1.1, ⟨hk.1.2, ⟨hk.2, hk.1.1.2.1⟩⟩⟩)), (by (with_reducible repeat (first | apply Kd.V_alloc | apply Kd.V_drewN | apply Kd.V_drew)); exact Kd.V_mono HO1040.out (fun _ hk => ⟨hk.1.1.1, ⟨hk.1.2, hk.2⟩⟩)), (by (with_reducible repeat (first | apply Kd.N_alloc | apply Kd.N_drewN | apply Kd.N_drew)); exact Kd.N_mono HO1043.out (fun _ hk => ⟨hk.1.1, hk.2⟩)), (by (with_reducible repeat (first | apply Kd.N_alloc | apply Kd.N_drewN | apply Kd.N_drew)); exact Kd.N_mono HO1046.out (fun _ hk => ⟨hk.1, ⟨hk.2.2, hk.2.1⟩⟩)), (by (with_reducible repeat (first | apply Kd.V_alloc | apply Kd.V_drewN | apply Kd.V_drew)); exact Kd.V_mono HO1054.out (fun _ hk => ⟨hk.1.1.1, ⟨hk.1.2, hk.2⟩⟩)), (by (with_reducible repeat (first | apply Kd.N_alloc | apply Kd.N_drewN | apply Kd.N_drew)); exact Kd.N_mono HO_3.out (fun _ hk => ⟨hk.1.1.1, ⟨hk.1.2, hk.2⟩⟩)), (by repeat (first | (with_reducible first | exact HB.out | apply below_alloc | apply pw_below_drewN | apply below_drew1) | exact HB.out))⟩)
                                        · skip
                                          refine Kd.N_lit_step (Kd.slice 3 (Kd.int .i64)) _ 27 ?hg (N' := 55) ?hd (xs := ([t1001] : List (List Int))) (inner := [.slice Ao46 t1001.length co46]) (ok := (fun k_ => (w.heap.size ≤ k_) ∧ some k_ ≠ (.slice (some ad1004) x3_2.length co45 : Value).ownBlock ∧ some k_ ≠ (v1034 : Value).ownBlock)) (okp := (fun k_ => (w.heap.size ≤ k_) ∧ some k_ ≠ (.slice (some ad1004) x3_2.length co45 : Value).ownBlock ∧ some k_ ≠ (v1034 : Value).ownBlock)) ?hr ?hp (fun _ hk => hk) ((show ∀ k_, w50.heap.size ≤ k_ → (fun k_ => (w.heap.size ≤ k_) ∧ some k_ ≠ (.slice (some ad1004) x3_2.length co45 : Value).ownBlock ∧ some k_ ≠ (v1034 : Value).ownBlock) k_ from fun k_ hk => ⟨(Nat.le_trans (below_size (by repeat (first | (with_reducible first | exact HB.out | apply below_alloc | apply pw_below_drewN | apply below_drew1) | exact HB.out))) hk), Kd.fresh' (Kd.N_lt (by (with_reducible repeat (first | apply Kd.N_alloc | apply Kd.N_drewN | apply Kd.N_drew)); exact HO_3.out)) k_ hk, Kd.fresh' (Kd.N_lt (by (with_reducible repeat (first | apply Kd.N_alloc | apply Kd.N_drewN | apply Kd.N_drew)); exact HO1035.out)) k_ hk⟩) _ (Nat.le_refl _)) (Below.refl _ _) (Nat.le_refl _) (by simp) ?_; (case hd => rfl); (case hg => rfl); (case hr => first | (go_simp; done) | (go_simp; rfl)); (case hp => exact (Reps.one (show Kd.FK (Kd.slice 3 (Kd.int .i64)) _ _ t1001 [.slice Ao46 t1001.length co46] from (Kd.FK_slice_mk (Kd.R_reads' (Kd.R_mono (ok' := (fun k_ => (w.heap.size ≤ k_) ∧ some k_ ≠ (.slice (some ad1004) x3_2.length co45 : Value).ownBlock ∧ some k_ ≠ (v1034 : Value).ownBlock)) (Kd.R_apart' (Kd.R_apart' (HO_6.out) (Kd.N_typed HO_3.out) (by decide)) (Kd.N_typed HO1035.out) (by decide)) (fun k_ hk => ⟨hk.1.1, ⟨hk.1.2, hk.2⟩⟩))).2.1 (Kd.R_F (Kd.R_mono (ok' := (fun k_ => (w.heap.size ≤ k_) ∧ some k_ ≠ (.slice (some ad1004) x3_2.length co45 : Value).ownBlock ∧ some k_ ≠ (v1034 : Value).ownBlock)) (Kd.R_apart' (Kd.R_apart' (HO_6.out) (Kd.N_typed HO_3.out) (by decide)) (Kd.N_typed HO1035.out) (by decide)) (fun k_ hk => ⟨hk.1.1, ⟨hk.1.2, hk.2⟩⟩))))) (Reps.none _ _)))
                                          intro v1045 w52 ho53 hb hg_ hnew_
                                          clear hg_ hnew_
                                          (first | rw [← Ny1044.out] at ho53 | (simp only [Int.reduceToNat] at ho53; rw [← Ny1044.out] at ho53))
                                          have n0_ := am (Kd.N_elder' (by (with_reducible repeat (first | apply Kd.N_alloc | apply Kd.N_drewN | apply Kd.N_drew)); exact HO_3.out) (by first | exact Kd.N_base ho53 | exact Kd.N_base (Kd.S_N ho53)) hb)
                                          have n1_ := am (Kd.V_elder' (by (with_reducible repeat (first | apply Kd.V_alloc | apply Kd.V_drewN | apply Kd.V_drew)); exact HL1004_0.out) (by first | exact Kd.N_base ho53 | exact Kd.N_base (Kd.S_N ho53)) hb)
                                          have n2_ := am (Kd.V_elder' (by (with_reducible repeat (first | apply Kd.V_alloc | apply Kd.V_drewN | apply Kd.V_drew)); exact HL1031_0.out) (by first | exact Kd.N_base ho53 | exact Kd.N_base (Kd.S_N ho53)) hb)
                                          have n3_ := am (Kd.V_elder' (by (with_reducible repeat (first | apply Kd.V_alloc | apply Kd.V_drewN | apply Kd.V_drew)); exact HO1040.out) (by first | exact Kd.N_base ho53 | exact Kd.N_base (Kd.S_N ho53)) hb)
                                          have n4_ := am (Kd.V_elder' (by (with_reducible repeat (first | apply Kd.V_alloc | apply Kd.V_drewN | apply Kd.V_drew)); exact HO1054.out) (by first | exact Kd.N_base ho53 | exact Kd.N_base (Kd.S_N ho53)) hb)
                                          have n5_ := am (Kd.N_elder' (by (with_reducible repeat (first | apply Kd.N_alloc | apply Kd.N_drewN | apply Kd.N_drew)); exact HO1035.out) (by first | exact Kd.N_base ho53 | exact Kd.N_base (Kd.S_N ho53)) hb)
                                          have n6_ := am (Kd.N_lower ho53 (below_size (by repeat (first | (with_reducible first | exact HB.out | apply below_alloc | apply pw_below_drewN | apply below_drew1) | exact HB.out))))
                                          have n7_ := am (Kd.C_below (by repeat (first | (with_reducible exact HR1004_0.out) | (with_reducible refine Kd.C_alloc ?_ _) | (with_reducible refine Kd.C_drewN ?_ _) | (with_reducible refine Kd.C_drew ?_) | exact HR1004_0.out)) hb)
                                          have n8_ := am (Kd.C_below (by repeat (first | (with_reducible exact HR1031_0.out) | (with_reducible refine Kd.C_alloc ?_ _) | (with_reducible refine Kd.C_drewN ?_ _) | (with_reducible refine Kd.C_drew ?_) | exact HR1031_0.out)) hb)
                                          have n9_ := am (below_step (by repeat (first | (with_reducible first | exact HB.out | apply below_alloc | apply pw_below_drewN | apply below_drew1) | exact HB.out)) hb)
                                          clear HO_3
                                          clear HL1004_0
                                          clear HL1031_0
                                          clear HO1040
                                          clear HO1054
                                          clear HO1035
                                          clear HR1004_0
                                          clear HR1031_0
                                          clear HB
                                          clear HO_6
                                          have HO_3 := n0_
                                          have HL1004_0 := n1_
                                          have HL1031_0 := n2_
                                          have HO1040 := n3_
                                          have HO1054 := n4_
                                          have HO1035 := n5_
                                          have HO1046 := n6_
                                          have HR1004_0 := n7_
                                          have HR1031_0 := n8_
                                          have HB := n9_
                                          clear n0_ n1_ n2_ n3_ n4_ n5_ n6_ n7_ n8_ n9_
                                          clear hb ho53
                                          refine hK.out _ _ trivial (fun hHeld => ?_)
                                          clear hK K
                                          refine norm_ (a' := ?_) ?_ ?_
                                          rotate_left
                                          · show Act.put _ (some 55) _ = _
                                            simp only [Act.put, List.setIfInBounds_toArray, List.set_cons_zero, List.set_cons_succ, i64_w, i32_w]
                                            rfl
                                          refine one_ (i := 4) (N := some 53) #[true, true, true, true, true, true, true, false, true, true, true, false, false] rfl rfl (one_of HT_.out (by kernel_rfl)) (by decide) (fun K hK => ?_)
                                          refine Kd.N_append_rows_step (Kd.slice 3 (Kd.int .i64)) (w0 := w) w.heap.size (by rfl) (.tmp 49) (.tmp 52) 30 27 (.slice none 0 0) 24 rfl Try.underlying30 info27 rfl (by decide) (by omega) v1034 y1033 y1036 _ _ _ (fun k_ => (w.heap.size ≤ k_) ∧ some k_ ≠ (v1045 : Value).ownBlock) (fun k_ => ((fun k_ => (w.heap.size ≤ k_) ∧ some k_ ≠ (v1045 : Value).ownBlock)) k_ ∧ some k_ ≠ (v1034 : Value).ownBlock) rfl rfl ?aO ?aR (fun _ hk => hk) ?aF ?aB ?aS ?aL ?_
                                          (case aR => exact (by skip; exact Kd.V_F (Kd.V_mono (ok' := (fun k_ => ((fun k_ => (w.heap.size ≤ k_) ∧ some k_ ≠ (v1045 : Value).ownBlock)) k_ ∧ some k_ ≠ (v1034 : Value).ownBlock)) (HO1040.out) (fun k_ hk => ⟨⟨hk.1.1.1, hk.2⟩, hk.1.2⟩))))
                                          (case aB => exact (by repeat (first | (with_reducible first | exact HB.out | apply below_alloc | apply pw_below_drewN | apply below_drew1) | exact HB.out)))
                                          (case aF => exact (fun k_ hk => ⟨(Nat.le_trans (below_size (by repeat (first | (with_reducible first | exact HB.out | apply below_alloc | apply pw_below_drewN | apply below_drew1) | exact HB.out))) hk), Kd.fresh' (Kd.N_lt (by (with_reducible repeat (first | apply Kd.N_alloc | apply Kd.N_drewN | apply Kd.N_drew)); exact HO1046.out)) k_ hk⟩))
                                          (case aO => exact (by (with_reducible repeat (first | apply Kd.N_alloc | apply Kd.N_drewN | apply Kd.N_drew)); exact Kd.N_mono HO1035.out (fun _ hk => ⟨hk.1.1, hk.2⟩)))
                                          (case aS => exact (below_size (by repeat (first | (with_reducible first | exact HB.out | apply below_alloc | apply pw_below_drewN | apply below_drew1) | exact HB.out))))
                                          (case aL => have := LMc40.out; omega)
                                          intro v1042 w54 ho hb hg hat
                                          rw [← Ny1041.out] at ho
                                          have n0_ := am (Kd.N_afterv (ok := (fun k_ => (w.heap.size ≤ k_) ∧ some k_ ≠ (v1045 : Value).ownBlock)) (by (with_reducible repeat (first | apply Kd.N_alloc | apply Kd.N_drewN | apply Kd.N_drew)); exact Kd.N_mono HO_3.out (fun _ hk => ⟨⟨hk.1.1.1, hk.2⟩, hk.1.2⟩)) hg hat)
                                          have n1_ := am (Kd.V_afterv (ok := (fun k_ => (w.heap.size ≤ k_) ∧ some k_ ≠ (.slice (some ad1004) x3_2.length co45 : Value).ownBlock ∧ some k_ ≠ (v1045 : Value).ownBlock)) (by (with_reducible repeat (first | apply Kd.V_alloc | apply Kd.V_drewN | apply Kd.V_drew)); exact Kd.V_mono HL1004_0.out (fun _ hk => ⟨⟨hk.1.1.1, ⟨hk.1.1.2.1, hk.2⟩⟩, hk.1.2⟩)) hg hat)
                                          have n2_ := am (Kd.V_afterv (ok := (fun k_ => (w.heap.size ≤ k_) ∧ some k_ ≠ (.slice (some ad1004) x3_2.length co45 : Value).ownBlock ∧ some k_ ≠ (v1045 : Value).ownBlock)) (by (with_reducible repeat (first | apply Kd.V_alloc | apply Kd.V_drewN | apply Kd.V_drew)); exact Kd.V_mono HL1031_0.out (fun _ hk => ⟨⟨hk.1.1.1, ⟨hk.1.1.2.1, hk.2⟩⟩, hk.1.2⟩)) hg hat)
                                          have n3_ := am (Kd.V_afterv (ok := (fun k_ => (w.heap.size ≤ k_) ∧ some k_ ≠ (v1045 : Value).ownBlock)) (by (with_reducible repeat (first | apply Kd.V_alloc | apply Kd.V_drewN | apply Kd.V_drew)); exact Kd.V_mono HO1040.out (fun _ hk => ⟨⟨hk.1.1.1, hk.2⟩, hk.1.2⟩)) hg hat)
                                          have n4_ := am (Kd.V_afterv (ok := (fun k_ => (w.heap.size ≤ k_) ∧ some k_ ≠ (v1045 : Value).ownBlock)) (by (with_reducible repeat (first | apply Kd.V_alloc | apply Kd.V_drewN | apply Kd.V_drew)); exact Kd.V_mono HO1054.out (fun _ hk => ⟨⟨hk.1.1.1, hk.2⟩, hk.1.2⟩)) hg hat)
                                          have n5_ := am (Kd.N_afterv (ok := (fun k_ => (w.heap.size ≤ k_) ∧ some k_ ≠ (.slice (some ad1004) x3_2.length co45 : Value).ownBlock)) (by (with_reducible repeat (first | apply Kd.N_alloc | apply Kd.N_drewN | apply Kd.N_drew)); exact Kd.N_mono HO1046.out (fun _ hk => ⟨⟨hk.1, hk.2.1⟩, hk.2.2⟩)) hg hat)
                                          have n6_ := am (hb)
                                          have n7_ := am (ho)
                                          clear HO_3
                                          clear HL1004_0
                                          clear HL1031_0
                                          clear HO1040
                                          clear HO1054
                                          clear HO1046
                                          clear HB
                                          clear HO1035
                                          have HO_3 := n0_
                                          have HL1004_0 := n1_
                                          have HL1031_0 := n2_
                                          have HO1040 := n3_
                                          have HO1054 := n4_
                                          have HO1046 := n5_
                                          have HB := n6_
                                          have HO1043 := n7_
                                          clear n0_ n1_ n2_ n3_ n4_ n5_ n6_ n7_
                                          clear ho hb hg hat
                                          refine hK.out _ _ trivial (fun hHeld => ?_)
                                          clear hK K
                                          refine norm_ (a' := ?_) ?_ ?_
                                          rotate_left
                                          · show Act.put _ (some 53) _ = _
                                            simp only [Act.put, List.setIfInBounds_toArray, List.set_cons_zero, List.set_cons_succ, i64_w, i32_w]
                                            rfl
                                          exact norm_ (by simp only [putAll, Act.put, List.setIfInBounds_toArray, List.set_cons_zero, List.set_cons_succ]) (hCont (v1034, v1042, v1045) _ ⟨(by (with_reducible repeat (first | apply Kd.V_alloc | apply Kd.V_drewN | apply Kd.V_drew)); exact Kd.V_mono HL1004_0.out (fun _ hk => ⟨hk.1.1, ⟨hk.2, ⟨hk.1.2.2, hk.1.2.1⟩⟩⟩)), (by (with_reducible repeat (first | apply Kd.V_alloc | apply Kd.V_drewN | apply Kd.V_drew)); exact Kd.V_mono HL1031_0.out (fun _ hk => ⟨hk.1.1, ⟨hk.2, ⟨hk.1.2.2, hk.1.2.1⟩⟩⟩)), (by (with_reducible repeat (first | apply Kd.V_alloc | apply Kd.V_drewN | apply Kd.V_drew)); exact Kd.V_mono HO1040.out (fun _ hk => ⟨hk.1.1, ⟨hk.2, hk.1.2⟩⟩)), (by (with_reducible repeat (first | apply Kd.N_alloc | apply Kd.N_drewN | apply Kd.N_drew)); exact HO1043.out), (by (with_reducible repeat (first | apply Kd.N_alloc | apply Kd.N_drewN | apply Kd.N_drew)); exact Kd.N_mono HO1046.out (fun _ hk => ⟨hk.1.1, ⟨hk.2, hk.1.2⟩⟩)), (by (with_reducible repeat (first | apply Kd.V_alloc | apply Kd.V_drewN | apply Kd.V_drew)); exact Kd.V_mono HO1054.out (fun _ hk => ⟨hk.1.1, ⟨hk.2, hk.1.2⟩⟩)), (by (with_reducible repeat (first | apply Kd.N_alloc | apply Kd.N_drewN | apply Kd.N_drew)); exact Kd.N_mono HO_3.out (fun _ hk => ⟨hk.1.1, ⟨hk.2, hk.1.2⟩⟩)), (by repeat (first | (with_reducible first | exact HB.out | apply below_alloc | apply pw_below_drewN | apply below_drew1) | exact HB.out))⟩)
                                      · skip
                                        refine Kd.N_lit_step (Kd.slice 3 (Kd.int .i64)) _ 27 ?hg (N' := 55) ?hd (xs := ([t1001] : List (List Int))) (inner := [.slice Ao46 t1001.length co46]) (ok := (fun k_ => (w.heap.size ≤ k_) ∧ some k_ ≠ (.slice (some ad1004) x3_2.length co45 : Value).ownBlock)) (okp := (fun k_ => (w.heap.size ≤ k_) ∧ some k_ ≠ (.slice (some ad1004) x3_2.length co45 : Value).ownBlock)) ?hr ?hp (fun _ hk => hk) ((show ∀ k_, w47.heap.size ≤ k_ → (fun k_ => (w.heap.size ≤ k_) ∧ some k_ ≠ (.slice (some ad1004) x3_2.length co45 : Value).ownBlock) k_ from fun k_ hk => ⟨(Nat.le_trans (below_size (by repeat (first | (with_reducible first | exact HB.out | apply below_alloc | apply pw_below_drewN | apply below_drew1) | exact HB.out))) hk), Kd.fresh' (Kd.N_lt (by (with_reducible repeat (first | apply Kd.N_alloc | apply Kd.N_drewN | apply Kd.N_drew)); exact HO_3.out)) k_ hk⟩) _ (Nat.le_refl _)) (Below.refl _ _) (Nat.le_refl _) (by simp) ?_; (case hd => rfl); (case hg => rfl); (case hr => first | (go_simp; done) | (go_simp; rfl)); (case hp => exact (Reps.one (show Kd.FK (Kd.slice 3 (Kd.int .i64)) _ _ t1001 [.slice Ao46 t1001.length co46] from (Kd.FK_slice_mk (Kd.R_reads' (Kd.R_mono (ok' := (fun k_ => (w.heap.size ≤ k_) ∧ some k_ ≠ (.slice (some ad1004) x3_2.length co45 : Value).ownBlock)) (Kd.R_apart' (HO_6.out) (Kd.N_typed HO_3.out) (by decide)) (fun k_ hk => ⟨hk.1, hk.2⟩))).2.1 (Kd.R_F (Kd.R_mono (ok' := (fun k_ => (w.heap.size ≤ k_) ∧ some k_ ≠ (.slice (some ad1004) x3_2.length co45 : Value).ownBlock)) (Kd.R_apart' (HO_6.out) (Kd.N_typed HO_3.out) (by decide)) (fun k_ hk => ⟨hk.1, hk.2⟩))))) (Reps.none _ _)))
                                        intro v1045 w50 ho51 hb hg_ hnew_
                                        clear hg_ hnew_
                                        (first | rw [← Ny1044.out] at ho51 | (simp only [Int.reduceToNat] at ho51; rw [← Ny1044.out] at ho51))
                                        have n0_ := am (Kd.N_elder' (by (with_reducible repeat (first | apply Kd.N_alloc | apply Kd.N_drewN | apply Kd.N_drew)); exact HO_3.out) (by first | exact Kd.N_base ho51 | exact Kd.N_base (Kd.S_N ho51)) hb)
                                        have n1_ := am (Kd.V_elder' (by (with_reducible repeat (first | apply Kd.V_alloc | apply Kd.V_drewN | apply Kd.V_drew)); exact HL1004_0.out) (by first | exact Kd.N_base ho51 | exact Kd.N_base (Kd.S_N ho51)) hb)
                                        have n2_ := am (Kd.V_elder' (by (with_reducible repeat (first | apply Kd.V_alloc | apply Kd.V_drewN | apply Kd.V_drew)); exact HL1031_0.out) (by first | exact Kd.N_base ho51 | exact Kd.N_base (Kd.S_N ho51)) hb)
                                        have n3_ := am (Kd.V_elder' (by (with_reducible repeat (first | apply Kd.V_alloc | apply Kd.V_drewN | apply Kd.V_drew)); exact HO1040.out) (by first | exact Kd.N_base ho51 | exact Kd.N_base (Kd.S_N ho51)) hb)
                                        have n4_ := am (Kd.V_elder' (by (with_reducible repeat (first | apply Kd.V_alloc | apply Kd.V_drewN | apply Kd.V_drew)); exact HO1054.out) (by first | exact Kd.N_base ho51 | exact Kd.N_base (Kd.S_N ho51)) hb)
                                        have n5_ := am (Kd.N_lower ho51 (below_size (by repeat (first | (with_reducible first | exact HB.out | apply below_alloc | apply pw_below_drewN | apply below_drew1) | exact HB.out))))
                                        have n6_ := am (Kd.C_below (by repeat (first | (with_reducible exact HR1004_0.out) | (with_reducible refine Kd.C_alloc ?_ _) | (with_reducible refine Kd.C_drewN ?_ _) | (with_reducible refine Kd.C_drew ?_) | exact HR1004_0.out)) hb)
                                        have n7_ := am (Kd.C_below (by repeat (first | (with_reducible exact HR1031_0.out) | (with_reducible refine Kd.C_alloc ?_ _) | (with_reducible refine Kd.C_drewN ?_ _) | (with_reducible refine Kd.C_drew ?_) | exact HR1031_0.out)) hb)
                                        have n8_ := am (below_step (by repeat (first | (with_reducible first | exact HB.out | apply below_alloc | apply pw_below_drewN | apply below_drew1) | exact HB.out)) hb)
                                        clear HO_3
                                        clear HL1004_0
                                        clear HL1031_0
                                        clear HO1040
                                        clear HO1054
                                        clear HR1004_0
                                        clear HR1031_0
                                        clear HB
                                        clear HO_6
                                        have HO_3 := n0_
                                        have HL1004_0 := n1_
                                        have HL1031_0 := n2_
                                        have HO1040 := n3_
                                        have HO1054 := n4_
                                        have HO1046 := n5_
                                        have HR1004_0 := n6_
                                        have HR1031_0 := n7_
                                        have HB := n8_
                                        clear n0_ n1_ n2_ n3_ n4_ n5_ n6_ n7_ n8_
                                        clear hb ho51
                                        refine hK.out _ _ trivial (fun hHeld => ?_)
                                        clear hK K
                                        refine norm_ (a' := ?_) ?_ ?_
                                        rotate_left
                                        · show Act.put _ (some 55) _ = _
                                          simp only [Act.put, List.setIfInBounds_toArray, List.set_cons_zero, List.set_cons_succ, i64_w, i32_w]
                                          rfl
                                        refine one_ (i := 0) (N := some 49) #[true, true, true, true, false, true, true, false, true, true, true, false, false] rfl rfl (one_of HT_.out (by kernel_rfl)) (by decide) (fun K hK => ?_)
                                        refine Kd.N_lit_step (Kd.slice 3 (Kd.int .i64)) _ 27 ?hg (N' := 49) ?hd (xs := ([] : List (List Int))) (inner := []) (ok := (fun k_ => (w.heap.size ≤ k_) ∧ some k_ ≠ (.slice (some ad1004) x3_2.length co45 : Value).ownBlock ∧ some k_ ≠ (v1045 : Value).ownBlock)) (okp := (fun k_ => (w.heap.size ≤ k_) ∧ some k_ ≠ (.slice (some ad1004) x3_2.length co45 : Value).ownBlock ∧ some k_ ≠ (v1045 : Value).ownBlock)) ?hr ?hp (fun _ hk => hk) ((show ∀ k_, w50.heap.size ≤ k_ → (fun k_ => (w.heap.size ≤ k_) ∧ some k_ ≠ (.slice (some ad1004) x3_2.length co45 : Value).ownBlock ∧ some k_ ≠ (v1045 : Value).ownBlock) k_ from fun k_ hk => ⟨(Nat.le_trans (below_size (by repeat (first | (with_reducible first | exact HB.out | apply below_alloc | apply pw_below_drewN | apply below_drew1) | exact HB.out))) hk), Kd.fresh' (Kd.N_lt (by (with_reducible repeat (first | apply Kd.N_alloc | apply Kd.N_drewN | apply Kd.N_drew)); exact HO_3.out)) k_ hk, Kd.fresh' (Kd.N_lt (by (with_reducible repeat (first | apply Kd.N_alloc | apply Kd.N_drewN | apply Kd.N_drew)); exact HO1046.out)) k_ hk⟩) _ (Nat.le_refl _)) (Below.refl _ _) (Nat.le_refl _) (by simp) ?_; (case hd => rfl); (case hg => rfl); (case hr => first | (go_simp; done) | (go_simp; rfl)); (case hp => exact (Reps.none _ _))
                                        intro v1034 w52 ho53 hb hg_ hnew_
                                        clear hg_ hnew_
                                        (first | rw [← Ny1033.out] at ho53 | (simp only [Int.reduceToNat] at ho53; rw [← Ny1033.out] at ho53))
                                        have n0_ := am (Kd.N_elder' (by (with_reducible repeat (first | apply Kd.N_alloc | apply Kd.N_drewN | apply Kd.N_drew)); exact HO_3.out) (by first | exact Kd.N_base ho53 | exact Kd.N_base (Kd.S_N ho53)) hb)
                                        have n1_ := am (Kd.V_elder' (by (with_reducible repeat (first | apply Kd.V_alloc | apply Kd.V_drewN | apply Kd.V_drew)); exact HL1004_0.out) (by first | exact Kd.N_base ho53 | exact Kd.N_base (Kd.S_N ho53)) hb)
                                        have n2_ := am (Kd.V_elder' (by (with_reducible repeat (first | apply Kd.V_alloc | apply Kd.V_drewN | apply Kd.V_drew)); exact HL1031_0.out) (by first | exact Kd.N_base ho53 | exact Kd.N_base (Kd.S_N ho53)) hb)
                                        have n3_ := am (Kd.V_elder' (by (with_reducible repeat (first | apply Kd.V_alloc | apply Kd.V_drewN | apply Kd.V_drew)); exact HO1040.out) (by first | exact Kd.N_base ho53 | exact Kd.N_base (Kd.S_N ho53)) hb)
                                        have n4_ := am (Kd.V_elder' (by (with_reducible repeat (first | apply Kd.V_alloc | apply Kd.V_drewN | apply Kd.V_drew)); exact HO1054.out) (by first | exact Kd.N_base ho53 | exact Kd.N_base (Kd.S_N ho53)) hb)
                                        have n5_ := am (Kd.N_elder' (by (with_reducible repeat (first | apply Kd.N_alloc | apply Kd.N_drewN | apply Kd.N_drew)); exact HO1046.out) (by first | exact Kd.N_base ho53 | exact Kd.N_base (Kd.S_N ho53)) hb)
                                        have n6_ := am (Kd.N_lower ho53 (below_size (by repeat (first | (with_reducible first | exact HB.out | apply below_alloc | apply pw_below_drewN | apply below_drew1) | exact HB.out))))
                                        have n7_ := am (Kd.C_below (by repeat (first | (with_reducible exact HR1004_0.out) | (with_reducible refine Kd.C_alloc ?_ _) | (with_reducible refine Kd.C_drewN ?_ _) | (with_reducible refine Kd.C_drew ?_) | exact HR1004_0.out)) hb)
                                        have n8_ := am (Kd.C_below (by repeat (first | (with_reducible exact HR1031_0.out) | (with_reducible refine Kd.C_alloc ?_ _) | (with_reducible refine Kd.C_drewN ?_ _) | (with_reducible refine Kd.C_drew ?_) | exact HR1031_0.out)) hb)
                                        have n9_ := am (below_step (by repeat (first | (with_reducible first | exact HB.out | apply below_alloc | apply pw_below_drewN | apply below_drew1) | exact HB.out)) hb)
                                        clear HO_3
                                        clear HL1004_0
                                        clear HL1031_0
                                        clear HO1040
                                        clear HO1054
                                        clear HO1046
                                        clear HR1004_0
                                        clear HR1031_0
                                        clear HB
                                        have HO_3 := n0_
                                        have HL1004_0 := n1_
                                        have HL1031_0 := n2_
                                        have HO1040 := n3_
                                        have HO1054 := n4_
                                        have HO1046 := n5_
                                        have HO1035 := n6_
                                        have HR1004_0 := n7_
                                        have HR1031_0 := n8_
                                        have HB := n9_
                                        clear n0_ n1_ n2_ n3_ n4_ n5_ n6_ n7_ n8_ n9_
                                        clear hb ho53
                                        refine hK.out _ _ trivial (fun hHeld => ?_)
                                        clear hK K
                                        refine norm_ (a' := ?_) ?_ ?_
                                        rotate_left
                                        · show Act.put _ (some 49) _ = _
                                          simp only [Act.put, List.setIfInBounds_toArray, List.set_cons_zero, List.set_cons_succ, i64_w, i32_w]
                                          rfl
                                        refine one_ (i := 4) (N := some 53) #[true, true, true, true, true, true, true, false, true, true, true, false, false] rfl rfl (one_of HT_.out (by kernel_rfl)) (by decide) (fun K hK => ?_)
                                        refine Kd.N_append_rows_step (Kd.slice 3 (Kd.int .i64)) (w0 := w) w.heap.size (by rfl) (.tmp 49) (.tmp 52) 30 27 (.slice none 0 0) 24 rfl Try.underlying30 info27 rfl (by decide) (by omega) v1034 y1033 y1036 _ _ _ (fun k_ => (w.heap.size ≤ k_) ∧ some k_ ≠ (v1045 : Value).ownBlock) (fun k_ => ((fun k_ => (w.heap.size ≤ k_) ∧ some k_ ≠ (v1045 : Value).ownBlock)) k_ ∧ some k_ ≠ (v1034 : Value).ownBlock) rfl rfl ?aO ?aR (fun _ hk => hk) ?aF ?aB ?aS ?aL ?_
                                        (case aR => exact (by skip; exact Kd.V_F (Kd.V_mono (ok' := (fun k_ => ((fun k_ => (w.heap.size ≤ k_) ∧ some k_ ≠ (v1045 : Value).ownBlock)) k_ ∧ some k_ ≠ (v1034 : Value).ownBlock)) (HO1040.out) (fun k_ hk => ⟨⟨hk.1.1.1, hk.1.2⟩, hk.2⟩))))
                                        (case aB => exact (by repeat (first | (with_reducible first | exact HB.out | apply below_alloc | apply pw_below_drewN | apply below_drew1) | exact HB.out)))
                                        (case aF => exact (fun k_ hk => ⟨(Nat.le_trans (below_size (by repeat (first | (with_reducible first | exact HB.out | apply below_alloc | apply pw_below_drewN | apply below_drew1) | exact HB.out))) hk), Kd.fresh' (Kd.N_lt (by (with_reducible repeat (first | apply Kd.N_alloc | apply Kd.N_drewN | apply Kd.N_drew)); exact HO1046.out)) k_ hk⟩))
                                        (case aO => exact (by (with_reducible repeat (first | apply Kd.N_alloc | apply Kd.N_drewN | apply Kd.N_drew)); exact Kd.N_mono HO1035.out (fun _ hk => ⟨hk.1, hk.2.2⟩)))
                                        (case aS => exact (below_size (by repeat (first | (with_reducible first | exact HB.out | apply below_alloc | apply pw_below_drewN | apply below_drew1) | exact HB.out))))
                                        (case aL => have := LMc40.out; omega)
                                        intro v1042 w54 ho hb hg hat
                                        rw [← Ny1041.out] at ho
                                        have n0_ := am (Kd.N_afterv (ok := (fun k_ => (w.heap.size ≤ k_) ∧ some k_ ≠ (v1045 : Value).ownBlock)) (by (with_reducible repeat (first | apply Kd.N_alloc | apply Kd.N_drewN | apply Kd.N_drew)); exact Kd.N_mono HO_3.out (fun _ hk => ⟨⟨hk.1.1.1, hk.1.2⟩, hk.2⟩)) hg hat)
                                        have n1_ := am (Kd.V_afterv (ok := (fun k_ => (w.heap.size ≤ k_) ∧ some k_ ≠ (.slice (some ad1004) x3_2.length co45 : Value).ownBlock ∧ some k_ ≠ (v1045 : Value).ownBlock)) (by (with_reducible repeat (first | apply Kd.V_alloc | apply Kd.V_drewN | apply Kd.V_drew)); exact Kd.V_mono HL1004_0.out (fun _ hk => ⟨⟨hk.1.1.1, ⟨hk.1.1.2.1, hk.1.2⟩⟩, hk.2⟩)) hg hat)
                                        have n2_ := am (Kd.V_afterv (ok := (fun k_ => (w.heap.size ≤ k_) ∧ some k_ ≠ (.slice (some ad1004) x3_2.length co45 : Value).ownBlock ∧ some k_ ≠ (v1045 : Value).ownBlock)) (by (with_reducible repeat (first | apply Kd.V_alloc | apply Kd.V_drewN | apply Kd.V_drew)); exact Kd.V_mono HL1031_0.out (fun _ hk => ⟨⟨hk.1.1.1, ⟨hk.1.1.2.1, hk.1.2⟩⟩, hk.2⟩)) hg hat)
                                        have n3_ := am (Kd.V_afterv (ok := (fun k_ => (w.heap.size ≤ k_) ∧ some k_ ≠ (v1045 : Value).ownBlock)) (by (with_reducible repeat (first | apply Kd.V_alloc | apply Kd.V_drewN | apply Kd.V_drew)); exact Kd.V_mono HO1040.out (fun _ hk => ⟨⟨hk.1.1.1, hk.1.2⟩, hk.2⟩)) hg hat)
                                        have n4_ := am (Kd.V_afterv (ok := (fun k_ => (w.heap.size ≤ k_) ∧ some k_ ≠ (v1045 : Value).ownBlock)) (by (with_reducible repeat (first | apply Kd.V_alloc | apply Kd.V_drewN | apply Kd.V_drew)); exact Kd.V_mono HO1054.out (fun _ hk => ⟨⟨hk.1.1.1, hk.1.2⟩, hk.2⟩)) hg hat)
                                        have n5_ := am (Kd.N_afterv (ok := (fun k_ => (w.heap.size ≤ k_) ∧ some k_ ≠ (.slice (some ad1004) x3_2.length co45 : Value).ownBlock)) (by (with_reducible repeat (first | apply Kd.N_alloc | apply Kd.N_drewN | apply Kd.N_drew)); exact HO1046.out) hg hat)
                                        have n6_ := am (hb)
                                        have n7_ := am (ho)
                                        clear HO_3
                                        clear HL1004_0
                                        clear HL1031_0
                                        clear HO1040
                                        clear HO1054
                                        clear HO1046
                                        clear HB
                                        clear HO1035
                                        have HO_3 := n0_
                                        have HL1004_0 := n1_
                                        have HL1031_0 := n2_
                                        have HO1040 := n3_
                                        have HO1054 := n4_
                                        have HO1046 := n5_
                                        have HB := n6_
                                        have HO1043 := n7_
                                        clear n0_ n1_ n2_ n3_ n4_ n5_ n6_ n7_
                                        clear ho hb hg hat
                                        refine hK.out _ _ trivial (fun hHeld => ?_)
                                        clear hK K
                                        refine norm_ (a' := ?_) ?_ ?_
                                        rotate_left
                                        · show Act.put _ (some 53) _ = _
                                          simp only [Act.put, List.setIfInBounds_toArray, List.set_cons_zero, List.set_cons_succ, i64_w, i32_w]
                                          rfl
                                        exact norm_ (by simp only [putAll, Act.put, List.setIfInBounds_toArray, List.set_cons_zero, List.set_cons_succ]) (hCont (v1034, v1042, v1045) _ ⟨(by (with_reducible repeat (first | apply Kd.V_alloc | apply Kd.V_drewN | apply Kd.V_drew)); exact Kd.V_mono HL1004_0.out (fun _ hk => ⟨hk.1.1, ⟨hk.2, ⟨hk.1.2.2, hk.1.2.1⟩⟩⟩)), (by (with_reducible repeat (first | apply Kd.V_alloc | apply Kd.V_drewN | apply Kd.V_drew)); exact Kd.V_mono HL1031_0.out (fun _ hk => ⟨hk.1.1, ⟨hk.2, ⟨hk.1.2.2, hk.1.2.1⟩⟩⟩)), (by (with_reducible repeat (first | apply Kd.V_alloc | apply Kd.V_drewN | apply Kd.V_drew)); exact Kd.V_mono HO1040.out (fun _ hk => ⟨hk.1.1, ⟨hk.2, hk.1.2⟩⟩)), (by (with_reducible repeat (first | apply Kd.N_alloc | apply Kd.N_drewN | apply Kd.N_drew)); exact HO1043.out), (by (with_reducible repeat (first | apply Kd.N_alloc | apply Kd.N_drewN | apply Kd.N_drew)); exact Kd.N_mono HO1046.out (fun _ hk => ⟨hk.1.1, ⟨hk.2, hk.1.2⟩⟩)), (by (with_reducible repeat (first | apply Kd.V_alloc | apply Kd.V_drewN | apply Kd.V_drew)); exact Kd.V_mono HO1054.out (fun _ hk => ⟨hk.1.1, ⟨hk.2, hk.1.2⟩⟩)), (by (with_reducible repeat (first | apply Kd.N_alloc | apply Kd.N_drewN | apply Kd.N_drew)); exact Kd.N_mono HO_3.out (fun _ hk => ⟨hk.1.1, ⟨hk.2, hk.1.2⟩⟩)), (by repeat (first | (with_reducible first | exact HB.out | apply below_alloc | apply pw_below_drewN | apply below_drew1) | exact HB.out))⟩)
                                    rintro ⟨v1034, v1042, v1045⟩ w55 ⟨h0_, h1_, h2_, h3_, h4_, h5_, h6_, h7_⟩
                                    have n0_ : Aside0 (Kd.V (Kd.int .i64) 3 w55 w.heap.size (fun k_ => (w.heap.size ≤ k_) ∧ some k_ ≠ (v1042 : Value).ownBlock ∧ some k_ ≠ (v1045 : Value).ownBlock ∧ some k_ ≠ (.slice (some ad1004) x3_2.length co45 : Value).ownBlock) (.slice A1004_0 (rd_L1 x3_2 x7_3).length c1004_0) (rd_L1 x3_2 x7_3)) := ⟨h0_⟩
                                    have n1_ : Aside0 (Kd.V (Kd.int .i64) 3 w55 w.heap.size (fun k_ => (w.heap.size ≤ k_) ∧ some k_ ≠ (v1042 : Value).ownBlock ∧ some k_ ≠ (v1045 : Value).ownBlock ∧ some k_ ≠ (.slice (some ad1004) x3_2.length co45 : Value).ownBlock) (.slice A1004_0 (rd_L1 x3_2 x7_3).length c1004_0) (rd_L1 x3_2 x7_3)) := ⟨h1_⟩
                                    have n2_ : Aside0 (Kd.V (Kd.slice 3 (Kd.int .i64)) 27 w55 w.heap.size (fun k_ => (w.heap.size ≤ k_) ∧ some k_ ≠ (v1042 : Value).ownBlock ∧ some k_ ≠ (v1045 : Value).ownBlock) (.slice (some ad1004) y1036.length co45) y1036) := ⟨h2_⟩
                                    have n3_ : Aside0 (Kd.N (Kd.slice 3 (Kd.int .i64)) 27 w55 w.heap.size (fun k_ => (w.heap.size ≤ k_) ∧ some k_ ≠ (v1045 : Value).ownBlock) v1042 y1041) := ⟨h3_⟩
                                    have n4_ : Aside0 (Kd.N (Kd.slice 3 (Kd.int .i64)) 27 w55 w.heap.size (fun k_ => (w.heap.size ≤ k_) ∧ some k_ ≠ (v1042 : Value).ownBlock ∧ some k_ ≠ (.slice (some ad1004) x3_2.length co45 : Value).ownBlock) v1045 y1044) := ⟨h4_⟩
                                    have n5_ : Aside0 (Kd.V (Kd.slice 3 (Kd.int .i64)) 27 w55 w.heap.size (fun k_ => (w.heap.size ≤ k_) ∧ some k_ ≠ (v1042 : Value).ownBlock ∧ some k_ ≠ (v1045 : Value).ownBlock) (.slice A49 y1050.length c49) y1050) := ⟨h5_⟩
                                    have n6_ : Aside0 (Kd.N (Kd.slice 3 (Kd.int .i64)) 27 w55 w.heap.size (fun k_ => (w.heap.size ≤ k_) ∧ some k_ ≠ (v1042 : Value).ownBlock ∧ some k_ ≠ (v1045 : Value).ownBlock) (.slice (some ad1004) x3_2.length co45) x3_2) := ⟨h6_⟩
                                    have n7_ : Aside0 (Below w.heap.size w w55) := ⟨h7_⟩
                                    clear HO_3
                                    clear HO_6
                                    clear HL1004_0
                                    clear HL1031_0
                                    clear HR1004_0
                                    clear HR1031_0
                                    clear HB
                                    clear h0_ h1_ h2_ h3_ h4_ h5_ h6_ h7_
                                    have HL1004_0 := n0_
                                    have HL1031_0 := n1_
                                    have HO1040 := n2_
                                    have HO1043 := n3_
                                    have HO1046 := n4_
                                    have HO1054 := n5_
                                    have HO_3 := n6_
                                    have HB := n7_
                                    clear n0_ n1_ n2_ n3_ n4_ n5_ n6_ n7_
                                    have hHeld := trivial
                                    obtain ⟨Ao57, co57, eo57⟩ := Kd.N_slice HO1046.out
                                    (first | subst eo57 | (injection eo57 with f1_ f2_ f3_; have f4_ := f1_.symm; have f5_ := f3_.symm; clear f1_ f2_ f3_; subst f4_; subst f5_))
                                    refine norm_ (a' := ?_) ?_ ?_
                                    rotate_left
                                    · simp only [putAll, Act.put, List.setIfInBounds_toArray, List.set_cons_zero, List.set_cons_succ]
                                      rfl
                                    refine one_ (i := 7) (N := some 56) #[true, true, true, true, true, true, true, true, true, true, true, false, false] rfl rfl (one_of HT_.out (by kernel_rfl)) (by decide) (fun K hK => ?_)
                                    refine Kd.N_append_rows_step (Kd.slice 3 (Kd.int .i64)) (w0 := w) w.heap.size (by rfl) (.tmp 53) (.tmp 55) 30 27 (.slice none 0 0) 24 rfl Try.underlying30 info27 rfl (by decide) (by omega) v1042 y1041 y1044 _ _ _ (fun k_ => (w.heap.size ≤ k_)) (fun k_ => ((fun k_ => (w.heap.size ≤ k_))) k_ ∧ some k_ ≠ (v1042 : Value).ownBlock) rfl rfl ?aO ?aR (fun _ hk => hk) ?aF ?aB ?aS ?aL ?_
                                    (case aR => exact (by skip; exact Kd.N_F (Kd.N_mono (ok' := (fun k_ => ((fun k_ => (w.heap.size ≤ k_))) k_ ∧ some k_ ≠ (v1042 : Value).ownBlock)) (HO1046.out) (fun k_ hk => ⟨hk.1, hk.2.1⟩))))
                                    (case aB => exact (by repeat (first | (with_reducible first | exact HB.out | apply below_alloc | apply pw_below_drewN | apply below_drew1) | exact HB.out)))
                                    (case aF => exact (fun k_ hk => (Nat.le_trans (below_size (by repeat (first | (with_reducible first | exact HB.out | apply below_alloc | apply pw_below_drewN | apply below_drew1) | exact HB.out))) hk)))
                                    (case aO => exact (by (with_reducible repeat (first | apply Kd.N_alloc | apply Kd.N_drewN | apply Kd.N_drew)); exact Kd.N_mono HO1043.out (fun _ hk => hk.1)))
                                    (case aS => exact (below_size (by repeat (first | (with_reducible first | exact HB.out | apply below_alloc | apply pw_below_drewN | apply below_drew1) | exact HB.out))))
                                    (case aL => have := LMc41.out; omega)
                                    intro v1048 w56 ho hb hg hat
                                    rw [← Ny1047.out] at ho
                                    have n0_ := am (Kd.N_afterv (ok := (fun k_ => (w.heap.size ≤ k_) ∧ some k_ ≠ (.slice Ao57 y1044.length co57 : Value).ownBlock)) (by (with_reducible repeat (first | apply Kd.N_alloc | apply Kd.N_drewN | apply Kd.N_drew)); exact Kd.N_mono HO_3.out (fun _ hk => ⟨⟨hk.1, hk.2.2⟩, hk.2.1⟩)) hg hat)
                                    have n1_ := am (Kd.V_afterv (ok := (fun k_ => (w.heap.size ≤ k_) ∧ some k_ ≠ (.slice (some ad1004) x3_2.length co45 : Value).ownBlock ∧ some k_ ≠ (.slice Ao57 y1044.length co57 : Value).ownBlock)) (by (with_reducible repeat (first | apply Kd.V_alloc | apply Kd.V_drewN | apply Kd.V_drew)); exact Kd.V_mono HL1004_0.out (fun _ hk => ⟨⟨hk.1, ⟨hk.2.2.2, hk.2.2.1⟩⟩, hk.2.1⟩)) hg hat)
                                    have n2_ := am (Kd.V_afterv (ok := (fun k_ => (w.heap.size ≤ k_) ∧ some k_ ≠ (.slice (some ad1004) x3_2.length co45 : Value).ownBlock ∧ some k_ ≠ (.slice Ao57 y1044.length co57 : Value).ownBlock)) (by (with_reducible repeat (first | apply Kd.V_alloc | apply Kd.V_drewN | apply Kd.V_drew)); exact Kd.V_mono HL1031_0.out (fun _ hk => ⟨⟨hk.1, ⟨hk.2.2.2, hk.2.2.1⟩⟩, hk.2.1⟩)) hg hat)
                                    have n3_ := am (Kd.V_afterv (ok := (fun k_ => (w.heap.size ≤ k_) ∧ some k_ ≠ (.slice Ao57 y1044.length co57 : Value).ownBlock)) (by (with_reducible repeat (first | apply Kd.V_alloc | apply Kd.V_drewN | apply Kd.V_drew)); exact Kd.V_mono HO1040.out (fun _ hk => ⟨⟨hk.1, hk.2.2⟩, hk.2.1⟩)) hg hat)
                                    have n4_ := am (Kd.V_afterv (ok := (fun k_ => (w.heap.size ≤ k_) ∧ some k_ ≠ (.slice Ao57 y1044.length co57 : Value).ownBlock)) (by (with_reducible repeat (first | apply Kd.V_alloc | apply Kd.V_drewN | apply Kd.V_drew)); exact Kd.V_mono HO1054.out (fun _ hk => ⟨⟨hk.1, hk.2.2⟩, hk.2.1⟩)) hg hat)
                                    have n5_ := am (Kd.N_afterv (ok := (fun k_ => (w.heap.size ≤ k_) ∧ some k_ ≠ (.slice (some ad1004) x3_2.length co45 : Value).ownBlock)) (by (with_reducible repeat (first | apply Kd.N_alloc | apply Kd.N_drewN | apply Kd.N_drew)); exact Kd.N_mono HO1046.out (fun _ hk => ⟨⟨hk.1, hk.2.2⟩, hk.2.1⟩)) hg hat)
                                    have n6_ := am (hb)
                                    have n7_ := am (ho)
                                    clear HO_3
                                    clear HL1004_0
                                    clear HL1031_0
                                    clear HO1040
                                    clear HO1054
                                    clear HO1046
                                    clear HB
                                    clear HO1043
                                    have HO_3 := n0_
                                    have HL1004_0 := n1_
                                    have HL1031_0 := n2_
                                    have HO1040 := n3_
                                    have HO1054 := n4_
                                    have HO1046 := n5_
                                    have HB := n6_
                                    have HO1049 := n7_
                                    clear n0_ n1_ n2_ n3_ n4_ n5_ n6_ n7_
                                    clear ho hb hg hat
                                    refine hK.out _ _ trivial (fun hHeld => ?_)
                                    clear hK K
                                    refine norm_ (a' := ?_) ?_ ?_
                                    rotate_left
                                    · show Act.put _ (some 56) _ = _
                                      simp only [Act.put, List.setIfInBounds_toArray, List.set_cons_zero, List.set_cons_succ, i64_w, i32_w]
                                      rfl
                                    refine one_ (i := 11) (N := some 60) #[true, true, true, true, true, true, true, true, true, true, true, true, false] rfl rfl (one_of HT_.out (by kernel_rfl)) (by decide) (fun K hK => ?_)
                                    refine Kd.N_append_rows_step (Kd.slice 3 (Kd.int .i64)) (w0 := w) w.heap.size (by rfl) (.tmp 56) (.tmp 59) 30 27 (.slice none 0 0) 24 rfl Try.underlying30 info27 rfl (by decide) (by omega) v1048 y1047 y1050 _ _ _ (fun k_ => (w.heap.size ≤ k_)) (fun k_ => ((fun k_ => (w.heap.size ≤ k_))) k_ ∧ some k_ ≠ (v1048 : Value).ownBlock) rfl rfl ?aO ?aR (fun _ hk => hk) ?aF ?aB ?aS ?aL ?_
                                    (case aR => exact (by skip; exact Kd.V_F (Kd.V_mono (ok' := (fun k_ => ((fun k_ => (w.heap.size ≤ k_))) k_ ∧ some k_ ≠ (v1048 : Value).ownBlock)) (HO1054.out) (fun k_ hk => ⟨hk.1.1, hk.2⟩))))
                                    (case aB => exact (by repeat (first | (with_reducible first | exact HB.out | apply below_alloc | apply pw_below_drewN | apply below_drew1) | exact HB.out)))
                                    (case aF => exact (fun k_ hk => (Nat.le_trans (below_size (by repeat (first | (with_reducible first | exact HB.out | apply below_alloc | apply pw_below_drewN | apply below_drew1) | exact HB.out))) hk)))
                                    (case aO => exact (by (with_reducible repeat (first | apply Kd.N_alloc | apply Kd.N_drewN | apply Kd.N_drew)); exact HO1049.out))
                                    (case aS => exact (below_size (by repeat (first | (with_reducible first | exact HB.out | apply below_alloc | apply pw_below_drewN | apply below_drew1) | exact HB.out))))
                                    (case aL => have := LMc44.out; omega)
                                    intro v1056 w58 ho hb hg hat
                                    rw [← Ny1055.out] at ho
                                    have n0_ := am (Kd.N_afterv (ok := (fun k_ => (w.heap.size ≤ k_) ∧ some k_ ≠ (.slice Ao57 y1044.length co57 : Value).ownBlock)) (by (with_reducible repeat (first | apply Kd.N_alloc | apply Kd.N_drewN | apply Kd.N_drew)); exact HO_3.out) hg hat)
                                    have n1_ := am (Kd.V_afterv (ok := (fun k_ => (w.heap.size ≤ k_) ∧ some k_ ≠ (.slice (some ad1004) x3_2.length co45 : Value).ownBlock ∧ some k_ ≠ (.slice Ao57 y1044.length co57 : Value).ownBlock)) (by (with_reducible repeat (first | apply Kd.V_alloc | apply Kd.V_drewN | apply Kd.V_drew)); exact HL1004_0.out) hg hat)
                                    have n2_ := am (Kd.V_afterv (ok := (fun k_ => (w.heap.size ≤ k_) ∧ some k_ ≠ (.slice (some ad1004) x3_2.length co45 : Value).ownBlock ∧ some k_ ≠ (.slice Ao57 y1044.length co57 : Value).ownBlock)) (by (with_reducible repeat (first | apply Kd.V_alloc | apply Kd.V_drewN | apply Kd.V_drew)); exact HL1031_0.out) hg hat)
                                    have n3_ := am (Kd.V_afterv (ok := (fun k_ => (w.heap.size ≤ k_) ∧ some k_ ≠ (.slice Ao57 y1044.length co57 : Value).ownBlock)) (by (with_reducible repeat (first | apply Kd.V_alloc | apply Kd.V_drewN | apply Kd.V_drew)); exact HO1040.out) hg hat)
                                    have n4_ := am (Kd.V_afterv (ok := (fun k_ => (w.heap.size ≤ k_) ∧ some k_ ≠ (.slice Ao57 y1044.length co57 : Value).ownBlock)) (by (with_reducible repeat (first | apply Kd.V_alloc | apply Kd.V_drewN | apply Kd.V_drew)); exact HO1054.out) hg hat)
                                    have n5_ := am (Kd.N_afterv (ok := (fun k_ => (w.heap.size ≤ k_) ∧ some k_ ≠ (.slice (some ad1004) x3_2.length co45 : Value).ownBlock)) (by (with_reducible repeat (first | apply Kd.N_alloc | apply Kd.N_drewN | apply Kd.N_drew)); exact HO1046.out) hg hat)
                                    have n6_ := am (hb)
                                    have n7_ := am (ho)
                                    clear HO_3
                                    clear HL1004_0
                                    clear HL1031_0
                                    clear HO1040
                                    clear HO1054
                                    clear HO1046
                                    clear HB
                                    clear HO1049
                                    have HO_3 := n0_
                                    have HL1004_0 := n1_
                                    have HL1031_0 := n2_
                                    have HO1040 := n3_
                                    have HO1054 := n4_
                                    have HO1046 := n5_
                                    have HB := n6_
                                    have HO1057 := n7_
                                    clear n0_ n1_ n2_ n3_ n4_ n5_ n6_ n7_
                                    clear ho hb hg hat
                                    refine hK.out _ _ trivial (fun hHeld => ?_)
                                    clear hK K
                                    refine norm_ (a' := ?_) ?_ ?_
                                    rotate_left
                                    · show Act.put _ (some 60) _ = _
                                      simp only [Act.put, List.setIfInBounds_toArray, List.set_cons_zero, List.set_cons_succ, i64_w, i32_w]
                                      rfl
                                    refine pure_ (i := 12) (N := some 3) (v := ?_) (a' := ?_) #[true, true, true, true, true, true, true, true, true, true, true, true, true] rfl rfl (any_of HT_.out (by kernel_rfl)) (fun _ _ _ h => h) (Or.inl ⟨by rfl, ?_⟩) ?_ ?_
                                    rotate_left
                                    · intro w'
                                      go_simp
                                      with_reducible rfl
                                    rotate_left
                                    · simp only [Act.put, List.setIfInBounds_toArray, List.set_cons_zero, List.set_cons_succ, i64_w, i32_w]
                                      rfl
                                    refine done_ (done_of HT_.out (by kernel_rfl)) ?_
                                    try go_wp2
                                    go_roundg k3
                                    case measure => have := HK1.out; have := HK2.out; have := HK3.out; omega
                                    case rel => exact ⟨(y1055), (wrap64 (x13_2 + 1)), (by first | rfl | (simp; done) | (simp [*]; done)), H', ⟨by have := HK1.out; have := HK2.out; have := HK3.out; omega⟩, ⟨by (with_reducible repeat (first | apply Kd.N_alloc | apply Kd.N_drewN | apply Kd.N_drew)); exact HO1057.out⟩, ⟨by repeat (first | (with_reducible first | exact HB.out | apply below_alloc | apply pw_below_drewN | apply below_drew1) | exact HB.out)⟩⟩
                                  · rw [if_neg c44] at H
                                    exact absurd H (by simp)
                                · rw [if_neg c41] at H
                                  exact absurd H (by simp)
                              · rw [if_neg c40] at H
                                exact absurd H (by simp)
                            · rw [if_neg c39] at H
                              exact absurd H (by simp)
                    · rw [if_neg c7] at H
                      exact absurd H (by simp)
                  · rw [if_neg c6] at H
                    have c6b0 : decide (x7_3 < (x3_2.length : Int)) = false := decide_eq_false c6
                    clear c6
                    by_cases c59 : x7_3 = (x3_2.length : Int)
                    · rw [if_pos c59] at H
                      have c59b0 : (x7_3 == (x3_2.length : Int)) = true := beq_iff_eq.mpr c59
                      have c59b1 : (x7_3 != (x3_2.length : Int)) = false := bne_eq_false_iff_eq.mpr c59
                      clear c59
                      obtain ⟨y1058, hy1058⟩ : ∃ y_ : List (List Int), y_ = (([] : List (List Int))) := ⟨_, rfl⟩
                      replace H : (if 0 ≤ x7_3 then (if x7_3 ≤ (x3_2.length : Int) then ((some (x3_2.take (x7_3 : Int).toNat : List (List Int))).bind fun y1061 => (if y1058.length + y1061.length < 5864062014805 then ((some (y1058 ++ y1061 : List (List Int))).bind fun y1066 => ((some (([t1001] : List (List Int)) : List (List Int))).bind fun y1069 => (if y1066.length + y1069.length < 5864062014805 then ((some (y1066 ++ y1069 : List (List Int))).bind fun y1072 => ((some (x3_2.drop (x7_3 : Int).toNat : List (List Int))).bind fun y1075 => (if y1072.length + y1075.length < 5864062014805 then (sackbutref05_Forms.l1 k3 l0 (y1072 ++ y1075) x8_1 x8_1 (l0.length : Int) (wrap64 (x13_2 + 1))) else (none)))) else (none)))) else (none))) else (none)) else (none)) = some r := by first | (rw [hy1058]; with_reducible exact H) | (have H2_ := (Option.bind_some _ _).symm.trans H; rw [hy1058]; with_reducible exact H2_) | (have H2_ := (Option.bind_some _ _).symm.trans H; with_reducible exact H2_) | with_reducible exact H | (rw [hy1058]; exact H) | exact H
                      have Ny1058 := am hy1058
                      clear hy1058
                      by_cases c60 : 0 ≤ x7_3
                      · rw [if_pos c60] at H
                        have c60b0 := eq_true c60
                        have c60b1 : decide (0 ≤ x7_3) = true := decide_eq_true c60
                        clear c60
                        by_cases c61 : x7_3 ≤ (x3_2.length : Int)
                        · rw [if_pos c61] at H
                          have c61b0 := eq_true c61
                          have c61b1 : decide (x7_3 ≤ (x3_2.length : Int)) = true := decide_eq_true c61
                          clear c61
                          obtain ⟨y1061, hy1061⟩ : ∃ y_ : List (List Int), y_ = (x3_2.take (x7_3 : Int).toNat) := ⟨_, rfl⟩
                          replace H : (if y1058.length + y1061.length < 5864062014805 then ((some (y1058 ++ y1061 : List (List Int))).bind fun y1066 => ((some (([t1001] : List (List Int)) : List (List Int))).bind fun y1069 => (if y1066.length + y1069.length < 5864062014805 then ((some (y1066 ++ y1069 : List (List Int))).bind fun y1072 => ((some (x3_2.drop (x7_3 : Int).toNat : List (List Int))).bind fun y1075 => (if y1072.length + y1075.length < 5864062014805 then (sackbutref05_Forms.l1 k3 l0 (y1072 ++ y1075) x8_1 x8_1 (l0.length : Int) (wrap64 (x13_2 + 1))) else (none)))) else (none)))) else (none)) = some r := by first | (rw [hy1061]; with_reducible exact H) | (have H2_ := (Option.bind_some _ _).symm.trans H; rw [hy1061]; with_reducible exact H2_) | (have H2_ := (Option.bind_some _ _).symm.trans H; with_reducible exact H2_) | with_reducible exact H | (rw [hy1061]; exact H) | exact H
                          have Ny1061 := am hy1061
                          clear hy1061
                          by_cases c62 : y1058.length + y1061.length < 5864062014805
                          · rw [if_pos c62] at H
                            have LMc62 := am c62
                            clear c62
                            obtain ⟨y1066, hy1066⟩ : ∃ y_ : List (List Int), y_ = (y1058 ++ y1061) := ⟨_, rfl⟩
                            replace H : ((some (([t1001] : List (List Int)) : List (List Int))).bind fun y1069 => (if y1066.length + y1069.length < 5864062014805 then ((some (y1066 ++ y1069 : List (List Int))).bind fun y1072 => ((some (x3_2.drop (x7_3 : Int).toNat : List (List Int))).bind fun y1075 => (if y1072.length + y1075.length < 5864062014805 then (sackbutref05_Forms.l1 k3 l0 (y1072 ++ y1075) x8_1 x8_1 (l0.length : Int) (wrap64 (x13_2 + 1))) else (none)))) else (none))) = some r := by first | (rw [hy1066]; with_reducible exact H) | (have H2_ := (Option.bind_some _ _).symm.trans H; rw [hy1066]; with_reducible exact H2_) | (have H2_ := (Option.bind_some _ _).symm.trans H; with_reducible exact H2_) | with_reducible exact H | (rw [hy1066]; exact H) | exact H
                            have Ny1066 := am hy1066
                            clear hy1066
                            obtain ⟨y1069, hy1069⟩ : ∃ y_ : List (List Int), y_ = (([t1001] : List (List Int))) := ⟨_, rfl⟩
                            replace H : (if y1066.length + y1069.length < 5864062014805 then ((some (y1066 ++ y1069 : List (List Int))).bind fun y1072 => ((some (x3_2.drop (x7_3 : Int).toNat : List (List Int))).bind fun y1075 => (if y1072.length + y1075.length < 5864062014805 then (sackbutref05_Forms.l1 k3 l0 (y1072 ++ y1075) x8_1 x8_1 (l0.length : Int) (wrap64 (x13_2 + 1))) else (none)))) else (none)) = some r := by first | (rw [hy1069]; with_reducible exact H) | (have H2_ := (Option.bind_some _ _).symm.trans H; rw [hy1069]; with_reducible exact H2_) | (have H2_ := (Option.bind_some _ _).symm.trans H; with_reducible exact H2_) | with_reducible exact H | (rw [hy1069]; exact H) | exact H
                            have Ny1069 := am hy1069
                            clear hy1069
                            by_cases c63 : y1066.length + y1069.length < 5864062014805
                            · rw [if_pos c63] at H
                              have LMc63 := am c63
                              clear c63
                              obtain ⟨y1072, hy1072⟩ : ∃ y_ : List (List Int), y_ = (y1066 ++ y1069) := ⟨_, rfl⟩
                              replace H : ((some (x3_2.drop (x7_3 : Int).toNat : List (List Int))).bind fun y1075 => (if y1072.length + y1075.length < 5864062014805 then (sackbutref05_Forms.l1 k3 l0 (y1072 ++ y1075) x8_1 x8_1 (l0.length : Int) (wrap64 (x13_2 + 1))) else (none))) = some r := by first | (rw [hy1072]; with_reducible exact H) | (have H2_ := (Option.bind_some _ _).symm.trans H; rw [hy1072]; with_reducible exact H2_) | (have H2_ := (Option.bind_some _ _).symm.trans H; with_reducible exact H2_) | with_reducible exact H | (rw [hy1072]; exact H) | exact H
                              have Ny1072 := am hy1072
                              clear hy1072
                              have c64b0 := eq_true (of_decide_eq_true (by first | (with_reducible assumption) | assumption) : 0 ≤ x7_3)
                              have c65b0 := eq_true (of_decide_eq_true (by first | (with_reducible assumption) | assumption) : x7_3 ≤ (x3_2.length : Int))
                              obtain ⟨y1075, hy1075⟩ : ∃ y_ : List (List Int), y_ = (x3_2.drop (x7_3 : Int).toNat) := ⟨_, rfl⟩
                              replace H : (if y1072.length + y1075.length < 5864062014805 then (sackbutref05_Forms.l1 k3 l0 (y1072 ++ y1075) x8_1 x8_1 (l0.length : Int) (wrap64 (x13_2 + 1))) else (none)) = some r := by first | (rw [hy1075]; with_reducible exact H) | (have H2_ := (Option.bind_some _ _).symm.trans H; rw [hy1075]; with_reducible exact H2_) | (have H2_ := (Option.bind_some _ _).symm.trans H; with_reducible exact H2_) | with_reducible exact H | (rw [hy1075]; exact H) | exact H
                              have Ny1075 := am hy1075
                              clear hy1075
                              by_cases c66 : y1072.length + y1075.length < 5864062014805
                              · rw [if_pos c66] at H
                                have LMc66 := am c66
                                clear c66
                                obtain ⟨y1080, hy1080⟩ : ∃ y_ : List (List Int), y_ = (y1072 ++ y1075) := ⟨_, rfl⟩
                                replace H : (sackbutref05_Forms.l1 k3 l0 y1080 x8_1 x8_1 (l0.length : Int) (wrap64 (x13_2 + 1))) = some r := by first | (rw [hy1080]; with_reducible exact H) | (have H2_ := (Option.bind_some _ _).symm.trans H; rw [hy1080]; with_reducible exact H2_) | (have H2_ := (Option.bind_some _ _).symm.trans H; with_reducible exact H2_) | with_reducible exact H | (rw [hy1080]; exact H) | exact H
                                have Ny1080 := am hy1080
                                clear hy1080
                                have H' := am H
                                clear H
                                obtain ⟨Ao67, co67, eo67⟩ := Kd.N_slice HO_3.out
                                subst eo67
                                try go_wp2
                                have n0_ := am (Kd.N_drew HO_3.out)
                                have n1_ := am (Kd.R_drew HO_6.out)
                                have n2_ := am (below_drew1 HB.out)
                                clear HO_3
                                clear HO_6
                                clear HB
                                have HO_3 := n0_
                                have HO_6 := n1_
                                have HB := n2_
                                clear n0_ n1_ n2_
                                have q69 : (x7_3 : Int) ≤ ((x3_2.length : Int) : Int) := of_decide_eq_true (by first | (with_reducible assumption) | assumption)
                                obtain ⟨i069, hi069, _, hsz69, _⟩ := info_parts info27
                                have hroom69 : x3_2.length ≤ co67 := (Kd.N_reads' HO_3.out).2.1
                                have hC69 : Kd.F (Kd.slice 3 (Kd.int .i64)) _ _ Ao67 x3_2.length x3_2 := (Kd.V_at (base := w.heap.size) (Kd.N_V HO_3.out)).2.2
                                have hcut69 := cut_to (P := Try.prog) 30 27 .i64 Try.underlying30 hi069 Ao67 x3_2.length co67 x7_3 (of_decide_eq_true (by first | (with_reducible assumption) | assumption)) q69 hroom69
                                have hr69 := Kd.F_take (m := (x7_3 : Int).toNat) hC69 (by omega)
                                have hy69 : y1061.length = (x7_3 : Int).toNat := (by rw [Ny1061.out, List.length_take]; omega)
                                rw [← Ny1061.out] at hr69
                                rw [← hy69] at hcut69
                                have HO1065 := am (show Kd.V (Kd.slice 3 (Kd.int .i64)) 27 _ w.heap.size _ (.slice Ao67 y1061.length co67) y1061 from Kd.V_mk (by omega) hr69)
                                have HC1065 := am (show y1061.length ≤ co67 from by omega)
                                clear hr69 hC69 hroom69 hi069 hsz69
                                have KY69 := am hy69
                                clear hy69
                                replace q69 := eq_true q69
                                have q70 : (x7_3 : Int) ≤ ((x3_2.length : Int) : Int) := of_decide_eq_true (by first | (with_reducible assumption) | assumption)
                                obtain ⟨i070, hi070, _, hsz70, _⟩ := info_parts info27
                                have hroom70 : x3_2.length ≤ co67 := (Kd.N_reads' HO_3.out).2.1
                                have hC70 : Kd.F (Kd.slice 3 (Kd.int .i64)) _ _ Ao67 x3_2.length x3_2 := (Kd.V_at (base := w.heap.size) (Kd.N_V HO_3.out)).2.2
                                have q070 : (0 : Int) ≤ (x7_3 : Int) := of_decide_eq_true (by first | (with_reducible assumption) | assumption)
                                have hcut70 := cut_from (P := Try.prog) 30 27 .i64 Try.underlying30 hi070 1 hsz70 Ao67 x3_2.length co67 x7_3 q070 q70
                                have hr70 := Kd.F_cut (m := (x7_3 : Int).toNat) (c := co67) hC70 (by omega) hroom70
                                obtain ⟨A70, hA70⟩ : ∃ A1, A1 = (if co67 = (x7_3 : Int).toNat then Ao67 else (Ao67 : Option Addr).map (·.add ((x7_3 : Int).toNat * 1))) := ⟨_, rfl⟩
                                obtain ⟨c70, hc70⟩ : ∃ c1, c1 = co67 - (x7_3 : Int).toNat := ⟨_, rfl⟩
                                have hy70 : y1075.length = x3_2.length - (x7_3 : Int).toNat := (by rw [Ny1075.out, List.length_drop] <;> omega)
                                rw [show (x3_2).drop (x7_3 : Int).toNat = y1075 from Ny1075.out.symm] at hr70
                                replace hr70 : Kd.F (Kd.slice 3 (Kd.int .i64)) _ _ A70 y1075.length y1075 := (by rw [hA70]; exact hr70)
                                rw [← hy70, ← hA70, ← hc70] at hcut70
                                have HO1079 := am (show Kd.V (Kd.slice 3 (Kd.int .i64)) 27 _ w.heap.size _ (.slice A70 y1075.length c70) y1075 from Kd.V_mk (by rw [hy70, hc70]; exact Nat.sub_le_sub_right hroom70 _) hr70)
                                have HC1079 := am (show y1075.length ≤ c70 from by rw [hy70, hc70]; exact Nat.sub_le_sub_right hroom70 _)
                                clear hr70 hC70 hroom70 hi070 hsz70 hc70
                                have KY70 := am hy70
                                have KA70 := am hA70
                                clear hy70 hA70
                                replace q70 := eq_true q70
                                refine start_ (n := 13) (S := fun w' => True) (ds := []) #[false, false, false, false, false, false, false, false, false, false, false, false, false] (by kernel_rfl) rfl rfl trivial (fun hHeld => ?_); refine with_tabW sackbutref05_Forms.tab13 sackbutref05_Forms.bits13 (fun HT_ HW_ => ?_)
                                generalize wr.drew = w68 at HO_3 HO_6 HB HO1065 HO1079 hHeld ⊢
                                refine pure_ (i := 1) (N := some 50) (v := ?_) (a' := ?_) #[false, true, false, false, false, false, false, false, false, false, false, false, false] rfl rfl (any_of HT_.out (by kernel_rfl)) (fun _ _ _ h => h) (Or.inl ⟨by rfl, ?_⟩) ?_ ?_
                                rotate_left
                                · intro w'
                                  go_simp
                                  with_reducible rfl
                                rotate_left
                                · simp only [Act.put, List.setIfInBounds_toArray, List.set_cons_zero, List.set_cons_succ, i64_w, i32_w]
                                  rfl
                                refine pure_ (i := 2) (N := some 51) (v := ?_) (a' := ?_) #[false, true, true, false, false, false, false, false, false, false, false, false, false] rfl rfl (any_of HT_.out (by kernel_rfl)) (fun _ _ _ h => h) (Or.inl ⟨by rfl, ?_⟩) ?_ ?_
                                rotate_left
                                · intro w'
                                  go_simp
                                  with_reducible rfl
                                rotate_left
                                · simp only [Act.put, List.setIfInBounds_toArray, List.set_cons_zero, List.set_cons_succ, i64_w, i32_w]
                                  rfl
                                refine pure_ (i := 3) (N := some 52) (v := ?_) (a' := ?_) #[false, true, true, true, false, false, false, false, false, false, false, false, false] rfl rfl (any_of HT_.out (by kernel_rfl)) (fun _ _ _ h => h) (Or.inl ⟨by rfl, ?_⟩) ?_ ?_
                                rotate_left
                                · intro w'
                                  go_simp
                                  with_reducible rfl
                                rotate_left
                                · simp only [Act.put, List.setIfInBounds_toArray, List.set_cons_zero, List.set_cons_succ, i64_w, i32_w]
                                  rfl
                                refine pure_ (i := 5) (N := some 54) (v := ?_) (a' := ?_) #[false, true, true, true, false, true, false, false, false, false, false, false, false] rfl rfl (any_of HT_.out (by kernel_rfl)) (fun _ _ _ h => h) (Or.inl ⟨by rfl, ?_⟩) ?_ ?_
                                rotate_left
                                · intro w'
                                  go_simp
                                  with_reducible rfl
                                rotate_left
                                · simp only [Act.put, List.setIfInBounds_toArray, List.set_cons_zero, List.set_cons_succ, i64_w, i32_w]
                                  rfl
                                refine pure_ (i := 8) (N := some 57) (v := ?_) (a' := ?_) #[false, true, true, true, false, true, false, false, true, false, false, false, false] rfl rfl (any_of HT_.out (by kernel_rfl)) (fun _ _ _ h => h) (Or.inl ⟨by rfl, ?_⟩) ?_ ?_
                                rotate_left
                                · intro w'
                                  go_simp
                                  with_reducible rfl
                                rotate_left
                                · simp only [Act.put, List.setIfInBounds_toArray, List.set_cons_zero, List.set_cons_succ, i64_w, i32_w]
                                  rfl
                                refine pure_ (i := 9) (N := some 58) (v := ?_) (a' := ?_) #[false, true, true, true, false, true, false, false, true, true, false, false, false] rfl rfl (any_of HT_.out (by kernel_rfl)) (fun _ _ _ h => h) (Or.inl ⟨by rfl, ?_⟩) ?_ ?_
                                rotate_left
                                · intro w'
                                  go_simp
                                  with_reducible rfl
                                rotate_left
                                · simp only [Act.put, List.setIfInBounds_toArray, List.set_cons_zero, List.set_cons_succ, i64_w, i32_w]
                                  rfl
                                refine pure_ (i := 10) (N := some 59) (v := ?_) (a' := ?_) #[false, true, true, true, false, true, false, false, true, true, true, false, false] rfl rfl (any_of HT_.out (by kernel_rfl)) (fun _ _ _ h => h) (Or.inl ⟨by rfl, ?_⟩) ?_ ?_
                                rotate_left
                                · intro w'
                                  go_simp
                                  with_reducible rfl
                                rotate_left
                                · simp only [Act.put, List.setIfInBounds_toArray, List.set_cons_zero, List.set_cons_succ, i64_w, i32_w]
                                  rfl
                                refine join_ (σ := Value × Value × Value) 3 #[true, true, true, true, true, true, true, false, true, true, true, false, false] (fun s_ => [(49, s_.1), (53, s_.2.1), (55, s_.2.2)]) (fun s_ w' => (Kd.V (Kd.slice 3 (Kd.int .i64)) 27 w' w.heap.size (fun k_ => (w.heap.size ≤ k_) ∧ some k_ ≠ (s_.2.1 : Value).ownBlock ∧ some k_ ≠ (s_.2.2 : Value).ownBlock) (.slice Ao67 y1061.length co67) y1061) ∧ (Kd.N (Kd.slice 3 (Kd.int .i64)) 27 w' w.heap.size (fun k_ => (w.heap.size ≤ k_) ∧ some k_ ≠ (s_.2.2 : Value).ownBlock) s_.2.1 y1066) ∧ (Kd.N (Kd.slice 3 (Kd.int .i64)) 27 w' w.heap.size (fun k_ => (w.heap.size ≤ k_) ∧ some k_ ≠ (s_.2.1 : Value).ownBlock ∧ some k_ ≠ (.slice Ao67 x3_2.length co67 : Value).ownBlock) s_.2.2 y1069) ∧ (Kd.V (Kd.slice 3 (Kd.int .i64)) 27 w' w.heap.size (fun k_ => (w.heap.size ≤ k_) ∧ some k_ ≠ (s_.2.1 : Value).ownBlock ∧ some k_ ≠ (s_.2.2 : Value).ownBlock) (.slice A70 y1075.length c70) y1075) ∧ (Kd.N (Kd.slice 3 (Kd.int .i64)) 27 w' w.heap.size (fun k_ => (w.heap.size ≤ k_) ∧ some k_ ≠ (s_.2.1 : Value).ownBlock ∧ some k_ ≠ (s_.2.2 : Value).ownBlock) (.slice Ao67 x3_2.length co67) x3_2) ∧ (Below w.heap.size w w')) ?_ ?_
                                rotate_left
                                · intro hCont
                                  refine two_ (i := 0) (j := 6) (Ni := some 49) (Nj := some 55) #[true, true, true, true, false, true, false, false, true, true, true, false, false] #[false, true, true, true, false, true, true, false, true, true, true, false, false] rfl rfl rfl rfl (two_of HT_.out (by kernel_rfl)) (by decide) (by decide) (fun K hK => ?_) (fun K hK => ?_)
                                  · skip
                                    refine Kd.N_lit_step (Kd.slice 3 (Kd.int .i64)) _ 27 ?hg (N' := 49) ?hd (xs := ([] : List (List Int))) (inner := []) (ok := (fun k_ => (w.heap.size ≤ k_) ∧ some k_ ≠ (.slice Ao67 x3_2.length co67 : Value).ownBlock ∧ some k_ ≠ (v1002 : Value).ownBlock)) (okp := (fun k_ => (w.heap.size ≤ k_) ∧ some k_ ≠ (.slice Ao67 x3_2.length co67 : Value).ownBlock ∧ some k_ ≠ (v1002 : Value).ownBlock)) ?hr ?hp (fun _ hk => hk) ((show ∀ k_, w68.heap.size ≤ k_ → (fun k_ => (w.heap.size ≤ k_) ∧ some k_ ≠ (.slice Ao67 x3_2.length co67 : Value).ownBlock ∧ some k_ ≠ (v1002 : Value).ownBlock) k_ from fun k_ hk => ⟨(Nat.le_trans (below_size (by repeat (first | (with_reducible first | exact HB.out | apply below_alloc | apply pw_below_drewN | apply below_drew1) | exact HB.out))) hk), Kd.fresh' (Kd.N_lt (by (with_reducible repeat (first | apply Kd.N_alloc | apply Kd.N_drewN | apply Kd.N_drew)); exact HO_3.out)) k_ hk, Kd.fresh' (Kd.R_lt (by (with_reducible repeat (first | apply Kd.R_alloc | apply Kd.R_drewN | apply Kd.R_drew)); exact HO_6.out)) k_ hk⟩) _ (Nat.le_refl _)) (Below.refl _ _) (Nat.le_refl _) (by simp) ?_; (case hd => rfl); (case hg => rfl); (case hr => first | (go_simp; done) | (go_simp; rfl)); (case hp => exact (Reps.none _ _))
                                    intro v1059 w71 ho72 hb hg_ hnew_
                                    clear hg_ hnew_
                                    (first | rw [← Ny1058.out] at ho72 | (simp only [Int.reduceToNat] at ho72; rw [← Ny1058.out] at ho72))
                                    have n0_ := am (Kd.N_elder' (by (with_reducible repeat (first | apply Kd.N_alloc | apply Kd.N_drewN | apply Kd.N_drew)); exact HO_3.out) (by first | exact Kd.N_base ho72 | exact Kd.N_base (Kd.S_N ho72)) hb)
                                    have n1_ := am (Kd.R_below (by (with_reducible repeat (first | apply Kd.R_alloc | apply Kd.R_drewN | apply Kd.R_drew)); exact HO_6.out) hb)
                                    have n2_ := am (Kd.V_elder' (by (with_reducible repeat (first | apply Kd.V_alloc | apply Kd.V_drewN | apply Kd.V_drew)); exact HO1065.out) (by first | exact Kd.N_base ho72 | exact Kd.N_base (Kd.S_N ho72)) hb)
                                    have n3_ := am (Kd.V_elder' (by (with_reducible repeat (first | apply Kd.V_alloc | apply Kd.V_drewN | apply Kd.V_drew)); exact HO1079.out) (by first | exact Kd.N_base ho72 | exact Kd.N_base (Kd.S_N ho72)) hb)
                                    have n4_ := am (Kd.N_lower ho72 (below_size (by repeat (first | (with_reducible first | exact HB.out | apply below_alloc | apply pw_below_drewN | apply below_drew1) | exact HB.out))))
                                    have n5_ := am (below_step (by repeat (first | (with_reducible first | exact HB.out | apply below_alloc | apply pw_below_drewN | apply below_drew1) | exact HB.out)) hb)
                                    clear HO_3
                                    clear HO_6
                                    clear HO1065
                                    clear HO1079
                                    clear HB
                                    have HO_3 := n0_
                                    have HO_6 := n1_
                                    have HO1065 := n2_
                                    have HO1079 := n3_
                                    have HO1060 := n4_
                                    have HB := n5_
                                    clear n0_ n1_ n2_ n3_ n4_ n5_
                                    clear hb ho72
                                    refine hK.out _ _ trivial (fun hHeld => ?_)
                                    clear hK K
                                    refine norm_ (a' := ?_) ?_ ?_
                                    rotate_left
                                    · show Act.put _ (some 49) _ = _
                                      simp only [Act.put, List.setIfInBounds_toArray, List.set_cons_zero, List.set_cons_succ, i64_w, i32_w]
                                      rfl
                                    refine two_ (i := 4) (j := 6) (Ni := some 53) (Nj := some 55) #[true, true, true, true, true, true, false, false, true, true, true, false, false] #[true, true, true, true, false, true, true, false, true, true, true, false, false] rfl rfl rfl rfl (two_of HT_.out (by kernel_rfl)) (by decide) (by decide) (fun K hK => ?_) (fun K hK => ?_)
                                    · skip
                                      refine Kd.N_append_rows_step (Kd.slice 3 (Kd.int .i64)) (w0 := w) w.heap.size (by rfl) (.tmp 49) (.tmp 52) 30 27 (.slice none 0 0) 24 rfl Try.underlying30 info27 rfl (by decide) (by omega) v1059 y1058 y1061 _ _ _ (fun k_ => (w.heap.size ≤ k_) ∧ some k_ ≠ (v1002 : Value).ownBlock) (fun k_ => ((fun k_ => (w.heap.size ≤ k_) ∧ some k_ ≠ (v1002 : Value).ownBlock)) k_ ∧ some k_ ≠ (v1059 : Value).ownBlock) rfl rfl ?aO ?aR (fun _ hk => hk) ?aF ?aB ?aS ?aL ?_
                                      (case aR => exact (by skip; exact Kd.V_F (Kd.V_mono (ok' := (fun k_ => ((fun k_ => (w.heap.size ≤ k_) ∧ some k_ ≠ (v1002 : Value).ownBlock)) k_ ∧ some k_ ≠ (v1059 : Value).ownBlock)) (HO1065.out) (fun k_ hk => ⟨⟨hk.1.1, hk.1.2⟩, hk.2⟩))))
                                      (case aB => exact (by repeat (first | (with_reducible first | exact HB.out | apply below_alloc | apply pw_below_drewN | apply below_drew1) | exact HB.out)))
                                      (case aF => exact (fun k_ hk => ⟨(Nat.le_trans (below_size (by repeat (first | (with_reducible first | exact HB.out | apply below_alloc | apply pw_below_drewN | apply below_drew1) | exact HB.out))) hk), Kd.fresh' (Kd.R_lt (by (with_reducible repeat (first | apply Kd.R_alloc | apply Kd.R_drewN | apply Kd.R_drew)); exact HO_6.out)) k_ hk⟩))
                                      (case aO => exact (by (with_reducible repeat (first | apply Kd.N_alloc | apply Kd.N_drewN | apply Kd.N_drew)); exact Kd.N_mono HO1060.out (fun _ hk => ⟨hk.1, hk.2.2⟩)))
                                      (case aS => exact (below_size (by repeat (first | (with_reducible first | exact HB.out | apply below_alloc | apply pw_below_drewN | apply below_drew1) | exact HB.out))))
                                      (case aL => have := LMc62.out; omega)
                                      intro v1067 w73 ho hb hg hat
                                      rw [← Ny1066.out] at ho
                                      have n0_ := am (Kd.N_afterv (ok := (fun k_ => (w.heap.size ≤ k_) ∧ some k_ ≠ (v1002 : Value).ownBlock)) (by (with_reducible repeat (first | apply Kd.N_alloc | apply Kd.N_drewN | apply Kd.N_drew)); exact HO_3.out) hg hat)
                                      have n1_ := am (Kd.R_over' (by (with_reducible repeat (first | apply Kd.R_alloc | apply Kd.R_drewN | apply Kd.R_drew)); exact HO_6.out) (Kd.N_typed (by (with_reducible repeat (first | apply Kd.N_alloc | apply Kd.N_drewN | apply Kd.N_drew)); exact HO1060.out)) (by decide) hg)
                                      have n2_ := am (Kd.V_afterv (ok := (fun k_ => (w.heap.size ≤ k_) ∧ some k_ ≠ (v1002 : Value).ownBlock)) (by (with_reducible repeat (first | apply Kd.V_alloc | apply Kd.V_drewN | apply Kd.V_drew)); exact HO1065.out) hg hat)
                                      have n3_ := am (Kd.V_afterv (ok := (fun k_ => (w.heap.size ≤ k_) ∧ some k_ ≠ (v1002 : Value).ownBlock)) (by (with_reducible repeat (first | apply Kd.V_alloc | apply Kd.V_drewN | apply Kd.V_drew)); exact HO1079.out) hg hat)
                                      have n4_ := am (hb)
                                      have n5_ := am (ho)
                                      clear HO_3
                                      clear HO_6
                                      clear HO1065
                                      clear HO1079
                                      clear HB
                                      clear HO1060
                                      have HO_3 := n0_
                                      have HO_6 := n1_
                                      have HO1065 := n2_
                                      have HO1079 := n3_
                                      have HB := n4_
                                      have HO1068 := n5_
                                      clear n0_ n1_ n2_ n3_ n4_ n5_
                                      clear ho hb hg hat
                                      obtain ⟨Ao74, co74, eo74⟩ := Kd.R_slice HO_6.out
                                      (first | subst eo74 | (injection eo74 with f1_ f2_ f3_; have f4_ := f1_.symm; have f5_ := f3_.symm; clear f1_ f2_ f3_; subst f4_; subst f5_))
                                      refine hK.out _ _ trivial (fun hHeld => ?_)
                                      clear hK K
                                      refine norm_ (a' := ?_) ?_ ?_
                                      rotate_left
                                      · show Act.put _ (some 53) _ = _
                                        simp only [Act.put, List.setIfInBounds_toArray, List.set_cons_zero, List.set_cons_succ, i64_w, i32_w]
                                        rfl
                                      refine one_ (i := 6) (N := some 55) #[true, true, true, true, true, true, true, false, true, true, true, false, false] rfl rfl (one_of HT_.out (by kernel_rfl)) (by decide) (fun K hK => ?_)
                                      refine Kd.N_lit_step (Kd.slice 3 (Kd.int .i64)) _ 27 ?hg (N' := 55) ?hd (xs := ([t1001] : List (List Int))) (inner := [.slice Ao74 t1001.length co74]) (ok := (fun k_ => (w.heap.size ≤ k_) ∧ some k_ ≠ (.slice Ao67 x3_2.length co67 : Value).ownBlock ∧ some k_ ≠ (v1067 : Value).ownBlock)) (okp := (fun k_ => (w.heap.size ≤ k_) ∧ some k_ ≠ (.slice Ao67 x3_2.length co67 : Value).ownBlock ∧ some k_ ≠ (v1067 : Value).ownBlock)) ?hr ?hp (fun _ hk => hk) ((show ∀ k_, w73.heap.size ≤ k_ → (fun k_ => (w.heap.size ≤ k_) ∧ some k_ ≠ (.slice Ao67 x3_2.length co67 : Value).ownBlock ∧ some k_ ≠ (v1067 : Value).ownBlock) k_ from fun k_ hk => ⟨(Nat.le_trans (below_size (by repeat (first | (with_reducible first | exact HB.out | apply below_alloc | apply pw_below_drewN | apply below_drew1) | exact HB.out))) hk), Kd.fresh' (Kd.N_lt (by (with_reducible repeat (first | apply Kd.N_alloc | apply Kd.N_drewN | apply Kd.N_drew)); exact HO_3.out)) k_ hk, Kd.fresh' (Kd.N_lt (by (with_reducible repeat (first | apply Kd.N_alloc | apply Kd.N_drewN | apply Kd.N_drew)); exact HO1068.out)) k_ hk⟩) _ (Nat.le_refl _)) (Below.refl _ _) (Nat.le_refl _) (by simp) ?_; (case hd => rfl); (case hg => rfl); (case hr => first | (go_simp; done) | (go_simp; rfl)); (case hp => exact (Reps.one (show Kd.FK (Kd.slice 3 (Kd.int .i64)) _ _ t1001 [.slice Ao74 t1001.length co74] from (Kd.FK_slice_mk (Kd.R_reads' (Kd.R_mono (ok' := (fun k_ => (w.heap.size ≤ k_) ∧ some k_ ≠ (.slice Ao67 x3_2.length co67 : Value).ownBlock ∧ some k_ ≠ (v1067 : Value).ownBlock)) (Kd.R_apart' (Kd.R_apart' (HO_6.out) (Kd.N_typed HO_3.out) (by decide)) (Kd.N_typed HO1068.out) (by decide)) (fun k_ hk => ⟨hk.1.1, ⟨hk.1.2, hk.2⟩⟩))).2.1 (Kd.R_F (Kd.R_mono (ok' := (fun k_ => (w.heap.size ≤ k_) ∧ some k_ ≠ (.slice Ao67 x3_2.length co67 : Value).ownBlock ∧ some k_ ≠ (v1067 : Value).ownBlock)) (Kd.R_apart' (Kd.R_apart' (HO_6.out) (Kd.N_typed HO_3.out) (by decide)) (Kd.N_typed HO1068.out) (by decide)) (fun k_ hk => ⟨hk.1.1, ⟨hk.1.2, hk.2⟩⟩))))) (Reps.none _ _)))
                                      intro v1070 w75 ho76 hb hg_ hnew_
                                      clear hg_ hnew_
                                      (first | rw [← Ny1069.out] at ho76 | (simp only [Int.reduceToNat] at ho76; rw [← Ny1069.out] at ho76))
                                      have n0_ := am (Kd.N_elder' (by (with_reducible repeat (first | apply Kd.N_alloc | apply Kd.N_drewN | apply Kd.N_drew)); exact HO_3.out) (by first | exact Kd.N_base ho76 | exact Kd.N_base (Kd.S_N ho76)) hb)
                                      have n1_ := am (Kd.V_elder' (by (with_reducible repeat (first | apply Kd.V_alloc | apply Kd.V_drewN | apply Kd.V_drew)); exact HO1065.out) (by first | exact Kd.N_base ho76 | exact Kd.N_base (Kd.S_N ho76)) hb)
                                      have n2_ := am (Kd.V_elder' (by (with_reducible repeat (first | apply Kd.V_alloc | apply Kd.V_drewN | apply Kd.V_drew)); exact HO1079.out) (by first | exact Kd.N_base ho76 | exact Kd.N_base (Kd.S_N ho76)) hb)
                                      have n3_ := am (Kd.N_elder' (by (with_reducible repeat (first | apply Kd.N_alloc | apply Kd.N_drewN | apply Kd.N_drew)); exact HO1068.out) (by first | exact Kd.N_base ho76 | exact Kd.N_base (Kd.S_N ho76)) hb)
                                      have n4_ := am (Kd.N_lower ho76 (below_size (by repeat (first | (with_reducible first | exact HB.out | apply below_alloc | apply pw_below_drewN | apply below_drew1) | exact HB.out))))
                                      have n5_ := am (below_step (by repeat (first | (with_reducible first | exact HB.out | apply below_alloc | apply pw_below_drewN | apply below_drew1) | exact HB.out)) hb)
                                      clear HO_3
                                      clear HO1065
                                      clear HO1079
                                      clear HO1068
                                      clear HB
                                      clear HO_6
                                      have HO_3 := n0_
                                      have HO1065 := n1_
                                      have HO1079 := n2_
                                      have HO1068 := n3_
                                      have HO1071 := n4_
                                      have HB := n5_
                                      clear n0_ n1_ n2_ n3_ n4_ n5_
                                      clear hb ho76
                                      refine hK.out _ _ trivial (fun hHeld => ?_)
                                      clear hK K
                                      refine norm_ (a' := ?_) ?_ ?_
                                      rotate_left
                                      · show Act.put _ (some 55) _ = _
                                        simp only [Act.put, List.setIfInBounds_toArray, List.set_cons_zero, List.set_cons_succ, i64_w, i32_w]
                                        rfl
                                      exact norm_ (by simp only [putAll, Act.put, List.setIfInBounds_toArray, List.set_cons_zero, List.set_cons_succ]) (hCont (v1059, v1067, v1070) _ ⟨(by (with_reducible repeat (first | apply Kd.V_alloc | apply Kd.V_drewN | apply Kd.V_drew)); exact Kd.V_mono HO1065.out (fun _ hk => ⟨hk.1.1.1, ⟨hk.1.2, hk.2⟩⟩)), (by (with_reducible repeat (first | apply Kd.N_alloc | apply Kd.N_drewN | apply Kd.N_drew)); exact Kd.N_mono HO1068.out (fun _ hk => ⟨hk.1.1, hk.2⟩)), (by (with_reducible repeat (first | apply Kd.N_alloc | apply Kd.N_drewN | apply Kd.N_drew)); exact Kd.N_mono HO1071.out (fun _ hk => ⟨hk.1, ⟨hk.2.2, hk.2.1⟩⟩)), (by (with_reducible repeat (first | apply Kd.V_alloc | apply Kd.V_drewN | apply Kd.V_drew)); exact Kd.V_mono HO1079.out (fun _ hk => ⟨hk.1.1.1, ⟨hk.1.2, hk.2⟩⟩)), (by (with_reducible repeat (first | apply Kd.N_alloc | apply Kd.N_drewN | apply Kd.N_drew)); exact Kd.N_mono HO_3.out (fun _ hk => ⟨hk.1.1.1, ⟨hk.1.2, hk.2⟩⟩)), (by repeat (first | (with_reducible first | exact HB.out | apply below_alloc | apply pw_below_drewN | apply below_drew1) | exact HB.out))⟩)
                                    · skip
                                      obtain ⟨Ao73, co73, eo73⟩ := Kd.R_slice HO_6.out
                                      subst eo73
                                      refine Kd.N_lit_step (Kd.slice 3 (Kd.int .i64)) _ 27 ?hg (N' := 55) ?hd (xs := ([t1001] : List (List Int))) (inner := [.slice Ao73 t1001.length co73]) (ok := (fun k_ => (w.heap.size ≤ k_) ∧ some k_ ≠ (.slice Ao67 x3_2.length co67 : Value).ownBlock ∧ some k_ ≠ (v1059 : Value).ownBlock)) (okp := (fun k_ => (w.heap.size ≤ k_) ∧ some k_ ≠ (.slice Ao67 x3_2.length co67 : Value).ownBlock ∧ some k_ ≠ (v1059 : Value).ownBlock)) ?hr ?hp (fun _ hk => hk) ((show ∀ k_, w71.heap.size ≤ k_ → (fun k_ => (w.heap.size ≤ k_) ∧ some k_ ≠ (.slice Ao67 x3_2.length co67 : Value).ownBlock ∧ some k_ ≠ (v1059 : Value).ownBlock) k_ from fun k_ hk => ⟨(Nat.le_trans (below_size (by repeat (first | (with_reducible first | exact HB.out | apply below_alloc | apply pw_below_drewN | apply below_drew1) | exact HB.out))) hk), Kd.fresh' (Kd.N_lt (by (with_reducible repeat (first | apply Kd.N_alloc | apply Kd.N_drewN | apply Kd.N_drew)); exact HO_3.out)) k_ hk, Kd.fresh' (Kd.N_lt (by (with_reducible repeat (first | apply Kd.N_alloc | apply Kd.N_drewN | apply Kd.N_drew)); exact HO1060.out)) k_ hk⟩) _ (Nat.le_refl _)) (Below.refl _ _) (Nat.le_refl _) (by simp) ?_; (case hd => rfl); (case hg => rfl); (case hr => first | (go_simp; done) | (go_simp; rfl)); (case hp => exact (Reps.one (show Kd.FK (Kd.slice 3 (Kd.int .i64)) _ _ t1001 [.slice Ao73 t1001.length co73] from (Kd.FK_slice_mk (Kd.R_reads' (Kd.R_mono (ok' := (fun k_ => (w.heap.size ≤ k_) ∧ some k_ ≠ (.slice Ao67 x3_2.length co67 : Value).ownBlock ∧ some k_ ≠ (v1059 : Value).ownBlock)) (Kd.R_apart' (Kd.R_apart' (HO_6.out) (Kd.N_typed HO_3.out) (by decide)) (Kd.N_typed HO1060.out) (by decide)) (fun k_ hk => ⟨hk.1.1, ⟨hk.1.2, hk.2⟩⟩))).2.1 (Kd.R_F (Kd.R_mono (ok' := (fun k_ => (w.heap.size ≤ k_) ∧ some k_ ≠ (.slice Ao67 x3_2.length co67 : Value).ownBlock ∧ some k_ ≠ (v1059 : Value).ownBlock)) (Kd.R_apart' (Kd.R_apart' (HO_6.out) (Kd.N_typed HO_3.out) (by decide)) (Kd.N_typed HO1060.out) (by decide)) (fun k_ hk => ⟨hk.1.1, ⟨hk.1.2, hk.2⟩⟩))))) (Reps.none _ _)))
                                      intro v1070 w74 ho75 hb hg_ hnew_
                                      clear hg_ hnew_
                                      (first | rw [← Ny1069.out] at ho75 | (simp only [Int.reduceToNat] at ho75; rw [← Ny1069.out] at ho75))
                                      have n0_ := am (Kd.N_elder' (by (with_reducible repeat (first | apply Kd.N_alloc | apply Kd.N_drewN | apply Kd.N_drew)); exact HO_3.out) (by first | exact Kd.N_base ho75 | exact Kd.N_base (Kd.S_N ho75)) hb)
                                      have n1_ := am (Kd.V_elder' (by (with_reducible repeat (first | apply Kd.V_alloc | apply Kd.V_drewN | apply Kd.V_drew)); exact HO1065.out) (by first | exact Kd.N_base ho75 | exact Kd.N_base (Kd.S_N ho75)) hb)
                                      have n2_ := am (Kd.V_elder' (by (with_reducible repeat (first | apply Kd.V_alloc | apply Kd.V_drewN | apply Kd.V_drew)); exact HO1079.out) (by first | exact Kd.N_base ho75 | exact Kd.N_base (Kd.S_N ho75)) hb)
                                      have n3_ := am (Kd.N_elder' (by (with_reducible repeat (first | apply Kd.N_alloc | apply Kd.N_drewN | apply Kd.N_drew)); exact HO1060.out) (by first | exact Kd.N_base ho75 | exact Kd.N_base (Kd.S_N ho75)) hb)
                                      have n4_ := am (Kd.N_lower ho75 (below_size (by repeat (first | (with_reducible first | exact HB.out | apply below_alloc | apply pw_below_drewN | apply below_drew1) | exact HB.out))))
                                      have n5_ := am (below_step (by repeat (first | (with_reducible first | exact HB.out | apply below_alloc | apply pw_below_drewN | apply below_drew1) | exact HB.out)) hb)
                                      clear HO_3
                                      clear HO1065
                                      clear HO1079
                                      clear HO1060
                                      clear HB
                                      clear HO_6
                                      have HO_3 := n0_
                                      have HO1065 := n1_
                                      have HO1079 := n2_
                                      have HO1060 := n3_
                                      have HO1071 := n4_
                                      have HB := n5_
                                      clear n0_ n1_ n2_ n3_ n4_ n5_
                                      clear hb ho75
                                      refine hK.out _ _ trivial (fun hHeld => ?_)
                                      clear hK K
                                      refine norm_ (a' := ?_) ?_ ?_
                                      rotate_left
                                      · show Act.put _ (some 55) _ = _
                                        simp only [Act.put, List.setIfInBounds_toArray, List.set_cons_zero, List.set_cons_succ, i64_w, i32_w]
                                        rfl
                                      refine one_ (i := 4) (N := some 53) #[true, true, true, true, true, true, true, false, true, true, true, false, false] rfl rfl (one_of HT_.out (by kernel_rfl)) (by decide) (fun K hK => ?_)
                                      refine Kd.N_append_rows_step (Kd.slice 3 (Kd.int .i64)) (w0 := w) w.heap.size (by rfl) (.tmp 49) (.tmp 52) 30 27 (.slice none 0 0) 24 rfl Try.underlying30 info27 rfl (by decide) (by omega) v1059 y1058 y1061 _ _ _ (fun k_ => (w.heap.size ≤ k_) ∧ some k_ ≠ (v1070 : Value).ownBlock) (fun k_ => ((fun k_ => (w.heap.size ≤ k_) ∧ some k_ ≠ (v1070 : Value).ownBlock)) k_ ∧ some k_ ≠ (v1059 : Value).ownBlock) rfl rfl ?aO ?aR (fun _ hk => hk) ?aF ?aB ?aS ?aL ?_
                                      (case aR => exact (by skip; exact Kd.V_F (Kd.V_mono (ok' := (fun k_ => ((fun k_ => (w.heap.size ≤ k_) ∧ some k_ ≠ (v1070 : Value).ownBlock)) k_ ∧ some k_ ≠ (v1059 : Value).ownBlock)) (HO1065.out) (fun k_ hk => ⟨⟨hk.1.1.1, hk.2⟩, hk.1.2⟩))))
                                      (case aB => exact (by repeat (first | (with_reducible first | exact HB.out | apply below_alloc | apply pw_below_drewN | apply below_drew1) | exact HB.out)))
                                      (case aF => exact (fun k_ hk => ⟨(Nat.le_trans (below_size (by repeat (first | (with_reducible first | exact HB.out | apply below_alloc | apply pw_below_drewN | apply below_drew1) | exact HB.out))) hk), Kd.fresh' (Kd.N_lt (by (with_reducible repeat (first | apply Kd.N_alloc | apply Kd.N_drewN | apply Kd.N_drew)); exact HO1071.out)) k_ hk⟩))
                                      (case aO => exact (by (with_reducible repeat (first | apply Kd.N_alloc | apply Kd.N_drewN | apply Kd.N_drew)); exact Kd.N_mono HO1060.out (fun _ hk => ⟨hk.1.1, hk.2⟩)))
                                      (case aS => exact (below_size (by repeat (first | (with_reducible first | exact HB.out | apply below_alloc | apply pw_below_drewN | apply below_drew1) | exact HB.out))))
                                      (case aL => have := LMc62.out; omega)
                                      intro v1067 w76 ho hb hg hat
                                      rw [← Ny1066.out] at ho
                                      have n0_ := am (Kd.N_afterv (ok := (fun k_ => (w.heap.size ≤ k_) ∧ some k_ ≠ (v1070 : Value).ownBlock)) (by (with_reducible repeat (first | apply Kd.N_alloc | apply Kd.N_drewN | apply Kd.N_drew)); exact Kd.N_mono HO_3.out (fun _ hk => ⟨⟨hk.1.1.1, hk.2⟩, hk.1.2⟩)) hg hat)
                                      have n1_ := am (Kd.V_afterv (ok := (fun k_ => (w.heap.size ≤ k_) ∧ some k_ ≠ (v1070 : Value).ownBlock)) (by (with_reducible repeat (first | apply Kd.V_alloc | apply Kd.V_drewN | apply Kd.V_drew)); exact Kd.V_mono HO1065.out (fun _ hk => ⟨⟨hk.1.1.1, hk.2⟩, hk.1.2⟩)) hg hat)
                                      have n2_ := am (Kd.V_afterv (ok := (fun k_ => (w.heap.size ≤ k_) ∧ some k_ ≠ (v1070 : Value).ownBlock)) (by (with_reducible repeat (first | apply Kd.V_alloc | apply Kd.V_drewN | apply Kd.V_drew)); exact Kd.V_mono HO1079.out (fun _ hk => ⟨⟨hk.1.1.1, hk.2⟩, hk.1.2⟩)) hg hat)
                                      have n3_ := am (Kd.N_afterv (ok := (fun k_ => (w.heap.size ≤ k_) ∧ some k_ ≠ (.slice Ao67 x3_2.length co67 : Value).ownBlock)) (by (with_reducible repeat (first | apply Kd.N_alloc | apply Kd.N_drewN | apply Kd.N_drew)); exact Kd.N_mono HO1071.out (fun _ hk => ⟨⟨hk.1, hk.2.1⟩, hk.2.2⟩)) hg hat)
                                      have n4_ := am (hb)
                                      have n5_ := am (ho)
                                      clear HO_3
                                      clear HO1065
                                      clear HO1079
                                      clear HO1071
                                      clear HB
                                      clear HO1060
                                      have HO_3 := n0_
                                      have HO1065 := n1_
                                      have HO1079 := n2_
                                      have HO1071 := n3_
                                      have HB := n4_
                                      have HO1068 := n5_
                                      clear n0_ n1_ n2_ n3_ n4_ n5_
                                      clear ho hb hg hat
                                      refine hK.out _ _ trivial (fun hHeld => ?_)
                                      clear hK K
                                      refine norm_ (a' := ?_) ?_ ?_
                                      rotate_left
                                      · show Act.put _ (some 53) _ = _
                                        simp only [Act.put, List.setIfInBounds_toArray, List.set_cons_zero, List.set_cons_succ, i64_w, i32_w]
                                        rfl
                                      exact norm_ (by simp only [putAll, Act.put, List.setIfInBounds_toArray, List.set_cons_zero, List.set_cons_succ]) (hCont (v1059, v1067, v1070) _ ⟨(by (with_reducible repeat (first | apply Kd.V_alloc | apply Kd.V_drewN | apply Kd.V_drew)); exact Kd.V_mono HO1065.out (fun _ hk => ⟨hk.1.1, ⟨hk.2, hk.1.2⟩⟩)), (by (with_reducible repeat (first | apply Kd.N_alloc | apply Kd.N_drewN | apply Kd.N_drew)); exact HO1068.out), (by (with_reducible repeat (first | apply Kd.N_alloc | apply Kd.N_drewN | apply Kd.N_drew)); exact Kd.N_mono HO1071.out (fun _ hk => ⟨hk.1.1, ⟨hk.2, hk.1.2⟩⟩)), (by (with_reducible repeat (first | apply Kd.V_alloc | apply Kd.V_drewN | apply Kd.V_drew)); exact Kd.V_mono HO1079.out (fun _ hk => ⟨hk.1.1, ⟨hk.2, hk.1.2⟩⟩)), (by (with_reducible repeat (first | apply Kd.N_alloc | apply Kd.N_drewN | apply Kd.N_drew)); exact Kd.N_mono HO_3.out (fun _ hk => ⟨hk.1.1, ⟨hk.2, hk.1.2⟩⟩)), (by repeat (first | (with_reducible first | exact HB.out | apply below_alloc | apply pw_below_drewN | apply below_drew1) | exact HB.out))⟩)
                                  · skip
                                    obtain ⟨Ao71, co71, eo71⟩ := Kd.R_slice HO_6.out
                                    subst eo71
                                    refine Kd.N_lit_step (Kd.slice 3 (Kd.int .i64)) _ 27 ?hg (N' := 55) ?hd (xs := ([t1001] : List (List Int))) (inner := [.slice Ao71 t1001.length co71]) (ok := (fun k_ => (w.heap.size ≤ k_) ∧ some k_ ≠ (.slice Ao67 x3_2.length co67 : Value).ownBlock)) (okp := (fun k_ => (w.heap.size ≤ k_) ∧ some k_ ≠ (.slice Ao67 x3_2.length co67 : Value).ownBlock)) ?hr ?hp (fun _ hk => hk) ((show ∀ k_, w68.heap.size ≤ k_ → (fun k_ => (w.heap.size ≤ k_) ∧ some k_ ≠ (.slice Ao67 x3_2.length co67 : Value).ownBlock) k_ from fun k_ hk => ⟨(Nat.le_trans (below_size (by repeat (first | (with_reducible first | exact HB.out | apply below_alloc | apply pw_below_drewN | apply below_drew1) | exact HB.out))) hk), Kd.fresh' (Kd.N_lt (by (with_reducible repeat (first | apply Kd.N_alloc | apply Kd.N_drewN | apply Kd.N_drew)); exact HO_3.out)) k_ hk⟩) _ (Nat.le_refl _)) (Below.refl _ _) (Nat.le_refl _) (by simp) ?_; (case hd => rfl); (case hg => rfl); (case hr => first | (go_simp; done) | (go_simp; rfl)); (case hp => exact (Reps.one (show Kd.FK (Kd.slice 3 (Kd.int .i64)) _ _ t1001 [.slice Ao71 t1001.length co71] from (Kd.FK_slice_mk (Kd.R_reads' (Kd.R_mono (ok' := (fun k_ => (w.heap.size ≤ k_) ∧ some k_ ≠ (.slice Ao67 x3_2.length co67 : Value).ownBlock)) (Kd.R_apart' (HO_6.out) (Kd.N_typed HO_3.out) (by decide)) (fun k_ hk => ⟨hk.1, hk.2⟩))).2.1 (Kd.R_F (Kd.R_mono (ok' := (fun k_ => (w.heap.size ≤ k_) ∧ some k_ ≠ (.slice Ao67 x3_2.length co67 : Value).ownBlock)) (Kd.R_apart' (HO_6.out) (Kd.N_typed HO_3.out) (by decide)) (fun k_ hk => ⟨hk.1, hk.2⟩))))) (Reps.none _ _)))
                                    intro v1070 w72 ho73 hb hg_ hnew_
                                    clear hg_ hnew_
                                    (first | rw [← Ny1069.out] at ho73 | (simp only [Int.reduceToNat] at ho73; rw [← Ny1069.out] at ho73))
                                    have n0_ := am (Kd.N_elder' (by (with_reducible repeat (first | apply Kd.N_alloc | apply Kd.N_drewN | apply Kd.N_drew)); exact HO_3.out) (by first | exact Kd.N_base ho73 | exact Kd.N_base (Kd.S_N ho73)) hb)
                                    have n1_ := am (Kd.V_elder' (by (with_reducible repeat (first | apply Kd.V_alloc | apply Kd.V_drewN | apply Kd.V_drew)); exact HO1065.out) (by first | exact Kd.N_base ho73 | exact Kd.N_base (Kd.S_N ho73)) hb)
                                    have n2_ := am (Kd.V_elder' (by (with_reducible repeat (first | apply Kd.V_alloc | apply Kd.V_drewN | apply Kd.V_drew)); exact HO1079.out) (by first | exact Kd.N_base ho73 | exact Kd.N_base (Kd.S_N ho73)) hb)
                                    have n3_ := am (Kd.N_lower ho73 (below_size (by repeat (first | (with_reducible first | exact HB.out | apply below_alloc | apply pw_below_drewN | apply below_drew1) | exact HB.out))))
                                    have n4_ := am (below_step (by repeat (first | (with_reducible first | exact HB.out | apply below_alloc | apply pw_below_drewN | apply below_drew1) | exact HB.out)) hb)
                                    clear HO_3
                                    clear HO1065
                                    clear HO1079
                                    clear HB
                                    clear HO_6
                                    have HO_3 := n0_
                                    have HO1065 := n1_
                                    have HO1079 := n2_
                                    have HO1071 := n3_
                                    have HB := n4_
                                    clear n0_ n1_ n2_ n3_ n4_
                                    clear hb ho73
                                    refine hK.out _ _ trivial (fun hHeld => ?_)
                                    clear hK K
                                    refine norm_ (a' := ?_) ?_ ?_
                                    rotate_left
                                    · show Act.put _ (some 55) _ = _
                                      simp only [Act.put, List.setIfInBounds_toArray, List.set_cons_zero, List.set_cons_succ, i64_w, i32_w]
                                      rfl
                                    refine one_ (i := 0) (N := some 49) #[true, true, true, true, false, true, true, false, true, true, true, false, false] rfl rfl (one_of HT_.out (by kernel_rfl)) (by decide) (fun K hK => ?_)
                                    refine Kd.N_lit_step (Kd.slice 3 (Kd.int .i64)) _ 27 ?hg (N' := 49) ?hd (xs := ([] : List (List Int))) (inner := []) (ok := (fun k_ => (w.heap.size ≤ k_) ∧ some k_ ≠ (.slice Ao67 x3_2.length co67 : Value).ownBlock ∧ some k_ ≠ (v1070 : Value).ownBlock)) (okp := (fun k_ => (w.heap.size ≤ k_) ∧ some k_ ≠ (.slice Ao67 x3_2.length co67 : Value).ownBlock ∧ some k_ ≠ (v1070 : Value).ownBlock)) ?hr ?hp (fun _ hk => hk) ((show ∀ k_, w72.heap.size ≤ k_ → (fun k_ => (w.heap.size ≤ k_) ∧ some k_ ≠ (.slice Ao67 x3_2.length co67 : Value).ownBlock ∧ some k_ ≠ (v1070 : Value).ownBlock) k_ from fun k_ hk => ⟨(Nat.le_trans (below_size (by repeat (first | (with_reducible first | exact HB.out | apply below_alloc | apply pw_below_drewN | apply below_drew1) | exact HB.out))) hk), Kd.fresh' (Kd.N_lt (by (with_reducible repeat (first | apply Kd.N_alloc | apply Kd.N_drewN | apply Kd.N_drew)); exact HO_3.out)) k_ hk, Kd.fresh' (Kd.N_lt (by (with_reducible repeat (first | apply Kd.N_alloc | apply Kd.N_drewN | apply Kd.N_drew)); exact HO1071.out)) k_ hk⟩) _ (Nat.le_refl _)) (Below.refl _ _) (Nat.le_refl _) (by simp) ?_; (case hd => rfl); (case hg => rfl); (case hr => first | (go_simp; done) | (go_simp; rfl)); (case hp => exact (Reps.none _ _))
                                    intro v1059 w74 ho75 hb hg_ hnew_
                                    clear hg_ hnew_
                                    (first | rw [← Ny1058.out] at ho75 | (simp only [Int.reduceToNat] at ho75; rw [← Ny1058.out] at ho75))
                                    have n0_ := am (Kd.N_elder' (by (with_reducible repeat (first | apply Kd.N_alloc | apply Kd.N_drewN | apply Kd.N_drew)); exact HO_3.out) (by first | exact Kd.N_base ho75 | exact Kd.N_base (Kd.S_N ho75)) hb)
                                    have n1_ := am (Kd.V_elder' (by (with_reducible repeat (first | apply Kd.V_alloc | apply Kd.V_drewN | apply Kd.V_drew)); exact HO1065.out) (by first | exact Kd.N_base ho75 | exact Kd.N_base (Kd.S_N ho75)) hb)
                                    have n2_ := am (Kd.V_elder' (by (with_reducible repeat (first | apply Kd.V_alloc | apply Kd.V_drewN | apply Kd.V_drew)); exact HO1079.out) (by first | exact Kd.N_base ho75 | exact Kd.N_base (Kd.S_N ho75)) hb)
                                    have n3_ := am (Kd.N_elder' (by (with_reducible repeat (first | apply Kd.N_alloc | apply Kd.N_drewN | apply Kd.N_drew)); exact HO1071.out) (by first | exact Kd.N_base ho75 | exact Kd.N_base (Kd.S_N ho75)) hb)
                                    have n4_ := am (Kd.N_lower ho75 (below_size (by repeat (first | (with_reducible first | exact HB.out | apply below_alloc | apply pw_below_drewN | apply below_drew1) | exact HB.out))))
                                    have n5_ := am (below_step (by repeat (first | (with_reducible first | exact HB.out | apply below_alloc | apply pw_below_drewN | apply below_drew1) | exact HB.out)) hb)
                                    clear HO_3
                                    clear HO1065
                                    clear HO1079
                                    clear HO1071
                                    clear HB
                                    have HO_3 := n0_
                                    have HO1065 := n1_
                                    have HO1079 := n2_
                                    have HO1071 := n3_
                                    have HO1060 := n4_
                                    have HB := n5_
                                    clear n0_ n1_ n2_ n3_ n4_ n5_
                                    clear hb ho75
                                    refine hK.out _ _ trivial (fun hHeld => ?_)
                                    clear hK K
                                    refine norm_ (a' := ?_) ?_ ?_
                                    rotate_left
                                    · show Act.put _ (some 49) _ = _
                                      simp only [Act.put, List.setIfInBounds_toArray, List.set_cons_zero, List.set_cons_succ, i64_w, i32_w]
                                      rfl
                                    refine one_ (i := 4) (N := some 53) #[true, true, true, true, true, true, true, false, true, true, true, false, false] rfl rfl (one_of HT_.out (by kernel_rfl)) (by decide) (fun K hK => ?_)
                                    refine Kd.N_append_rows_step (Kd.slice 3 (Kd.int .i64)) (w0 := w) w.heap.size (by rfl) (.tmp 49) (.tmp 52) 30 27 (.slice none 0 0) 24 rfl Try.underlying30 info27 rfl (by decide) (by omega) v1059 y1058 y1061 _ _ _ (fun k_ => (w.heap.size ≤ k_) ∧ some k_ ≠ (v1070 : Value).ownBlock) (fun k_ => ((fun k_ => (w.heap.size ≤ k_) ∧ some k_ ≠ (v1070 : Value).ownBlock)) k_ ∧ some k_ ≠ (v1059 : Value).ownBlock) rfl rfl ?aO ?aR (fun _ hk => hk) ?aF ?aB ?aS ?aL ?_
                                    (case aR => exact (by skip; exact Kd.V_F (Kd.V_mono (ok' := (fun k_ => ((fun k_ => (w.heap.size ≤ k_) ∧ some k_ ≠ (v1070 : Value).ownBlock)) k_ ∧ some k_ ≠ (v1059 : Value).ownBlock)) (HO1065.out) (fun k_ hk => ⟨⟨hk.1.1.1, hk.1.2⟩, hk.2⟩))))
                                    (case aB => exact (by repeat (first | (with_reducible first | exact HB.out | apply below_alloc | apply pw_below_drewN | apply below_drew1) | exact HB.out)))
                                    (case aF => exact (fun k_ hk => ⟨(Nat.le_trans (below_size (by repeat (first | (with_reducible first | exact HB.out | apply below_alloc | apply pw_below_drewN | apply below_drew1) | exact HB.out))) hk), Kd.fresh' (Kd.N_lt (by (with_reducible repeat (first | apply Kd.N_alloc | apply Kd.N_drewN | apply Kd.N_drew)); exact HO1071.out)) k_ hk⟩))
                                    (case aO => exact (by (with_reducible repeat (first | apply Kd.N_alloc | apply Kd.N_drewN | apply Kd.N_drew)); exact Kd.N_mono HO1060.out (fun _ hk => ⟨hk.1, hk.2.2⟩)))
                                    (case aS => exact (below_size (by repeat (first | (with_reducible first | exact HB.out | apply below_alloc | apply pw_below_drewN | apply below_drew1) | exact HB.out))))
                                    (case aL => have := LMc62.out; omega)
                                    intro v1067 w76 ho hb hg hat
                                    rw [← Ny1066.out] at ho
                                    have n0_ := am (Kd.N_afterv (ok := (fun k_ => (w.heap.size ≤ k_) ∧ some k_ ≠ (v1070 : Value).ownBlock)) (by (with_reducible repeat (first | apply Kd.N_alloc | apply Kd.N_drewN | apply Kd.N_drew)); exact Kd.N_mono HO_3.out (fun _ hk => ⟨⟨hk.1.1.1, hk.1.2⟩, hk.2⟩)) hg hat)
                                    have n1_ := am (Kd.V_afterv (ok := (fun k_ => (w.heap.size ≤ k_) ∧ some k_ ≠ (v1070 : Value).ownBlock)) (by (with_reducible repeat (first | apply Kd.V_alloc | apply Kd.V_drewN | apply Kd.V_drew)); exact Kd.V_mono HO1065.out (fun _ hk => ⟨⟨hk.1.1.1, hk.1.2⟩, hk.2⟩)) hg hat)
                                    have n2_ := am (Kd.V_afterv (ok := (fun k_ => (w.heap.size ≤ k_) ∧ some k_ ≠ (v1070 : Value).ownBlock)) (by (with_reducible repeat (first | apply Kd.V_alloc | apply Kd.V_drewN | apply Kd.V_drew)); exact Kd.V_mono HO1079.out (fun _ hk => ⟨⟨hk.1.1.1, hk.1.2⟩, hk.2⟩)) hg hat)
                                    have n3_ := am (Kd.N_afterv (ok := (fun k_ => (w.heap.size ≤ k_) ∧ some k_ ≠ (.slice Ao67 x3_2.length co67 : Value).ownBlock)) (by (with_reducible repeat (first | apply Kd.N_alloc | apply Kd.N_drewN | apply Kd.N_drew)); exact HO1071.out) hg hat)
                                    have n4_ := am (hb)
                                    have n5_ := am (ho)
                                    clear HO_3
                                    clear HO1065
                                    clear HO1079
                                    clear HO1071
                                    clear HB
                                    clear HO1060
                                    have HO_3 := n0_
                                    have HO1065 := n1_
                                    have HO1079 := n2_
                                    have HO1071 := n3_
                                    have HB := n4_
                                    have HO1068 := n5_
                                    clear n0_ n1_ n2_ n3_ n4_ n5_
                                    clear ho hb hg hat
                                    refine hK.out _ _ trivial (fun hHeld => ?_)
                                    clear hK K
                                    refine norm_ (a' := ?_) ?_ ?_
                                    rotate_left
                                    · show Act.put _ (some 53) _ = _
                                      simp only [Act.put, List.setIfInBounds_toArray, List.set_cons_zero, List.set_cons_succ, i64_w, i32_w]
                                      rfl
                                    exact norm_ (by simp only [putAll, Act.put, List.setIfInBounds_toArray, List.set_cons_zero, List.set_cons_succ]) (hCont (v1059, v1067, v1070) _ ⟨(by (with_reducible repeat (first | apply Kd.V_alloc | apply Kd.V_drewN | apply Kd.V_drew)); exact Kd.V_mono HO1065.out (fun _ hk => ⟨hk.1.1, ⟨hk.2, hk.1.2⟩⟩)), (by (with_reducible repeat (first | apply Kd.N_alloc | apply Kd.N_drewN | apply Kd.N_drew)); exact HO1068.out), (by (with_reducible repeat (first | apply Kd.N_alloc | apply Kd.N_drewN | apply Kd.N_drew)); exact Kd.N_mono HO1071.out (fun _ hk => ⟨hk.1.1, ⟨hk.2, hk.1.2⟩⟩)), (by (with_reducible repeat (first | apply Kd.V_alloc | apply Kd.V_drewN | apply Kd.V_drew)); exact Kd.V_mono HO1079.out (fun _ hk => ⟨hk.1.1, ⟨hk.2, hk.1.2⟩⟩)), (by (with_reducible repeat (first | apply Kd.N_alloc | apply Kd.N_drewN | apply Kd.N_drew)); exact Kd.N_mono HO_3.out (fun _ hk => ⟨hk.1.1, ⟨hk.2, hk.1.2⟩⟩)), (by repeat (first | (with_reducible first | exact HB.out | apply below_alloc | apply pw_below_drewN | apply below_drew1) | exact HB.out))⟩)
                                rintro ⟨v1059, v1067, v1070⟩ w77 ⟨h0_, h1_, h2_, h3_, h4_, h5_⟩
                                have n0_ : Aside0 (Kd.V (Kd.slice 3 (Kd.int .i64)) 27 w77 w.heap.size (fun k_ => (w.heap.size ≤ k_) ∧ some k_ ≠ (v1067 : Value).ownBlock ∧ some k_ ≠ (v1070 : Value).ownBlock) (.slice Ao67 y1061.length co67) y1061) := ⟨h0_⟩
                                have n1_ : Aside0 (Kd.N (Kd.slice 3 (Kd.int .i64)) 27 w77 w.heap.size (fun k_ => (w.heap.size ≤ k_) ∧ some k_ ≠ (v1070 : Value).ownBlock) v1067 y1066) := ⟨h1_⟩
                                have n2_ : Aside0 (Kd.N (Kd.slice 3 (Kd.int .i64)) 27 w77 w.heap.size (fun k_ => (w.heap.size ≤ k_) ∧ some k_ ≠ (v1067 : Value).ownBlock ∧ some k_ ≠ (.slice Ao67 x3_2.length co67 : Value).ownBlock) v1070 y1069) := ⟨h2_⟩
                                have n3_ : Aside0 (Kd.V (Kd.slice 3 (Kd.int .i64)) 27 w77 w.heap.size (fun k_ => (w.heap.size ≤ k_) ∧ some k_ ≠ (v1067 : Value).ownBlock ∧ some k_ ≠ (v1070 : Value).ownBlock) (.slice A70 y1075.length c70) y1075) := ⟨h3_⟩
                                have n4_ : Aside0 (Kd.N (Kd.slice 3 (Kd.int .i64)) 27 w77 w.heap.size (fun k_ => (w.heap.size ≤ k_) ∧ some k_ ≠ (v1067 : Value).ownBlock ∧ some k_ ≠ (v1070 : Value).ownBlock) (.slice Ao67 x3_2.length co67) x3_2) := ⟨h4_⟩
                                have n5_ : Aside0 (Below w.heap.size w w77) := ⟨h5_⟩
                                clear HO_3
                                clear HO_6
                                clear HB
                                clear h0_ h1_ h2_ h3_ h4_ h5_
                                have HO1065 := n0_
                                have HO1068 := n1_
                                have HO1071 := n2_
                                have HO1079 := n3_
                                have HO_3 := n4_
                                have HB := n5_
                                clear n0_ n1_ n2_ n3_ n4_ n5_
                                have hHeld := trivial
                                obtain ⟨Ao79, co79, eo79⟩ := Kd.N_slice HO1071.out
                                (first | subst eo79 | (injection eo79 with f1_ f2_ f3_; have f4_ := f1_.symm; have f5_ := f3_.symm; clear f1_ f2_ f3_; subst f4_; subst f5_))
                                refine norm_ (a' := ?_) ?_ ?_
                                rotate_left
                                · simp only [putAll, Act.put, List.setIfInBounds_toArray, List.set_cons_zero, List.set_cons_succ]
                                  rfl
                                refine one_ (i := 7) (N := some 56) #[true, true, true, true, true, true, true, true, true, true, true, false, false] rfl rfl (one_of HT_.out (by kernel_rfl)) (by decide) (fun K hK => ?_)
                                refine Kd.N_append_rows_step (Kd.slice 3 (Kd.int .i64)) (w0 := w) w.heap.size (by rfl) (.tmp 53) (.tmp 55) 30 27 (.slice none 0 0) 24 rfl Try.underlying30 info27 rfl (by decide) (by omega) v1067 y1066 y1069 _ _ _ (fun k_ => (w.heap.size ≤ k_)) (fun k_ => ((fun k_ => (w.heap.size ≤ k_))) k_ ∧ some k_ ≠ (v1067 : Value).ownBlock) rfl rfl ?aO ?aR (fun _ hk => hk) ?aF ?aB ?aS ?aL ?_
                                (case aR => exact (by skip; exact Kd.N_F (Kd.N_mono (ok' := (fun k_ => ((fun k_ => (w.heap.size ≤ k_))) k_ ∧ some k_ ≠ (v1067 : Value).ownBlock)) (HO1071.out) (fun k_ hk => ⟨hk.1, hk.2.1⟩))))
                                (case aB => exact (by repeat (first | (with_reducible first | exact HB.out | apply below_alloc | apply pw_below_drewN | apply below_drew1) | exact HB.out)))
                                (case aF => exact (fun k_ hk => (Nat.le_trans (below_size (by repeat (first | (with_reducible first | exact HB.out | apply below_alloc | apply pw_below_drewN | apply below_drew1) | exact HB.out))) hk)))
                                (case aO => exact (by (with_reducible repeat (first | apply Kd.N_alloc | apply Kd.N_drewN | apply Kd.N_drew)); exact Kd.N_mono HO1068.out (fun _ hk => hk.1)))
                                (case aS => exact (below_size (by repeat (first | (with_reducible first | exact HB.out | apply below_alloc | apply pw_below_drewN | apply below_drew1) | exact HB.out))))
                                (case aL => have := LMc63.out; omega)
                                intro v1073 w78 ho hb hg hat
                                rw [← Ny1072.out] at ho
                                have n0_ := am (Kd.N_afterv (ok := (fun k_ => (w.heap.size ≤ k_) ∧ some k_ ≠ (.slice Ao79 y1069.length co79 : Value).ownBlock)) (by (with_reducible repeat (first | apply Kd.N_alloc | apply Kd.N_drewN | apply Kd.N_drew)); exact Kd.N_mono HO_3.out (fun _ hk => ⟨⟨hk.1, hk.2.2⟩, hk.2.1⟩)) hg hat)
                                have n1_ := am (Kd.V_afterv (ok := (fun k_ => (w.heap.size ≤ k_) ∧ some k_ ≠ (.slice Ao79 y1069.length co79 : Value).ownBlock)) (by (with_reducible repeat (first | apply Kd.V_alloc | apply Kd.V_drewN | apply Kd.V_drew)); exact Kd.V_mono HO1065.out (fun _ hk => ⟨⟨hk.1, hk.2.2⟩, hk.2.1⟩)) hg hat)
                                have n2_ := am (Kd.V_afterv (ok := (fun k_ => (w.heap.size ≤ k_) ∧ some k_ ≠ (.slice Ao79 y1069.length co79 : Value).ownBlock)) (by (with_reducible repeat (first | apply Kd.V_alloc | apply Kd.V_drewN | apply Kd.V_drew)); exact Kd.V_mono HO1079.out (fun _ hk => ⟨⟨hk.1, hk.2.2⟩, hk.2.1⟩)) hg hat)
                                have n3_ := am (Kd.N_afterv (ok := (fun k_ => (w.heap.size ≤ k_) ∧ some k_ ≠ (.slice Ao67 x3_2.length co67 : Value).ownBlock)) (by (with_reducible repeat (first | apply Kd.N_alloc | apply Kd.N_drewN | apply Kd.N_drew)); exact Kd.N_mono HO1071.out (fun _ hk => ⟨⟨hk.1, hk.2.2⟩, hk.2.1⟩)) hg hat)
                                have n4_ := am (hb)
                                have n5_ := am (ho)
                                clear HO_3
                                clear HO1065
                                clear HO1079
                                clear HO1071
                                clear HB
                                clear HO1068
                                have HO_3 := n0_
                                have HO1065 := n1_
                                have HO1079 := n2_
                                have HO1071 := n3_
                                have HB := n4_
                                have HO1074 := n5_
                                clear n0_ n1_ n2_ n3_ n4_ n5_
                                clear ho hb hg hat
                                refine hK.out _ _ trivial (fun hHeld => ?_)
                                clear hK K
                                refine norm_ (a' := ?_) ?_ ?_
                                rotate_left
                                · show Act.put _ (some 56) _ = _
                                  simp only [Act.put, List.setIfInBounds_toArray, List.set_cons_zero, List.set_cons_succ, i64_w, i32_w]
                                  rfl
                                refine one_ (i := 11) (N := some 60) #[true, true, true, true, true, true, true, true, true, true, true, true, false] rfl rfl (one_of HT_.out (by kernel_rfl)) (by decide) (fun K hK => ?_)
                                refine Kd.N_append_rows_step (Kd.slice 3 (Kd.int .i64)) (w0 := w) w.heap.size (by rfl) (.tmp 56) (.tmp 59) 30 27 (.slice none 0 0) 24 rfl Try.underlying30 info27 rfl (by decide) (by omega) v1073 y1072 y1075 _ _ _ (fun k_ => (w.heap.size ≤ k_)) (fun k_ => ((fun k_ => (w.heap.size ≤ k_))) k_ ∧ some k_ ≠ (v1073 : Value).ownBlock) rfl rfl ?aO ?aR (fun _ hk => hk) ?aF ?aB ?aS ?aL ?_
                                (case aR => exact (by skip; exact Kd.V_F (Kd.V_mono (ok' := (fun k_ => ((fun k_ => (w.heap.size ≤ k_))) k_ ∧ some k_ ≠ (v1073 : Value).ownBlock)) (HO1079.out) (fun k_ hk => ⟨hk.1.1, hk.2⟩))))
                                (case aB => exact (by repeat (first | (with_reducible first | exact HB.out | apply below_alloc | apply pw_below_drewN | apply below_drew1) | exact HB.out)))
                                (case aF => exact (fun k_ hk => (Nat.le_trans (below_size (by repeat (first | (with_reducible first | exact HB.out | apply below_alloc | apply pw_below_drewN | apply below_drew1) | exact HB.out))) hk)))
                                (case aO => exact (by (with_reducible repeat (first | apply Kd.N_alloc | apply Kd.N_drewN | apply Kd.N_drew)); exact HO1074.out))
                                (case aS => exact (below_size (by repeat (first | (with_reducible first | exact HB.out | apply below_alloc | apply pw_below_drewN | apply below_drew1) | exact HB.out))))
                                (case aL => have := LMc66.out; omega)
                                intro v1081 w80 ho hb hg hat
                                rw [← Ny1080.out] at ho
                                have n0_ := am (Kd.N_afterv (ok := (fun k_ => (w.heap.size ≤ k_) ∧ some k_ ≠ (.slice Ao79 y1069.length co79 : Value).ownBlock)) (by (with_reducible repeat (first | apply Kd.N_alloc | apply Kd.N_drewN | apply Kd.N_drew)); exact HO_3.out) hg hat)
                                have n1_ := am (Kd.V_afterv (ok := (fun k_ => (w.heap.size ≤ k_) ∧ some k_ ≠ (.slice Ao79 y1069.length co79 : Value).ownBlock)) (by (with_reducible repeat (first | apply Kd.V_alloc | apply Kd.V_drewN | apply Kd.V_drew)); exact HO1065.out) hg hat)
                                have n2_ := am (Kd.V_afterv (ok := (fun k_ => (w.heap.size ≤ k_) ∧ some k_ ≠ (.slice Ao79 y1069.length co79 : Value).ownBlock)) (by (with_reducible repeat (first | apply Kd.V_alloc | apply Kd.V_drewN | apply Kd.V_drew)); exact HO1079.out) hg hat)
                                have n3_ := am (Kd.N_afterv (ok := (fun k_ => (w.heap.size ≤ k_) ∧ some k_ ≠ (.slice Ao67 x3_2.length co67 : Value).ownBlock)) (by (with_reducible repeat (first | apply Kd.N_alloc | apply Kd.N_drewN | apply Kd.N_drew)); exact HO1071.out) hg hat)
                                have n4_ := am (hb)
                                have n5_ := am (ho)
                                clear HO_3
                                clear HO1065
                                clear HO1079
                                clear HO1071
                                clear HB
                                clear HO1074
                                have HO_3 := n0_
                                have HO1065 := n1_
                                have HO1079 := n2_
                                have HO1071 := n3_
                                have HB := n4_
                                have HO1082 := n5_
                                clear n0_ n1_ n2_ n3_ n4_ n5_
                                clear ho hb hg hat
                                refine hK.out _ _ trivial (fun hHeld => ?_)
                                clear hK K
                                refine norm_ (a' := ?_) ?_ ?_
                                rotate_left
                                · show Act.put _ (some 60) _ = _
                                  simp only [Act.put, List.setIfInBounds_toArray, List.set_cons_zero, List.set_cons_succ, i64_w, i32_w]
                                  rfl
                                refine pure_ (i := 12) (N := some 3) (v := ?_) (a' := ?_) #[true, true, true, true, true, true, true, true, true, true, true, true, true] rfl rfl (any_of HT_.out (by kernel_rfl)) (fun _ _ _ h => h) (Or.inl ⟨by rfl, ?_⟩) ?_ ?_
                                rotate_left
                                · intro w'
                                  go_simp
                                  with_reducible rfl
                                rotate_left
                                · simp only [Act.put, List.setIfInBounds_toArray, List.set_cons_zero, List.set_cons_succ, i64_w, i32_w]
                                  rfl
                                refine done_ (done_of HT_.out (by kernel_rfl)) ?_
                                try go_wp2
                                go_roundg k3
                                case measure => have := HK1.out; have := HK2.out; have := HK3.out; omega
                                case rel => exact ⟨(y1080), (wrap64 (x13_2 + 1)), (by first | rfl | (simp; done) | (simp [*]; done)), H', ⟨by have := HK1.out; have := HK2.out; have := HK3.out; omega⟩, ⟨by (with_reducible repeat (first | apply Kd.N_alloc | apply Kd.N_drewN | apply Kd.N_drew)); exact HO1082.out⟩, ⟨by repeat (first | (with_reducible first | exact HB.out | apply below_alloc | apply pw_below_drewN | apply below_drew1) | exact HB.out)⟩⟩
                              · rw [if_neg c66] at H
                                exact absurd H (by simp)
                            · rw [if_neg c63] at H
                              exact absurd H (by simp)
                          · rw [if_neg c62] at H
                            exact absurd H (by simp)
                        · rw [if_neg c61] at H
                          exact absurd H (by simp)
                      · rw [if_neg c60] at H
                        exact absurd H (by simp)
                    · rw [if_neg c59] at H
                      have c59b0 : (x7_3 == (x3_2.length : Int)) = false := beq_eq_false_iff_ne.mpr c59
                      have c59b1 : (x7_3 != (x3_2.length : Int)) = true := bne_iff_ne.mpr c59
                      by_cases c81 : 0 ≤ x7_3
                      · rw [if_pos c81] at H
                        exact absurd H (by simp)
                      · rw [if_neg c81] at H
                        exact absurd H (by simp)
            · rw [if_neg c3] at H
              have c3b0 : decide (x13_2 < (l0.length : Int)) = false := decide_eq_false c3
              clear c3
              have H' := am H
              clear H
              go_wp2
              go_roundg k2
              case measure => have := HK1.out; have := HK2.out; omega
              case rel => exact ⟨(x3_2), (wrap64 (x8_1 + 1)), (by first | rfl | (simp; done) | (simp [*]; done)), H', ⟨by have := HK1.out; have := HK2.out; omega⟩, ⟨by (with_reducible repeat (first | apply Kd.N_alloc | apply Kd.N_drewN | apply Kd.N_drew)); exact HO_3.out⟩, ⟨by repeat (first | (with_reducible first | exact HB.out | apply below_alloc | apply pw_below_drewN | apply below_drew1) | exact HB.out)⟩⟩
      · rw [if_neg c2] at H
        have c2b0 : decide (x8_1 < 4) = false := decide_eq_false c2
        clear c2
        obtain rfl := Option.some.inj H
        go_wp2
        go_ret
        exact ⟨_, by first | rfl | (simp [errW_none, errW_some] <;> rfl) | (simp [*, errW_none, errW_some] <;> rfl), by (with_reducible repeat (first | apply Kd.N_alloc | apply Kd.N_drewN | apply Kd.N_drew)); exact HO_3.out, by repeat (first | (with_reducible first | exact HB.out | apply below_alloc | apply pw_below_drewN | apply below_drew1) | exact HB.out)⟩

end Go.Proofs.Ytknchioabngbiaa.P
