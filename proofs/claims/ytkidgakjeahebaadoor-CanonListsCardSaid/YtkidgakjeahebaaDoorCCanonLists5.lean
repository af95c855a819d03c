/- A part of a proof that a law's Go function returns true for every input, laid by this session's program mp.py (which drives the kit's print). Conditions: as each theorem states them. -/
import Derived.Test.YtkidgakjeahebaaDoorCCanonLists1
import Derived.Test.YtkidgakjeahebaaDoorCCanonLists2
import Derived.Test.YtkidgakjeahebaaDoorCCanonLists3
import Derived.Test.YtkidgakjeahebaaDoorCCanonLists4
namespace Go.Proofs.YtkidgakjeahebaaDoor.P
open Go.RowKit Go.Proofs.YtkidgakjeahebaaDoorW.PrintWords Go.Proofs.YtkidgakjeahebaaDoorW.PrintLast Go.Proofs.YtkidgakjeahebaaDoorW.PrintMore
attribute [local go_sem] max2_int min2_int max_two min_two max_three min_three max_four min_four   -- for this text's walks alone
set_option linter.unusedVariables false
set_option linter.unusedSimpArgs false

/-! ### sackbutref02_Plain: function 25 -/
mutual
def sackbutref02_Plain.l0 : Nat → Int → Int → Option ((List (S43)))
  | 0, _, _ => none
  | k + 1, x0, x4 => if x4 ≤ x0 then (if x4 = 0 then (none) else (if (Int.tmod x0 x4) = 0 then ((sackbutref02_List.f k x0 x4).bind fun t1001 => (sackbutref02_Plain.l1 k x0 x4 t1001 (t1001.length : Int) 0)) else (sackbutref02_Plain.l0 k x0 (wrap64 (x4 + 1))))) else (sackbutref02_Plain.l3 k ([] : List (S43)) (([] : List (S43)).length : Int) 0)
def sackbutref02_Plain.l1 : Nat → Int → Int → List Int → Int → Int → Option ((List (S43)))
  | 0, _, _, _, _, _ => none
  | k + 1, x0, x4, x24, x25, x26 => if x26 < x25 then (if 0 ≤ x26 then (if x26 < (x24.length : Int) then ((sackbutref02_Period.f k x0 (rd x24 x26)).bind fun t1005 => (if t1005 < x0 then (sackbutref02_Plain.l1 k x0 x4 x24 x25 (wrap64 (x26 + 1))) else (if x4 = 0 then (none) else ((sackbutref02_List.f k x0 (wrap64 (Int.tdiv x0 x4))).bind fun t1006 => (sackbutref02_Plain.l2 k x0 x4 (rd x24 x26) x24 x25 x26 t1006 (t1006.length : Int) 0))))) else (none)) else (none)) else (sackbutref02_Plain.l0 k x0 (wrap64 (x4 + 1)))
def sackbutref02_Plain.l2 : Nat → Int → Int → Int → List Int → Int → Int → List Int → Int → Int → Option ((List (S43)))
  | 0, _, _, _, _, _, _, _, _, _ => none
  | k + 1, x0, x4, x6, x24, x25, x26, x39, x40, x41 => if x41 < x40 then (if 0 ≤ x41 then (if x41 < (x39.length : Int) then ((sackbutref02_Period.f k x0 (rd x39 x41)).bind fun t1010 => (if t1010 = x0 then ((sackbutref02_Tiles.f k x0 x6 (rd x39 x41)).bind fun t1011 => (if t1011 = true then (none) else (sackbutref02_Plain.l2 k x0 x4 x6 x24 x25 x26 x39 x40 (wrap64 (x41 + 1))))) else (sackbutref02_Plain.l2 k x0 x4 x6 x24 x25 x26 x39 x40 (wrap64 (x41 + 1))))) else (none)) else (none)) else (sackbutref02_Plain.l1 k x0 x4 x24 x25 (wrap64 (x26 + 1)))
def sackbutref02_Plain.l3 : Nat → List (S43) → Int → Int → Option ((List (S43)))
  | 0, _, _, _ => none
  | k + 1, x9, x65, x66 => if x66 < x65 then (none) else (some x9)
end
def sackbutref02_Plain.f (k : Nat) (a0 : Int) : Option ((List (S43))) := sackbutref02_Plain.l0 k a0 1
theorem sackbutref02_Plain.mono_l : ∀ k, (∀ y0 y1, LeO (sackbutref02_Plain.l0 k y0 y1) (sackbutref02_Plain.l0 (k + 1) y0 y1)) ∧ (∀ y0 y1 y2 y3 y4, LeO (sackbutref02_Plain.l1 k y0 y1 y2 y3 y4) (sackbutref02_Plain.l1 (k + 1) y0 y1 y2 y3 y4)) ∧ (∀ y0 y1 y2 y3 y4 y5 y6 y7 y8, LeO (sackbutref02_Plain.l2 k y0 y1 y2 y3 y4 y5 y6 y7 y8) (sackbutref02_Plain.l2 (k + 1) y0 y1 y2 y3 y4 y5 y6 y7 y8)) ∧ (∀ y0 y1 y2, LeO (sackbutref02_Plain.l3 k y0 y1 y2) (sackbutref02_Plain.l3 (k + 1) y0 y1 y2))
  | 0 => ⟨fun _ _ r h => by simp [sackbutref02_Plain.l0] at h, fun _ _ _ _ _ r h => by simp [sackbutref02_Plain.l1] at h, fun _ _ _ _ _ _ _ _ _ r h => by simp [sackbutref02_Plain.l2] at h, fun _ _ _ r h => by simp [sackbutref02_Plain.l3] at h⟩
  | k + 1 => by
    obtain ⟨ih0, ih1, ih2, ih3⟩ := sackbutref02_Plain.mono_l k
    refine ⟨?_, ?_, ?_, ?_⟩
    · intro y0 y1
      unfold sackbutref02_Plain.l0
      repeat' first
      | (with_reducible exact ih0 _ _)
      | (with_reducible exact ih1 _ _ _ _ _)
      | (with_reducible exact ih2 _ _ _ _ _ _ _ _ _)
      | (with_reducible exact ih3 _ _ _)
      | (with_reducible exact sackbutref02_List.mono _ _ _)
      | (with_reducible exact sackbutref02_Period.mono _ _ _)
      | (with_reducible exact sackbutref02_Tiles.mono _ _ _ _)
      | (with_reducible exact LeO.refl _)
      | (with_reducible exact LeO.none _)
      | (with_reducible refine LeO.ite ?_ ?_)
      | (with_reducible refine LeO.bind ?_ (fun _ => ?_))
      | exact ih0 _ _
      | exact ih1 _ _ _ _ _
      | exact ih2 _ _ _ _ _ _ _ _ _
      | exact ih3 _ _ _
      | exact sackbutref02_List.mono _ _ _
      | exact sackbutref02_Period.mono _ _ _
      | exact sackbutref02_Tiles.mono _ _ _ _
      | exact LeO.none _
      | refine LeO.ite ?_ ?_
      | refine LeO.bind ?_ (fun _ => ?_)
    · intro y0 y1 y2 y3 y4
      unfold sackbutref02_Plain.l1
      repeat' first
      | (with_reducible exact ih0 _ _)
      | (with_reducible exact ih1 _ _ _ _ _)
      | (with_reducible exact ih2 _ _ _ _ _ _ _ _ _)
      | (with_reducible exact ih3 _ _ _)
      | (with_reducible exact sackbutref02_List.mono _ _ _)
      | (with_reducible exact sackbutref02_Period.mono _ _ _)
      | (with_reducible exact sackbutref02_Tiles.mono _ _ _ _)
      | (with_reducible exact LeO.refl _)
      | (with_reducible exact LeO.none _)
      | (with_reducible refine LeO.ite ?_ ?_)
      | (with_reducible refine LeO.bind ?_ (fun _ => ?_))
      | exact ih0 _ _
      | exact ih1 _ _ _ _ _
      | exact ih2 _ _ _ _ _ _ _ _ _
      | exact ih3 _ _ _
      | exact sackbutref02_List.mono _ _ _
      | exact sackbutref02_Period.mono _ _ _
      | exact sackbutref02_Tiles.mono _ _ _ _
      | exact LeO.none _
      | refine LeO.ite ?_ ?_
      | refine LeO.bind ?_ (fun _ => ?_)
    · intro y0 y1 y2 y3 y4 y5 y6 y7 y8
      unfold sackbutref02_Plain.l2
      repeat' first
      | (with_reducible exact ih0 _ _)
      | (with_reducible exact ih1 _ _ _ _ _)
      | (with_reducible exact ih2 _ _ _ _ _ _ _ _ _)
      | (with_reducible exact ih3 _ _ _)
      | (with_reducible exact sackbutref02_List.mono _ _ _)
      | (with_reducible exact sackbutref02_Period.mono _ _ _)
      | (with_reducible exact sackbutref02_Tiles.mono _ _ _ _)
      | (with_reducible exact LeO.refl _)
      | (with_reducible exact LeO.none _)
      | (with_reducible refine LeO.ite ?_ ?_)
      | (with_reducible refine LeO.bind ?_ (fun _ => ?_))
      | exact ih0 _ _
      | exact ih1 _ _ _ _ _
      | exact ih2 _ _ _ _ _ _ _ _ _
      | exact ih3 _ _ _
      | exact sackbutref02_List.mono _ _ _
      | exact sackbutref02_Period.mono _ _ _
      | exact sackbutref02_Tiles.mono _ _ _ _
      | exact LeO.none _
      | refine LeO.ite ?_ ?_
      | refine LeO.bind ?_ (fun _ => ?_)
    · intro y0 y1 y2
      unfold sackbutref02_Plain.l3
      repeat' first
      | (with_reducible exact ih0 _ _)
      | (with_reducible exact ih1 _ _ _ _ _)
      | (with_reducible exact ih2 _ _ _ _ _ _ _ _ _)
      | (with_reducible exact ih3 _ _ _)
      | (with_reducible exact sackbutref02_List.mono _ _ _)
      | (with_reducible exact sackbutref02_Period.mono _ _ _)
      | (with_reducible exact sackbutref02_Tiles.mono _ _ _ _)
      | (with_reducible exact LeO.refl _)
      | (with_reducible exact LeO.none _)
      | (with_reducible refine LeO.ite ?_ ?_)
      | (with_reducible refine LeO.bind ?_ (fun _ => ?_))
      | exact ih0 _ _
      | exact ih1 _ _ _ _ _
      | exact ih2 _ _ _ _ _ _ _ _ _
      | exact ih3 _ _ _
      | exact sackbutref02_List.mono _ _ _
      | exact sackbutref02_Period.mono _ _ _
      | exact sackbutref02_Tiles.mono _ _ _ _
      | exact LeO.none _
      | refine LeO.ite ?_ ?_
      | refine LeO.bind ?_ (fun _ => ?_)
theorem sackbutref02_Plain.mono : ∀ a0 k, LeO (sackbutref02_Plain.f k a0) (sackbutref02_Plain.f (k + 1) a0) := by
  intro a0 k
  obtain ⟨ih0, ih1, ih2, ih3⟩ := sackbutref02_Plain.mono_l k
  unfold sackbutref02_Plain.f
  repeat' first
      | (with_reducible exact ih0 _ _)
      | (with_reducible exact ih1 _ _ _ _ _)
      | (with_reducible exact ih2 _ _ _ _ _ _ _ _ _)
      | (with_reducible exact ih3 _ _ _)
      | (with_reducible exact sackbutref02_List.mono _ _ _)
      | (with_reducible exact sackbutref02_Period.mono _ _ _)
      | (with_reducible exact sackbutref02_Tiles.mono _ _ _ _)
      | (with_reducible exact LeO.refl _)
      | (with_reducible exact LeO.none _)
      | (with_reducible refine LeO.ite ?_ ?_)
      | (with_reducible refine LeO.bind ?_ (fun _ => ?_))
      | exact ih0 _ _
      | exact ih1 _ _ _ _ _
      | exact ih2 _ _ _ _ _ _ _ _ _
      | exact ih3 _ _ _
      | exact sackbutref02_List.mono _ _ _
      | exact sackbutref02_Period.mono _ _ _
      | exact sackbutref02_Tiles.mono _ _ _ _
      | exact LeO.none _
      | refine LeO.ite ?_ ?_
      | refine LeO.bind ?_ (fun _ => ?_)
set_option maxHeartbeats 8000000 in
set_option maxRecDepth 100000 in
theorem sackbutref02_Plain.calls (k : Nat) (a0 : Int) (r : List (S43)) (w : World) (h : sackbutref02_Plain.f k a0 = some r) :
    Calls Tryd.prog 25 #[.int .i64 a0] w fun e w' => ∃ v0_ : Value, e = .returned (v0_) ∧ Kd.R k43 43 w' w.heap.size (fun _ => True) v0_ r ∧ Below w.heap.size w w' := by
  have hu43 := Tryd.underlying43
  have HB := Aside0.mk (Below.refl w.heap.size w)
  have H : (sackbutref02_Plain.l0 k a0 1) = some r := h
  clear h
  have H' := Aside0.mk H
  clear H
  go_enter Tryd.func25, Tryd.ntmps25
  go_wp2
  go_loopg [3, 4] k (fun kq v3 v4 w' => v3 = .slice none 0 0 ∧ ∃ (x4_1 : Int), v4 = .int .i64 x4_1 ∧ Aside0 (sackbutref02_Plain.l0 kq a0 x4_1 = some r) ∧ Aside0 (kq ≤ k) ∧ Aside0 (Below w.heap.size w w'))
  case atStart => exact ⟨rfl, (1), (by first | rfl | (simp; done) | (simp [*]; done)), H', ⟨Nat.le_refl _⟩, ⟨by repeat (first | (with_reducible first | exact HB.out | apply below_alloc | apply pw_below_drewN | apply below_drew1) | exact HB.out)⟩⟩
  case round =>
    clear H'
    obtain ⟨rfl, x4_1, rfl, HA, HK1, HB⟩ := hrel
    cases gk with
    | zero => exact absurd HA.out (by simp [sackbutref02_Plain.l0])
    | succ k1 =>
      have H := HA.out
      clear HA
      simp only [sackbutref02_Plain.l0] at H
      by_cases c2 : x4_1 ≤ a0
      · rw [if_pos c2] at H
        have c2b0 : decide (x4_1 ≤ a0) = true := decide_eq_true c2
        clear c2
        by_cases c3 : x4_1 = 0
        · rw [if_pos c3] at H
          exact absurd H (by simp)
        · rw [if_neg c3] at H
          have c3b0 : (x4_1 == 0) = false := beq_eq_false_iff_ne.mpr c3
          have c3b1 : (x4_1 != 0) = true := bne_iff_ne.mpr c3
          by_cases c4 : (Int.tmod a0 x4_1) = 0
          · rw [if_pos c4] at H
            have c4b0 : ((Int.tmod a0 x4_1) == 0) = true := beq_iff_eq.mpr c4
            have c4b1 : ((Int.tmod a0 x4_1) != 0) = false := bne_eq_false_iff_eq.mpr c4
            clear c4
            replace H := Option.bind_eq_some_iff.mp H
            obtain ⟨t1001, A50, H⟩ := H
            replace H : (sackbutref02_Plain.l1 k1 a0 x4_1 t1001 (t1001.length : Int) 0) = some r := H
            have A5 := Aside0.mk A50
            clear A50
            have H' := Aside0.mk H
            clear H
            go_wp2_with (first | ((with_reducible refine gate_callee (f := 27) rfl ?_); refine goesL_ (some 24) rfl rfl Tryd.func27 (by kernel_rfl) rfl #[.int .i64 a0, .int .i64 x4_1] rfl (by (try simp only [List.map_toArray, List.map_cons, List.map_nil]); first | done | rfl | (simp only [List.length_drop, List.length_take]; rfl)) ?_; (with_reducible refine (sackbutref02_List.calls k1 a0 x4_1 t1001 _ A5.out).mono ?_); rintro e w6 ⟨v1002, rfl, ho0, hb⟩; refine ⟨_, rfl, ?_⟩; have n0_ := Aside0.mk (Kd.R_lower ho0 (below_size (by repeat (first | (with_reducible first | exact HB.out | apply below_alloc | apply pw_below_drewN | apply below_drew1) | exact HB.out)))); have n1_ := Aside0.mk (below_step (by repeat (first | (with_reducible first | exact HB.out | apply below_alloc | apply pw_below_drewN | apply below_drew1) | exact HB.out)) hb); clear HB; have HO1003 := n0_; have HB := n1_; clear n0_ n1_; (try clear hb); (try clear hb2); (try clear hk); (try clear hi); (try clear ho0); obtain ⟨Ao7, co7, eo7⟩ := Kd.R_slice HO1003.out; subst eo7))
            go_loopg [3, 26] k1 (fun kq v3 v26 w' => v3 = .slice none 0 0 ∧ ∃ (x26_2 : Int), v26 = .int .i64 x26_2 ∧ Aside0 (sackbutref02_Plain.l1 kq a0 x4_1 t1001 (t1001.length : Int) x26_2 = some r) ∧ Aside0 (kq ≤ k1) ∧ Aside0 (Kd.R (Kd.int .i64) 3 w' w.heap.size (fun _ => True) (.slice Ao7 t1001.length co7) t1001) ∧ Aside0 (Below w.heap.size w w'))
            case atStart => exact ⟨rfl, (0), (by first | rfl | (simp; done) | (simp [*]; done)), H', ⟨Nat.le_refl _⟩, ⟨by (with_reducible repeat (first | apply Kd.R_alloc | apply Kd.R_drewN | apply Kd.R_drew)); exact HO1003.out⟩, ⟨by repeat (first | (with_reducible first | exact HB.out | apply below_alloc | apply pw_below_drewN | apply below_drew1) | exact HB.out)⟩⟩
            case round =>
              clear H'
              try clear c2
              try clear c2b0
              try clear p2
              try clear c3
              try clear c3b0
              try clear c3b1
              try clear c4
              try clear c4b0
              try clear c4b1
              obtain ⟨rfl, x26_2, rfl, HA, HK2, HO_24, HB⟩ := hrel
              cases gk with
              | zero => exact absurd HA.out (by simp [sackbutref02_Plain.l1])
              | succ k2 =>
                have H := HA.out
                clear HA
                simp only [sackbutref02_Plain.l1] at H
                by_cases c8 : x26_2 < (t1001.length : Int)
                · rw [if_pos c8] at H
                  have c8b0 : decide (x26_2 < (t1001.length : Int)) = true := decide_eq_true c8
                  clear c8
                  by_cases c9 : 0 ≤ x26_2
                  · rw [if_pos c9] at H
                    have c9b0 : decide (0 ≤ x26_2) = true := decide_eq_true c9
                    clear c9
                    by_cases c10 : x26_2 < (t1001.length : Int)
                    · rw [if_pos c10] at H
                      have c10b0 : decide (x26_2 < (t1001.length : Int)) = true := decide_eq_true c10
                      clear c10
                      replace H := Option.bind_eq_some_iff.mp H
                      obtain ⟨t1005, A110, H⟩ := H
                      replace H : (if t1005 < a0 then (sackbutref02_Plain.l1 k2 a0 x4_1 t1001 (t1001.length : Int) (wrap64 (x26_2 + 1))) else (if x4_1 = 0 then (none) else ((sackbutref02_List.f k2 a0 (wrap64 (Int.tdiv a0 x4_1))).bind fun t1006 => (sackbutref02_Plain.l2 k2 a0 x4_1 (rd t1001 x26_2) t1001 (t1001.length : Int) x26_2 t1006 (t1006.length : Int) 0)))) = some r := H
                      have A11 := Aside0.mk A110
                      clear A110
                      by_cases c12 : t1005 < a0
                      · rw [if_pos c12] at H
                        have c12b0 : decide (t1005 < a0) = true := decide_eq_true c12
                        clear c12
                        have H' := Aside0.mk H
                        clear H
                        have p1004 : 0 ≤ (x26_2 : Int) := of_decide_eq_true (by first | (with_reducible assumption) | assumption)
                        have q1004 : x26_2 < (t1001.length : Int) := of_decide_eq_true (by first | (with_reducible assumption) | assumption)
                        obtain ⟨ad1004, e1004, hx1004_0⟩ := Kd.at_int (Kd.R_reads' HO_24.out).2.2 x26_2 p1004 q1004
                        cases e1004
                        replace p1004 := eq_true p1004
                        replace q1004 := eq_true q1004
                        go_wp2_with (first | ((with_reducible refine gate_callee (f := 51) rfl ?_); refine goesL_ (some 32) rfl rfl Tryd.func51 (by kernel_rfl) rfl #[.int .i64 a0, .int .i64 (rd t1001 x26_2)] rfl (by (try simp only [List.map_toArray, List.map_cons, List.map_nil]); first | done | rfl | (simp only [List.length_drop, List.length_take]; rfl)) ?_; (with_reducible refine (sackbutref02_Period.calls k2 a0 (rd t1001 x26_2) t1005 _ A11.out).mono ?_); rintro e w' ⟨rfl, ⟨nd, rfl⟩⟩; refine ⟨_, rfl, ?_⟩))
                        go_roundg k2
                        case measure => have := HK1.out; have := HK2.out; omega
                        case rel => exact ⟨rfl, (wrap64 (x26_2 + 1)), (by first | rfl | (simp; done) | (simp [*]; done)), H', ⟨by have := HK1.out; have := HK2.out; omega⟩, ⟨by (with_reducible repeat (first | apply Kd.R_alloc | apply Kd.R_drewN | apply Kd.R_drew)); exact HO_24.out⟩, ⟨by repeat (first | (with_reducible first | exact HB.out | apply below_alloc | apply pw_below_drewN | apply below_drew1) | exact HB.out)⟩⟩
                      · rw [if_neg c12] at H
                        have c12b0 : decide (t1005 < a0) = false := decide_eq_false c12
                        clear c12
                        by_cases c13 : x4_1 = 0
                        · rw [if_pos c13] at H
                          exact absurd H (by simp)
                        · rw [if_neg c13] at H
                          have c13b0 : (x4_1 == 0) = false := beq_eq_false_iff_ne.mpr c13
                          have c13b1 : (x4_1 != 0) = true := bne_iff_ne.mpr c13
                          replace H := Option.bind_eq_some_iff.mp H
                          obtain ⟨t1006, A140, H⟩ := H
                          replace H : (sackbutref02_Plain.l2 k2 a0 x4_1 (rd t1001 x26_2) t1001 (t1001.length : Int) x26_2 t1006 (t1006.length : Int) 0) = some r := H
                          have A14 := Aside0.mk A140
                          clear A140
                          have H' := Aside0.mk H
                          clear H
                          have p1004 : 0 ≤ (x26_2 : Int) := of_decide_eq_true (by first | (with_reducible assumption) | assumption)
                          have q1004 : x26_2 < (t1001.length : Int) := of_decide_eq_true (by first | (with_reducible assumption) | assumption)
                          obtain ⟨ad1004, e1004, hx1004_0⟩ := Kd.at_int (Kd.R_reads' HO_24.out).2.2 x26_2 p1004 q1004
                          cases e1004
                          replace p1004 := eq_true p1004
                          replace q1004 := eq_true q1004
                          go_wp2_with (first | ((with_reducible refine gate_callee (f := 51) rfl ?_); refine goesL_ (some 32) rfl rfl Tryd.func51 (by kernel_rfl) rfl #[.int .i64 a0, .int .i64 (rd t1001 x26_2)] rfl (by (try simp only [List.map_toArray, List.map_cons, List.map_nil]); first | done | rfl | (simp only [List.length_drop, List.length_take]; rfl)) ?_; (with_reducible refine (sackbutref02_Period.calls k2 a0 (rd t1001 x26_2) t1005 _ A11.out).mono ?_); rintro e w' ⟨rfl, ⟨nd, rfl⟩⟩; refine ⟨_, rfl, ?_⟩) | ((with_reducible refine gate_callee (f := 27) rfl ?_); refine goesL_ (some 39) rfl rfl Tryd.func27 (by kernel_rfl) rfl #[.int .i64 a0, .int .i64 (wrap64 (Int.tdiv a0 x4_1))] rfl (by (try simp only [List.map_toArray, List.map_cons, List.map_nil]); first | done | rfl | (simp only [List.length_drop, List.length_take]; rfl)) ?_; (with_reducible refine (sackbutref02_List.calls k2 a0 (wrap64 (Int.tdiv a0 x4_1)) t1006 _ A14.out).mono ?_); rintro e w15 ⟨v1007, rfl, ho0, hb⟩; refine ⟨_, rfl, ?_⟩; have n0_ := Aside0.mk (Kd.R_elder' (by (with_reducible repeat (first | apply Kd.R_alloc | apply Kd.R_drewN | apply Kd.R_drew)); exact HO_24.out) (Kd.R_base ho0) hb); have n1_ := Aside0.mk (Kd.R_lower (Kd.R_new' ho0 (Kd.R_lt (by (with_reducible repeat (first | apply Kd.R_alloc | apply Kd.R_drewN | apply Kd.R_drew)); exact HO_24.out))) (below_size (by repeat (first | (with_reducible first | exact HB.out | apply below_alloc | apply pw_below_drewN | apply below_drew1) | exact HB.out)))); have n2_ := Aside0.mk (below_step (by repeat (first | (with_reducible first | exact HB.out | apply below_alloc | apply pw_below_drewN | apply below_drew1) | exact HB.out)) hb); clear HO_24; clear HB; have HO_24 := n0_; have HO1008 := n1_; have HB := n2_; clear n0_ n1_ n2_; (try clear hb); (try clear hb2); (try clear hk); (try clear hi); (try clear ho0); obtain ⟨Ao16, co16, eo16⟩ := Kd.R_slice HO1008.out; subst eo16))
                          go_loopg [3, 41] k2 (fun kq v3 v41 w' => v3 = .slice none 0 0 ∧ ∃ (x41_3 : Int), v41 = .int .i64 x41_3 ∧ Aside0 (sackbutref02_Plain.l2 kq a0 x4_1 (rd t1001 x26_2) t1001 (t1001.length : Int) x26_2 t1006 (t1006.length : Int) x41_3 = some r) ∧ Aside0 (kq ≤ k2) ∧ Aside0 (Kd.R (Kd.int .i64) 3 w' w.heap.size (fun k_ => some k_ ≠ ((.slice Ao16 t1006.length co16) : Value).ownBlock) (.slice (some ad1004) t1001.length co7) t1001) ∧ Aside0 (Kd.R (Kd.int .i64) 3 w' w.heap.size (fun k_ => some k_ ≠ ((.slice (some ad1004) t1001.length co7) : Value).ownBlock) (.slice Ao16 t1006.length co16) t1006) ∧ Aside0 (Below w.heap.size w w'))
                          case atStart => exact ⟨rfl, (0), (by first | rfl | (simp; done) | (simp [*]; done)), H', ⟨Nat.le_refl _⟩, ⟨by (with_reducible repeat (first | apply Kd.R_alloc | apply Kd.R_drewN | apply Kd.R_drew)); exact Kd.R_mono HO_24.out (fun _ hk => hk.2)⟩, ⟨by (with_reducible repeat (first | apply Kd.R_alloc | apply Kd.R_drewN | apply Kd.R_drew)); exact Kd.R_mono HO1008.out (fun _ hk => hk.2)⟩, ⟨by repeat (first | (with_reducible first | exact HB.out | apply below_alloc | apply pw_below_drewN | apply below_drew1) | exact HB.out)⟩⟩
                          case round =>
                            clear H'
                            try clear c1
                            try clear p1
                            try clear q1
                            try clear hx1
                            try clear c2
                            try clear c2b0
                            try clear p2
                            try clear c3
                            try clear c3b0
                            try clear c3b1
                            try clear c4
                            try clear c4b0
                            try clear c4b1
                            try clear c5
                            try clear p6
                            try clear c8
                            try clear c8b0
                            try clear c9
                            try clear c9b0
                            try clear c10
                            try clear c10b0
                            try clear p10
                            try clear q10
                            try clear hx10
                            try clear c12
                            try clear c12b0
                            try clear c13
                            try clear c13b0
                            try clear c13b1
                            try clear hx1004_0
                            try clear p1004
                            try clear p2
                            try clear q1004
                            obtain ⟨rfl, x41_3, rfl, HA, HK3, HO_24, HO_39, HB⟩ := hrel
                            cases gk with
                            | zero => exact absurd HA.out (by simp [sackbutref02_Plain.l2])
                            | succ k3 =>
                              have H := HA.out
                              clear HA
                              simp only [sackbutref02_Plain.l2] at H
                              by_cases c17 : x41_3 < (t1006.length : Int)
                              · rw [if_pos c17] at H
                                have c17b0 : decide (x41_3 < (t1006.length : Int)) = true := decide_eq_true c17
                                clear c17
                                by_cases c18 : 0 ≤ x41_3
                                · rw [if_pos c18] at H
                                  have c18b0 : decide (0 ≤ x41_3) = true := decide_eq_true c18
                                  clear c18
                                  by_cases c19 : x41_3 < (t1006.length : Int)
                                  · rw [if_pos c19] at H
                                    have c19b0 : decide (x41_3 < (t1006.length : Int)) = true := decide_eq_true c19
                                    clear c19
                                    replace H := Option.bind_eq_some_iff.mp H
                                    obtain ⟨t1010, A200, H⟩ := H
                                    replace H : (if t1010 = a0 then ((sackbutref02_Tiles.f k3 a0 (rd t1001 x26_2) (rd t1006 x41_3)).bind fun t1011 => (if t1011 = true then (none) else (sackbutref02_Plain.l2 k3 a0 x4_1 (rd t1001 x26_2) t1001 (t1001.length : Int) x26_2 t1006 (t1006.length : Int) (wrap64 (x41_3 + 1))))) else (sackbutref02_Plain.l2 k3 a0 x4_1 (rd t1001 x26_2) t1001 (t1001.length : Int) x26_2 t1006 (t1006.length : Int) (wrap64 (x41_3 + 1)))) = some r := H
                                    have A20 := Aside0.mk A200
                                    clear A200
                                    by_cases c21 : t1010 = a0
                                    · rw [if_pos c21] at H
                                      have c21b0 : (t1010 == a0) = true := beq_iff_eq.mpr c21
                                      have c21b1 : (t1010 != a0) = false := bne_eq_false_iff_eq.mpr c21
                                      clear c21
                                      replace H := Option.bind_eq_some_iff.mp H
                                      obtain ⟨t1011, A220, H⟩ := H
                                      replace H : (if t1011 = true then (none) else (sackbutref02_Plain.l2 k3 a0 x4_1 (rd t1001 x26_2) t1001 (t1001.length : Int) x26_2 t1006 (t1006.length : Int) (wrap64 (x41_3 + 1)))) = some r := H
                                      have A22 := Aside0.mk A220
                                      clear A220
                                      by_cases c23 : t1011 = true
                                      · subst c23
                                        have H1 : (none) = some r := by rw [if_pos rfl] at H; exact H
                                        clear H
                                        have H := H1
                                        clear H1
                                        exact absurd H (by simp)
                                      · replace c23 := Bool.eq_false_iff.mpr c23
                                        subst c23
                                        have H1 : (sackbutref02_Plain.l2 k3 a0 x4_1 (rd t1001 x26_2) t1001 (t1001.length : Int) x26_2 t1006 (t1006.length : Int) (wrap64 (x41_3 + 1))) = some r := by rw [if_neg (show ¬ (false = true) by decide)] at H; exact H
                                        clear H
                                        have H := H1
                                        clear H1
                                        have H' := Aside0.mk H
                                        clear H
                                        have p1009 : 0 ≤ (x41_3 : Int) := of_decide_eq_true (by first | (with_reducible assumption) | assumption)
                                        have q1009 : x41_3 < (t1006.length : Int) := of_decide_eq_true (by first | (with_reducible assumption) | assumption)
                                        obtain ⟨ad1009, e1009, hx1009_0⟩ := Kd.at_int (Kd.R_reads' HO_39.out).2.2 x41_3 p1009 q1009
                                        cases e1009
                                        replace p1009 := eq_true p1009
                                        replace q1009 := eq_true q1009
                                        go_wp2_with (first | ((with_reducible refine gate_callee (f := 51) rfl ?_); refine goesL_ (some 47) rfl rfl Tryd.func51 (by kernel_rfl) rfl #[.int .i64 a0, .int .i64 (rd t1006 x41_3)] rfl (by (try simp only [List.map_toArray, List.map_cons, List.map_nil]); first | done | rfl | (simp only [List.length_drop, List.length_take]; rfl)) ?_; (with_reducible refine (sackbutref02_Period.calls k3 a0 (rd t1006 x41_3) t1010 _ A20.out).mono ?_); rintro e w' ⟨rfl, ⟨nd, rfl⟩⟩; refine ⟨_, rfl, ?_⟩) | (go_at_call 52; (with_reducible refine (sackbutref02_Tiles.calls k3 a0 (rd t1001 x26_2) (rd t1006 x41_3) false _ A22.out).mono ?_); rintro e w' ⟨rfl, ⟨nd, rfl⟩⟩))
                                        go_roundg k3
                                        case measure => have := HK1.out; have := HK2.out; have := HK3.out; omega
                                        case rel => exact ⟨rfl, (wrap64 (x41_3 + 1)), (by first | rfl | (simp; done) | (simp [*]; done)), H', ⟨by have := HK1.out; have := HK2.out; have := HK3.out; omega⟩, ⟨by (with_reducible repeat (first | apply Kd.R_alloc | apply Kd.R_drewN | apply Kd.R_drew)); exact HO_24.out⟩, ⟨by (with_reducible repeat (first | apply Kd.R_alloc | apply Kd.R_drewN | apply Kd.R_drew)); exact HO_39.out⟩, ⟨by repeat (first | (with_reducible first | exact HB.out | apply below_alloc | apply pw_below_drewN | apply below_drew1) | exact HB.out)⟩⟩
                                    · rw [if_neg c21] at H
                                      have c21b0 : (t1010 == a0) = false := beq_eq_false_iff_ne.mpr c21
                                      have c21b1 : (t1010 != a0) = true := bne_iff_ne.mpr c21
                                      have H' := Aside0.mk H
                                      clear H
                                      have p1009 : 0 ≤ (x41_3 : Int) := of_decide_eq_true (by first | (with_reducible assumption) | assumption)
                                      have q1009 : x41_3 < (t1006.length : Int) := of_decide_eq_true (by first | (with_reducible assumption) | assumption)
                                      obtain ⟨ad1009, e1009, hx1009_0⟩ := Kd.at_int (Kd.R_reads' HO_39.out).2.2 x41_3 p1009 q1009
                                      cases e1009
                                      replace p1009 := eq_true p1009
                                      replace q1009 := eq_true q1009
                                      go_wp2_with (first | ((with_reducible refine gate_callee (f := 51) rfl ?_); refine goesL_ (some 47) rfl rfl Tryd.func51 (by kernel_rfl) rfl #[.int .i64 a0, .int .i64 (rd t1006 x41_3)] rfl (by (try simp only [List.map_toArray, List.map_cons, List.map_nil]); first | done | rfl | (simp only [List.length_drop, List.length_take]; rfl)) ?_; (with_reducible refine (sackbutref02_Period.calls k3 a0 (rd t1006 x41_3) t1010 _ A20.out).mono ?_); rintro e w' ⟨rfl, ⟨nd, rfl⟩⟩; refine ⟨_, rfl, ?_⟩))
                                      go_roundg k3
                                      case measure => have := HK1.out; have := HK2.out; have := HK3.out; omega
                                      case rel => exact ⟨rfl, (wrap64 (x41_3 + 1)), (by first | rfl | (simp; done) | (simp [*]; done)), H', ⟨by have := HK1.out; have := HK2.out; have := HK3.out; omega⟩, ⟨by (with_reducible repeat (first | apply Kd.R_alloc | apply Kd.R_drewN | apply Kd.R_drew)); exact HO_24.out⟩, ⟨by (with_reducible repeat (first | apply Kd.R_alloc | apply Kd.R_drewN | apply Kd.R_drew)); exact HO_39.out⟩, ⟨by repeat (first | (with_reducible first | exact HB.out | apply below_alloc | apply pw_below_drewN | apply below_drew1) | exact HB.out)⟩⟩
                                  · rw [if_neg c19] at H
                                    exact absurd H (by simp)
                                · rw [if_neg c18] at H
                                  exact absurd H (by simp)
                              · rw [if_neg c17] at H
                                have c17b0 : decide (x41_3 < (t1006.length : Int)) = false := decide_eq_false c17
                                clear c17
                                have H' := Aside0.mk H
                                clear H
                                go_wp2
                                go_roundg k3
                                case measure => have := HK1.out; have := HK2.out; have := HK3.out; omega
                                case rel => exact ⟨rfl, (wrap64 (x26_2 + 1)), (by first | rfl | (simp; done) | (simp [*]; done)), H', ⟨by have := HK1.out; have := HK2.out; have := HK3.out; omega⟩, ⟨by (with_reducible repeat (first | apply Kd.R_alloc | apply Kd.R_drewN | apply Kd.R_drew)); exact Kd.R_mono HO_24.out (fun _ hk => trivial)⟩, ⟨by repeat (first | (with_reducible first | exact HB.out | apply below_alloc | apply pw_below_drewN | apply below_drew1) | exact HB.out)⟩⟩
                    · rw [if_neg c10] at H
                      exact absurd H (by simp)
                  · rw [if_neg c9] at H
                    exact absurd H (by simp)
                · rw [if_neg c8] at H
                  have c8b0 : decide (x26_2 < (t1001.length : Int)) = false := decide_eq_false c8
                  clear c8
                  have H' := Aside0.mk H
                  clear H
                  go_wp2
                  go_roundg k2
                  case measure => have := HK1.out; have := HK2.out; omega
                  case rel => exact ⟨rfl, (wrap64 (x4_1 + 1)), (by first | rfl | (simp; done) | (simp [*]; done)), H', ⟨by have := HK1.out; have := HK2.out; omega⟩, ⟨by repeat (first | (with_reducible first | exact HB.out | apply below_alloc | apply pw_below_drewN | apply below_drew1) | exact HB.out)⟩⟩
          · rw [if_neg c4] at H
            have c4b0 : ((Int.tmod a0 x4_1) == 0) = false := beq_eq_false_iff_ne.mpr c4
            have c4b1 : ((Int.tmod a0 x4_1) != 0) = true := bne_iff_ne.mpr c4
            have H' := Aside0.mk H
            clear H
            go_wp2
            go_roundg k1
            case measure => have := HK1.out; omega
            case rel => exact ⟨rfl, (wrap64 (x4_1 + 1)), (by first | rfl | (simp; done) | (simp [*]; done)), H', ⟨by have := HK1.out; omega⟩, ⟨by repeat (first | (with_reducible first | exact HB.out | apply below_alloc | apply pw_below_drewN | apply below_drew1) | exact HB.out)⟩⟩
      · rw [if_neg c2] at H
        have c2b0 : decide (x4_1 ≤ a0) = false := decide_eq_false c2
        clear c2
        have H' := Aside0.mk H
        clear H
        have hr : r = [] := by
          have h := H'.out
          cases k1 with
          | zero => simp [sackbutref02_Plain.l3] at h
          | succ k => simp [sackbutref02_Plain.l3] at h; exact h
        subst hr
        go_wp2
        refine wp_loop_rounds 1 ?_
        rw [rounds_succ]
        go_wp2
        go_ret
        exact ⟨_, rfl, Kd.R_nil _ _ _ _ _, by repeat (first | (with_reducible first | exact HB.out | apply below_alloc | apply pw_below_drewN | apply below_drew1) | exact HB.out)⟩

end Go.Proofs.YtkidgakjeahebaaDoor.P
namespace Go.Proofs.YtkidgakjeahebaaDoor.P
open Go.RowKit Go.Proofs.YtkidgakjeahebaaDoorW.PrintWords Go.Proofs.YtkidgakjeahebaaDoorW.PrintLast Go.Proofs.YtkidgakjeahebaaDoorW.PrintMore
attribute [local go_sem] max2_int min2_int max_two min_two max_three min_three max_four min_four   -- for this text's walks alone
set_option linter.unusedVariables false
set_option linter.unusedSimpArgs false

/-! ### slices_Equal_int_int: function 26 -/
def slices_Equal_int_int.l0 : Nat → List Int → List Int → Int → Int → Option (Bool)
  | 0, _, _, _, _ => none
  | k + 1, x0, x1, x12, x13 => if x13 < x12 then (if 0 ≤ x13 then (if x13 < (x0.length : Int) then (if x13 < (x1.length : Int) then (if (rd x0 x13) = (rd x1 x13) then (slices_Equal_int_int.l0 k x0 x1 x12 (wrap64 (x13 + 1))) else (some false)) else (none)) else (none)) else (none)) else (some true)
def slices_Equal_int_int.f (k : Nat) (l0 : List Int) (l1 : List Int) : Option (Bool) := if (l0.length : Int) = (l1.length : Int) then (slices_Equal_int_int.l0 k l0 l1 (l0.length : Int) 0) else (some false)
theorem slices_Equal_int_int.mono_l : ∀ k, (∀ y0 y1 y2 y3, LeO (slices_Equal_int_int.l0 k y0 y1 y2 y3) (slices_Equal_int_int.l0 (k + 1) y0 y1 y2 y3))
  | 0 => fun _ _ _ _ r h => by simp [slices_Equal_int_int.l0] at h
  | k + 1 => by
    have ih0 := slices_Equal_int_int.mono_l k
    · intro y0 y1 y2 y3
      unfold slices_Equal_int_int.l0
      repeat' first
      | (with_reducible exact ih0 _ _ _ _)
      | (with_reducible exact LeO.refl _)
      | (with_reducible exact LeO.none _)
      | (with_reducible refine LeO.ite ?_ ?_)
      | (with_reducible refine LeO.bind ?_ (fun _ => ?_))
      | exact ih0 _ _ _ _
      | exact LeO.none _
      | refine LeO.ite ?_ ?_
      | refine LeO.bind ?_ (fun _ => ?_)
theorem slices_Equal_int_int.mono : ∀ a0 a1 k, LeO (slices_Equal_int_int.f k a0 a1) (slices_Equal_int_int.f (k + 1) a0 a1) := by
  intro a0 a1 k
  have ih0 := slices_Equal_int_int.mono_l k
  unfold slices_Equal_int_int.f
  repeat' first
      | (with_reducible exact ih0 _ _ _ _)
      | (with_reducible exact LeO.refl _)
      | (with_reducible exact LeO.none _)
      | (with_reducible refine LeO.ite ?_ ?_)
      | (with_reducible refine LeO.bind ?_ (fun _ => ?_))
      | exact ih0 _ _ _ _
      | exact LeO.none _
      | refine LeO.ite ?_ ?_
      | refine LeO.bind ?_ (fun _ => ?_)
set_option maxHeartbeats 8000000 in
set_option maxRecDepth 100000 in
theorem slices_Equal_int_int.calls (k : Nat) (A0 : Option Addr) (c0 : Nat) (l0 : List Int) (A1 : Option Addr) (c1 : Nat) (l1 : List Int) (r : Bool) (w : World) (hr0 : Kd.C (Kd.int .i64) w A0 l0.length l0) (hc0 : l0.length ≤ c0) (hr1 : Kd.C (Kd.int .i64) w A1 l1.length l1) (hc1 : l1.length ≤ c1) (h : slices_Equal_int_int.f k l0 l1 = some r) :
    Calls Tryd.prog 26 #[.slice A0 l0.length c0, .slice A1 l1.length c1] w fun e w' => e = .returned (.bool r) ∧ Drawn0 w w' := by
  have HR0 := Aside0.mk hr0
  have HC0 := Aside0.mk hc0
  clear hr0 hc0
  have HR1 := Aside0.mk hr1
  have HC1 := Aside0.mk hc1
  clear hr1 hc1
  have H : (if (l0.length : Int) = (l1.length : Int) then (slices_Equal_int_int.l0 k l0 l1 (l0.length : Int) 0) else (some false)) = some r := h
  clear h
  by_cases c3 : (l0.length : Int) = (l1.length : Int)
  · rw [if_pos c3] at H
    have c3b0 : ((l0.length : Int) == (l1.length : Int)) = true := beq_iff_eq.mpr c3
    have c3b1 : ((l0.length : Int) != (l1.length : Int)) = false := bne_eq_false_iff_eq.mpr c3
    have c3b2 : (l0.length == l1.length) = true := by first | simpa using c3 | (simp at c3 ⊢; omega)
    clear c3
    have H' := Aside0.mk H
    clear H
    go_enter Tryd.func26, Tryd.ntmps26
    go_wp2
    repeat (go_quiet (fail); try go_wp2)
    go_loopg [13] k (fun kq v13 w' => ∃ (x13_1 : Int), v13 = .int .i64 x13_1 ∧ Aside0 (slices_Equal_int_int.l0 kq l0 l1 (l0.length : Int) x13_1 = some r) ∧ Aside0 (kq ≤ k) ∧ Drawn0 w w')
    case atStart => exact ⟨(0), (by first | rfl | (simp; done) | (simp [*]; done)), H', ⟨Nat.le_refl _⟩, by repeat (first | exact Drawn0.refl _ | apply Drawn0.step)⟩
    case round =>
      clear H'
      try clear c1
      try clear c2
      try clear p2
      try clear c3
      try clear c3b0
      try clear c3b1
      try clear c3b2
      obtain ⟨x13_1, rfl, HA, HK1, ⟨m1, rfl⟩⟩ := hrel
      cases gk with
      | zero => exact absurd HA.out (by simp [slices_Equal_int_int.l0])
      | succ k1 =>
        have H := HA.out
        clear HA
        simp only [slices_Equal_int_int.l0] at H
        by_cases c4 : x13_1 < (l0.length : Int)
        · rw [if_pos c4] at H
          have c4b0 : decide (x13_1 < (l0.length : Int)) = true := decide_eq_true c4
          clear c4
          by_cases c5 : 0 ≤ x13_1
          · rw [if_pos c5] at H
            have c5b0 : decide (0 ≤ x13_1) = true := decide_eq_true c5
            clear c5
            by_cases c6 : x13_1 < (l0.length : Int)
            · rw [if_pos c6] at H
              have c6b0 : decide (x13_1 < (l0.length : Int)) = true := decide_eq_true c6
              clear c6
              by_cases c7 : x13_1 < (l1.length : Int)
              · rw [if_pos c7] at H
                have c7b0 : decide (x13_1 < (l1.length : Int)) = true := decide_eq_true c7
                clear c7
                by_cases c8 : (rd l0 x13_1) = (rd l1 x13_1)
                · rw [if_pos c8] at H
                  have c8b0 : ((rd l0 x13_1) == (rd l1 x13_1)) = true := beq_iff_eq.mpr c8
                  have c8b1 : ((rd l0 x13_1) != (rd l1 x13_1)) = false := bne_eq_false_iff_eq.mpr c8
                  clear c8
                  have H' := Aside0.mk H
                  clear H
                  have p1001 : 0 ≤ (x13_1 : Int) := of_decide_eq_true (by first | (with_reducible assumption) | assumption)
                  have q1001 : x13_1 < (l0.length : Int) := of_decide_eq_true (by first | (with_reducible assumption) | assumption)
                  obtain ⟨ad1001, e1001, hx1001_0⟩ := Kd.at_int HR0.out x13_1 p1001 q1001
                  cases e1001
                  replace p1001 := eq_true p1001
                  replace q1001 := eq_true q1001
                  have p1002 : 0 ≤ (x13_1 : Int) := of_decide_eq_true (by first | (with_reducible assumption) | assumption)
                  have q1002 : x13_1 < (l1.length : Int) := of_decide_eq_true (by first | (with_reducible assumption) | assumption)
                  obtain ⟨ad1002, e1002, hx1002_0⟩ := Kd.at_int HR1.out x13_1 p1002 q1002
                  cases e1002
                  replace p1002 := eq_true p1002
                  replace q1002 := eq_true q1002
                  go_wp2
                  repeat (go_quiet (fail); try go_wp2)
                  go_roundg k1
                  case measure => have := HK1.out; omega
                  case rel => exact ⟨(wrap64 (x13_1 + 1)), (by first | rfl | (simp; done) | (simp [*]; done)), H', ⟨by have := HK1.out; omega⟩, by repeat (first | exact Drawn0.refl _ | apply Drawn0.step)⟩
                · rw [if_neg c8] at H
                  have c8b0 : ((rd l0 x13_1) == (rd l1 x13_1)) = false := beq_eq_false_iff_ne.mpr c8
                  have c8b1 : ((rd l0 x13_1) != (rd l1 x13_1)) = true := bne_iff_ne.mpr c8
                  obtain rfl := Option.some.inj H
                  have p1001 : 0 ≤ (x13_1 : Int) := of_decide_eq_true (by first | (with_reducible assumption) | assumption)
                  have q1001 : x13_1 < (l0.length : Int) := of_decide_eq_true (by first | (with_reducible assumption) | assumption)
                  obtain ⟨ad1001, e1001, hx1001_0⟩ := Kd.at_int HR0.out x13_1 p1001 q1001
                  cases e1001
                  replace p1001 := eq_true p1001
                  replace q1001 := eq_true q1001
                  have p1002 : 0 ≤ (x13_1 : Int) := of_decide_eq_true (by first | (with_reducible assumption) | assumption)
                  have q1002 : x13_1 < (l1.length : Int) := of_decide_eq_true (by first | (with_reducible assumption) | assumption)
                  obtain ⟨ad1002, e1002, hx1002_0⟩ := Kd.at_int HR1.out x13_1 p1002 q1002
                  cases e1002
                  replace p1002 := eq_true p1002
                  replace q1002 := eq_true q1002
                  go_wp2
                  repeat (go_quiet (fail); try go_wp2)
                  go_ret
                  exact ⟨by first | rfl | (simp; done) | (simp [*]; done), by repeat (first | exact Drawn0.refl _ | apply Drawn0.step)⟩
              · rw [if_neg c7] at H
                exact absurd H (by simp)
            · rw [if_neg c6] at H
              exact absurd H (by simp)
          · rw [if_neg c5] at H
            exact absurd H (by simp)
        · rw [if_neg c4] at H
          have c4b0 : decide (x13_1 < (l0.length : Int)) = false := decide_eq_false c4
          clear c4
          obtain rfl := Option.some.inj H
          go_wp2
          repeat (go_quiet (fail); try go_wp2)
          go_ret
          exact ⟨by first | rfl | (simp; done) | (simp [*]; done), by repeat (first | exact Drawn0.refl _ | apply Drawn0.step)⟩
  · rw [if_neg c3] at H
    have c3b0 : ((l0.length : Int) == (l1.length : Int)) = false := beq_eq_false_iff_ne.mpr c3
    have c3b1 : ((l0.length : Int) != (l1.length : Int)) = true := bne_iff_ne.mpr c3
    have c3b2 : (l0.length == l1.length) = false := by first | simpa using c3 | (simp at c3 ⊢; omega)
    obtain rfl := Option.some.inj H
    go_enter Tryd.func26, Tryd.ntmps26
    go_wp2
    repeat (go_quiet (fail); try go_wp2)
    go_ret
    exact ⟨by first | rfl | (simp; done) | (simp [*]; done), by repeat (first | exact Drawn0.refl _ | apply Drawn0.step)⟩

end Go.Proofs.YtkidgakjeahebaaDoor.P
namespace Go.Proofs.YtkidgakjeahebaaDoor.P
open Go.RowKit Go.Proofs.YtkidgakjeahebaaDoorW.PrintWords Go.Proofs.YtkidgakjeahebaaDoorW.PrintLast Go.Proofs.YtkidgakjeahebaaDoorW.PrintMore
attribute [local go_sem] max2_int min2_int max_two min_two max_three min_three max_four min_four   -- for this text's walks alone
set_option linter.unusedVariables false
set_option linter.unusedSimpArgs false

/-! ### sackbutlaw02_CanonLists: function 8 -/
mutual
def sackbutlaw02_CanonLists.j0 : Nat → Int → Int → List Int → Int → List (S43) → Int → Bool → Option (Bool)
  | 0, _, _, _, _, _, _, _ => none
  | k + 1, x0, x1, x5, x6, x7, x8, x25 => if x25 = true then (if (wrap64 ((x5.length : Int) + (x7.length : Int))) = 0 then (if x6 = 2 then (if x8 = 2 then ((sackbutlaw02_awake.f k).bind fun t1009 => (some t1009)) else (some false)) else (some false)) else (some false)) else ((sackbutref02_Plain.f k x0).bind fun t1010 => ((slices_Equal_2_int_2_int.f k x7 t1010).bind fun t1013 => (if t1013 = true then (if x8 = 0 then ((sackbutlaw02_awake.f k).bind fun t1014 => (sackbutlaw02_CanonLists.j1 k x0 x1 x5 x6 (!t1014))) else (sackbutlaw02_CanonLists.j1 k x0 x1 x5 x6 true)) else (sackbutlaw02_CanonLists.j1 k x0 x1 x5 x6 true))))
def sackbutlaw02_CanonLists.j1 : Nat → Int → Int → List Int → Int → Bool → Option (Bool)
  | 0, _, _, _, _, _ => none
  | k + 1, x0, x1, x5, x6, x55 => if x55 = true then (some false) else (if x1 < 1 then (sackbutlaw02_CanonLists.j2 k x0 x1 x5 x6 true) else (sackbutlaw02_CanonLists.j2 k x0 x1 x5 x6 (decide (x1 > x0))))
def sackbutlaw02_CanonLists.j2 : Nat → Int → Int → List Int → Int → Bool → Option (Bool)
  | 0, _, _, _, _, _ => none
  | k + 1, x0, x1, x5, x6, x62 => if x62 = true then (if (x5.length : Int) = 0 then (some (x6 == 2)) else (some false)) else ((sackbutref02_List.f k x0 x1).bind fun t1015 => ((slices_Equal_int_int.f k x5 t1015).bind fun t1018 => (if t1018 = true then (some (x6 == 0)) else (some false))))
end
def sackbutlaw02_CanonLists.f (k : Nat) (a0 : Int) (a1 : Int) : Option (Bool) := (canon_List.f k a0 a1).bind fun bt1001 => ((canon_Plain.f a0).bind fun bt1005 => (if a0 < 2 then (sackbutlaw02_CanonLists.j0 k a0 a1 bt1001.1 bt1001.2 bt1005.1 bt1005.2 true) else (sackbutlaw02_CanonLists.j0 k a0 a1 bt1001.1 bt1001.2 bt1005.1 bt1005.2 (decide (a0 > 16)))))
theorem sackbutlaw02_CanonLists.mono_l : ∀ k, (∀ y0 y1 y2 y3 y4 y5 y6, LeO (sackbutlaw02_CanonLists.j0 k y0 y1 y2 y3 y4 y5 y6) (sackbutlaw02_CanonLists.j0 (k + 1) y0 y1 y2 y3 y4 y5 y6)) ∧ (∀ y0 y1 y2 y3 y4, LeO (sackbutlaw02_CanonLists.j1 k y0 y1 y2 y3 y4) (sackbutlaw02_CanonLists.j1 (k + 1) y0 y1 y2 y3 y4)) ∧ (∀ y0 y1 y2 y3 y4, LeO (sackbutlaw02_CanonLists.j2 k y0 y1 y2 y3 y4) (sackbutlaw02_CanonLists.j2 (k + 1) y0 y1 y2 y3 y4))
  | 0 => ⟨fun _ _ _ _ _ _ _ r h => by simp [sackbutlaw02_CanonLists.j0] at h, fun _ _ _ _ _ r h => by simp [sackbutlaw02_CanonLists.j1] at h, fun _ _ _ _ _ r h => by simp [sackbutlaw02_CanonLists.j2] at h⟩
  | k + 1 => by
    obtain ⟨ih0, ih1, ih2⟩ := sackbutlaw02_CanonLists.mono_l k
    refine ⟨?_, ?_, ?_⟩
    · intro y0 y1 y2 y3 y4 y5 y6
      unfold sackbutlaw02_CanonLists.j0
      repeat' first
      | (with_reducible exact ih0 _ _ _ _ _ _ _)
      | (with_reducible exact ih1 _ _ _ _ _)
      | (with_reducible exact ih2 _ _ _ _ _)
      | (with_reducible exact canon_List.mono _ _ _)
      | (with_reducible exact sackbutlaw02_awake.mono _)
      | (with_reducible exact sackbutref02_List.mono _ _ _)
      | (with_reducible exact sackbutref02_Plain.mono _ _)
      | (with_reducible exact slices_Equal_2_int_2_int.mono _ _ _)
      | (with_reducible exact slices_Equal_int_int.mono _ _ _)
      | (with_reducible exact LeO.refl _)
      | (with_reducible exact LeO.none _)
      | (with_reducible refine LeO.ite ?_ ?_)
      | (with_reducible refine LeO.bind ?_ (fun _ => ?_))
      | exact ih0 _ _ _ _ _ _ _
      | exact ih1 _ _ _ _ _
      | exact ih2 _ _ _ _ _
      | exact canon_List.mono _ _ _
      | exact sackbutlaw02_awake.mono _
      | exact sackbutref02_List.mono _ _ _
      | exact sackbutref02_Plain.mono _ _
      | exact slices_Equal_2_int_2_int.mono _ _ _
      | exact slices_Equal_int_int.mono _ _ _
      | exact LeO.none _
      | refine LeO.ite ?_ ?_
      | refine LeO.bind ?_ (fun _ => ?_)
    · intro y0 y1 y2 y3 y4
      unfold sackbutlaw02_CanonLists.j1
      repeat' first
      | (with_reducible exact ih0 _ _ _ _ _ _ _)
      | (with_reducible exact ih1 _ _ _ _ _)
      | (with_reducible exact ih2 _ _ _ _ _)
      | (with_reducible exact canon_List.mono _ _ _)
      | (with_reducible exact sackbutlaw02_awake.mono _)
      | (with_reducible exact sackbutref02_List.mono _ _ _)
      | (with_reducible exact sackbutref02_Plain.mono _ _)
      | (with_reducible exact slices_Equal_2_int_2_int.mono _ _ _)
      | (with_reducible exact slices_Equal_int_int.mono _ _ _)
      | (with_reducible exact LeO.refl _)
      | (with_reducible exact LeO.none _)
      | (with_reducible refine LeO.ite ?_ ?_)
      | (with_reducible refine LeO.bind ?_ (fun _ => ?_))
      | exact ih0 _ _ _ _ _ _ _
      | exact ih1 _ _ _ _ _
      | exact ih2 _ _ _ _ _
      | exact canon_List.mono _ _ _
      | exact sackbutlaw02_awake.mono _
      | exact sackbutref02_List.mono _ _ _
      | exact sackbutref02_Plain.mono _ _
      | exact slices_Equal_2_int_2_int.mono _ _ _
      | exact slices_Equal_int_int.mono _ _ _
      | exact LeO.none _
      | refine LeO.ite ?_ ?_
      | refine LeO.bind ?_ (fun _ => ?_)
    · intro y0 y1 y2 y3 y4
      unfold sackbutlaw02_CanonLists.j2
      repeat' first
      | (with_reducible exact ih0 _ _ _ _ _ _ _)
      | (with_reducible exact ih1 _ _ _ _ _)
      | (with_reducible exact ih2 _ _ _ _ _)
      | (with_reducible exact canon_List.mono _ _ _)
      | (with_reducible exact sackbutlaw02_awake.mono _)
      | (with_reducible exact sackbutref02_List.mono _ _ _)
      | (with_reducible exact sackbutref02_Plain.mono _ _)
      | (with_reducible exact slices_Equal_2_int_2_int.mono _ _ _)
      | (with_reducible exact slices_Equal_int_int.mono _ _ _)
      | (with_reducible exact LeO.refl _)
      | (with_reducible exact LeO.none _)
      | (with_reducible refine LeO.ite ?_ ?_)
      | (with_reducible refine LeO.bind ?_ (fun _ => ?_))
      | exact ih0 _ _ _ _ _ _ _
      | exact ih1 _ _ _ _ _
      | exact ih2 _ _ _ _ _
      | exact canon_List.mono _ _ _
      | exact sackbutlaw02_awake.mono _
      | exact sackbutref02_List.mono _ _ _
      | exact sackbutref02_Plain.mono _ _
      | exact slices_Equal_2_int_2_int.mono _ _ _
      | exact slices_Equal_int_int.mono _ _ _
      | exact LeO.none _
      | refine LeO.ite ?_ ?_
      | refine LeO.bind ?_ (fun _ => ?_)
theorem sackbutlaw02_CanonLists.mono : ∀ a0 a1 k, LeO (sackbutlaw02_CanonLists.f k a0 a1) (sackbutlaw02_CanonLists.f (k + 1) a0 a1) := by
  intro a0 a1 k
  obtain ⟨ih0, ih1, ih2⟩ := sackbutlaw02_CanonLists.mono_l k
  unfold sackbutlaw02_CanonLists.f
  repeat' first
      | (with_reducible exact ih0 _ _ _ _ _ _ _)
      | (with_reducible exact ih1 _ _ _ _ _)
      | (with_reducible exact ih2 _ _ _ _ _)
      | (with_reducible exact canon_List.mono _ _ _)
      | (with_reducible exact sackbutlaw02_awake.mono _)
      | (with_reducible exact sackbutref02_List.mono _ _ _)
      | (with_reducible exact sackbutref02_Plain.mono _ _)
      | (with_reducible exact slices_Equal_2_int_2_int.mono _ _ _)
      | (with_reducible exact slices_Equal_int_int.mono _ _ _)
      | (with_reducible exact LeO.refl _)
      | (with_reducible exact LeO.none _)
      | (with_reducible refine LeO.ite ?_ ?_)
      | (with_reducible refine LeO.bind ?_ (fun _ => ?_))
      | exact ih0 _ _ _ _ _ _ _
      | exact ih1 _ _ _ _ _
      | exact ih2 _ _ _ _ _
      | exact canon_List.mono _ _ _
      | exact sackbutlaw02_awake.mono _
      | exact sackbutref02_List.mono _ _ _
      | exact sackbutref02_Plain.mono _ _
      | exact slices_Equal_2_int_2_int.mono _ _ _
      | exact slices_Equal_int_int.mono _ _ _
      | exact LeO.none _
      | refine LeO.ite ?_ ?_
      | refine LeO.bind ?_ (fun _ => ?_)
set_option maxHeartbeats 8000000 in
set_option maxRecDepth 100000 in
theorem sackbutlaw02_CanonLists.calls (k : Nat) (a0 : Int) (a1 : Int) (r : Bool) (w : World) (hT : Tabs w) (h : sackbutlaw02_CanonLists.f k a0 a1 = some r) :
    Calls Tryd.prog 8 #[.int .i64 a0, .int .i64 a1] w fun e w' => e = .returned (.bool r) ∧ Below w.heap.size w w' := by
  have HB := Aside0.mk (Below.refl w.heap.size w)
  have HT0 := Aside0.mk hT
  clear hT
  have H : ((canon_List.f k a0 a1).bind fun bt1001 => ((canon_Plain.f a0).bind fun bt1005 => (if a0 < 2 then (sackbutlaw02_CanonLists.j0 k a0 a1 bt1001.1 bt1001.2 bt1005.1 bt1005.2 true) else (sackbutlaw02_CanonLists.j0 k a0 a1 bt1001.1 bt1001.2 bt1005.1 bt1005.2 (decide (a0 > 16)))))) = some r := h
  clear h
  replace H := Option.bind_eq_some_iff.mp H
  obtain ⟨⟨t1001, t1002⟩, A30, H⟩ := H
  replace H : ((canon_Plain.f a0).bind fun bt1005 => (if a0 < 2 then (sackbutlaw02_CanonLists.j0 k a0 a1 t1001 t1002 bt1005.1 bt1005.2 true) else (sackbutlaw02_CanonLists.j0 k a0 a1 t1001 t1002 bt1005.1 bt1005.2 (decide (a0 > 16))))) = some r := H
  have A3 := Aside0.mk A30
  clear A30
  replace H := Option.bind_eq_some_iff.mp H
  obtain ⟨⟨t1005, t1006⟩, A40, H⟩ := H
  replace H : (if a0 < 2 then (sackbutlaw02_CanonLists.j0 k a0 a1 t1001 t1002 t1005 t1006 true) else (sackbutlaw02_CanonLists.j0 k a0 a1 t1001 t1002 t1005 t1006 (decide (a0 > 16)))) = some r := H
  have A4 := Aside0.mk A40
  clear A40
  have HC5 := Aside0.mk H
  clear H
  go_enter Tryd.func8, Tryd.ntmps8
  go_upto_region 3 with (first | ((with_reducible refine gate_callee (f := 23) rfl ?_); refine goesL_ (some 12) rfl rfl Tryd.func23 (by kernel_rfl) rfl #[.int .i64 a0, .int .i64 a1] rfl (by (try simp only [List.map_toArray, List.map_cons, List.map_nil]); first | done | rfl | (simp only [List.length_drop, List.length_take]; rfl)) ?_; (with_reducible refine (canon_List.calls k a0 a1 t1001 t1002 _ ?side1 A3.out).mono ?_); (case side1 => exact Tabs.below HT0.out (by repeat (first | (with_reducible first | exact HB.out | apply below_alloc | apply pw_below_drewN | apply below_drew1) | exact HB.out))); rintro e w6 ⟨v1003, rfl, ho0, hb⟩; refine ⟨_, rfl, ?_⟩; have n0_ := Aside0.mk (Kd.R_lower ho0 (below_size (by repeat (first | (with_reducible first | exact HB.out | apply below_alloc | apply pw_below_drewN | apply below_drew1) | exact HB.out)))); have n1_ := Aside0.mk (below_step (by repeat (first | (with_reducible first | exact HB.out | apply below_alloc | apply pw_below_drewN | apply below_drew1) | exact HB.out)) hb); clear HB; have HO1004 := n0_; have HB := n1_; clear n0_ n1_; (try clear hb); (try clear hb2); (try clear hk); (try clear hi); (try clear ho0)) | ((with_reducible refine gate_callee (f := 22) rfl ?_); refine goesL_ (some 17) rfl rfl Tryd.func22 (by kernel_rfl) rfl #[.int .i64 a0] rfl (by (try simp only [List.map_toArray, List.map_cons, List.map_nil]); first | done | rfl | (simp only [List.length_drop, List.length_take]; rfl)) ?_; (with_reducible refine (canon_Plain.calls a0 t1005 t1006 _ ?side1 A4.out).mono ?_); (case side1 => exact Tabs.below HT0.out (by repeat (first | (with_reducible first | exact HB.out | apply below_alloc | apply pw_below_drewN | apply below_drew1) | exact HB.out))); rintro e w7 ⟨v1007, rfl, ho0, hb⟩; refine ⟨_, rfl, ?_⟩; have n0_ := Aside0.mk (Kd.R_below (by (with_reducible repeat (first | apply Kd.R_alloc | apply Kd.R_drewN | apply Kd.R_drew)); exact HO1004.out) hb); have n1_ := Aside0.mk (Kd.R_lower ho0 (below_size (by repeat (first | (with_reducible first | exact HB.out | apply below_alloc | apply pw_below_drewN | apply below_drew1) | exact HB.out)))); have n2_ := Aside0.mk (below_step (by repeat (first | (with_reducible first | exact HB.out | apply below_alloc | apply pw_below_drewN | apply below_drew1) | exact HB.out)) hb); clear HO1004; clear HB; have HO1004 := n0_; have HO1008 := n1_; have HB := n2_; clear n0_ n1_ n2_; (try clear hb); (try clear hb2); (try clear hk); (try clear hi); (try clear ho0)))
  (try simp only [Act.put, List.setIfInBounds_toArray, List.set_cons_zero, List.set_cons_succ])
  go_cut [25] (fun v25 wc => ∃ (kq : Nat) (x25_4 : Bool), v25 = .bool x25_4 ∧ Aside0 (sackbutlaw02_CanonLists.j0 kq a0 a1 t1001 t1002 t1005 t1006 x25_4 = some r) ∧ Aside0 (kq ≤ k) ∧ Aside0 (Kd.R (Kd.int .i64) 3 wc w.heap.size (fun _ => True) v1003 t1001) ∧ Aside0 (Kd.R k43 43 wc w.heap.size (fun _ => True) v1007 t1005) ∧ Aside0 (Below w.heap.size w wc))
  case first =>
    have H := HC5.out
    clear HC5
    by_cases c8 : a0 < 2
    · rw [if_pos c8] at H
      have c8b0 : decide (a0 < 2) = true := decide_eq_true c8
      clear c8
      (first | rw [c8b0] | (simp only [i64_w, i32_w]; rw [c8b0]) | skip)
      have H' := Aside0.mk H
      clear H
      go_wp2
      go_meet
      case rel => exact ⟨_, (true), (by first | rfl | (simp; done) | (simp [*]; done)), H', ⟨by first | omega | exact Nat.le_refl _⟩, ⟨by (with_reducible repeat (first | apply Kd.R_alloc | apply Kd.R_drewN | apply Kd.R_drew)); exact HO1004.out⟩, ⟨by (with_reducible repeat (first | apply Kd.R_alloc | apply Kd.R_drewN | apply Kd.R_drew)); exact HO1008.out⟩, ⟨by repeat (first | (with_reducible first | exact HB.out | apply below_alloc | apply pw_below_drewN | apply below_drew1) | exact HB.out)⟩⟩
    · rw [if_neg c8] at H
      have c8b0 : decide (a0 < 2) = false := decide_eq_false c8
      clear c8
      (first | rw [c8b0] | (simp only [i64_w, i32_w]; rw [c8b0]) | skip)
      have H' := Aside0.mk H
      clear H
      go_wp2
      go_meet
      case rel => exact ⟨_, (decide (a0 > 16)), (by first | rfl | (simp; done) | (simp [*]; done)), H', ⟨by first | omega | exact Nat.le_refl _⟩, ⟨by (with_reducible repeat (first | apply Kd.R_alloc | apply Kd.R_drewN | apply Kd.R_drew)); exact HO1004.out⟩, ⟨by (with_reducible repeat (first | apply Kd.R_alloc | apply Kd.R_drewN | apply Kd.R_drew)); exact HO1008.out⟩, ⟨by repeat (first | (with_reducible first | exact HB.out | apply below_alloc | apply pw_below_drewN | apply below_drew1) | exact HB.out)⟩⟩
  case rest =>
    clear HC5
    try clear c2
    try clear p2
    try clear c8
    try clear c8b0
    obtain ⟨kq, x25_4, rfl, HA, HJ4, HO_5, HO_7, HB⟩ := hcut
    cases kq with
    | zero => exact absurd HA.out (by simp [sackbutlaw02_CanonLists.j0])
    | succ kj4 =>
      have H := HA.out
      clear HA
      simp only [sackbutlaw02_CanonLists.j0] at H
      by_cases c9 : x25_4 = true
      · subst c9
        have H1 : (if (wrap64 ((t1001.length : Int) + (t1005.length : Int))) = 0 then (if t1002 = 2 then (if t1006 = 2 then ((sackbutlaw02_awake.f kj4).bind fun t1009 => (some t1009)) else (some false)) else (some false)) else (some false)) = some r := by rw [if_pos rfl] at H; exact H
        clear H
        have H := H1
        clear H1
        by_cases c10 : (wrap64 ((t1001.length : Int) + (t1005.length : Int))) = 0
        · rw [if_pos c10] at H
          have c10b0 : ((wrap64 ((t1001.length : Int) + (t1005.length : Int))) == 0) = true := beq_iff_eq.mpr c10
          have c10b1 : ((wrap64 ((t1001.length : Int) + (t1005.length : Int))) != 0) = false := bne_eq_false_iff_eq.mpr c10
          clear c10
          by_cases c11 : t1002 = 2
          · rw [if_pos c11] at H
            have c11b0 : (t1002 == 2) = true := beq_iff_eq.mpr c11
            have c11b1 : (t1002 != 2) = false := bne_eq_false_iff_eq.mpr c11
            clear c11
            by_cases c12 : t1006 = 2
            · rw [if_pos c12] at H
              have c12b0 : (t1006 == 2) = true := beq_iff_eq.mpr c12
              have c12b1 : (t1006 != 2) = false := bne_eq_false_iff_eq.mpr c12
              clear c12
              replace H := Option.bind_eq_some_iff.mp H
              obtain ⟨t1009, A130, H⟩ := H
              replace H : (some t1009) = some r := H
              have A13 := Aside0.mk A130
              clear A130
              obtain rfl := Option.some.inj H
              obtain ⟨Ao14, co14, eo14⟩ := Kd.R_slice HO_5.out
              subst eo14
              obtain ⟨Ao15, co15, eo15⟩ := Kd.R_slice HO_7.out
              subst eo15
              go_wp2_with (first | (go_at_call 11; (with_reducible refine (sackbutlaw02_awake.calls kj4  t1009 _ A13.out).mono ?_); rintro e w16 ⟨rfl, hb⟩; have n0_ := Aside0.mk (Kd.R_below (by (with_reducible repeat (first | apply Kd.R_alloc | apply Kd.R_drewN | apply Kd.R_drew)); exact HO_5.out) hb); have n1_ := Aside0.mk (Kd.R_below (by (with_reducible repeat (first | apply Kd.R_alloc | apply Kd.R_drewN | apply Kd.R_drew)); exact HO_7.out) hb); have n2_ := Aside0.mk (below_step (by repeat (first | (with_reducible first | exact HB.out | apply below_alloc | apply pw_below_drewN | apply below_drew1) | exact HB.out)) hb); clear HO_5; clear HO_7; clear HB; have HO_5 := n0_; have HO_7 := n1_; have HB := n2_; clear n0_ n1_ n2_; (try clear hb); (try clear hb2); (try clear hk); (try clear hi)))
              go_ret
              exact ⟨by first | rfl | (simp [errW_none, errW_some] <;> rfl) | (simp [*, errW_none, errW_some] <;> rfl), by repeat (first | (with_reducible first | exact HB.out | apply below_alloc | apply pw_below_drewN | apply below_drew1) | exact HB.out)⟩
            · rw [if_neg c12] at H
              have c12b0 : (t1006 == 2) = false := beq_eq_false_iff_ne.mpr c12
              have c12b1 : (t1006 != 2) = true := bne_iff_ne.mpr c12
              obtain rfl := Option.some.inj H
              obtain ⟨Ao17, co17, eo17⟩ := Kd.R_slice HO_5.out
              subst eo17
              obtain ⟨Ao18, co18, eo18⟩ := Kd.R_slice HO_7.out
              subst eo18
              go_wp2
              go_ret
              exact ⟨by first | rfl | (simp [errW_none, errW_some] <;> rfl) | (simp [*, errW_none, errW_some] <;> rfl), by repeat (first | (with_reducible first | exact HB.out | apply below_alloc | apply pw_below_drewN | apply below_drew1) | exact HB.out)⟩
          · rw [if_neg c11] at H
            have c11b0 : (t1002 == 2) = false := beq_eq_false_iff_ne.mpr c11
            have c11b1 : (t1002 != 2) = true := bne_iff_ne.mpr c11
            obtain rfl := Option.some.inj H
            obtain ⟨Ao19, co19, eo19⟩ := Kd.R_slice HO_5.out
            subst eo19
            obtain ⟨Ao20, co20, eo20⟩ := Kd.R_slice HO_7.out
            subst eo20
            go_wp2
            go_ret
            exact ⟨by first | rfl | (simp [errW_none, errW_some] <;> rfl) | (simp [*, errW_none, errW_some] <;> rfl), by repeat (first | (with_reducible first | exact HB.out | apply below_alloc | apply pw_below_drewN | apply below_drew1) | exact HB.out)⟩
        · rw [if_neg c10] at H
          have c10b0 : ((wrap64 ((t1001.length : Int) + (t1005.length : Int))) == 0) = false := beq_eq_false_iff_ne.mpr c10
          have c10b1 : ((wrap64 ((t1001.length : Int) + (t1005.length : Int))) != 0) = true := bne_iff_ne.mpr c10
          obtain rfl := Option.some.inj H
          obtain ⟨Ao21, co21, eo21⟩ := Kd.R_slice HO_5.out
          subst eo21
          obtain ⟨Ao22, co22, eo22⟩ := Kd.R_slice HO_7.out
          subst eo22
          go_wp2
          go_ret
          exact ⟨by first | rfl | (simp [errW_none, errW_some] <;> rfl) | (simp [*, errW_none, errW_some] <;> rfl), by repeat (first | (with_reducible first | exact HB.out | apply below_alloc | apply pw_below_drewN | apply below_drew1) | exact HB.out)⟩
      · replace c9 := Bool.eq_false_iff.mpr c9
        subst c9
        have H1 : ((sackbutref02_Plain.f kj4 a0).bind fun t1010 => ((slices_Equal_2_int_2_int.f kj4 t1005 t1010).bind fun t1013 => (if t1013 = true then (if t1006 = 0 then ((sackbutlaw02_awake.f kj4).bind fun t1014 => (sackbutlaw02_CanonLists.j1 kj4 a0 a1 t1001 t1002 (!t1014))) else (sackbutlaw02_CanonLists.j1 kj4 a0 a1 t1001 t1002 true)) else (sackbutlaw02_CanonLists.j1 kj4 a0 a1 t1001 t1002 true)))) = some r := by rw [if_neg (show ¬ (false = true) by decide)] at H; exact H
        clear H
        have H := H1
        clear H1
        have HC23 := Aside0.mk H
        clear H
        go_upto_region 5 with (fail)
        go_cut [55] (fun v55 wc => ∃ (kq : Nat) (x55_22 : Bool), v55 = .bool x55_22 ∧ Aside0 (sackbutlaw02_CanonLists.j1 kq a0 a1 t1001 t1002 x55_22 = some r) ∧ Aside0 (kq ≤ kj4) ∧ Aside0 (Kd.R (Kd.int .i64) 3 wc w.heap.size (fun _ => True) v1003 t1001) ∧ Aside0 (Below w.heap.size w wc))
        case first =>
          have H := HC23.out
          clear HC23
          replace H := Option.bind_eq_some_iff.mp H
          obtain ⟨t1010, A240, H⟩ := H
          replace H : ((slices_Equal_2_int_2_int.f kj4 t1005 t1010).bind fun t1013 => (if t1013 = true then (if t1006 = 0 then ((sackbutlaw02_awake.f kj4).bind fun t1014 => (sackbutlaw02_CanonLists.j1 kj4 a0 a1 t1001 t1002 (!t1014))) else (sackbutlaw02_CanonLists.j1 kj4 a0 a1 t1001 t1002 true)) else (sackbutlaw02_CanonLists.j1 kj4 a0 a1 t1001 t1002 true))) = some r := H
          have A24 := Aside0.mk A240
          clear A240
          replace H := Option.bind_eq_some_iff.mp H
          obtain ⟨t1013, A250, H⟩ := H
          replace H : (if t1013 = true then (if t1006 = 0 then ((sackbutlaw02_awake.f kj4).bind fun t1014 => (sackbutlaw02_CanonLists.j1 kj4 a0 a1 t1001 t1002 (!t1014))) else (sackbutlaw02_CanonLists.j1 kj4 a0 a1 t1001 t1002 true)) else (sackbutlaw02_CanonLists.j1 kj4 a0 a1 t1001 t1002 true)) = some r := H
          have A25 := Aside0.mk A250
          clear A250
          by_cases c26 : t1013 = true
          · subst c26
            have H1 : (if t1006 = 0 then ((sackbutlaw02_awake.f kj4).bind fun t1014 => (sackbutlaw02_CanonLists.j1 kj4 a0 a1 t1001 t1002 (!t1014))) else (sackbutlaw02_CanonLists.j1 kj4 a0 a1 t1001 t1002 true)) = some r := by rw [if_pos rfl] at H; exact H
            clear H
            have H := H1
            clear H1
            by_cases c27 : t1006 = 0
            · rw [if_pos c27] at H
              have c27b0 : (t1006 == 0) = true := beq_iff_eq.mpr c27
              have c27b1 : (t1006 != 0) = false := bne_eq_false_iff_eq.mpr c27
              clear c27
              (first | rw [c27b0] | (simp only [i64_w, i32_w]; rw [c27b0]) | skip)
              replace H := Option.bind_eq_some_iff.mp H
              obtain ⟨t1014, A280, H⟩ := H
              replace H : (sackbutlaw02_CanonLists.j1 kj4 a0 a1 t1001 t1002 (!t1014)) = some r := H
              have A28 := Aside0.mk A280
              clear A280
              have H' := Aside0.mk H
              clear H
              go_wp2_with (first | ((with_reducible refine gate_callee (f := 25) rfl ?_); refine goesL_ (some 45) rfl rfl Tryd.func25 (by kernel_rfl) rfl #[.int .i64 a0] rfl (by (try simp only [List.map_toArray, List.map_cons, List.map_nil]); first | done | rfl | (simp only [List.length_drop, List.length_take]; rfl)) ?_; (with_reducible refine (sackbutref02_Plain.calls kj4 a0 t1010 _ A24.out).mono ?_); rintro e w29 ⟨v1011, rfl, ho0, hb⟩; refine ⟨_, rfl, ?_⟩; have n0_ := Aside0.mk (Kd.R_below (by (with_reducible repeat (first | apply Kd.R_alloc | apply Kd.R_drewN | apply Kd.R_drew)); exact HO_5.out) hb); have n1_ := Aside0.mk (Kd.R_elder' (by (with_reducible repeat (first | apply Kd.R_alloc | apply Kd.R_drewN | apply Kd.R_drew)); exact HO_7.out) (Kd.R_base ho0) hb); have n2_ := Aside0.mk (Kd.R_lower (Kd.R_new' ho0 (Kd.R_lt (by (with_reducible repeat (first | apply Kd.R_alloc | apply Kd.R_drewN | apply Kd.R_drew)); exact HO_7.out))) (below_size (by repeat (first | (with_reducible first | exact HB.out | apply below_alloc | apply pw_below_drewN | apply below_drew1) | exact HB.out)))); have n3_ := Aside0.mk (below_step (by repeat (first | (with_reducible first | exact HB.out | apply below_alloc | apply pw_below_drewN | apply below_drew1) | exact HB.out)) hb); clear HO_5; clear HO_7; clear HB; have HO_5 := n0_; have HO_7 := n1_; have HO1012 := n2_; have HB := n3_; clear n0_ n1_ n2_ n3_; (try clear hb); (try clear hb2); (try clear hk); (try clear hi); (try clear ho0); obtain ⟨Ao30, co30, eo30⟩ := Kd.R_slice HO_7.out; subst eo30; obtain ⟨Ao31, co31, eo31⟩ := Kd.R_slice HO1012.out; subst eo31) | ((with_reducible refine gate_callee (f := 24) rfl ?_); refine goesL_ (some 46) rfl rfl Tryd.func24 (by kernel_rfl) rfl #[.slice Ao30 t1005.length co30, .slice Ao31 t1010.length co31] rfl (by (try simp only [List.map_toArray, List.map_cons, List.map_nil]); first | done | rfl | (simp only [List.length_drop, List.length_take]; rfl)) ?_; (with_reducible refine (slices_Equal_2_int_2_int.calls kj4 _ _ t1005 _ _ t1010 true _ ?side1 ?side2 ?side3 ?side4 A25.out).mono ?_); (case side1 => repeat (first | exact (Kd.R_reads' HO_7.out).2.2 | (with_reducible refine Kd.C_alloc ?_ _) | (with_reducible refine Kd.C_drewN ?_ _) | (with_reducible refine Kd.C_drew ?_))); (case side2 => exact (Kd.R_reads' HO_7.out).2.1); (case side3 => repeat (first | exact (Kd.R_reads' HO1012.out).2.2 | (with_reducible refine Kd.C_alloc ?_ _) | (with_reducible refine Kd.C_drewN ?_ _) | (with_reducible refine Kd.C_drew ?_))); (case side4 => exact (Kd.R_reads' HO1012.out).2.1); rintro e w' ⟨rfl, ⟨nd, rfl⟩⟩; refine ⟨_, rfl, ?_⟩) | (go_at_call 11; (with_reducible refine (sackbutlaw02_awake.calls kj4  t1014 _ A28.out).mono ?_); rintro e w32 ⟨rfl, hb⟩; have n0_ := Aside0.mk (Kd.R_below (by (with_reducible repeat (first | apply Kd.R_alloc | apply Kd.R_drewN | apply Kd.R_drew)); exact HO_5.out) hb); have n1_ := Aside0.mk (Kd.R_below (by (with_reducible repeat (first | apply Kd.R_alloc | apply Kd.R_drewN | apply Kd.R_drew)); exact HO_7.out) hb); have n2_ := Aside0.mk (Kd.R_below (by (with_reducible repeat (first | apply Kd.R_alloc | apply Kd.R_drewN | apply Kd.R_drew)); exact HO1012.out) hb); have n3_ := Aside0.mk (below_step (by repeat (first | (with_reducible first | exact HB.out | apply below_alloc | apply pw_below_drewN | apply below_drew1) | exact HB.out)) hb); clear HO_5; clear HO_7; clear HO1012; clear HB; have HO_5 := n0_; have HO_7 := n1_; have HO1012 := n2_; have HB := n3_; clear n0_ n1_ n2_ n3_; (try clear hb); (try clear hb2); (try clear hk); (try clear hi)))
              go_meet
              case rel => exact ⟨_, (!t1014), (by first | rfl | (simp; done) | (simp [*]; done)), H', ⟨by have := HJ4.out; first | omega | exact Nat.le_refl _⟩, ⟨by (with_reducible repeat (first | apply Kd.R_alloc | apply Kd.R_drewN | apply Kd.R_drew)); exact HO_5.out⟩, ⟨by repeat (first | (with_reducible first | exact HB.out | apply below_alloc | apply pw_below_drewN | apply below_drew1) | exact HB.out)⟩⟩
            · rw [if_neg c27] at H
              have c27b0 : (t1006 == 0) = false := beq_eq_false_iff_ne.mpr c27
              have c27b1 : (t1006 != 0) = true := bne_iff_ne.mpr c27
              (first | rw [c27b0] | (simp only [i64_w, i32_w]; rw [c27b0]) | skip)
              have H' := Aside0.mk H
              clear H
              go_wp2_with (first | ((with_reducible refine gate_callee (f := 25) rfl ?_); refine goesL_ (some 45) rfl rfl Tryd.func25 (by kernel_rfl) rfl #[.int .i64 a0] rfl (by (try simp only [List.map_toArray, List.map_cons, List.map_nil]); first | done | rfl | (simp only [List.length_drop, List.length_take]; rfl)) ?_; (with_reducible refine (sackbutref02_Plain.calls kj4 a0 t1010 _ A24.out).mono ?_); rintro e w33 ⟨v1011, rfl, ho0, hb⟩; refine ⟨_, rfl, ?_⟩; have n0_ := Aside0.mk (Kd.R_below (by (with_reducible repeat (first | apply Kd.R_alloc | apply Kd.R_drewN | apply Kd.R_drew)); exact HO_5.out) hb); have n1_ := Aside0.mk (Kd.R_elder' (by (with_reducible repeat (first | apply Kd.R_alloc | apply Kd.R_drewN | apply Kd.R_drew)); exact HO_7.out) (Kd.R_base ho0) hb); have n2_ := Aside0.mk (Kd.R_lower (Kd.R_new' ho0 (Kd.R_lt (by (with_reducible repeat (first | apply Kd.R_alloc | apply Kd.R_drewN | apply Kd.R_drew)); exact HO_7.out))) (below_size (by repeat (first | (with_reducible first | exact HB.out | apply below_alloc | apply pw_below_drewN | apply below_drew1) | exact HB.out)))); have n3_ := Aside0.mk (below_step (by repeat (first | (with_reducible first | exact HB.out | apply below_alloc | apply pw_below_drewN | apply below_drew1) | exact HB.out)) hb); clear HO_5; clear HO_7; clear HB; have HO_5 := n0_; have HO_7 := n1_; have HO1012 := n2_; have HB := n3_; clear n0_ n1_ n2_ n3_; (try clear hb); (try clear hb2); (try clear hk); (try clear hi); (try clear ho0); obtain ⟨Ao34, co34, eo34⟩ := Kd.R_slice HO_7.out; subst eo34; obtain ⟨Ao35, co35, eo35⟩ := Kd.R_slice HO1012.out; subst eo35) | ((with_reducible refine gate_callee (f := 24) rfl ?_); refine goesL_ (some 46) rfl rfl Tryd.func24 (by kernel_rfl) rfl #[.slice Ao34 t1005.length co34, .slice Ao35 t1010.length co35] rfl (by (try simp only [List.map_toArray, List.map_cons, List.map_nil]); first | done | rfl | (simp only [List.length_drop, List.length_take]; rfl)) ?_; (with_reducible refine (slices_Equal_2_int_2_int.calls kj4 _ _ t1005 _ _ t1010 true _ ?side1 ?side2 ?side3 ?side4 A25.out).mono ?_); (case side1 => repeat (first | exact (Kd.R_reads' HO_7.out).2.2 | (with_reducible refine Kd.C_alloc ?_ _) | (with_reducible refine Kd.C_drewN ?_ _) | (with_reducible refine Kd.C_drew ?_))); (case side2 => exact (Kd.R_reads' HO_7.out).2.1); (case side3 => repeat (first | exact (Kd.R_reads' HO1012.out).2.2 | (with_reducible refine Kd.C_alloc ?_ _) | (with_reducible refine Kd.C_drewN ?_ _) | (with_reducible refine Kd.C_drew ?_))); (case side4 => exact (Kd.R_reads' HO1012.out).2.1); rintro e w' ⟨rfl, ⟨nd, rfl⟩⟩; refine ⟨_, rfl, ?_⟩))
              go_meet
              case rel => exact ⟨_, (true), (by first | rfl | (simp; done) | (simp [*]; done)), H', ⟨by have := HJ4.out; first | omega | exact Nat.le_refl _⟩, ⟨by (with_reducible repeat (first | apply Kd.R_alloc | apply Kd.R_drewN | apply Kd.R_drew)); exact HO_5.out⟩, ⟨by repeat (first | (with_reducible first | exact HB.out | apply below_alloc | apply pw_below_drewN | apply below_drew1) | exact HB.out)⟩⟩
          · replace c26 := Bool.eq_false_iff.mpr c26
            subst c26
            have H1 : (sackbutlaw02_CanonLists.j1 kj4 a0 a1 t1001 t1002 true) = some r := by rw [if_neg (show ¬ (false = true) by decide)] at H; exact H
            clear H
            have H := H1
            clear H1
            have H' := Aside0.mk H
            clear H
            go_wp2_with (first | ((with_reducible refine gate_callee (f := 25) rfl ?_); refine goesL_ (some 45) rfl rfl Tryd.func25 (by kernel_rfl) rfl #[.int .i64 a0] rfl (by (try simp only [List.map_toArray, List.map_cons, List.map_nil]); first | done | rfl | (simp only [List.length_drop, List.length_take]; rfl)) ?_; (with_reducible refine (sackbutref02_Plain.calls kj4 a0 t1010 _ A24.out).mono ?_); rintro e w36 ⟨v1011, rfl, ho0, hb⟩; refine ⟨_, rfl, ?_⟩; have n0_ := Aside0.mk (Kd.R_below (by (with_reducible repeat (first | apply Kd.R_alloc | apply Kd.R_drewN | apply Kd.R_drew)); exact HO_5.out) hb); have n1_ := Aside0.mk (Kd.R_elder' (by (with_reducible repeat (first | apply Kd.R_alloc | apply Kd.R_drewN | apply Kd.R_drew)); exact HO_7.out) (Kd.R_base ho0) hb); have n2_ := Aside0.mk (Kd.R_lower (Kd.R_new' ho0 (Kd.R_lt (by (with_reducible repeat (first | apply Kd.R_alloc | apply Kd.R_drewN | apply Kd.R_drew)); exact HO_7.out))) (below_size (by repeat (first | (with_reducible first | exact HB.out | apply below_alloc | apply pw_below_drewN | apply below_drew1) | exact HB.out)))); have n3_ := Aside0.mk (below_step (by repeat (first | (with_reducible first | exact HB.out | apply below_alloc | apply pw_below_drewN | apply below_drew1) | exact HB.out)) hb); clear HO_5; clear HO_7; clear HB; have HO_5 := n0_; have HO_7 := n1_; have HO1012 := n2_; have HB := n3_; clear n0_ n1_ n2_ n3_; (try clear hb); (try clear hb2); (try clear hk); (try clear hi); (try clear ho0); obtain ⟨Ao37, co37, eo37⟩ := Kd.R_slice HO_7.out; subst eo37; obtain ⟨Ao38, co38, eo38⟩ := Kd.R_slice HO1012.out; subst eo38) | ((with_reducible refine gate_callee (f := 24) rfl ?_); refine goesL_ (some 46) rfl rfl Tryd.func24 (by kernel_rfl) rfl #[.slice Ao37 t1005.length co37, .slice Ao38 t1010.length co38] rfl (by (try simp only [List.map_toArray, List.map_cons, List.map_nil]); first | done | rfl | (simp only [List.length_drop, List.length_take]; rfl)) ?_; (with_reducible refine (slices_Equal_2_int_2_int.calls kj4 _ _ t1005 _ _ t1010 false _ ?side1 ?side2 ?side3 ?side4 A25.out).mono ?_); (case side1 => repeat (first | exact (Kd.R_reads' HO_7.out).2.2 | (with_reducible refine Kd.C_alloc ?_ _) | (with_reducible refine Kd.C_drewN ?_ _) | (with_reducible refine Kd.C_drew ?_))); (case side2 => exact (Kd.R_reads' HO_7.out).2.1); (case side3 => repeat (first | exact (Kd.R_reads' HO1012.out).2.2 | (with_reducible refine Kd.C_alloc ?_ _) | (with_reducible refine Kd.C_drewN ?_ _) | (with_reducible refine Kd.C_drew ?_))); (case side4 => exact (Kd.R_reads' HO1012.out).2.1); rintro e w' ⟨rfl, ⟨nd, rfl⟩⟩; refine ⟨_, rfl, ?_⟩))
            go_meet
            case rel => exact ⟨_, (true), (by first | rfl | (simp; done) | (simp [*]; done)), H', ⟨by have := HJ4.out; first | omega | exact Nat.le_refl _⟩, ⟨by (with_reducible repeat (first | apply Kd.R_alloc | apply Kd.R_drewN | apply Kd.R_drew)); exact HO_5.out⟩, ⟨by repeat (first | (with_reducible first | exact HB.out | apply below_alloc | apply pw_below_drewN | apply below_drew1) | exact HB.out)⟩⟩
        case rest =>
          clear HC23
          try clear c1
          try clear c2
          try clear p2
          try clear p6
          try clear c8
          try clear c8b0
          try clear c9
          try clear c10
          try clear c10b0
          try clear c10b1
          try clear c11
          try clear c11b0
          try clear c11b1
          try clear c12
          try clear c12b0
          try clear c12b1
          try clear c22
          try clear c23
          try clear c24
          try clear c25
          try clear c26
          try clear c27
          try clear c27b0
          try clear c27b1
          try clear p2
          obtain ⟨kq, x55_22, rfl, HA, HJ22, HO_5, HB⟩ := hcut
          cases kq with
          | zero => exact absurd HA.out (by simp [sackbutlaw02_CanonLists.j1])
          | succ kj22 =>
            have H := HA.out
            clear HA
            simp only [sackbutlaw02_CanonLists.j1] at H
            by_cases c39 : x55_22 = true
            · subst c39
              have H1 : (some false) = some r := by rw [if_pos rfl] at H; exact H
              clear H
              have H := H1
              clear H1
              obtain rfl := Option.some.inj H
              go_wp2
              go_ret
              exact ⟨by first | rfl | (simp [errW_none, errW_some] <;> rfl) | (simp [*, errW_none, errW_some] <;> rfl), by repeat (first | (with_reducible first | exact HB.out | apply below_alloc | apply pw_below_drewN | apply below_drew1) | exact HB.out)⟩
            · replace c39 := Bool.eq_false_iff.mpr c39
              subst c39
              have H1 : (if a1 < 1 then (sackbutlaw02_CanonLists.j2 kj22 a0 a1 t1001 t1002 true) else (sackbutlaw02_CanonLists.j2 kj22 a0 a1 t1001 t1002 (decide (a1 > a0)))) = some r := by rw [if_neg (show ¬ (false = true) by decide)] at H; exact H
              clear H
              have H := H1
              clear H1
              have HC40 := Aside0.mk H
              clear H
              go_upto_region 7 with (fail)
              go_cut [62] (fun v62 wc => ∃ (kq : Nat) (x62_39 : Bool), v62 = .bool x62_39 ∧ Aside0 (sackbutlaw02_CanonLists.j2 kq a0 a1 t1001 t1002 x62_39 = some r) ∧ Aside0 (kq ≤ kj22) ∧ Aside0 (Kd.R (Kd.int .i64) 3 wc w.heap.size (fun _ => True) v1003 t1001) ∧ Aside0 (Below w.heap.size w wc))
              case first =>
                have H := HC40.out
                clear HC40
                by_cases c41 : a1 < 1
                · rw [if_pos c41] at H
                  have c41b0 : decide (a1 < 1) = true := decide_eq_true c41
                  clear c41
                  (first | rw [c41b0] | (simp only [i64_w, i32_w]; rw [c41b0]) | skip)
                  have H' := Aside0.mk H
                  clear H
                  go_wp2
                  go_meet
                  case rel => exact ⟨_, (true), (by first | rfl | (simp; done) | (simp [*]; done)), H', ⟨by have := HJ4.out; have := HJ22.out; first | omega | exact Nat.le_refl _⟩, ⟨by (with_reducible repeat (first | apply Kd.R_alloc | apply Kd.R_drewN | apply Kd.R_drew)); exact HO_5.out⟩, ⟨by repeat (first | (with_reducible first | exact HB.out | apply below_alloc | apply pw_below_drewN | apply below_drew1) | exact HB.out)⟩⟩
                · rw [if_neg c41] at H
                  have c41b0 : decide (a1 < 1) = false := decide_eq_false c41
                  clear c41
                  (first | rw [c41b0] | (simp only [i64_w, i32_w]; rw [c41b0]) | skip)
                  have H' := Aside0.mk H
                  clear H
                  go_wp2
                  go_meet
                  case rel => exact ⟨_, (decide (a1 > a0)), (by first | rfl | (simp; done) | (simp [*]; done)), H', ⟨by have := HJ4.out; have := HJ22.out; first | omega | exact Nat.le_refl _⟩, ⟨by (with_reducible repeat (first | apply Kd.R_alloc | apply Kd.R_drewN | apply Kd.R_drew)); exact HO_5.out⟩, ⟨by repeat (first | (with_reducible first | exact HB.out | apply below_alloc | apply pw_below_drewN | apply below_drew1) | exact HB.out)⟩⟩
              case rest =>
                clear HC40
                try clear c1
                try clear c2
                try clear p2
                try clear c3
                try clear c4
                try clear p6
                try clear c8
                try clear c8b0
                try clear c9
                try clear c10
                try clear c10b0
                try clear c10b1
                try clear c11
                try clear c11b0
                try clear c11b1
                try clear c12
                try clear c12b0
                try clear c12b1
                try clear c22
                try clear c23
                try clear c24
                try clear c25
                try clear c26
                try clear c27
                try clear c27b0
                try clear c27b1
                try clear c39
                try clear c41
                try clear c41b0
                try clear p2
                try clear p6
                obtain ⟨kq, x62_39, rfl, HA, HJ39, HO_5, HB⟩ := hcut
                cases kq with
                | zero => exact absurd HA.out (by simp [sackbutlaw02_CanonLists.j2])
                | succ kj39 =>
                  have H := HA.out
                  clear HA
                  simp only [sackbutlaw02_CanonLists.j2] at H
                  by_cases c42 : x62_39 = true
                  · subst c42
                    have H1 : (if (t1001.length : Int) = 0 then (some (t1002 == 2)) else (some false)) = some r := by rw [if_pos rfl] at H; exact H
                    clear H
                    have H := H1
                    clear H1
                    by_cases c43 : (t1001.length : Int) = 0
                    · rw [if_pos c43] at H
                      have c43b0 : ((t1001.length : Int) == 0) = true := beq_iff_eq.mpr c43
                      have c43b1 : ((t1001.length : Int) != 0) = false := bne_eq_false_iff_eq.mpr c43
                      clear c43
                      obtain rfl := Option.some.inj H
                      obtain ⟨Ao44, co44, eo44⟩ := Kd.R_slice HO_5.out
                      subst eo44
                      go_wp2
                      go_ret
                      exact ⟨by first | rfl | (simp [errW_none, errW_some] <;> rfl) | (simp [*, errW_none, errW_some] <;> rfl), by repeat (first | (with_reducible first | exact HB.out | apply below_alloc | apply pw_below_drewN | apply below_drew1) | exact HB.out)⟩
                    · rw [if_neg c43] at H
                      have c43b0 : ((t1001.length : Int) == 0) = false := beq_eq_false_iff_ne.mpr c43
                      have c43b1 : ((t1001.length : Int) != 0) = true := bne_iff_ne.mpr c43
                      have c43b2 : ¬ (t1001 = []) := fun h_ => c43 (by rw [h_]; rfl)
                      obtain rfl := Option.some.inj H
                      obtain ⟨Ao45, co45, eo45⟩ := Kd.R_slice HO_5.out
                      subst eo45
                      go_wp2
                      go_ret
                      exact ⟨by first | rfl | (simp [errW_none, errW_some] <;> rfl) | (simp [*, errW_none, errW_some] <;> rfl), by repeat (first | (with_reducible first | exact HB.out | apply below_alloc | apply pw_below_drewN | apply below_drew1) | exact HB.out)⟩
                  · replace c42 := Bool.eq_false_iff.mpr c42
                    subst c42
                    have H1 : ((sackbutref02_List.f kj39 a0 a1).bind fun t1015 => ((slices_Equal_int_int.f kj39 t1001 t1015).bind fun t1018 => (if t1018 = true then (some (t1002 == 0)) else (some false)))) = some r := by rw [if_neg (show ¬ (false = true) by decide)] at H; exact H
                    clear H
                    have H := H1
                    clear H1
                    replace H := Option.bind_eq_some_iff.mp H
                    obtain ⟨t1015, A460, H⟩ := H
                    replace H : ((slices_Equal_int_int.f kj39 t1001 t1015).bind fun t1018 => (if t1018 = true then (some (t1002 == 0)) else (some false))) = some r := H
                    have A46 := Aside0.mk A460
                    clear A460
                    replace H := Option.bind_eq_some_iff.mp H
                    obtain ⟨t1018, A470, H⟩ := H
                    replace H : (if t1018 = true then (some (t1002 == 0)) else (some false)) = some r := H
                    have A47 := Aside0.mk A470
                    clear A470
                    by_cases c48 : t1018 = true
                    · subst c48
                      have H1 : (some (t1002 == 0)) = some r := by rw [if_pos rfl] at H; exact H
                      clear H
                      have H := H1
                      clear H1
                      obtain rfl := Option.some.inj H
                      go_wp2_with (first | ((with_reducible refine gate_callee (f := 27) rfl ?_); refine goesL_ (some 73) rfl rfl Tryd.func27 (by kernel_rfl) rfl #[.int .i64 a0, .int .i64 a1] rfl (by (try simp only [List.map_toArray, List.map_cons, List.map_nil]); first | done | rfl | (simp only [List.length_drop, List.length_take]; rfl)) ?_; (with_reducible refine (sackbutref02_List.calls kj39 a0 a1 t1015 _ A46.out).mono ?_); rintro e w49 ⟨v1016, rfl, ho0, hb⟩; refine ⟨_, rfl, ?_⟩; have n0_ := Aside0.mk (Kd.R_elder' (by (with_reducible repeat (first | apply Kd.R_alloc | apply Kd.R_drewN | apply Kd.R_drew)); exact HO_5.out) (Kd.R_base ho0) hb); have n1_ := Aside0.mk (Kd.R_lower (Kd.R_new' ho0 (Kd.R_lt (by (with_reducible repeat (first | apply Kd.R_alloc | apply Kd.R_drewN | apply Kd.R_drew)); exact HO_5.out))) (below_size (by repeat (first | (with_reducible first | exact HB.out | apply below_alloc | apply pw_below_drewN | apply below_drew1) | exact HB.out)))); have n2_ := Aside0.mk (below_step (by repeat (first | (with_reducible first | exact HB.out | apply below_alloc | apply pw_below_drewN | apply below_drew1) | exact HB.out)) hb); clear HO_5; clear HB; have HO_5 := n0_; have HO1017 := n1_; have HB := n2_; clear n0_ n1_ n2_; (try clear hb); (try clear hb2); (try clear hk); (try clear hi); (try clear ho0); obtain ⟨Ao50, co50, eo50⟩ := Kd.R_slice HO_5.out; subst eo50; obtain ⟨Ao51, co51, eo51⟩ := Kd.R_slice HO1017.out; subst eo51) | ((with_reducible refine gate_callee (f := 26) rfl ?_); refine goesL_ (some 74) rfl rfl Tryd.func26 (by kernel_rfl) rfl #[.slice Ao50 t1001.length co50, .slice Ao51 t1015.length co51] rfl (by (try simp only [List.map_toArray, List.map_cons, List.map_nil]); first | done | rfl | (simp only [List.length_drop, List.length_take]; rfl)) ?_; (with_reducible refine (slices_Equal_int_int.calls kj39 _ _ t1001 _ _ t1015 true _ ?side1 ?side2 ?side3 ?side4 A47.out).mono ?_); (case side1 => repeat (first | exact (Kd.R_reads' HO_5.out).2.2 | (with_reducible refine Kd.C_alloc ?_ _) | (with_reducible refine Kd.C_drewN ?_ _) | (with_reducible refine Kd.C_drew ?_))); (case side2 => exact (Kd.R_reads' HO_5.out).2.1); (case side3 => repeat (first | exact (Kd.R_reads' HO1017.out).2.2 | (with_reducible refine Kd.C_alloc ?_ _) | (with_reducible refine Kd.C_drewN ?_ _) | (with_reducible refine Kd.C_drew ?_))); (case side4 => exact (Kd.R_reads' HO1017.out).2.1); rintro e w' ⟨rfl, ⟨nd, rfl⟩⟩; refine ⟨_, rfl, ?_⟩))
                      go_ret
                      exact ⟨by first | rfl | (simp [errW_none, errW_some] <;> rfl) | (simp [*, errW_none, errW_some] <;> rfl), by repeat (first | (with_reducible first | exact HB.out | apply below_alloc | apply pw_below_drewN | apply below_drew1) | exact HB.out)⟩
                    · replace c48 := Bool.eq_false_iff.mpr c48
                      subst c48
                      have H1 : (some false) = some r := by rw [if_neg (show ¬ (false = true) by decide)] at H; exact H
                      clear H
                      have H := H1
                      clear H1
                      obtain rfl := Option.some.inj H
                      go_wp2_with (first | ((with_reducible refine gate_callee (f := 27) rfl ?_); refine goesL_ (some 73) rfl rfl Tryd.func27 (by kernel_rfl) rfl #[.int .i64 a0, .int .i64 a1] rfl (by (try simp only [List.map_toArray, List.map_cons, List.map_nil]); first | done | rfl | (simp only [List.length_drop, List.length_take]; rfl)) ?_; (with_reducible refine (sackbutref02_List.calls kj39 a0 a1 t1015 _ A46.out).mono ?_); rintro e w52 ⟨v1016, rfl, ho0, hb⟩; refine ⟨_, rfl, ?_⟩; have n0_ := Aside0.mk (Kd.R_elder' (by (with_reducible repeat (first | apply Kd.R_alloc | apply Kd.R_drewN | apply Kd.R_drew)); exact HO_5.out) (Kd.R_base ho0) hb); have n1_ := Aside0.mk (Kd.R_lower (Kd.R_new' ho0 (Kd.R_lt (by (with_reducible repeat (first | apply Kd.R_alloc | apply Kd.R_drewN | apply Kd.R_drew)); exact HO_5.out))) (below_size (by repeat (first | (with_reducible first | exact HB.out | apply below_alloc | apply pw_below_drewN | apply below_drew1) | exact HB.out)))); have n2_ := Aside0.mk (below_step (by repeat (first | (with_reducible first | exact HB.out | apply below_alloc | apply pw_below_drewN | apply below_drew1) | exact HB.out)) hb); clear HO_5; clear HB; have HO_5 := n0_; have HO1017 := n1_; have HB := n2_; clear n0_ n1_ n2_; (try clear hb); (try clear hb2); (try clear hk); (try clear hi); (try clear ho0); obtain ⟨Ao53, co53, eo53⟩ := Kd.R_slice HO_5.out; subst eo53; obtain ⟨Ao54, co54, eo54⟩ := Kd.R_slice HO1017.out; subst eo54) | ((with_reducible refine gate_callee (f := 26) rfl ?_); refine goesL_ (some 74) rfl rfl Tryd.func26 (by kernel_rfl) rfl #[.slice Ao53 t1001.length co53, .slice Ao54 t1015.length co54] rfl (by (try simp only [List.map_toArray, List.map_cons, List.map_nil]); first | done | rfl | (simp only [List.length_drop, List.length_take]; rfl)) ?_; (with_reducible refine (slices_Equal_int_int.calls kj39 _ _ t1001 _ _ t1015 false _ ?side1 ?side2 ?side3 ?side4 A47.out).mono ?_); (case side1 => repeat (first | exact (Kd.R_reads' HO_5.out).2.2 | (with_reducible refine Kd.C_alloc ?_ _) | (with_reducible refine Kd.C_drewN ?_ _) | (with_reducible refine Kd.C_drew ?_))); (case side2 => exact (Kd.R_reads' HO_5.out).2.1); (case side3 => repeat (first | exact (Kd.R_reads' HO1017.out).2.2 | (with_reducible refine Kd.C_alloc ?_ _) | (with_reducible refine Kd.C_drewN ?_ _) | (with_reducible refine Kd.C_drew ?_))); (case side4 => exact (Kd.R_reads' HO1017.out).2.1); rintro e w' ⟨rfl, ⟨nd, rfl⟩⟩; refine ⟨_, rfl, ?_⟩))
                      go_ret
                      exact ⟨by first | rfl | (simp [errW_none, errW_some] <;> rfl) | (simp [*, errW_none, errW_some] <;> rfl), by repeat (first | (with_reducible first | exact HB.out | apply below_alloc | apply pw_below_drewN | apply below_drew1) | exact HB.out)⟩

/-- THE ONE PURE STATEMENT of sackbutlaw02_CanonLists: yours. -/
def sackbutlaw02_CanonLists.Pure : Prop := ∀ (a0 : Int) (a1 : Int), (Lit.int .i64 a0).wf = true → (Lit.int .i64 a1).wf = true → ∃ k, sackbutlaw02_CanonLists.f k a0 a1 = some true
theorem sackbutlaw02_CanonLists.walk (P : sackbutlaw02_CanonLists.Pure) (a0 : Int) (a1 : Int) (w : World) (hT : Tabs w) (w0 : (Lit.int .i64 a0).wf = true) (w1 : (Lit.int .i64 a1).wf = true) :
    Calls Tryd.prog 8 #[.int .i64 a0, .int .i64 a1] w fun e w' => e = .returned (.bool true) ∧ Below w.heap.size w w' := by
  obtain ⟨k, h⟩ := P a0 a1 w0 w1
  refine (sackbutlaw02_CanonLists.calls k a0 a1 true w hT h).mono ?_
  rintro e w' ⟨rfl, hd⟩
  exact ⟨rfl, hd⟩

end Go.Proofs.YtkidgakjeahebaaDoor.P
namespace Go.Proofs.YtkidgakjeahebaaDoor.P
open Go.RowKit Go.Proofs.YtkidgakjeahebaaDoorW.PrintWords Go.Proofs.YtkidgakjeahebaaDoorW.PrintLast Go.Proofs.YtkidgakjeahebaaDoorW.PrintMore
attribute [local go_sem] max2_int min2_int max_two min_two max_three min_three max_four min_four   -- for this text's walks alone
set_option linter.unusedVariables false
set_option linter.unusedSimpArgs false

/-! slices.Equal -/
theorem Equal_loop (l0 l1 : List Int) (hlen : l0.length = l1.length) (hb : l0.length < 9223372036854775807) : ∀ (xs ys pre pre1 : List Int), l0 = pre ++ xs → l1 = pre1 ++ ys → pre.length = pre1.length →
    Ev (fun k => slices_Equal_int_int.l0 k l0 l1 (l0.length : Int) (pre.length : Int)) (decide (xs = ys)) := by
  intro xs
  induction xs with
  | nil =>
    intro ys pre pre1 h0 h1 hp
    have hy : ys = [] := by
      have := congrArg List.length h0; have := congrArg List.length h1
      simp at *
      exact List.eq_nil_of_length_eq_zero (by omega)
    subst hy
    refine Ev.succ ?_
    simp only [slices_Equal_int_int.l0, if_neg (mid_end h0)]
    simpa using Ev.some true
  | cons x xs ih =>
    intro ys pre pre1 h0 h1 hp
    cases ys with
    | nil => exfalso; have := congrArg List.length h0; have := congrArg List.length h1; simp at *; omega
    | cons y ys =>
      have r1 : rd l1 (pre.length : Int) = y := by rw [hp]; exact mid_rd h1
      have l1' : (pre.length : Int) < (l1.length : Int) := by rw [hp]; exact mid_lt h1
      refine Ev.succ ?_
      simp only [slices_Equal_int_int.l0, if_pos (mid_lt h0), if_pos (show (0 : Int) ≤ (pre.length : Int) by omega), if_pos l1', mid_rd h0, r1, mid_next h0 hb]
      refine Ev.ite (fun e => ?_) (fun e => ?_)
      · have := ih ys (pre ++ [x]) (pre1 ++ [y]) (mid_mv h0) (mid_mv h1) (by simp [hp])
        simpa [e] using this
      · simpa [e] using Ev.some false
theorem Equal_ev (l0 l1 : List Int) (hb : l0.length < 9223372036854775807) : Ev (fun k => slices_Equal_int_int.f k l0 l1) (decide (l0 = l1)) := by
  unfold slices_Equal_int_int.f
  refine Ev.ite (fun e => ?_) (fun e => ?_)
  · exact Equal_loop l0 l1 (by omega) hb l0 l1 [] [] rfl rfl rfl
  · have : l0 ≠ l1 := fun h => e (by rw [h])
    simpa [this] using Ev.some false


end Go.Proofs.YtkidgakjeahebaaDoor.P
namespace Go.Proofs.YtkidgakjeahebaaDoor.P
open Go.RowKit Go.Proofs.YtkidgakjeahebaaDoorW.PrintWords Go.Proofs.YtkidgakjeahebaaDoorW.PrintLast Go.Proofs.YtkidgakjeahebaaDoorW.PrintMore
attribute [local go_sem] max2_int min2_int max_two min_two max_three min_three max_four min_four   -- for this text's walks alone
set_option linter.unusedVariables false
set_option linter.unusedSimpArgs false

/-! all partners, and the least one -/
theorem minStep_fold : ∀ (l : List Nat) (m : Nat), m ≠ 0 → (∀ b ∈ l, b ≠ 0) → l.foldl minStep m ≠ 0 ∧ l.foldl minStep m ∈ m :: l ∧ ∀ b ∈ m :: l, l.foldl minStep m ≤ b
  | [], m, h, _ => ⟨h, by simp, by simp⟩
  | c :: l, m, h, hl => by
    have e : minStep m c = if c < m then c else m := by unfold minStep; simp [h]
    have h1 : minStep m c ≠ 0 := by rw [e]; split; exact hl c (by simp); exact h
    obtain ⟨a1, a2, a3⟩ := minStep_fold l (minStep m c) h1 (fun b hb => hl b (by simp [hb]))
    refine ⟨a1, ?_, fun b hb => ?_⟩
    · rw [List.foldl_cons]
      rcases List.mem_cons.1 a2 with h2 | h2
      · rw [h2, e]; split <;> simp
      · simp [h2]
    · rw [List.foldl_cons]
      have h3 := a3 (minStep m c) (by simp)
      rw [List.mem_cons, List.mem_cons] at hb
      rcases hb with rfl | rfl | hb
      · have : minStep b c ≤ b := by rw [e]; split <;> omega
        omega
      · have : minStep m b ≤ b := by rw [e]; split <;> omega
        omega
      · exact a3 b (by simp [hb])
theorem minB_spec {l : List Nat} (hl : ∀ b ∈ l, b ≠ 0) (h : l ≠ []) : minB l ≠ 0 ∧ minB l ∈ l ∧ ∀ b ∈ l, minB l ≤ b := by
  cases l with
  | nil => exact absurd rfl h
  | cons c l =>
    have e : minB (c :: l) = l.foldl minStep c := by
      show l.foldl minStep (minStep 0 c) = _
      unfold minStep; simp
    rw [e]
    exact minStep_fold l c (hl c (by simp)) (fun b hb => hl b (by simp [hb]))
theorem PL_spec {n a : Nat} (hn : 1 ≤ n) (ha : a < 2 ^ n) (h0 : a.testBit 0 = true) : (PL n a).Nodup ∧ ∀ c, c ∈ PL n a ↔ (c < 2 ^ n ∧ Tiled n a c ∧ c.testBit 0 = true) := partners_spec hn ha h0 (stepOk_A ha)
theorem PL_ne {n a : Nat} (hn : 1 ≤ n) (ha : a < 2 ^ n) (h0 : a.testBit 0 = true) : ∀ b ∈ PL n a, b ≠ 0 := by
  intro b hb e
  have := ((PL_spec hn ha h0).2 b).1 hb
  rw [e] at this
  simp at this
theorem PL_some {n a : Nat} (hn : 1 ≤ n) (ha : a < 2 ^ n) (h0 : a.testBit 0 = true) : PL n a ≠ [] ↔ ∃ c, c < 2 ^ n ∧ Tiled n a c ∧ c.testBit 0 = true := by
  constructor
  · intro h
    obtain ⟨c, hc⟩ := List.exists_mem_of_ne_nil _ h
    exact ⟨c, ((PL_spec hn ha h0).2 c).1 hc⟩
  · rintro ⟨c, hc⟩ e
    have := ((PL_spec hn ha h0).2 c).2 hc
    rw [e] at this; cases this
theorem Partner_f {n a : Nat} (hv : ValidR n a) : canon_Partner.f n a = some (if PL n a = [] then (0, 4) else (((minB (PL n a) : Nat) : Int), 0)) := by
  unfold canon_Partner.f
  rw [if_pos hv]
  obtain ⟨N, A, e1, e2, h2, h24, hA, h0⟩ := validR_nat hv
  obtain rfl : n = N := by omega
  obtain rfl : a = A := by omega
  simp only [Int.toNat_natCast]
  by_cases e : PL n a = []
  · have : minI (PL n a) = 0 := by unfold minI; rw [e]; rfl
    rw [if_pos this, if_pos e]
  · have h := (minB_spec (PL_ne (by omega) hA h0) e).1
    have : minI (PL n a) ≠ 0 := by unfold minI; omega
    rw [if_neg this, if_neg e]; rfl

end Go.Proofs.YtkidgakjeahebaaDoor.P
namespace Go.Proofs.YtkidgakjeahebaaDoor.P
open Go.RowKit Go.Proofs.YtkidgakjeahebaaDoorW.PrintWords Go.Proofs.YtkidgakjeahebaaDoorW.PrintLast Go.Proofs.YtkidgakjeahebaaDoorW.PrintMore
attribute [local go_sem] max2_int min2_int max_two min_two max_three min_three max_four min_four   -- for this text's walks alone
set_option linter.unusedVariables false
set_option linter.unusedSimpArgs false

theorem foldl_min_spec : ∀ (l : List Nat) (m : Nat), l.foldl min m ∈ m :: l ∧ ∀ b ∈ m :: l, l.foldl min m ≤ b
  | [], m => ⟨by simp, by simp⟩
  | c :: l, m => by
    obtain ⟨h1, h2⟩ := foldl_min_spec l (min m c)
    rw [List.foldl_cons]
    refine ⟨?_, fun b hb => ?_⟩
    · rcases List.mem_cons.1 h1 with h | h
      · rw [h]; rcases Nat.le_total m c with h3 | h3
        · rw [Nat.min_eq_left h3]; simp
        · rw [Nat.min_eq_right h3]; simp
      · simp [h]
    · have h3 := h2 (min m c) (by simp)
      rw [List.mem_cons, List.mem_cons] at hb
      rcases hb with rfl | rfl | hb
      · exact Nat.le_trans h3 (Nat.min_le_left _ _)
      · exact Nat.le_trans h3 (Nat.min_le_right _ _)
      · exact h2 b (by simp [hb])
theorem foldl_min_same : ∀ (l : List Nat) (m : Nat), (∀ b ∈ l, m ≤ b) → l.foldl min m = m
  | [], _, _ => rfl
  | c :: l, m, h => by
    rw [List.foldl_cons, Nat.min_eq_left (h c (by simp))]
    exact foldl_min_same l m (fun b hb => h b (by simp [hb]))
def visR (n a d b F y : Nat) : List Nat := match stR n a (freeAt n F) y with
  | some k => if moveN n a k &&& F = 0 then vis n a (stR n a) d (b ||| 2 ^ k) (F ||| moveN n a k) else []
  | none => []
theorem visR_eq (n a d b F y : Nat) : visR n a d b F y = if (moveN n a y).testBit (freeAt n F) = true ∧ moveN n a y &&& F = 0 then vis n a (stR n a) d (b ||| 2 ^ y) (F ||| moveN n a y) else [] := by
  unfold visR stR
  by_cases h : (moveN n a y).testBit (freeAt n F) = true
  · rw [if_pos h]; simp [h]
  · rw [if_neg h, if_neg (fun x => h x.1)]
theorem visR_more {n a d b F : Nat} (h : F ≠ 2 ^ n - 1) : vis n a (stR n a) (d + 1) b F = (List.range n).flatMap (visR n a d b F) := by simp only [vis]; rw [if_neg h]; rfl
theorem vis_ge {n a : Nat} {st : Nat → Nat → Option Nat} : ∀ (d b F : Nat), ∀ c ∈ vis n a st d b F, b ≤ c
  | 0, _, _, c, hc => by cases hc
  | d + 1, b, F, c, hc => by
    simp only [vis] at hc
    split at hc
    · rw [List.mem_singleton] at hc; omega
    · rw [List.mem_flatMap] at hc
      obtain ⟨x, _, hx⟩ := hc
      split at hx
      · split at hx
        · have := vis_ge d _ _ c hx
          exact Nat.le_trans Nat.left_le_or this
        · cases hx
      · cases hx
theorem leastF_eq {n a : Nat} : ∀ (d b F best : Nat), leastF n a d b F best = (vis n a (stR n a) d b F).foldl min best
  | 0, _, _, _ => rfl
  | d + 1, b, F, best => by
    simp only [leastF]
    by_cases h : best ≤ b
    · rw [if_pos h, foldl_min_same]
      intro c hc
      exact Nat.le_trans h (vis_ge _ _ _ c hc)
    · rw [if_neg h]
      by_cases e : F = 2 ^ n - 1
      · rw [if_pos e]
        simp only [vis]; rw [if_pos e]
        show b = min best b
        rw [Nat.min_eq_right (by omega)]
      · rw [if_neg e, visR_more e]
        have go : ∀ m, leastTo n a (leastF n a d) b F best m = ((List.range m).flatMap (visR n a d b F)).foldl min best := by
          intro m
          induction m with
          | zero => rfl
          | succ m ih =>
            rw [List.range_succ, List.flatMap_append, List.foldl_append, ← ih]
            simp only [leastTo, List.flatMap_cons, List.flatMap_nil, List.append_nil]
            rw [visR_eq]; unfold leastOne
            split
            · exact leastF_eq d _ _ _
            · rfl
        exact go n
theorem RL_spec {n a : Nat} (hn : 1 ≤ n) (ha : a < 2 ^ n) (h0 : a.testBit 0 = true) : (vis n a (stR n a) (n + 1) 1 a).Nodup ∧ ∀ c, c ∈ vis n a (stR n a) (n + 1) 1 a ↔ (c < 2 ^ n ∧ Tiled n a c ∧ c.testBit 0 = true) := partners_spec hn ha h0 stepOk_R
theorem RL_PL {n a : Nat} (hn : 1 ≤ n) (ha : a < 2 ^ n) (h0 : a.testBit 0 = true) : ∀ c, c ∈ vis n a (stR n a) (n + 1) 1 a ↔ c ∈ PL n a := fun c => by rw [(RL_spec hn ha h0).2 c, (PL_spec hn ha h0).2 c]
theorem refPartner_f {n a : Nat} (hv : ValidR n a) : sackbutref02_Partner.f n a = some (if PL n a = [] then (0, 4) else (((minB (PL n a) : Nat) : Int), 0)) := by
  unfold sackbutref02_Partner.f
  rw [if_pos hv]
  obtain ⟨N, A, e1, e2, h2, h24, hA, h0⟩ := validR_nat hv
  obtain rfl : n = N := by omega
  obtain rfl : a = A := by omega
  simp only [Int.toNat_natCast, leastF_eq]
  obtain ⟨m1, m2⟩ := foldl_min_spec (vis n a (stR n a) (n + 1) 1 a) (2 ^ n)
  by_cases e : PL n a = []
  · have : vis n a (stR n a) (n + 1) 1 a = [] := by
      rcases Classical.em (vis n a (stR n a) (n + 1) 1 a = []) with h | h
      · exact h
      · obtain ⟨c, hc⟩ := List.exists_mem_of_ne_nil _ h
        have := (RL_PL (by omega) hA h0 c).1 hc
        rw [e] at this; cases this
    rw [this]
    simp [e]
  · obtain ⟨p1, p2, p3⟩ := minB_spec (PL_ne (by omega) hA h0) e
    have hm : (vis n a (stR n a) (n + 1) 1 a).foldl min (2 ^ n) = minB (PL n a) := by
      refine Nat.le_antisymm (m2 _ (List.mem_cons_of_mem _ ((RL_PL (by omega) hA h0 _).2 p2))) ?_
      rcases List.mem_cons.1 m1 with h | h
      · rw [h]; exact Nat.le_of_lt (((PL_spec (by omega) hA h0).2 _).1 p2).1
      · exact p3 _ ((RL_PL (by omega) hA h0 _).1 h)
    rw [hm, if_neg e, if_neg (by have := (((PL_spec (by omega) hA h0).2 _).1 p2).1; omega)]

end Go.Proofs.YtkidgakjeahebaaDoor.P
