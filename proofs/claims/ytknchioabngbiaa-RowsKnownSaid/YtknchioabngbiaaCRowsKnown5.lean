/- A part of a proof that a law's Go function returns true for every input, laid by this session's program mp.py (which drives the kit's print). Conditions: as each theorem states them. -/
import Derived.Test.YtknchioabngbiaaCRowsKnown1
import Derived.Test.YtknchioabngbiaaCRowsKnown2
import Derived.Test.YtknchioabngbiaaCRowsKnown3
import Derived.Test.YtknchioabngbiaaCRowsKnown4
namespace Go.Proofs.Ytknchioabngbiaa.P
open Go.RowKit Go.Proofs.YtknchioabngbiaaW.PrintWords Go.Proofs.YtknchioabngbiaaW.PrintLast Go.Proofs.YtknchioabngbiaaW.PrintMore
attribute [local go_sem] max2_int min2_int max_two min_two max_three min_three max_four min_four   -- for this text's walks alone
set_option linter.unusedVariables false
set_option linter.unusedSimpArgs false

/-! ### sackbutlaw05_RowsKnown: function 3 -/
def tabC777000000 (x : Int) : Int := ([0, 0, 1, 0, 2, 0, 4, 0, 24, 0, 288] : List Int).getD x.toNat 0
theorem tabC777000000_run (x : Int) (h : 0 ≤ x ∧ x < 11) : ∀ w, (Instr.index 26 (.agg #[.int .i64 0, .int .i64 0, .int .i64 1, .int .i64 0, .int .i64 2, .int .i64 0, .int .i64 4, .int .i64 0, .int .i64 24, .int .i64 0, .int .i64 288]) (.int .i64 x)).run Try.prog w = .ok (.int .i64 (tabC777000000 x)) w := by
  intro w
  obtain ⟨n, rfl⟩ : ∃ n : Nat, x = (n : Int) := ⟨x.toNat, by omega⟩
  have hu := Try.underlying26
  have h2 : n < 11 := by omega
  clear h
  match n, h2 with
  | 0, _ => simp [Instr.index, run_underlying hu, asIntOf, go_sem, tabC777000000]
  | 1, _ => simp [Instr.index, run_underlying hu, asIntOf, go_sem, tabC777000000]
  | 2, _ => simp [Instr.index, run_underlying hu, asIntOf, go_sem, tabC777000000]
  | 3, _ => simp [Instr.index, run_underlying hu, asIntOf, go_sem, tabC777000000]
  | 4, _ => simp [Instr.index, run_underlying hu, asIntOf, go_sem, tabC777000000]
  | 5, _ => simp [Instr.index, run_underlying hu, asIntOf, go_sem, tabC777000000]
  | 6, _ => simp [Instr.index, run_underlying hu, asIntOf, go_sem, tabC777000000]
  | 7, _ => simp [Instr.index, run_underlying hu, asIntOf, go_sem, tabC777000000]
  | 8, _ => simp [Instr.index, run_underlying hu, asIntOf, go_sem, tabC777000000]
  | 9, _ => simp [Instr.index, run_underlying hu, asIntOf, go_sem, tabC777000000]
  | 10, _ => simp [Instr.index, run_underlying hu, asIntOf, go_sem, tabC777000000]
  | n + 11, h2 => omega
mutual
def sackbutlaw05_RowsKnown.j0 : Nat → Int → Int → Int → Bool → Option (Bool)
  | 0, _, _, _, _ => none
  | k + 1, x0, x3, x4, x25 => if x25 = true then (if x4 = 2 then ((sackbutlaw05_awake.f k).bind fun t1003 => (some t1003)) else (some false)) else (if 0 ≤ x0 ∧ x0 < 11 then (if x3 = (tabC777000000 x0) then ((rows_First.f x0).bind fun bt1004 => (if ((bt1004.2 == 0) != (decide (x3 > 0))) = true then (sackbutlaw05_RowsKnown.j1 k x0 x3 bt1004.1 true) else (if bt1004.2 = 0 then (sackbutlaw05_RowsKnown.j1 k x0 x3 bt1004.1 false) else (sackbutlaw05_RowsKnown.j1 k x0 x3 bt1004.1 (bt1004.2 != 4))))) else (some false)) else (none))
def sackbutlaw05_RowsKnown.j1 : Nat → Int → Int → List Int → Bool → Option (Bool)
  | 0, _, _, _, _ => none
  | k + 1, x0, x3, x5, x53 => if x53 = true then (some false) else ((rows_List.f x0).bind fun bt1008 => (if bt1008.2 = 0 then (if (bt1008.1.length : Int) = x3 then (if x3 > 0 then (if 0 < (bt1008.1.length : Int) then ((slices_Equal_int_int.f k (rd_L1 bt1008.1 0) x5).bind fun t1014 => (sackbutlaw05_RowsKnown.j2 k x0 bt1008.1 (!t1014))) else (none)) else (sackbutlaw05_RowsKnown.j2 k x0 bt1008.1 false)) else (sackbutlaw05_RowsKnown.j2 k x0 bt1008.1 true)) else (if bt1008.2 = 2 then (if x0 > 8 then ((sackbutlaw05_awake.f k).bind fun t1012 => (some t1012)) else (some false)) else (some false))))
def sackbutlaw05_RowsKnown.j2 : Nat → Int → List (List Int) → Bool → Option (Bool)
  | 0, _, _, _ => none
  | k + 1, x0, x7, x85 => if x85 = true then (some false) else (sackbutlaw05_RowsKnown.l0 k x0 x7 (x7.length : Int) 0)
def sackbutlaw05_RowsKnown.l0 : Nat → Int → List (List Int) → Int → Int → Option (Bool)
  | 0, _, _, _, _ => none
  | k + 1, x0, x7, x87, x88 => if x88 < x87 then (if 0 ≤ x88 then (if x88 < (x7.length : Int) then ((sackbutref05_Row.f k (rd_L1 x7 x88)).bind fun t1017 => (if t1017 = true then (if ((rd_L1 x7 x88).length : Int) = x0 then ((sackbutref05_Every.f k (rd_L1 x7 x88) x0).bind fun t1018 => (if t1018 = true then (if 0 < ((rd_L1 x7 x88).length : Int) then (if (rd (rd_L1 x7 x88) 0) = 0 then (if 0 ≤ (wrap64 (x0 - 1)) then (if (wrap64 (x0 - 1)) < ((rd_L1 x7 x88).length : Int) then (if (wrap64 (2 * (rd (rd_L1 x7 x88) (wrap64 (x0 - 1))))) = x0 then (if x88 > 0 then (if 0 ≤ (wrap64 (x88 - 1)) then (if (wrap64 (x88 - 1)) < (x7.length : Int) then ((slices_Compare_int_int.f k (rd_L1 x7 (wrap64 (x88 - 1))) (rd_L1 x7 x88)).bind fun t1022 => (if t1022 ≥ 0 then (some false) else (sackbutlaw05_RowsKnown.l0 k x0 x7 x87 (wrap64 (x88 + 1))))) else (none)) else (none)) else (sackbutlaw05_RowsKnown.l0 k x0 x7 x87 (wrap64 (x88 + 1)))) else (some false)) else (none)) else (none)) else (some false)) else (none)) else (some false))) else (some false)) else (some false))) else (none)) else (none)) else ((sackbutlaw05_awake.f k).bind fun t1015 => (some t1015))
end
def sackbutlaw05_RowsKnown.f (k : Nat) (a0 : Int) : Option (Bool) := (rows_Count.f a0).bind fun bt1001 => (if bt1001.2 = 0 then (if a0 < 2 then (sackbutlaw05_RowsKnown.j0 k a0 bt1001.1 bt1001.2 true) else (sackbutlaw05_RowsKnown.j0 k a0 bt1001.1 bt1001.2 (decide (a0 > 10)))) else (sackbutlaw05_RowsKnown.j0 k a0 bt1001.1 bt1001.2 true))
theorem sackbutlaw05_RowsKnown.mono_l : ∀ k, (∀ y0 y1 y2 y3, LeO (sackbutlaw05_RowsKnown.j0 k y0 y1 y2 y3) (sackbutlaw05_RowsKnown.j0 (k + 1) y0 y1 y2 y3)) ∧ (∀ y0 y1 y2 y3, LeO (sackbutlaw05_RowsKnown.j1 k y0 y1 y2 y3) (sackbutlaw05_RowsKnown.j1 (k + 1) y0 y1 y2 y3)) ∧ (∀ y0 y1 y2, LeO (sackbutlaw05_RowsKnown.j2 k y0 y1 y2) (sackbutlaw05_RowsKnown.j2 (k + 1) y0 y1 y2)) ∧ (∀ y0 y1 y2 y3, LeO (sackbutlaw05_RowsKnown.l0 k y0 y1 y2 y3) (sackbutlaw05_RowsKnown.l0 (k + 1) y0 y1 y2 y3))
  | 0 => ⟨fun _ _ _ _ r h => by simp [sackbutlaw05_RowsKnown.j0] at h, fun _ _ _ _ r h => by simp [sackbutlaw05_RowsKnown.j1] at h, fun _ _ _ r h => by simp [sackbutlaw05_RowsKnown.j2] at h, fun _ _ _ _ r h => by simp [sackbutlaw05_RowsKnown.l0] at h⟩
  | k + 1 => by
    obtain ⟨ih0, ih1, ih2, ih3⟩ := sackbutlaw05_RowsKnown.mono_l k
    refine ⟨?_, ?_, ?_, ?_⟩
    · intro y0 y1 y2 y3
      unfold sackbutlaw05_RowsKnown.j0
      repeat' first
      | (with_reducible exact ih0 _ _ _ _)
      | (with_reducible exact ih1 _ _ _ _)
      | (with_reducible exact ih2 _ _ _)
      | (with_reducible exact ih3 _ _ _ _)
      | (with_reducible exact sackbutlaw05_awake.mono _)
      | (with_reducible exact sackbutref05_Every.mono _ _ _)
      | (with_reducible exact sackbutref05_Row.mono _ _)
      | (with_reducible exact slices_Compare_int_int.mono _ _ _)
      | (with_reducible exact slices_Equal_int_int.mono _ _ _)
      | (with_reducible exact LeO.refl _)
      | (with_reducible exact LeO.none _)
      | (with_reducible refine LeO.ite ?_ ?_)
      | (with_reducible refine LeO.bind ?_ (fun _ => ?_))
      | exact ih0 _ _ _ _
      | exact ih1 _ _ _ _
      | exact ih2 _ _ _
      | exact ih3 _ _ _ _
      | exact sackbutlaw05_awake.mono _
      | exact sackbutref05_Every.mono _ _ _
      | exact sackbutref05_Row.mono _ _
      | exact slices_Compare_int_int.mono _ _ _
      | exact slices_Equal_int_int.mono _ _ _
      | exact LeO.none _
      | refine LeO.ite ?_ ?_
      | refine LeO.bind ?_ (fun _ => ?_)
    · intro y0 y1 y2 y3
      unfold sackbutlaw05_RowsKnown.j1
      repeat' first
      | (with_reducible exact ih0 _ _ _ _)
      | (with_reducible exact ih1 _ _ _ _)
      | (with_reducible exact ih2 _ _ _)
      | (with_reducible exact ih3 _ _ _ _)
      | (with_reducible exact sackbutlaw05_awake.mono _)
      | (with_reducible exact sackbutref05_Every.mono _ _ _)
      | (with_reducible exact sackbutref05_Row.mono _ _)
      | (with_reducible exact slices_Compare_int_int.mono _ _ _)
      | (with_reducible exact slices_Equal_int_int.mono _ _ _)
      | (with_reducible exact LeO.refl _)
      | (with_reducible exact LeO.none _)
      | (with_reducible refine LeO.ite ?_ ?_)
      | (with_reducible refine LeO.bind ?_ (fun _ => ?_))
      | exact ih0 _ _ _ _
      | exact ih1 _ _ _ _
      | exact ih2 _ _ _
      | exact ih3 _ _ _ _
      | exact sackbutlaw05_awake.mono _
      | exact sackbutref05_Every.mono _ _ _
      | exact sackbutref05_Row.mono _ _
      | exact slices_Compare_int_int.mono _ _ _
      | exact slices_Equal_int_int.mono _ _ _
      | exact LeO.none _
      | refine LeO.ite ?_ ?_
      | refine LeO.bind ?_ (fun _ => ?_)
    · intro y0 y1 y2
      unfold sackbutlaw05_RowsKnown.j2
      repeat' first
      | (with_reducible exact ih0 _ _ _ _)
      | (with_reducible exact ih1 _ _ _ _)
      | (with_reducible exact ih2 _ _ _)
      | (with_reducible exact ih3 _ _ _ _)
      | (with_reducible exact sackbutlaw05_awake.mono _)
      | (with_reducible exact sackbutref05_Every.mono _ _ _)
      | (with_reducible exact sackbutref05_Row.mono _ _)
      | (with_reducible exact slices_Compare_int_int.mono _ _ _)
      | (with_reducible exact slices_Equal_int_int.mono _ _ _)
      | (with_reducible exact LeO.refl _)
      | (with_reducible exact LeO.none _)
      | (with_reducible refine LeO.ite ?_ ?_)
      | (with_reducible refine LeO.bind ?_ (fun _ => ?_))
      | exact ih0 _ _ _ _
      | exact ih1 _ _ _ _
      | exact ih2 _ _ _
      | exact ih3 _ _ _ _
      | exact sackbutlaw05_awake.mono _
      | exact sackbutref05_Every.mono _ _ _
      | exact sackbutref05_Row.mono _ _
      | exact slices_Compare_int_int.mono _ _ _
      | exact slices_Equal_int_int.mono _ _ _
      | exact LeO.none _
      | refine LeO.ite ?_ ?_
      | refine LeO.bind ?_ (fun _ => ?_)
    · intro y0 y1 y2 y3
      unfold sackbutlaw05_RowsKnown.l0
      repeat' first
      | (with_reducible exact ih0 _ _ _ _)
      | (with_reducible exact ih1 _ _ _ _)
      | (with_reducible exact ih2 _ _ _)
      | (with_reducible exact ih3 _ _ _ _)
      | (with_reducible exact sackbutlaw05_awake.mono _)
      | (with_reducible exact sackbutref05_Every.mono _ _ _)
      | (with_reducible exact sackbutref05_Row.mono _ _)
      | (with_reducible exact slices_Compare_int_int.mono _ _ _)
      | (with_reducible exact slices_Equal_int_int.mono _ _ _)
      | (with_reducible exact LeO.refl _)
      | (with_reducible exact LeO.none _)
      | (with_reducible refine LeO.ite ?_ ?_)
      | (with_reducible refine LeO.bind ?_ (fun _ => ?_))
      | exact ih0 _ _ _ _
      | exact ih1 _ _ _ _
      | exact ih2 _ _ _
      | exact ih3 _ _ _ _
      | exact sackbutlaw05_awake.mono _
      | exact sackbutref05_Every.mono _ _ _
      | exact sackbutref05_Row.mono _ _
      | exact slices_Compare_int_int.mono _ _ _
      | exact slices_Equal_int_int.mono _ _ _
      | exact LeO.none _
      | refine LeO.ite ?_ ?_
      | refine LeO.bind ?_ (fun _ => ?_)
theorem sackbutlaw05_RowsKnown.mono : ∀ a0 k, LeO (sackbutlaw05_RowsKnown.f k a0) (sackbutlaw05_RowsKnown.f (k + 1) a0) := by
  intro a0 k
  obtain ⟨ih0, ih1, ih2, ih3⟩ := sackbutlaw05_RowsKnown.mono_l k
  unfold sackbutlaw05_RowsKnown.f
  repeat' first
      | (with_reducible exact ih0 _ _ _ _)
      | (with_reducible exact ih1 _ _ _ _)
      | (with_reducible exact ih2 _ _ _)
      | (with_reducible exact ih3 _ _ _ _)
      | (with_reducible exact sackbutlaw05_awake.mono _)
      | (with_reducible exact sackbutref05_Every.mono _ _ _)
      | (with_reducible exact sackbutref05_Row.mono _ _)
      | (with_reducible exact slices_Compare_int_int.mono _ _ _)
      | (with_reducible exact slices_Equal_int_int.mono _ _ _)
      | (with_reducible exact LeO.refl _)
      | (with_reducible exact LeO.none _)
      | (with_reducible refine LeO.ite ?_ ?_)
      | (with_reducible refine LeO.bind ?_ (fun _ => ?_))
      | exact ih0 _ _ _ _
      | exact ih1 _ _ _ _
      | exact ih2 _ _ _
      | exact ih3 _ _ _ _
      | exact sackbutlaw05_awake.mono _
      | exact sackbutref05_Every.mono _ _ _
      | exact sackbutref05_Row.mono _ _
      | exact slices_Compare_int_int.mono _ _ _
      | exact slices_Equal_int_int.mono _ _ _
      | exact LeO.none _
      | refine LeO.ite ?_ ?_
      | refine LeO.bind ?_ (fun _ => ?_)
set_option maxHeartbeats 60000000 in
set_option maxRecDepth 100000 in
theorem sackbutlaw05_RowsKnown.calls (k : Nat) (a0 : Int) (r : Bool) (w : World) (h : sackbutlaw05_RowsKnown.f k a0 = some r) (hr0 : r = true) :
    Calls Try.prog 3 #[.int .i64 a0] w fun e w' => e = .returned (.bool r) ∧ Below w.heap.size w w' := by
  have hr := Aside0.mk hr0
  clear hr0
  have HB := Aside0.mk (Below.refl w.heap.size w)
  have H : ((rows_Count.f a0).bind fun bt1001 => (if bt1001.2 = 0 then (if a0 < 2 then (sackbutlaw05_RowsKnown.j0 k a0 bt1001.1 bt1001.2 true) else (sackbutlaw05_RowsKnown.j0 k a0 bt1001.1 bt1001.2 (decide (a0 > 10)))) else (sackbutlaw05_RowsKnown.j0 k a0 bt1001.1 bt1001.2 true))) = some r := h
  clear h
  replace H := Option.bind_eq_some_iff.mp H
  obtain ⟨⟨t1001, t1002⟩, A20, H⟩ := H
  replace H : (if t1002 = 0 then (if a0 < 2 then (sackbutlaw05_RowsKnown.j0 k a0 t1001 t1002 true) else (sackbutlaw05_RowsKnown.j0 k a0 t1001 t1002 (decide (a0 > 10)))) else (sackbutlaw05_RowsKnown.j0 k a0 t1001 t1002 true)) = some r := H
  have A2 := Aside0.mk A20
  clear A20
  have HC3 := Aside0.mk H
  clear H
  go_enter Try.func3, Try.ntmps3
  go_upto_region 2 with (first | ((with_reducible refine gate_callee (f := 7) rfl ?_); refine goesL_ (some 13) rfl rfl Try.func7 (by kernel_rfl) rfl #[.int .i64 a0] rfl (by (try simp only [List.map_toArray, List.map_cons, List.map_nil]); first | done | rfl | (simp only [List.length_drop, List.length_take]; rfl)) ?_; (with_reducible refine (rows_Count.calls a0 t1001 t1002 _ A2.out).mono ?_); rintro e w4 ⟨rfl, hb⟩; refine ⟨_, rfl, ?_⟩; have n0_ := Aside0.mk (below_step (by repeat (first | (with_reducible first | exact HB.out | apply below_alloc | apply pw_below_drewN | apply below_drew1) | exact HB.out)) hb); clear HB; have HB := n0_; clear n0_; (try clear hb); (try clear hb2); (try clear hk); (try clear hi)))
  (try simp only [Act.put, List.setIfInBounds_toArray, List.set_cons_zero, List.set_cons_succ])
  go_cut [25] (fun v25 wc => ∃ (kq : Nat) (x25_2 : Bool), v25 = .bool x25_2 ∧ Aside0 (sackbutlaw05_RowsKnown.j0 kq a0 t1001 t1002 x25_2 = some r) ∧ Aside0 (kq ≤ k) ∧ Aside0 (Below w.heap.size w wc))
  case first =>
    have H := HC3.out
    clear HC3
    by_cases c5 : t1002 = 0
    · rw [if_pos c5] at H
      have c5b0 : (t1002 == 0) = true := beq_iff_eq.mpr c5
      have c5b1 : (t1002 != 0) = false := bne_eq_false_iff_eq.mpr c5
      clear c5
      (first | rw [c5b0] | (simp only [i64_w, i32_w]; rw [c5b0]) | skip)
      by_cases c6 : a0 < 2
      · rw [if_pos c6] at H
        have c6b0 : decide (a0 < 2) = true := decide_eq_true c6
        clear c6
        have H' := Aside0.mk H
        clear H
        go_wp2
        go_meet
        case rel => exact ⟨_, (true), (by first | rfl | (simp; done) | (simp [*]; done)), H', ⟨by first | omega | exact Nat.le_refl _⟩, ⟨by repeat (first | (with_reducible first | exact HB.out | apply below_alloc | apply pw_below_drewN | apply below_drew1) | exact HB.out)⟩⟩
      · rw [if_neg c6] at H
        have c6b0 : decide (a0 < 2) = false := decide_eq_false c6
        clear c6
        have H' := Aside0.mk H
        clear H
        go_wp2
        go_meet
        case rel => exact ⟨_, (decide (a0 > 10)), (by first | rfl | (simp; done) | (simp [*]; done)), H', ⟨by first | omega | exact Nat.le_refl _⟩, ⟨by repeat (first | (with_reducible first | exact HB.out | apply below_alloc | apply pw_below_drewN | apply below_drew1) | exact HB.out)⟩⟩
    · rw [if_neg c5] at H
      have c5b0 : (t1002 == 0) = false := beq_eq_false_iff_ne.mpr c5
      have c5b1 : (t1002 != 0) = true := bne_iff_ne.mpr c5
      (first | rw [c5b0] | (simp only [i64_w, i32_w]; rw [c5b0]) | skip)
      have H' := Aside0.mk H
      clear H
      go_wp2
      go_meet
      case rel => exact ⟨_, (true), (by first | rfl | (simp; done) | (simp [*]; done)), H', ⟨by first | omega | exact Nat.le_refl _⟩, ⟨by repeat (first | (with_reducible first | exact HB.out | apply below_alloc | apply pw_below_drewN | apply below_drew1) | exact HB.out)⟩⟩
  case rest =>
    clear HC3
    try clear p2
    try clear c3
    try clear c5
    try clear c5b0
    try clear c5b1
    try clear c6
    try clear c6b0
    obtain ⟨kq, x25_2, rfl, HA, HJ2, HB⟩ := hcut
    cases kq with
    | zero => exact absurd HA.out (by simp [sackbutlaw05_RowsKnown.j0])
    | succ kj2 =>
      have H := HA.out
      clear HA
      simp only [sackbutlaw05_RowsKnown.j0] at H
      by_cases c7 : x25_2 = true
      · subst c7
        have H1 : (if t1002 = 2 then ((sackbutlaw05_awake.f kj2).bind fun t1003 => (some t1003)) else (some false)) = some r := by rw [if_pos rfl] at H; exact H
        clear H
        have H := H1
        clear H1
        by_cases c8 : t1002 = 2
        · rw [if_pos c8] at H
          have c8b0 : (t1002 == 2) = true := beq_iff_eq.mpr c8
          have c8b1 : (t1002 != 2) = false := bne_eq_false_iff_eq.mpr c8
          clear c8
          replace H := Option.bind_eq_some_iff.mp H
          obtain ⟨t1003, A90, H⟩ := H
          replace H : (some t1003) = some r := H
          have A9 := Aside0.mk A90
          clear A90
          obtain rfl := Option.some.inj H
          first
          | exact absurd hr.out Bool.false_ne_true
          | go_wp2_with (first | (go_at_call 8; (with_reducible refine (sackbutlaw05_awake.calls kj2  t1003 _ A9.out).mono ?_); rintro e w10 ⟨rfl, hb⟩; have n0_ := Aside0.mk (below_step (by repeat (first | (with_reducible first | exact HB.out | apply below_alloc | apply pw_below_drewN | apply below_drew1) | exact HB.out)) hb); clear HB; have HB := n0_; clear n0_; (try clear hb); (try clear hb2); (try clear hk); (try clear hi)))
            go_ret
            exact ⟨by first | rfl | (simp [errW_none, errW_some] <;> rfl) | (simp [*, errW_none, errW_some] <;> rfl), by repeat (first | (with_reducible first | exact HB.out | apply below_alloc | apply pw_below_drewN | apply below_drew1) | exact HB.out)⟩
        · rw [if_neg c8] at H
          have c8b0 : (t1002 == 2) = false := beq_eq_false_iff_ne.mpr c8
          have c8b1 : (t1002 != 2) = true := bne_iff_ne.mpr c8
          obtain rfl := Option.some.inj H
          first
          | exact absurd hr.out Bool.false_ne_true
          | go_wp2
            go_ret
            exact ⟨by first | rfl | (simp [errW_none, errW_some] <;> rfl) | (simp [*, errW_none, errW_some] <;> rfl), by repeat (first | (with_reducible first | exact HB.out | apply below_alloc | apply pw_below_drewN | apply below_drew1) | exact HB.out)⟩
      · replace c7 := Bool.eq_false_iff.mpr c7
        subst c7
        have H1 : (if 0 ≤ a0 ∧ a0 < 11 then (if t1001 = (tabC777000000 a0) then ((rows_First.f a0).bind fun bt1004 => (if ((bt1004.2 == 0) != (decide (t1001 > 0))) = true then (sackbutlaw05_RowsKnown.j1 kj2 a0 t1001 bt1004.1 true) else (if bt1004.2 = 0 then (sackbutlaw05_RowsKnown.j1 kj2 a0 t1001 bt1004.1 false) else (sackbutlaw05_RowsKnown.j1 kj2 a0 t1001 bt1004.1 (bt1004.2 != 4))))) else (some false)) else (none)) = some r := by rw [if_neg (show ¬ (false = true) by decide)] at H; exact H
        clear H
        have H := H1
        clear H1
        by_cases htb : 0 ≤ a0 ∧ a0 < 11
        rotate_left
        · rw [if_neg htb] at H; cases H
        rw [if_pos htb] at H
        have hidx := tabC777000000_run a0 htb
        by_cases c11 : t1001 = (tabC777000000 a0)
        · rw [if_pos c11] at H
          have c11b0 : (t1001 == (tabC777000000 a0)) = true := beq_iff_eq.mpr c11
          have c11b1 : (t1001 != (tabC777000000 a0)) = false := bne_eq_false_iff_eq.mpr c11
          clear c11
          replace H := Option.bind_eq_some_iff.mp H
          obtain ⟨⟨t1004, t1005⟩, A120, H⟩ := H
          replace H : (if ((t1005 == 0) != (decide (t1001 > 0))) = true then (sackbutlaw05_RowsKnown.j1 kj2 a0 t1001 t1004 true) else (if t1005 = 0 then (sackbutlaw05_RowsKnown.j1 kj2 a0 t1001 t1004 false) else (sackbutlaw05_RowsKnown.j1 kj2 a0 t1001 t1004 (t1005 != 4)))) = some r := H
          have A12 := Aside0.mk A120
          clear A120
          have HC13 := Aside0.mk H
          clear H
          go_upto_region 7 with (first | ((with_reducible refine gate_callee (f := 9) rfl ?_); refine goesL_ (some 38) rfl rfl Try.func9 (by kernel_rfl) rfl #[.int .i64 a0] rfl (by (try simp only [List.map_toArray, List.map_cons, List.map_nil]); first | done | rfl | (simp only [List.length_drop, List.length_take]; rfl)) ?_; (with_reducible refine (rows_First.calls a0 t1004 t1005 _ A12.out).mono ?_); rintro e w14 ⟨v1006, rfl, ho0, hb⟩; refine ⟨_, rfl, ?_⟩; have n0_ := Aside0.mk (Kd.R_lower ho0 (below_size (by repeat (first | (with_reducible first | exact HB.out | apply below_alloc | apply pw_below_drewN | apply below_drew1) | exact HB.out)))); have n1_ := Aside0.mk (below_step (by repeat (first | (with_reducible first | exact HB.out | apply below_alloc | apply pw_below_drewN | apply below_drew1) | exact HB.out)) hb); clear HB; have HO1007 := n0_; have HB := n1_; clear n0_ n1_; (try clear hb); (try clear hb2); (try clear hk); (try clear hi); (try clear ho0)))
          (try simp only [Act.put, List.setIfInBounds_toArray, List.set_cons_zero, List.set_cons_succ])
          (try clear hidx)
          go_cut [53] (fun v53 wc => ∃ (kq : Nat) (x53_12 : Bool), v53 = .bool x53_12 ∧ Aside0 (sackbutlaw05_RowsKnown.j1 kq a0 t1001 t1004 x53_12 = some r) ∧ Aside0 (kq ≤ kj2) ∧ Aside0 (Kd.R (Kd.int .i64) 3 wc w.heap.size (fun _ => True) v1006 t1004) ∧ Aside0 (Below w.heap.size w wc))
          case first =>
            have H := HC13.out
            clear HC13
            by_cases c15 : ((t1005 == 0) != (decide (t1001 > 0))) = true
            · rw [if_pos c15] at H
              have c15b0 : ((t1005 == 0) != (decide (t1001 > 0))) = true := c15
              clear c15
              have H' := Aside0.mk H
              clear H
              have c15s : ((t1005 == 0) = true ∧ decide (t1001 > 0) = false) ∨ ((t1005 == 0) = false ∧ decide (t1001 > 0) = true) := by revert c15b0; cases (t1005 == 0) <;> cases decide (t1001 > 0) <;> simp
              clear c15b0
              rcases c15s with ⟨c15p, c15q⟩ | ⟨c15p, c15q⟩
              · go_wp2
                go_meet
                case rel => exact ⟨_, (true), (by first | rfl | (simp; done) | (simp [*]; done)), H', ⟨by have := HJ2.out; first | omega | exact Nat.le_refl _⟩, ⟨by (with_reducible repeat (first | apply Kd.R_alloc | apply Kd.R_drewN | apply Kd.R_drew)); exact HO1007.out⟩, ⟨by repeat (first | (with_reducible first | exact HB.out | apply below_alloc | apply pw_below_drewN | apply below_drew1) | exact HB.out)⟩⟩
              · go_wp2
                go_meet
                case rel => exact ⟨_, (true), (by first | rfl | (simp; done) | (simp [*]; done)), H', ⟨by have := HJ2.out; first | omega | exact Nat.le_refl _⟩, ⟨by (with_reducible repeat (first | apply Kd.R_alloc | apply Kd.R_drewN | apply Kd.R_drew)); exact HO1007.out⟩, ⟨by repeat (first | (with_reducible first | exact HB.out | apply below_alloc | apply pw_below_drewN | apply below_drew1) | exact HB.out)⟩⟩
            · rw [if_neg c15] at H
              have c15b0 : ((t1005 == 0) != (decide (t1001 > 0))) = false := by simpa using c15
              clear c15
              by_cases c16 : t1005 = 0
              · rw [if_pos c16] at H
                have c16b0 : (t1005 == 0) = true := beq_iff_eq.mpr c16
                have c16b1 : (t1005 != 0) = false := bne_eq_false_iff_eq.mpr c16
                have c15q : decide (t1001 > 0) = true := by rw [c16b0] at c15b0; revert c15b0; cases decide (t1001 > 0) <;> simp
                clear c15b0
                clear c16
                have H' := Aside0.mk H
                clear H
                go_wp2
                go_meet
                case rel => exact ⟨_, (false), (by first | rfl | (simp; done) | (simp [*]; done)), H', ⟨by have := HJ2.out; first | omega | exact Nat.le_refl _⟩, ⟨by (with_reducible repeat (first | apply Kd.R_alloc | apply Kd.R_drewN | apply Kd.R_drew)); exact HO1007.out⟩, ⟨by repeat (first | (with_reducible first | exact HB.out | apply below_alloc | apply pw_below_drewN | apply below_drew1) | exact HB.out)⟩⟩
              · rw [if_neg c16] at H
                have c16b0 : (t1005 == 0) = false := beq_eq_false_iff_ne.mpr c16
                have c16b1 : (t1005 != 0) = true := bne_iff_ne.mpr c16
                have c15q : decide (t1001 > 0) = false := by rw [c16b0] at c15b0; revert c15b0; cases decide (t1001 > 0) <;> simp
                clear c15b0
                have H' := Aside0.mk H
                clear H
                go_wp2
                go_meet
                case rel => exact ⟨_, ((t1005 != 4)), (by first | rfl | (simp; done) | (simp [*]; done)), H', ⟨by have := HJ2.out; first | omega | exact Nat.le_refl _⟩, ⟨by (with_reducible repeat (first | apply Kd.R_alloc | apply Kd.R_drewN | apply Kd.R_drew)); exact HO1007.out⟩, ⟨by repeat (first | (with_reducible first | exact HB.out | apply below_alloc | apply pw_below_drewN | apply below_drew1) | exact HB.out)⟩⟩
          case rest =>
            clear HC13
            try clear c1
            try clear p2
            try clear c3
            try clear c5
            try clear c5b0
            try clear c5b1
            try clear c6
            try clear c6b0
            try clear p6
            try clear c7
            try clear c8
            try clear c8b0
            try clear c8b1
            try clear c9
            try clear c11
            try clear c11b0
            try clear c11b1
            try clear c15
            try clear c15p
            try clear c15q
            try clear c15b0
            try clear c15b1
            try clear c15b2
            try clear c16
            try clear c16b0
            try clear c16b1
            try clear p2
            obtain ⟨kq, x53_12, rfl, HA, HJ12, HO_5, HB⟩ := hcut
            cases kq with
            | zero => exact absurd HA.out (by simp [sackbutlaw05_RowsKnown.j1])
            | succ kj12 =>
              have H := HA.out
              clear HA
              simp only [sackbutlaw05_RowsKnown.j1] at H
              by_cases c17 : x53_12 = true
              · subst c17
                have H1 : (some false) = some r := by rw [if_pos rfl] at H; exact H
                clear H
                have H := H1
                clear H1
                obtain rfl := Option.some.inj H
                first
                | exact absurd hr.out Bool.false_ne_true
                | go_wp2
                  go_ret
                  exact ⟨by first | rfl | (simp [errW_none, errW_some] <;> rfl) | (simp [*, errW_none, errW_some] <;> rfl), by repeat (first | (with_reducible first | exact HB.out | apply below_alloc | apply pw_below_drewN | apply below_drew1) | exact HB.out)⟩
              · replace c17 := Bool.eq_false_iff.mpr c17
                subst c17
                have H1 : ((rows_List.f a0).bind fun bt1008 => (if bt1008.2 = 0 then (if (bt1008.1.length : Int) = t1001 then (if t1001 > 0 then (if 0 < (bt1008.1.length : Int) then ((slices_Equal_int_int.f kj12 (rd_L1 bt1008.1 0) t1004).bind fun t1014 => (sackbutlaw05_RowsKnown.j2 kj12 a0 bt1008.1 (!t1014))) else (none)) else (sackbutlaw05_RowsKnown.j2 kj12 a0 bt1008.1 false)) else (sackbutlaw05_RowsKnown.j2 kj12 a0 bt1008.1 true)) else (if bt1008.2 = 2 then (if a0 > 8 then ((sackbutlaw05_awake.f kj12).bind fun t1012 => (some t1012)) else (some false)) else (some false)))) = some r := by rw [if_neg (show ¬ (false = true) by decide)] at H; exact H
                clear H
                have H := H1
                clear H1
                replace H := Option.bind_eq_some_iff.mp H
                obtain ⟨⟨t1008, t1009⟩, A180, H⟩ := H
                replace H : (if t1009 = 0 then (if (t1008.length : Int) = t1001 then (if t1001 > 0 then (if 0 < (t1008.length : Int) then ((slices_Equal_int_int.f kj12 (rd_L1 t1008 0) t1004).bind fun t1014 => (sackbutlaw05_RowsKnown.j2 kj12 a0 t1008 (!t1014))) else (none)) else (sackbutlaw05_RowsKnown.j2 kj12 a0 t1008 false)) else (sackbutlaw05_RowsKnown.j2 kj12 a0 t1008 true)) else (if t1009 = 2 then (if a0 > 8 then ((sackbutlaw05_awake.f kj12).bind fun t1012 => (some t1012)) else (some false)) else (some false))) = some r := H
                have A18 := Aside0.mk A180
                clear A180
                by_cases c19 : t1009 = 0
                · rw [if_pos c19] at H
                  have c19b0 : (t1009 == 0) = true := beq_iff_eq.mpr c19
                  have c19b1 : (t1009 != 0) = false := bne_eq_false_iff_eq.mpr c19
                  clear c19
                  have HC20 := Aside0.mk H
                  clear H
                  go_upto_region 12 with (first | ((with_reducible refine gate_callee (f := 10) rfl ?_); refine goesL_ (some 56) rfl rfl Try.func10 (by kernel_rfl) rfl #[.int .i64 a0] rfl (by (try simp only [List.map_toArray, List.map_cons, List.map_nil]); first | done | rfl | (simp only [List.length_drop, List.length_take]; rfl)) ?_; (with_reducible refine (rows_List.calls a0 t1008 t1009 _ A18.out).mono ?_); rintro e w21 ⟨v1010, rfl, ho0, hb⟩; refine ⟨_, rfl, ?_⟩; have n0_ := Aside0.mk (Kd.R_below (by (with_reducible repeat (first | apply Kd.R_alloc | apply Kd.R_drewN | apply Kd.R_drew)); exact HO_5.out) hb); have n1_ := Aside0.mk (Kd.S_lower (Kd.S_new' ho0 (Kd.R_lt (by (with_reducible repeat (first | apply Kd.R_alloc | apply Kd.R_drewN | apply Kd.R_drew)); exact HO_5.out))) (below_size (by repeat (first | (with_reducible first | exact HB.out | apply below_alloc | apply pw_below_drewN | apply below_drew1) | exact HB.out)))); have n2_ := Aside0.mk (below_step (by repeat (first | (with_reducible first | exact HB.out | apply below_alloc | apply pw_below_drewN | apply below_drew1) | exact HB.out)) hb); clear HO_5; clear HB; have HO_5 := n0_; have HO1011 := n1_; have HB := n2_; clear n0_ n1_ n2_; (try clear hb); (try clear hb2); (try clear hk); (try clear hi); (try clear ho0)))
                  (try simp only [Act.put, List.setIfInBounds_toArray, List.set_cons_zero, List.set_cons_succ])
                  go_cut [85] (fun v85 wc => ∃ (kq : Nat) (x85_19 : Bool), v85 = .bool x85_19 ∧ Aside0 (sackbutlaw05_RowsKnown.j2 kq a0 t1008 x85_19 = some r) ∧ Aside0 (kq ≤ kj12) ∧ Aside0 (Kd.S (Kd.slice 3 (Kd.int .i64)) 27 wc w.heap.size (fun _ => True) v1010 t1008) ∧ Aside0 (Below w.heap.size w wc))
                  case first =>
                    have H := HC20.out
                    clear HC20
                    by_cases c22 : (t1008.length : Int) = t1001
                    · rw [if_pos c22] at H
                      have c22b0 : ((t1008.length : Int) == t1001) = true := beq_iff_eq.mpr c22
                      have c22b1 : ((t1008.length : Int) != t1001) = false := bne_eq_false_iff_eq.mpr c22
                      clear c22
                      (first | rw [c22b0] | (simp only [i64_w, i32_w]; rw [c22b0]) | skip)
                      by_cases c23 : t1001 > 0
                      · rw [if_pos c23] at H
                        have c23b0 : decide (0 < t1001) = true := decide_eq_true c23
                        clear c23
                        by_cases c24 : 0 < (t1008.length : Int)
                        · rw [if_pos c24] at H
                          have c24b0 : decide (0 < (t1008.length : Int)) = true := decide_eq_true c24
                          have c24b1 : decide (0 < t1008.length) = true := decide_eq_true (by omega)
                          clear c24
                          replace H := Option.bind_eq_some_iff.mp H
                          obtain ⟨t1014, A250, H⟩ := H
                          replace H : (sackbutlaw05_RowsKnown.j2 kj12 a0 t1008 (!t1014)) = some r := H
                          have A25 := Aside0.mk A250
                          clear A250
                          have H' := Aside0.mk H
                          clear H
                          obtain ⟨Ao26, co26, eo26⟩ := Kd.S_slice HO1011.out
                          subst eo26
                          have p1013 : 0 ≤ (0 : Int) := (by omega)
                          have q1013 : 0 < (t1008.length : Int) := of_decide_eq_true (by first | (with_reducible assumption) | assumption)
                          obtain ⟨ad1013, A1013_0, c1013_0, e1013, hx1013_0, hl1013_0, hi1013_0⟩ := at_L1 (Kd.S_reads' HO1011.out).2.2 0 p1013 q1013
                          cases e1013
                          obtain ⟨ce1013, hce1013, hMe1013, hcc1013⟩ := Kd.S_get HO1011.out [] 0 p1013 (by first | exact q1013 | exact of_decide_eq_true (by first | (with_reducible assumption) | assumption) | (have e_ := (Kd.S_reads' HO1011.out).1; omega))
                          obtain ⟨ve1013_0, rfl, ge1013_0⟩ := hMe1013
                          have hv1013_0 := hcc1013 0 _ rfl
                          rw [Nat.add_zero, show ((Kd.slice 3 (Kd.int .i64))).sz = 1 from rfl, Nat.mul_one] at hv1013_0
                          replace hv1013_0 := Option.some.inj (hv1013_0.symm.trans hx1013_0)
                          rw [hv1013_0] at ge1013_0
                          have HL1013_0 := Aside0.mk (show Kd.R (Kd.int .i64) 3 _ _ _ _ (rd_L1 t1008 0) from ge1013_0)
                          clear hv1013_0 ge1013_0
                          clear hcc1013 hce1013
                          have qi1013 : (0 < t1008.length) = True := eq_true (by omega)
                          (try rw [show ((0 : Int)).toNat = 0 from rfl] at hx1013_0)
                          (try rw [Addr.add_zero'] at hx1013_0)
                          have HR1013_0 := Aside0.mk hi1013_0
                          have HC1013_0 := Aside0.mk hl1013_0
                          clear hi1013_0 hl1013_0
                          replace p1013 := eq_true p1013
                          replace q1013 := eq_true q1013
                          obtain ⟨Ao27, co27, eo27⟩ := Kd.R_slice HO_5.out
                          subst eo27
                          go_wp2_with (first | (go_at_call 11; (with_reducible refine (slices_Equal_int_int.calls kj12 _ _ (rd_L1 t1008 0) _ _ t1004 t1014 _ ?side1 ?side2 ?side3 ?side4 A25.out).mono ?_); (case side1 => repeat (first | exact (by repeat (first | (with_reducible exact HR1013_0.out) | (with_reducible refine Kd.C_alloc ?_ _) | (with_reducible refine Kd.C_drewN ?_ _) | (with_reducible refine Kd.C_drew ?_) | exact HR1013_0.out)) | (with_reducible refine Kd.C_alloc ?_ _) | (with_reducible refine Kd.C_drewN ?_ _) | (with_reducible refine Kd.C_drew ?_))); (case side2 => exact HC1013_0.out); (case side3 => repeat (first | exact (Kd.R_reads' HO_5.out).2.2 | (with_reducible refine Kd.C_alloc ?_ _) | (with_reducible refine Kd.C_drewN ?_ _) | (with_reducible refine Kd.C_drew ?_))); (case side4 => exact (Kd.R_reads' HO_5.out).2.1); rintro e w' ⟨rfl, ⟨nd, rfl⟩⟩))
                          go_meet
                          case rel => exact ⟨_, (!t1014), (by first | rfl | (simp; done) | (simp [*]; done)), H', ⟨by have := HJ2.out; have := HJ12.out; first | omega | exact Nat.le_refl _⟩, ⟨by (with_reducible repeat (first | apply Kd.S_alloc | apply Kd.S_drewN | apply Kd.S_drew)); exact Kd.S_mono HO1011.out (fun _ hk => trivial)⟩, ⟨by repeat (first | (with_reducible first | exact HB.out | apply below_alloc | apply pw_below_drewN | apply below_drew1) | exact HB.out)⟩⟩
                        · rw [if_neg c24] at H
                          exact absurd H (by simp)
                      · rw [if_neg c23] at H
                        have c23b0 : decide (0 < t1001) = false := decide_eq_false c23
                        clear c23
                        have H' := Aside0.mk H
                        clear H
                        obtain ⟨Ao28, co28, eo28⟩ := Kd.S_slice HO1011.out
                        subst eo28
                        go_wp2
                        go_meet
                        case rel => exact ⟨_, (false), (by first | rfl | (simp; done) | (simp [*]; done)), H', ⟨by have := HJ2.out; have := HJ12.out; first | omega | exact Nat.le_refl _⟩, ⟨by (with_reducible repeat (first | apply Kd.S_alloc | apply Kd.S_drewN | apply Kd.S_drew)); exact Kd.S_mono HO1011.out (fun _ hk => trivial)⟩, ⟨by repeat (first | (with_reducible first | exact HB.out | apply below_alloc | apply pw_below_drewN | apply below_drew1) | exact HB.out)⟩⟩
                    · rw [if_neg c22] at H
                      have c22b0 : ((t1008.length : Int) == t1001) = false := beq_eq_false_iff_ne.mpr c22
                      have c22b1 : ((t1008.length : Int) != t1001) = true := bne_iff_ne.mpr c22
                      (first | rw [c22b0] | (simp only [i64_w, i32_w]; rw [c22b0]) | skip)
                      have H' := Aside0.mk H
                      clear H
                      obtain ⟨Ao29, co29, eo29⟩ := Kd.S_slice HO1011.out
                      subst eo29
                      go_wp2
                      go_meet
                      case rel => exact ⟨_, (true), (by first | rfl | (simp; done) | (simp [*]; done)), H', ⟨by have := HJ2.out; have := HJ12.out; first | omega | exact Nat.le_refl _⟩, ⟨by (with_reducible repeat (first | apply Kd.S_alloc | apply Kd.S_drewN | apply Kd.S_drew)); exact Kd.S_mono HO1011.out (fun _ hk => trivial)⟩, ⟨by repeat (first | (with_reducible first | exact HB.out | apply below_alloc | apply pw_below_drewN | apply below_drew1) | exact HB.out)⟩⟩
                  case rest =>
                    clear HC20
                    try clear c1
                    try clear p1
                    try clear q1
                    try clear hx1
                    try clear qi1
                    try clear c2
                    try clear p2
                    try clear c3
                    try clear c5
                    try clear c5b0
                    try clear c5b1
                    try clear c6
                    try clear c6b0
                    try clear p6
                    try clear c7
                    try clear c8
                    try clear c8b0
                    try clear c8b1
                    try clear c9
                    try clear c10
                    try clear p10
                    try clear q10
                    try clear hx10
                    try clear qi10
                    try clear c11
                    try clear c11b0
                    try clear c11b1
                    try clear c15
                    try clear c15p
                    try clear c15q
                    try clear c15b0
                    try clear c15b1
                    try clear c15b2
                    try clear c16
                    try clear c16b0
                    try clear c16b1
                    try clear c17
                    try clear c19
                    try clear c19b0
                    try clear c19b1
                    try clear c22
                    try clear c22b0
                    try clear c22b1
                    try clear c23
                    try clear c23b0
                    try clear c24
                    try clear c24b0
                    try clear c24b1
                    try clear hx1013_0
                    try clear p1013
                    try clear p2
                    try clear p6
                    try clear q1013
                    obtain ⟨kq, x85_19, rfl, HA, HJ19, HO_7, HB⟩ := hcut
                    cases kq with
                    | zero => exact absurd HA.out (by simp [sackbutlaw05_RowsKnown.j2])
                    | succ kj19 =>
                      have H := HA.out
                      clear HA
                      simp only [sackbutlaw05_RowsKnown.j2] at H
                      by_cases c30 : x85_19 = true
                      · subst c30
                        have H1 : (some false) = some r := by rw [if_pos rfl] at H; exact H
                        clear H
                        have H := H1
                        clear H1
                        obtain rfl := Option.some.inj H
                        first
                        | exact absurd hr.out Bool.false_ne_true
                        | go_wp2
                          go_ret
                          exact ⟨by first | rfl | (simp [errW_none, errW_some] <;> rfl) | (simp [*, errW_none, errW_some] <;> rfl), by repeat (first | (with_reducible first | exact HB.out | apply below_alloc | apply pw_below_drewN | apply below_drew1) | exact HB.out)⟩
                      · replace c30 := Bool.eq_false_iff.mpr c30
                        subst c30
                        have H1 : (sackbutlaw05_RowsKnown.l0 kj19 a0 t1008 (t1008.length : Int) 0) = some r := by rw [if_neg (show ¬ (false = true) by decide)] at H; exact H
                        clear H
                        have H := H1
                        clear H1
                        have H' := Aside0.mk H
                        clear H
                        obtain ⟨Ao31, co31, eo31⟩ := Kd.S_slice HO_7.out
                        subst eo31
                        go_wp2
                        go_loopg [88] kj19 (fun kq v88 w' => ∃ (x88_4 : Int), v88 = .int .i64 x88_4 ∧ Aside0 (sackbutlaw05_RowsKnown.l0 kq a0 t1008 (t1008.length : Int) x88_4 = some r) ∧ Aside0 (kq ≤ kj19) ∧ Aside0 (Kd.S (Kd.slice 3 (Kd.int .i64)) 27 w' w.heap.size (fun _ => True) (.slice Ao31 t1008.length co31) t1008) ∧ Aside0 (Below w.heap.size w w'))
                        case atStart => exact ⟨(0), (by first | rfl | (simp; done) | (simp [*]; done)), H', ⟨Nat.le_refl _⟩, ⟨by (with_reducible repeat (first | apply Kd.S_alloc | apply Kd.S_drewN | apply Kd.S_drew)); exact HO_7.out⟩, ⟨by repeat (first | (with_reducible first | exact HB.out | apply below_alloc | apply pw_below_drewN | apply below_drew1) | exact HB.out)⟩⟩
                        case round =>
                          clear H'
                          try clear c1
                          try clear p1
                          try clear q1
                          try clear hx1
                          try clear qi1
                          try clear c2
                          try clear p2
                          try clear c3
                          try clear c5
                          try clear c5b0
                          try clear c5b1
                          try clear c6
                          try clear c6b0
                          try clear p6
                          try clear c7
                          try clear c8
                          try clear c8b0
                          try clear c8b1
                          try clear c9
                          try clear c10
                          try clear p10
                          try clear q10
                          try clear hx10
                          try clear qi10
                          try clear c11
                          try clear c11b0
                          try clear c11b1
                          try clear c15
                          try clear c15p
                          try clear c15q
                          try clear c15b0
                          try clear c15b1
                          try clear c15b2
                          try clear c16
                          try clear c16b0
                          try clear c16b1
                          try clear c17
                          try clear c19
                          try clear c19b0
                          try clear c19b1
                          try clear c22
                          try clear c22b0
                          try clear c22b1
                          try clear c23
                          try clear c23b0
                          try clear c24
                          try clear c24b0
                          try clear c24b1
                          try clear c30
                          try clear hx1013_0
                          try clear p1
                          try clear p10
                          try clear p1013
                          try clear p2
                          try clear p6
                          try clear q1
                          try clear q10
                          try clear q1013
                          obtain ⟨x88_4, rfl, HA, HK4, HO_7, HB⟩ := hrel
                          cases gk with
                          | zero => exact absurd HA.out (by simp [sackbutlaw05_RowsKnown.l0])
                          | succ k4 =>
                            have H := HA.out
                            clear HA
                            simp only [sackbutlaw05_RowsKnown.l0] at H
                            by_cases c32 : x88_4 < (t1008.length : Int)
                            · rw [if_pos c32] at H
                              have c32b0 : decide (x88_4 < (t1008.length : Int)) = true := decide_eq_true c32
                              clear c32
                              by_cases c33 : 0 ≤ x88_4
                              · rw [if_pos c33] at H
                                have c33b0 : decide (0 ≤ x88_4) = true := decide_eq_true c33
                                clear c33
                                by_cases c34 : x88_4 < (t1008.length : Int)
                                · rw [if_pos c34] at H
                                  have c34b0 : decide (x88_4 < (t1008.length : Int)) = true := decide_eq_true c34
                                  clear c34
                                  replace H := Option.bind_eq_some_iff.mp H
                                  obtain ⟨t1017, A350, H⟩ := H
                                  replace H : (if t1017 = true then (if ((rd_L1 t1008 x88_4).length : Int) = a0 then ((sackbutref05_Every.f k4 (rd_L1 t1008 x88_4) a0).bind fun t1018 => (if t1018 = true then (if 0 < ((rd_L1 t1008 x88_4).length : Int) then (if (rd (rd_L1 t1008 x88_4) 0) = 0 then (if 0 ≤ (wrap64 (a0 - 1)) then (if (wrap64 (a0 - 1)) < ((rd_L1 t1008 x88_4).length : Int) then (if (wrap64 (2 * (rd (rd_L1 t1008 x88_4) (wrap64 (a0 - 1))))) = a0 then (if x88_4 > 0 then (if 0 ≤ (wrap64 (x88_4 - 1)) then (if (wrap64 (x88_4 - 1)) < (t1008.length : Int) then ((slices_Compare_int_int.f k4 (rd_L1 t1008 (wrap64 (x88_4 - 1))) (rd_L1 t1008 x88_4)).bind fun t1022 => (if t1022 ≥ 0 then (some false) else (sackbutlaw05_RowsKnown.l0 k4 a0 t1008 (t1008.length : Int) (wrap64 (x88_4 + 1))))) else (none)) else (none)) else (sackbutlaw05_RowsKnown.l0 k4 a0 t1008 (t1008.length : Int) (wrap64 (x88_4 + 1)))) else (some false)) else (none)) else (none)) else (some false)) else (none)) else (some false))) else (some false)) else (some false)) = some r := H
                                  have A35 := Aside0.mk A350
                                  clear A350
                                  by_cases c36 : t1017 = true
                                  · subst c36
                                    have H1 : (if ((rd_L1 t1008 x88_4).length : Int) = a0 then ((sackbutref05_Every.f k4 (rd_L1 t1008 x88_4) a0).bind fun t1018 => (if t1018 = true then (if 0 < ((rd_L1 t1008 x88_4).length : Int) then (if (rd (rd_L1 t1008 x88_4) 0) = 0 then (if 0 ≤ (wrap64 (a0 - 1)) then (if (wrap64 (a0 - 1)) < ((rd_L1 t1008 x88_4).length : Int) then (if (wrap64 (2 * (rd (rd_L1 t1008 x88_4) (wrap64 (a0 - 1))))) = a0 then (if x88_4 > 0 then (if 0 ≤ (wrap64 (x88_4 - 1)) then (if (wrap64 (x88_4 - 1)) < (t1008.length : Int) then ((slices_Compare_int_int.f k4 (rd_L1 t1008 (wrap64 (x88_4 - 1))) (rd_L1 t1008 x88_4)).bind fun t1022 => (if t1022 ≥ 0 then (some false) else (sackbutlaw05_RowsKnown.l0 k4 a0 t1008 (t1008.length : Int) (wrap64 (x88_4 + 1))))) else (none)) else (none)) else (sackbutlaw05_RowsKnown.l0 k4 a0 t1008 (t1008.length : Int) (wrap64 (x88_4 + 1)))) else (some false)) else (none)) else (none)) else (some false)) else (none)) else (some false))) else (some false)) = some r := by rw [if_pos rfl] at H; exact H
                                    clear H
                                    have H := H1
                                    clear H1
                                    by_cases c37 : ((rd_L1 t1008 x88_4).length : Int) = a0
                                    · rw [if_pos c37] at H
                                      have c37b0 : (((rd_L1 t1008 x88_4).length : Int) == a0) = true := beq_iff_eq.mpr c37
                                      have c37b1 : (((rd_L1 t1008 x88_4).length : Int) != a0) = false := bne_eq_false_iff_eq.mpr c37
                                      clear c37
                                      replace H := Option.bind_eq_some_iff.mp H
                                      obtain ⟨t1018, A380, H⟩ := H
                                      replace H : (if t1018 = true then (if 0 < ((rd_L1 t1008 x88_4).length : Int) then (if (rd (rd_L1 t1008 x88_4) 0) = 0 then (if 0 ≤ (wrap64 (a0 - 1)) then (if (wrap64 (a0 - 1)) < ((rd_L1 t1008 x88_4).length : Int) then (if (wrap64 (2 * (rd (rd_L1 t1008 x88_4) (wrap64 (a0 - 1))))) = a0 then (if x88_4 > 0 then (if 0 ≤ (wrap64 (x88_4 - 1)) then (if (wrap64 (x88_4 - 1)) < (t1008.length : Int) then ((slices_Compare_int_int.f k4 (rd_L1 t1008 (wrap64 (x88_4 - 1))) (rd_L1 t1008 x88_4)).bind fun t1022 => (if t1022 ≥ 0 then (some false) else (sackbutlaw05_RowsKnown.l0 k4 a0 t1008 (t1008.length : Int) (wrap64 (x88_4 + 1))))) else (none)) else (none)) else (sackbutlaw05_RowsKnown.l0 k4 a0 t1008 (t1008.length : Int) (wrap64 (x88_4 + 1)))) else (some false)) else (none)) else (none)) else (some false)) else (none)) else (some false)) = some r := H
                                      have A38 := Aside0.mk A380
                                      clear A380
                                      by_cases c39 : t1018 = true
                                      · subst c39
                                        have H1 : (if 0 < ((rd_L1 t1008 x88_4).length : Int) then (if (rd (rd_L1 t1008 x88_4) 0) = 0 then (if 0 ≤ (wrap64 (a0 - 1)) then (if (wrap64 (a0 - 1)) < ((rd_L1 t1008 x88_4).length : Int) then (if (wrap64 (2 * (rd (rd_L1 t1008 x88_4) (wrap64 (a0 - 1))))) = a0 then (if x88_4 > 0 then (if 0 ≤ (wrap64 (x88_4 - 1)) then (if (wrap64 (x88_4 - 1)) < (t1008.length : Int) then ((slices_Compare_int_int.f k4 (rd_L1 t1008 (wrap64 (x88_4 - 1))) (rd_L1 t1008 x88_4)).bind fun t1022 => (if t1022 ≥ 0 then (some false) else (sackbutlaw05_RowsKnown.l0 k4 a0 t1008 (t1008.length : Int) (wrap64 (x88_4 + 1))))) else (none)) else (none)) else (sackbutlaw05_RowsKnown.l0 k4 a0 t1008 (t1008.length : Int) (wrap64 (x88_4 + 1)))) else (some false)) else (none)) else (none)) else (some false)) else (none)) = some r := by rw [if_pos rfl] at H; exact H
                                        clear H
                                        have H := H1
                                        clear H1
                                        by_cases c40 : 0 < ((rd_L1 t1008 x88_4).length : Int)
                                        · rw [if_pos c40] at H
                                          have c40b0 : decide (0 < ((rd_L1 t1008 x88_4).length : Int)) = true := decide_eq_true c40
                                          have c40b1 : decide (0 < (rd_L1 t1008 x88_4).length) = true := decide_eq_true (by omega)
                                          clear c40
                                          by_cases c41 : (rd (rd_L1 t1008 x88_4) 0) = 0
                                          · rw [if_pos c41] at H
                                            have c41b0 : ((rd (rd_L1 t1008 x88_4) 0) == 0) = true := beq_iff_eq.mpr c41
                                            have c41b1 : ((rd (rd_L1 t1008 x88_4) 0) != 0) = false := bne_eq_false_iff_eq.mpr c41
                                            clear c41
                                            obtain ⟨ji42, hji42⟩ : ∃ j_ : Int, (wrap64 (a0 - 1)) = j_ := ⟨_, rfl⟩
                                            replace H : (if 0 ≤ (ji42) then (if (ji42) < ((rd_L1 t1008 x88_4).length : Int) then (if (wrap64 (2 * (rd (rd_L1 t1008 x88_4) (ji42)))) = a0 then (if x88_4 > 0 then (if 0 ≤ (wrap64 (x88_4 - 1)) then (if (wrap64 (x88_4 - 1)) < (t1008.length : Int) then ((slices_Compare_int_int.f k4 (rd_L1 t1008 (wrap64 (x88_4 - 1))) (rd_L1 t1008 x88_4)).bind fun t1022 => (if t1022 ≥ 0 then (some false) else (sackbutlaw05_RowsKnown.l0 k4 a0 t1008 (t1008.length : Int) (wrap64 (x88_4 + 1))))) else (none)) else (none)) else (sackbutlaw05_RowsKnown.l0 k4 a0 t1008 (t1008.length : Int) (wrap64 (x88_4 + 1)))) else (some false)) else (none)) else (none)) = some r := by first | (rw [hji42] at H; exact H) | (simp only [hji42] at H ⊢; exact H)
                                            (try rw [hji42] at A35)
                                            (try rw [hji42] at A38)
                                            have hji42w : (IntKind.i64.wrap (a0 - 1)) = ji42 := (i64_w _).trans hji42
                                            by_cases c43 : 0 ≤ (ji42)
                                            · rw [if_pos c43] at H
                                              have c43b0 : decide (0 ≤ (ji42)) = true := decide_eq_true c43
                                              clear c43
                                              by_cases c44 : (ji42) < ((rd_L1 t1008 x88_4).length : Int)
                                              · rw [if_pos c44] at H
                                                have c44b0 : decide ((ji42) < ((rd_L1 t1008 x88_4).length : Int)) = true := decide_eq_true c44
                                                clear c44
                                                by_cases c45 : (wrap64 (2 * (rd (rd_L1 t1008 x88_4) (ji42)))) = a0
                                                · rw [if_pos c45] at H
                                                  have c45b0 : ((wrap64 (2 * (rd (rd_L1 t1008 x88_4) (ji42)))) == a0) = true := beq_iff_eq.mpr c45
                                                  have c45b1 : ((wrap64 (2 * (rd (rd_L1 t1008 x88_4) (ji42)))) != a0) = false := bne_eq_false_iff_eq.mpr c45
                                                  clear c45
                                                  by_cases c46 : x88_4 > 0
                                                  · rw [if_pos c46] at H
                                                    have c46b0 : decide (0 < x88_4) = true := decide_eq_true c46
                                                    clear c46
                                                    obtain ⟨ji47, hji47⟩ : ∃ j_ : Int, (wrap64 (x88_4 - 1)) = j_ := ⟨_, rfl⟩
                                                    replace H : (if 0 ≤ (ji47) then (if (ji47) < (t1008.length : Int) then ((slices_Compare_int_int.f k4 (rd_L1 t1008 (ji47)) (rd_L1 t1008 x88_4)).bind fun t1022 => (if t1022 ≥ 0 then (some false) else (sackbutlaw05_RowsKnown.l0 k4 a0 t1008 (t1008.length : Int) (wrap64 (x88_4 + 1))))) else (none)) else (none)) = some r := by first | (rw [hji47] at H; exact H) | (simp only [hji47] at H ⊢; exact H)
                                                    (try rw [hji47] at A35)
                                                    (try rw [hji47] at A38)
                                                    have hji47w : (IntKind.i64.wrap (x88_4 - 1)) = ji47 := (i64_w _).trans hji47
                                                    by_cases c48 : 0 ≤ (ji47)
                                                    · rw [if_pos c48] at H
                                                      have c48b0 : decide (0 ≤ (ji47)) = true := decide_eq_true c48
                                                      clear c48
                                                      by_cases c49 : (ji47) < (t1008.length : Int)
                                                      · rw [if_pos c49] at H
                                                        have c49b0 : decide ((ji47) < (t1008.length : Int)) = true := decide_eq_true c49
                                                        clear c49
                                                        replace H := Option.bind_eq_some_iff.mp H
                                                        obtain ⟨t1022, A500, H⟩ := H
                                                        replace H : (if t1022 ≥ 0 then (some false) else (sackbutlaw05_RowsKnown.l0 k4 a0 t1008 (t1008.length : Int) (wrap64 (x88_4 + 1)))) = some r := H
                                                        have A50 := Aside0.mk A500
                                                        clear A500
                                                        by_cases c51 : t1022 ≥ 0
                                                        · rw [if_pos c51] at H
                                                          have c51b0 : decide (0 ≤ t1022) = true := decide_eq_true c51
                                                          clear c51
                                                          obtain rfl := Option.some.inj H
                                                          first
                                                          | exact absurd hr.out Bool.false_ne_true
                                                          | have p1016 : 0 ≤ (x88_4 : Int) := of_decide_eq_true (by first | (with_reducible assumption) | assumption)
                                                            have q1016 : x88_4 < (t1008.length : Int) := of_decide_eq_true (by first | (with_reducible assumption) | assumption)
                                                            obtain ⟨ad1016, A1016_0, c1016_0, e1016, hx1016_0, hl1016_0, hi1016_0⟩ := at_L1 (Kd.S_reads' HO_7.out).2.2 x88_4 p1016 q1016
                                                            cases e1016
                                                            obtain ⟨ce1016, hce1016, hMe1016, hcc1016⟩ := Kd.S_get HO_7.out [] x88_4 p1016 (by first | exact q1016 | exact of_decide_eq_true (by first | (with_reducible assumption) | assumption) | (have e_ := (Kd.S_reads' HO_7.out).1; omega))
                                                            obtain ⟨ve1016_0, rfl, ge1016_0⟩ := hMe1016
                                                            have hv1016_0 := hcc1016 0 _ rfl
                                                            rw [Nat.add_zero, show ((Kd.slice 3 (Kd.int .i64))).sz = 1 from rfl, Nat.mul_one] at hv1016_0
                                                            replace hv1016_0 := Option.some.inj (hv1016_0.symm.trans hx1016_0)
                                                            rw [hv1016_0] at ge1016_0
                                                            have HL1016_0 := Aside0.mk (show Kd.R (Kd.int .i64) 3 _ _ _ _ (rd_L1 t1008 x88_4) from ge1016_0)
                                                            clear hv1016_0 ge1016_0
                                                            clear hcc1016 hce1016
                                                            have HR1016_0 := Aside0.mk hi1016_0
                                                            have HC1016_0 := Aside0.mk hl1016_0
                                                            clear hi1016_0 hl1016_0
                                                            replace p1016 := eq_true p1016
                                                            replace q1016 := eq_true q1016
                                                            go_wp2_with (first | ((with_reducible refine gate_callee (f := 12) rfl ?_); refine goesL_ (some 94) rfl rfl Try.func12 (by kernel_rfl) rfl #[.slice A1016_0 (rd_L1 t1008 x88_4).length c1016_0] rfl (by (try simp only [List.map_toArray, List.map_cons, List.map_nil]); first | done | rfl | (simp only [List.length_drop, List.length_take]; rfl)) ?_; (with_reducible refine (sackbutref05_Row.calls k4 _ _ (rd_L1 t1008 x88_4) true _ ?side1 ?side2 A35.out).mono ?_); (case side1 => repeat (first | exact (by repeat (first | (with_reducible exact HR1016_0.out) | (with_reducible refine Kd.C_alloc ?_ _) | (with_reducible refine Kd.C_drewN ?_ _) | (with_reducible refine Kd.C_drew ?_) | exact HR1016_0.out)) | (with_reducible refine Kd.C_alloc ?_ _) | (with_reducible refine Kd.C_drewN ?_ _) | (with_reducible refine Kd.C_drew ?_))); (case side2 => exact HC1016_0.out); rintro e w' ⟨rfl, ⟨nd, rfl⟩⟩; refine ⟨_, rfl, ?_⟩) | (go_at_call 13; (with_reducible refine (sackbutref05_Every.calls k4 _ _ (rd_L1 t1008 x88_4) a0 true _ ?side1 ?side2 A38.out).mono ?_); (case side1 => repeat (first | exact (by repeat (first | (with_reducible exact HR1016_0.out) | (with_reducible refine Kd.C_alloc ?_ _) | (with_reducible refine Kd.C_drewN ?_ _) | (with_reducible refine Kd.C_drew ?_) | exact HR1016_0.out)) | (with_reducible refine Kd.C_alloc ?_ _) | (with_reducible refine Kd.C_drewN ?_ _) | (with_reducible refine Kd.C_drew ?_))); (case side2 => exact HC1016_0.out); rintro e w52 ⟨rfl, hb⟩; have n0_ := Aside0.mk (Kd.S_below (by (with_reducible repeat (first | apply Kd.S_alloc | apply Kd.S_drewN | apply Kd.S_drew)); exact HO_7.out) hb); have n1_ := Aside0.mk (Kd.R_below (by (with_reducible repeat (first | apply Kd.R_alloc | apply Kd.R_drewN | apply Kd.R_drew)); exact HL1016_0.out) hb); have n2_ := Aside0.mk (Kd.C_below (by repeat (first | (with_reducible exact HR1016_0.out) | (with_reducible refine Kd.C_alloc ?_ _) | (with_reducible refine Kd.C_drewN ?_ _) | (with_reducible refine Kd.C_drew ?_) | exact HR1016_0.out)) hb); have n3_ := Aside0.mk (below_step (by repeat (first | (with_reducible first | exact HB.out | apply below_alloc | apply pw_below_drewN | apply below_drew1) | exact HB.out)) hb); clear HO_7; clear HL1016_0; clear HR1016_0; clear HB; have HO_7 := n0_; have HL1016_0 := n1_; have HR1016_0 := n2_; have HB := n3_; clear n0_ n1_ n2_ n3_; (try clear hb); (try clear hb2); (try clear hk); (try clear hi); have p1019 : 0 ≤ (0 : Int) := (by omega); have q1019 : 0 < ((rd_L1 t1008 x88_4).length : Int) := of_decide_eq_true (by first | (with_reducible assumption) | assumption); obtain ⟨ad1019, e1019, hx1019_0⟩ := Kd.at_int (by repeat (first | (with_reducible exact HR1016_0.out) | (with_reducible refine Kd.C_alloc ?_ _) | (with_reducible refine Kd.C_drewN ?_ _) | (with_reducible refine Kd.C_drew ?_) | exact HR1016_0.out)) 0 p1019 q1019; cases e1019; have qi1019 : (0 < (rd_L1 t1008 x88_4).length) = True := eq_true (by omega); (try rw [show ((0 : Int)).toNat = 0 from rfl] at hx1019_0); (try rw [Addr.add_zero'] at hx1019_0); replace p1019 := eq_true p1019; replace q1019 := eq_true q1019; have p1020 : 0 ≤ ((ji42) : Int) := of_decide_eq_true (by first | (with_reducible assumption) | assumption); have q1020 : (ji42) < ((rd_L1 t1008 x88_4).length : Int) := of_decide_eq_true (by first | (with_reducible assumption) | assumption); obtain ⟨ad1020, e1020, hx1020_0⟩ := Kd.at_int (by repeat (first | (with_reducible exact HR1016_0.out) | (with_reducible refine Kd.C_alloc ?_ _) | (with_reducible refine Kd.C_drewN ?_ _) | (with_reducible refine Kd.C_drew ?_) | exact HR1016_0.out)) (ji42) p1020 q1020; obtain rfl : ad1019 = ad1020 := (by injection e1020); replace p1020 := eq_true p1020; replace q1020 := eq_true q1020; have p1021 : 0 ≤ ((ji47) : Int) := of_decide_eq_true (by first | (with_reducible assumption) | assumption); have q1021 : (ji47) < (t1008.length : Int) := of_decide_eq_true (by first | (with_reducible assumption) | assumption); obtain ⟨ad1021, A1021_0, c1021_0, e1021, hx1021_0, hl1021_0, hi1021_0⟩ := at_L1 (Kd.S_reads' HO_7.out).2.2 (ji47) p1021 q1021; obtain rfl : ad1016 = ad1021 := (by injection e1021); obtain ⟨ce1021, hce1021, hMe1021, hcc1021⟩ := Kd.S_get HO_7.out [] (ji47) p1021 (by first | exact q1021 | exact of_decide_eq_true (by first | (with_reducible assumption) | assumption) | (have e_ := (Kd.S_reads' HO_7.out).1; omega)); obtain ⟨ve1021_0, rfl, ge1021_0⟩ := hMe1021; have hv1021_0 := hcc1021 0 _ rfl; rw [Nat.add_zero, show ((Kd.slice 3 (Kd.int .i64))).sz = 1 from rfl, Nat.mul_one] at hv1021_0; replace hv1021_0 := Option.some.inj (hv1021_0.symm.trans hx1021_0); rw [hv1021_0] at ge1021_0; have HL1021_0 := Aside0.mk (show Kd.R (Kd.int .i64) 3 _ _ _ _ (rd_L1 t1008 (ji47)) from ge1021_0); clear hv1021_0 ge1021_0; clear hcc1021 hce1021; have HR1021_0 := Aside0.mk hi1021_0; have HC1021_0 := Aside0.mk hl1021_0; clear hi1021_0 hl1021_0; replace p1021 := eq_true p1021; replace q1021 := eq_true q1021) | (go_at_call 14; (with_reducible refine (slices_Compare_int_int.calls k4 _ _ (rd_L1 t1008 (ji47)) _ _ (rd_L1 t1008 x88_4) t1022 _ ?side1 ?side2 ?side3 ?side4 A50.out).mono ?_); (case side1 => repeat (first | exact (by repeat (first | (with_reducible exact HR1021_0.out) | (with_reducible refine Kd.C_alloc ?_ _) | (with_reducible refine Kd.C_drewN ?_ _) | (with_reducible refine Kd.C_drew ?_) | exact HR1021_0.out)) | (with_reducible refine Kd.C_alloc ?_ _) | (with_reducible refine Kd.C_drewN ?_ _) | (with_reducible refine Kd.C_drew ?_))); (case side2 => exact HC1021_0.out); (case side3 => repeat (first | exact (by repeat (first | (with_reducible exact HR1016_0.out) | (with_reducible refine Kd.C_alloc ?_ _) | (with_reducible refine Kd.C_drewN ?_ _) | (with_reducible refine Kd.C_drew ?_) | exact HR1016_0.out)) | (with_reducible refine Kd.C_alloc ?_ _) | (with_reducible refine Kd.C_drewN ?_ _) | (with_reducible refine Kd.C_drew ?_))); (case side4 => exact HC1016_0.out); rintro e w' ⟨rfl, ⟨nd, rfl⟩⟩))
                                                            go_ret
                                                            exact ⟨by first | rfl | (simp [errW_none, errW_some] <;> rfl) | (simp only [← hji42, ← hji47]; first | rfl | (simp [errW_none, errW_some] <;> rfl)) | (simp [*, errW_none, errW_some] <;> rfl), by repeat (first | (with_reducible first | exact HB.out | apply below_alloc | apply pw_below_drewN | apply below_drew1) | exact HB.out)⟩
                                                        · rw [if_neg c51] at H
                                                          have c51b0 : decide (0 ≤ t1022) = false := decide_eq_false c51
                                                          clear c51
                                                          have H' := Aside0.mk H
                                                          clear H
                                                          have p1016 : 0 ≤ (x88_4 : Int) := of_decide_eq_true (by first | (with_reducible assumption) | assumption)
                                                          have q1016 : x88_4 < (t1008.length : Int) := of_decide_eq_true (by first | (with_reducible assumption) | assumption)
                                                          obtain ⟨ad1016, A1016_0, c1016_0, e1016, hx1016_0, hl1016_0, hi1016_0⟩ := at_L1 (Kd.S_reads' HO_7.out).2.2 x88_4 p1016 q1016
                                                          cases e1016
                                                          obtain ⟨ce1016, hce1016, hMe1016, hcc1016⟩ := Kd.S_get HO_7.out [] x88_4 p1016 (by first | exact q1016 | exact of_decide_eq_true (by first | (with_reducible assumption) | assumption) | (have e_ := (Kd.S_reads' HO_7.out).1; omega))
                                                          obtain ⟨ve1016_0, rfl, ge1016_0⟩ := hMe1016
                                                          have hv1016_0 := hcc1016 0 _ rfl
                                                          rw [Nat.add_zero, show ((Kd.slice 3 (Kd.int .i64))).sz = 1 from rfl, Nat.mul_one] at hv1016_0
                                                          replace hv1016_0 := Option.some.inj (hv1016_0.symm.trans hx1016_0)
                                                          rw [hv1016_0] at ge1016_0
                                                          have HL1016_0 := Aside0.mk (show Kd.R (Kd.int .i64) 3 _ _ _ _ (rd_L1 t1008 x88_4) from ge1016_0)
                                                          clear hv1016_0 ge1016_0
                                                          clear hcc1016 hce1016
                                                          have HR1016_0 := Aside0.mk hi1016_0
                                                          have HC1016_0 := Aside0.mk hl1016_0
                                                          clear hi1016_0 hl1016_0
                                                          replace p1016 := eq_true p1016
                                                          replace q1016 := eq_true q1016
                                                          go_wp2_with (first | ((with_reducible refine gate_callee (f := 12) rfl ?_); refine goesL_ (some 94) rfl rfl Try.func12 (by kernel_rfl) rfl #[.slice A1016_0 (rd_L1 t1008 x88_4).length c1016_0] rfl (by (try simp only [List.map_toArray, List.map_cons, List.map_nil]); first | done | rfl | (simp only [List.length_drop, List.length_take]; rfl)) ?_; (with_reducible refine (sackbutref05_Row.calls k4 _ _ (rd_L1 t1008 x88_4) true _ ?side1 ?side2 A35.out).mono ?_); (case side1 => repeat (first | exact (by repeat (first | (with_reducible exact HR1016_0.out) | (with_reducible refine Kd.C_alloc ?_ _) | (with_reducible refine Kd.C_drewN ?_ _) | (with_reducible refine Kd.C_drew ?_) | exact HR1016_0.out)) | (with_reducible refine Kd.C_alloc ?_ _) | (with_reducible refine Kd.C_drewN ?_ _) | (with_reducible refine Kd.C_drew ?_))); (case side2 => exact HC1016_0.out); rintro e w' ⟨rfl, ⟨nd, rfl⟩⟩; refine ⟨_, rfl, ?_⟩) | (go_at_call 13; (with_reducible refine (sackbutref05_Every.calls k4 _ _ (rd_L1 t1008 x88_4) a0 true _ ?side1 ?side2 A38.out).mono ?_); (case side1 => repeat (first | exact (by repeat (first | (with_reducible exact HR1016_0.out) | (with_reducible refine Kd.C_alloc ?_ _) | (with_reducible refine Kd.C_drewN ?_ _) | (with_reducible refine Kd.C_drew ?_) | exact HR1016_0.out)) | (with_reducible refine Kd.C_alloc ?_ _) | (with_reducible refine Kd.C_drewN ?_ _) | (with_reducible refine Kd.C_drew ?_))); (case side2 => exact HC1016_0.out); rintro e w53 ⟨rfl, hb⟩; have n0_ := Aside0.mk (Kd.S_below (by (with_reducible repeat (first | apply Kd.S_alloc | apply Kd.S_drewN | apply Kd.S_drew)); exact HO_7.out) hb); have n1_ := Aside0.mk (Kd.R_below (by (with_reducible repeat (first | apply Kd.R_alloc | apply Kd.R_drewN | apply Kd.R_drew)); exact HL1016_0.out) hb); have n2_ := Aside0.mk (Kd.C_below (by repeat (first | (with_reducible exact HR1016_0.out) | (with_reducible refine Kd.C_alloc ?_ _) | (with_reducible refine Kd.C_drewN ?_ _) | (with_reducible refine Kd.C_drew ?_) | exact HR1016_0.out)) hb); have n3_ := Aside0.mk (below_step (by repeat (first | (with_reducible first | exact HB.out | apply below_alloc | apply pw_below_drewN | apply below_drew1) | exact HB.out)) hb); clear HO_7; clear HL1016_0; clear HR1016_0; clear HB; have HO_7 := n0_; have HL1016_0 := n1_; have HR1016_0 := n2_; have HB := n3_; clear n0_ n1_ n2_ n3_; (try clear hb); (try clear hb2); (try clear hk); (try clear hi); have p1019 : 0 ≤ (0 : Int) := (by omega); have q1019 : 0 < ((rd_L1 t1008 x88_4).length : Int) := of_decide_eq_true (by first | (with_reducible assumption) | assumption); obtain ⟨ad1019, e1019, hx1019_0⟩ := Kd.at_int (by repeat (first | (with_reducible exact HR1016_0.out) | (with_reducible refine Kd.C_alloc ?_ _) | (with_reducible refine Kd.C_drewN ?_ _) | (with_reducible refine Kd.C_drew ?_) | exact HR1016_0.out)) 0 p1019 q1019; cases e1019; have qi1019 : (0 < (rd_L1 t1008 x88_4).length) = True := eq_true (by omega); (try rw [show ((0 : Int)).toNat = 0 from rfl] at hx1019_0); (try rw [Addr.add_zero'] at hx1019_0); replace p1019 := eq_true p1019; replace q1019 := eq_true q1019; have p1020 : 0 ≤ ((ji42) : Int) := of_decide_eq_true (by first | (with_reducible assumption) | assumption); have q1020 : (ji42) < ((rd_L1 t1008 x88_4).length : Int) := of_decide_eq_true (by first | (with_reducible assumption) | assumption); obtain ⟨ad1020, e1020, hx1020_0⟩ := Kd.at_int (by repeat (first | (with_reducible exact HR1016_0.out) | (with_reducible refine Kd.C_alloc ?_ _) | (with_reducible refine Kd.C_drewN ?_ _) | (with_reducible refine Kd.C_drew ?_) | exact HR1016_0.out)) (ji42) p1020 q1020; obtain rfl : ad1019 = ad1020 := (by injection e1020); replace p1020 := eq_true p1020; replace q1020 := eq_true q1020; have p1021 : 0 ≤ ((ji47) : Int) := of_decide_eq_true (by first | (with_reducible assumption) | assumption); have q1021 : (ji47) < (t1008.length : Int) := of_decide_eq_true (by first | (with_reducible assumption) | assumption); obtain ⟨ad1021, A1021_0, c1021_0, e1021, hx1021_0, hl1021_0, hi1021_0⟩ := at_L1 (Kd.S_reads' HO_7.out).2.2 (ji47) p1021 q1021; obtain rfl : ad1016 = ad1021 := (by injection e1021); obtain ⟨ce1021, hce1021, hMe1021, hcc1021⟩ := Kd.S_get HO_7.out [] (ji47) p1021 (by first | exact q1021 | exact of_decide_eq_true (by first | (with_reducible assumption) | assumption) | (have e_ := (Kd.S_reads' HO_7.out).1; omega)); obtain ⟨ve1021_0, rfl, ge1021_0⟩ := hMe1021; have hv1021_0 := hcc1021 0 _ rfl; rw [Nat.add_zero, show ((Kd.slice 3 (Kd.int .i64))).sz = 1 from rfl, Nat.mul_one] at hv1021_0; replace hv1021_0 := Option.some.inj (hv1021_0.symm.trans hx1021_0); rw [hv1021_0] at ge1021_0; have HL1021_0 := Aside0.mk (show Kd.R (Kd.int .i64) 3 _ _ _ _ (rd_L1 t1008 (ji47)) from ge1021_0); clear hv1021_0 ge1021_0; clear hcc1021 hce1021; have HR1021_0 := Aside0.mk hi1021_0; have HC1021_0 := Aside0.mk hl1021_0; clear hi1021_0 hl1021_0; replace p1021 := eq_true p1021; replace q1021 := eq_true q1021) | (go_at_call 14; (with_reducible refine (slices_Compare_int_int.calls k4 _ _ (rd_L1 t1008 (ji47)) _ _ (rd_L1 t1008 x88_4) t1022 _ ?side1 ?side2 ?side3 ?side4 A50.out).mono ?_); (case side1 => repeat (first | exact (by repeat (first | (with_reducible exact HR1021_0.out) | (with_reducible refine Kd.C_alloc ?_ _) | (with_reducible refine Kd.C_drewN ?_ _) | (with_reducible refine Kd.C_drew ?_) | exact HR1021_0.out)) | (with_reducible refine Kd.C_alloc ?_ _) | (with_reducible refine Kd.C_drewN ?_ _) | (with_reducible refine Kd.C_drew ?_))); (case side2 => exact HC1021_0.out); (case side3 => repeat (first | exact (by repeat (first | (with_reducible exact HR1016_0.out) | (with_reducible refine Kd.C_alloc ?_ _) | (with_reducible refine Kd.C_drewN ?_ _) | (with_reducible refine Kd.C_drew ?_) | exact HR1016_0.out)) | (with_reducible refine Kd.C_alloc ?_ _) | (with_reducible refine Kd.C_drewN ?_ _) | (with_reducible refine Kd.C_drew ?_))); (case side4 => exact HC1016_0.out); rintro e w' ⟨rfl, ⟨nd, rfl⟩⟩))
                                                          go_roundg k4
                                                          case measure => have := HJ2.out; have := HJ12.out; have := HJ19.out; have := HK4.out; omega
                                                          case rel => exact ⟨(wrap64 (x88_4 + 1)), (by first | rfl | (simp; done) | (simp [*]; done)), H', ⟨by have := HJ2.out; have := HJ12.out; have := HJ19.out; have := HK4.out; omega⟩, ⟨by (with_reducible repeat (first | apply Kd.S_alloc | apply Kd.S_drewN | apply Kd.S_drew)); exact HO_7.out⟩, ⟨by repeat (first | (with_reducible first | exact HB.out | apply below_alloc | apply pw_below_drewN | apply below_drew1) | exact HB.out)⟩⟩
                                                      · rw [if_neg c49] at H
                                                        exact absurd H (by simp)
                                                    · rw [if_neg c48] at H
                                                      exact absurd H (by simp)
                                                  · rw [if_neg c46] at H
                                                    have c46b0 : decide (0 < x88_4) = false := decide_eq_false c46
                                                    clear c46
                                                    have H' := Aside0.mk H
                                                    clear H
                                                    have p1016 : 0 ≤ (x88_4 : Int) := of_decide_eq_true (by first | (with_reducible assumption) | assumption)
                                                    have q1016 : x88_4 < (t1008.length : Int) := of_decide_eq_true (by first | (with_reducible assumption) | assumption)
                                                    obtain ⟨ad1016, A1016_0, c1016_0, e1016, hx1016_0, hl1016_0, hi1016_0⟩ := at_L1 (Kd.S_reads' HO_7.out).2.2 x88_4 p1016 q1016
                                                    cases e1016
                                                    obtain ⟨ce1016, hce1016, hMe1016, hcc1016⟩ := Kd.S_get HO_7.out [] x88_4 p1016 (by first | exact q1016 | exact of_decide_eq_true (by first | (with_reducible assumption) | assumption) | (have e_ := (Kd.S_reads' HO_7.out).1; omega))
                                                    obtain ⟨ve1016_0, rfl, ge1016_0⟩ := hMe1016
                                                    have hv1016_0 := hcc1016 0 _ rfl
                                                    rw [Nat.add_zero, show ((Kd.slice 3 (Kd.int .i64))).sz = 1 from rfl, Nat.mul_one] at hv1016_0
                                                    replace hv1016_0 := Option.some.inj (hv1016_0.symm.trans hx1016_0)
                                                    rw [hv1016_0] at ge1016_0
                                                    have HL1016_0 := Aside0.mk (show Kd.R (Kd.int .i64) 3 _ _ _ _ (rd_L1 t1008 x88_4) from ge1016_0)
                                                    clear hv1016_0 ge1016_0
                                                    clear hcc1016 hce1016
                                                    have HR1016_0 := Aside0.mk hi1016_0
                                                    have HC1016_0 := Aside0.mk hl1016_0
                                                    clear hi1016_0 hl1016_0
                                                    replace p1016 := eq_true p1016
                                                    replace q1016 := eq_true q1016
                                                    go_wp2_with (first | ((with_reducible refine gate_callee (f := 12) rfl ?_); refine goesL_ (some 94) rfl rfl Try.func12 (by kernel_rfl) rfl #[.slice A1016_0 (rd_L1 t1008 x88_4).length c1016_0] rfl (by (try simp only [List.map_toArray, List.map_cons, List.map_nil]); first | done | rfl | (simp only [List.length_drop, List.length_take]; rfl)) ?_; (with_reducible refine (sackbutref05_Row.calls k4 _ _ (rd_L1 t1008 x88_4) true _ ?side1 ?side2 A35.out).mono ?_); (case side1 => repeat (first | exact (by repeat (first | (with_reducible exact HR1016_0.out) | (with_reducible refine Kd.C_alloc ?_ _) | (with_reducible refine Kd.C_drewN ?_ _) | (with_reducible refine Kd.C_drew ?_) | exact HR1016_0.out)) | (with_reducible refine Kd.C_alloc ?_ _) | (with_reducible refine Kd.C_drewN ?_ _) | (with_reducible refine Kd.C_drew ?_))); (case side2 => exact HC1016_0.out); rintro e w' ⟨rfl, ⟨nd, rfl⟩⟩; refine ⟨_, rfl, ?_⟩) | (go_at_call 13; (with_reducible refine (sackbutref05_Every.calls k4 _ _ (rd_L1 t1008 x88_4) a0 true _ ?side1 ?side2 A38.out).mono ?_); (case side1 => repeat (first | exact (by repeat (first | (with_reducible exact HR1016_0.out) | (with_reducible refine Kd.C_alloc ?_ _) | (with_reducible refine Kd.C_drewN ?_ _) | (with_reducible refine Kd.C_drew ?_) | exact HR1016_0.out)) | (with_reducible refine Kd.C_alloc ?_ _) | (with_reducible refine Kd.C_drewN ?_ _) | (with_reducible refine Kd.C_drew ?_))); (case side2 => exact HC1016_0.out); rintro e w54 ⟨rfl, hb⟩; have n0_ := Aside0.mk (Kd.S_below (by (with_reducible repeat (first | apply Kd.S_alloc | apply Kd.S_drewN | apply Kd.S_drew)); exact HO_7.out) hb); have n1_ := Aside0.mk (Kd.R_below (by (with_reducible repeat (first | apply Kd.R_alloc | apply Kd.R_drewN | apply Kd.R_drew)); exact HL1016_0.out) hb); have n2_ := Aside0.mk (Kd.C_below (by repeat (first | (with_reducible exact HR1016_0.out) | (with_reducible refine Kd.C_alloc ?_ _) | (with_reducible refine Kd.C_drewN ?_ _) | (with_reducible refine Kd.C_drew ?_) | exact HR1016_0.out)) hb); have n3_ := Aside0.mk (below_step (by repeat (first | (with_reducible first | exact HB.out | apply below_alloc | apply pw_below_drewN | apply below_drew1) | exact HB.out)) hb); clear HO_7; clear HL1016_0; clear HR1016_0; clear HB; have HO_7 := n0_; have HL1016_0 := n1_; have HR1016_0 := n2_; have HB := n3_; clear n0_ n1_ n2_ n3_; (try clear hb); (try clear hb2); (try clear hk); (try clear hi); have p1019 : 0 ≤ (0 : Int) := (by omega); have q1019 : 0 < ((rd_L1 t1008 x88_4).length : Int) := of_decide_eq_true (by first | (with_reducible assumption) | assumption); obtain ⟨ad1019, e1019, hx1019_0⟩ := Kd.at_int (by repeat (first | (with_reducible exact HR1016_0.out) | (with_reducible refine Kd.C_alloc ?_ _) | (with_reducible refine Kd.C_drewN ?_ _) | (with_reducible refine Kd.C_drew ?_) | exact HR1016_0.out)) 0 p1019 q1019; cases e1019; have qi1019 : (0 < (rd_L1 t1008 x88_4).length) = True := eq_true (by omega); (try rw [show ((0 : Int)).toNat = 0 from rfl] at hx1019_0); (try rw [Addr.add_zero'] at hx1019_0); replace p1019 := eq_true p1019; replace q1019 := eq_true q1019; have p1020 : 0 ≤ ((ji42) : Int) := of_decide_eq_true (by first | (with_reducible assumption) | assumption); have q1020 : (ji42) < ((rd_L1 t1008 x88_4).length : Int) := of_decide_eq_true (by first | (with_reducible assumption) | assumption); obtain ⟨ad1020, e1020, hx1020_0⟩ := Kd.at_int (by repeat (first | (with_reducible exact HR1016_0.out) | (with_reducible refine Kd.C_alloc ?_ _) | (with_reducible refine Kd.C_drewN ?_ _) | (with_reducible refine Kd.C_drew ?_) | exact HR1016_0.out)) (ji42) p1020 q1020; obtain rfl : ad1019 = ad1020 := (by injection e1020); replace p1020 := eq_true p1020; replace q1020 := eq_true q1020))
                                                    go_roundg k4
                                                    case measure => have := HJ2.out; have := HJ12.out; have := HJ19.out; have := HK4.out; omega
                                                    case rel => exact ⟨(wrap64 (x88_4 + 1)), (by first | rfl | (simp; done) | (simp [*]; done)), H', ⟨by have := HJ2.out; have := HJ12.out; have := HJ19.out; have := HK4.out; omega⟩, ⟨by (with_reducible repeat (first | apply Kd.S_alloc | apply Kd.S_drewN | apply Kd.S_drew)); exact HO_7.out⟩, ⟨by repeat (first | (with_reducible first | exact HB.out | apply below_alloc | apply pw_below_drewN | apply below_drew1) | exact HB.out)⟩⟩
                                                · rw [if_neg c45] at H
                                                  have c45b0 : ((wrap64 (2 * (rd (rd_L1 t1008 x88_4) (ji42)))) == a0) = false := beq_eq_false_iff_ne.mpr c45
                                                  have c45b1 : ((wrap64 (2 * (rd (rd_L1 t1008 x88_4) (ji42)))) != a0) = true := bne_iff_ne.mpr c45
                                                  obtain rfl := Option.some.inj H
                                                  first
                                                  | exact absurd hr.out Bool.false_ne_true
                                                  | have p1016 : 0 ≤ (x88_4 : Int) := of_decide_eq_true (by first | (with_reducible assumption) | assumption)
                                                    have q1016 : x88_4 < (t1008.length : Int) := of_decide_eq_true (by first | (with_reducible assumption) | assumption)
                                                    obtain ⟨ad1016, A1016_0, c1016_0, e1016, hx1016_0, hl1016_0, hi1016_0⟩ := at_L1 (Kd.S_reads' HO_7.out).2.2 x88_4 p1016 q1016
                                                    cases e1016
                                                    obtain ⟨ce1016, hce1016, hMe1016, hcc1016⟩ := Kd.S_get HO_7.out [] x88_4 p1016 (by first | exact q1016 | exact of_decide_eq_true (by first | (with_reducible assumption) | assumption) | (have e_ := (Kd.S_reads' HO_7.out).1; omega))
                                                    obtain ⟨ve1016_0, rfl, ge1016_0⟩ := hMe1016
                                                    have hv1016_0 := hcc1016 0 _ rfl
                                                    rw [Nat.add_zero, show ((Kd.slice 3 (Kd.int .i64))).sz = 1 from rfl, Nat.mul_one] at hv1016_0
                                                    replace hv1016_0 := Option.some.inj (hv1016_0.symm.trans hx1016_0)
                                                    rw [hv1016_0] at ge1016_0
                                                    have HL1016_0 := Aside0.mk (show Kd.R (Kd.int .i64) 3 _ _ _ _ (rd_L1 t1008 x88_4) from ge1016_0)
                                                    clear hv1016_0 ge1016_0
                                                    clear hcc1016 hce1016
                                                    have HR1016_0 := Aside0.mk hi1016_0
                                                    have HC1016_0 := Aside0.mk hl1016_0
                                                    clear hi1016_0 hl1016_0
                                                    replace p1016 := eq_true p1016
                                                    replace q1016 := eq_true q1016
                                                    go_wp2_with (first | ((with_reducible refine gate_callee (f := 12) rfl ?_); refine goesL_ (some 94) rfl rfl Try.func12 (by kernel_rfl) rfl #[.slice A1016_0 (rd_L1 t1008 x88_4).length c1016_0] rfl (by (try simp only [List.map_toArray, List.map_cons, List.map_nil]); first | done | rfl | (simp only [List.length_drop, List.length_take]; rfl)) ?_; (with_reducible refine (sackbutref05_Row.calls k4 _ _ (rd_L1 t1008 x88_4) true _ ?side1 ?side2 A35.out).mono ?_); (case side1 => repeat (first | exact (by repeat (first | (with_reducible exact HR1016_0.out) | (with_reducible refine Kd.C_alloc ?_ _) | (with_reducible refine Kd.C_drewN ?_ _) | (with_reducible refine Kd.C_drew ?_) | exact HR1016_0.out)) | (with_reducible refine Kd.C_alloc ?_ _) | (with_reducible refine Kd.C_drewN ?_ _) | (with_reducible refine Kd.C_drew ?_))); (case side2 => exact HC1016_0.out); rintro e w' ⟨rfl, ⟨nd, rfl⟩⟩; refine ⟨_, rfl, ?_⟩) | (go_at_call 13; (with_reducible refine (sackbutref05_Every.calls k4 _ _ (rd_L1 t1008 x88_4) a0 true _ ?side1 ?side2 A38.out).mono ?_); (case side1 => repeat (first | exact (by repeat (first | (with_reducible exact HR1016_0.out) | (with_reducible refine Kd.C_alloc ?_ _) | (with_reducible refine Kd.C_drewN ?_ _) | (with_reducible refine Kd.C_drew ?_) | exact HR1016_0.out)) | (with_reducible refine Kd.C_alloc ?_ _) | (with_reducible refine Kd.C_drewN ?_ _) | (with_reducible refine Kd.C_drew ?_))); (case side2 => exact HC1016_0.out); rintro e w55 ⟨rfl, hb⟩; have n0_ := Aside0.mk (Kd.S_below (by (with_reducible repeat (first | apply Kd.S_alloc | apply Kd.S_drewN | apply Kd.S_drew)); exact HO_7.out) hb); have n1_ := Aside0.mk (Kd.R_below (by (with_reducible repeat (first | apply Kd.R_alloc | apply Kd.R_drewN | apply Kd.R_drew)); exact HL1016_0.out) hb); have n2_ := Aside0.mk (Kd.C_below (by repeat (first | (with_reducible exact HR1016_0.out) | (with_reducible refine Kd.C_alloc ?_ _) | (with_reducible refine Kd.C_drewN ?_ _) | (with_reducible refine Kd.C_drew ?_) | exact HR1016_0.out)) hb); have n3_ := Aside0.mk (below_step (by repeat (first | (with_reducible first | exact HB.out | apply below_alloc | apply pw_below_drewN | apply below_drew1) | exact HB.out)) hb); clear HO_7; clear HL1016_0; clear HR1016_0; clear HB; have HO_7 := n0_; have HL1016_0 := n1_; have HR1016_0 := n2_; have HB := n3_; clear n0_ n1_ n2_ n3_; (try clear hb); (try clear hb2); (try clear hk); (try clear hi); have p1019 : 0 ≤ (0 : Int) := (by omega); have q1019 : 0 < ((rd_L1 t1008 x88_4).length : Int) := of_decide_eq_true (by first | (with_reducible assumption) | assumption); obtain ⟨ad1019, e1019, hx1019_0⟩ := Kd.at_int (by repeat (first | (with_reducible exact HR1016_0.out) | (with_reducible refine Kd.C_alloc ?_ _) | (with_reducible refine Kd.C_drewN ?_ _) | (with_reducible refine Kd.C_drew ?_) | exact HR1016_0.out)) 0 p1019 q1019; cases e1019; have qi1019 : (0 < (rd_L1 t1008 x88_4).length) = True := eq_true (by omega); (try rw [show ((0 : Int)).toNat = 0 from rfl] at hx1019_0); (try rw [Addr.add_zero'] at hx1019_0); replace p1019 := eq_true p1019; replace q1019 := eq_true q1019; have p1020 : 0 ≤ ((ji42) : Int) := of_decide_eq_true (by first | (with_reducible assumption) | assumption); have q1020 : (ji42) < ((rd_L1 t1008 x88_4).length : Int) := of_decide_eq_true (by first | (with_reducible assumption) | assumption); obtain ⟨ad1020, e1020, hx1020_0⟩ := Kd.at_int (by repeat (first | (with_reducible exact HR1016_0.out) | (with_reducible refine Kd.C_alloc ?_ _) | (with_reducible refine Kd.C_drewN ?_ _) | (with_reducible refine Kd.C_drew ?_) | exact HR1016_0.out)) (ji42) p1020 q1020; obtain rfl : ad1019 = ad1020 := (by injection e1020); replace p1020 := eq_true p1020; replace q1020 := eq_true q1020))
                                                    go_ret
                                                    exact ⟨by first | rfl | (simp [errW_none, errW_some] <;> rfl) | (simp only [← hji42]; first | rfl | (simp [errW_none, errW_some] <;> rfl)) | (simp [*, errW_none, errW_some] <;> rfl), by repeat (first | (with_reducible first | exact HB.out | apply below_alloc | apply pw_below_drewN | apply below_drew1) | exact HB.out)⟩
                                              · rw [if_neg c44] at H
                                                exact absurd H (by simp)
                                            · rw [if_neg c43] at H
                                              exact absurd H (by simp)
                                          · rw [if_neg c41] at H
                                            have c41b0 : ((rd (rd_L1 t1008 x88_4) 0) == 0) = false := beq_eq_false_iff_ne.mpr c41
                                            have c41b1 : ((rd (rd_L1 t1008 x88_4) 0) != 0) = true := bne_iff_ne.mpr c41
                                            obtain rfl := Option.some.inj H
                                            first
                                            | exact absurd hr.out Bool.false_ne_true
                                            | have p1016 : 0 ≤ (x88_4 : Int) := of_decide_eq_true (by first | (with_reducible assumption) | assumption)
                                              have q1016 : x88_4 < (t1008.length : Int) := of_decide_eq_true (by first | (with_reducible assumption) | assumption)
                                              obtain ⟨ad1016, A1016_0, c1016_0, e1016, hx1016_0, hl1016_0, hi1016_0⟩ := at_L1 (Kd.S_reads' HO_7.out).2.2 x88_4 p1016 q1016
                                              cases e1016
                                              obtain ⟨ce1016, hce1016, hMe1016, hcc1016⟩ := Kd.S_get HO_7.out [] x88_4 p1016 (by first | exact q1016 | exact of_decide_eq_true (by first | (with_reducible assumption) | assumption) | (have e_ := (Kd.S_reads' HO_7.out).1; omega))
                                              obtain ⟨ve1016_0, rfl, ge1016_0⟩ := hMe1016
                                              have hv1016_0 := hcc1016 0 _ rfl
                                              rw [Nat.add_zero, show ((Kd.slice 3 (Kd.int .i64))).sz = 1 from rfl, Nat.mul_one] at hv1016_0
                                              replace hv1016_0 := Option.some.inj (hv1016_0.symm.trans hx1016_0)
                                              rw [hv1016_0] at ge1016_0
                                              have HL1016_0 := Aside0.mk (show Kd.R (Kd.int .i64) 3 _ _ _ _ (rd_L1 t1008 x88_4) from ge1016_0)
                                              clear hv1016_0 ge1016_0
                                              clear hcc1016 hce1016
                                              have HR1016_0 := Aside0.mk hi1016_0
                                              have HC1016_0 := Aside0.mk hl1016_0
                                              clear hi1016_0 hl1016_0
                                              replace p1016 := eq_true p1016
                                              replace q1016 := eq_true q1016
                                              go_wp2_with (first | ((with_reducible refine gate_callee (f := 12) rfl ?_); refine goesL_ (some 94) rfl rfl Try.func12 (by kernel_rfl) rfl #[.slice A1016_0 (rd_L1 t1008 x88_4).length c1016_0] rfl (by (try simp only [List.map_toArray, List.map_cons, List.map_nil]); first | done | rfl | (simp only [List.length_drop, List.length_take]; rfl)) ?_; (with_reducible refine (sackbutref05_Row.calls k4 _ _ (rd_L1 t1008 x88_4) true _ ?side1 ?side2 A35.out).mono ?_); (case side1 => repeat (first | exact (by repeat (first | (with_reducible exact HR1016_0.out) | (with_reducible refine Kd.C_alloc ?_ _) | (with_reducible refine Kd.C_drewN ?_ _) | (with_reducible refine Kd.C_drew ?_) | exact HR1016_0.out)) | (with_reducible refine Kd.C_alloc ?_ _) | (with_reducible refine Kd.C_drewN ?_ _) | (with_reducible refine Kd.C_drew ?_))); (case side2 => exact HC1016_0.out); rintro e w' ⟨rfl, ⟨nd, rfl⟩⟩; refine ⟨_, rfl, ?_⟩) | (go_at_call 13; (with_reducible refine (sackbutref05_Every.calls k4 _ _ (rd_L1 t1008 x88_4) a0 true _ ?side1 ?side2 A38.out).mono ?_); (case side1 => repeat (first | exact (by repeat (first | (with_reducible exact HR1016_0.out) | (with_reducible refine Kd.C_alloc ?_ _) | (with_reducible refine Kd.C_drewN ?_ _) | (with_reducible refine Kd.C_drew ?_) | exact HR1016_0.out)) | (with_reducible refine Kd.C_alloc ?_ _) | (with_reducible refine Kd.C_drewN ?_ _) | (with_reducible refine Kd.C_drew ?_))); (case side2 => exact HC1016_0.out); rintro e w56 ⟨rfl, hb⟩; have n0_ := Aside0.mk (Kd.S_below (by (with_reducible repeat (first | apply Kd.S_alloc | apply Kd.S_drewN | apply Kd.S_drew)); exact HO_7.out) hb); have n1_ := Aside0.mk (Kd.R_below (by (with_reducible repeat (first | apply Kd.R_alloc | apply Kd.R_drewN | apply Kd.R_drew)); exact HL1016_0.out) hb); have n2_ := Aside0.mk (Kd.C_below (by repeat (first | (with_reducible exact HR1016_0.out) | (with_reducible refine Kd.C_alloc ?_ _) | (with_reducible refine Kd.C_drewN ?_ _) | (with_reducible refine Kd.C_drew ?_) | exact HR1016_0.out)) hb); have n3_ := Aside0.mk (below_step (by repeat (first | (with_reducible first | exact HB.out | apply below_alloc | apply pw_below_drewN | apply below_drew1) | exact HB.out)) hb); clear HO_7; clear HL1016_0; clear HR1016_0; clear HB; have HO_7 := n0_; have HL1016_0 := n1_; have HR1016_0 := n2_; have HB := n3_; clear n0_ n1_ n2_ n3_; (try clear hb); (try clear hb2); (try clear hk); (try clear hi); have p1019 : 0 ≤ (0 : Int) := (by omega); have q1019 : 0 < ((rd_L1 t1008 x88_4).length : Int) := of_decide_eq_true (by first | (with_reducible assumption) | assumption); obtain ⟨ad1019, e1019, hx1019_0⟩ := Kd.at_int (by repeat (first | (with_reducible exact HR1016_0.out) | (with_reducible refine Kd.C_alloc ?_ _) | (with_reducible refine Kd.C_drewN ?_ _) | (with_reducible refine Kd.C_drew ?_) | exact HR1016_0.out)) 0 p1019 q1019; cases e1019; have qi1019 : (0 < (rd_L1 t1008 x88_4).length) = True := eq_true (by omega); (try rw [show ((0 : Int)).toNat = 0 from rfl] at hx1019_0); (try rw [Addr.add_zero'] at hx1019_0); replace p1019 := eq_true p1019; replace q1019 := eq_true q1019))
                                              go_ret
                                              exact ⟨by first | rfl | (simp [errW_none, errW_some] <;> rfl) | (simp [*, errW_none, errW_some] <;> rfl), by repeat (first | (with_reducible first | exact HB.out | apply below_alloc | apply pw_below_drewN | apply below_drew1) | exact HB.out)⟩
                                        · rw [if_neg c40] at H
                                          exact absurd H (by simp)
                                      · replace c39 := Bool.eq_false_iff.mpr c39
                                        subst c39
                                        have H1 : (some false) = some r := by rw [if_neg (show ¬ (false = true) by decide)] at H; exact H
                                        clear H
                                        have H := H1
                                        clear H1
                                        obtain rfl := Option.some.inj H
                                        first
                                        | exact absurd hr.out Bool.false_ne_true
                                        | have p1016 : 0 ≤ (x88_4 : Int) := of_decide_eq_true (by first | (with_reducible assumption) | assumption)
                                          have q1016 : x88_4 < (t1008.length : Int) := of_decide_eq_true (by first | (with_reducible assumption) | assumption)
                                          obtain ⟨ad1016, A1016_0, c1016_0, e1016, hx1016_0, hl1016_0, hi1016_0⟩ := at_L1 (Kd.S_reads' HO_7.out).2.2 x88_4 p1016 q1016
                                          cases e1016
                                          obtain ⟨ce1016, hce1016, hMe1016, hcc1016⟩ := Kd.S_get HO_7.out [] x88_4 p1016 (by first | exact q1016 | exact of_decide_eq_true (by first | (with_reducible assumption) | assumption) | (have e_ := (Kd.S_reads' HO_7.out).1; omega))
                                          obtain ⟨ve1016_0, rfl, ge1016_0⟩ := hMe1016
                                          have hv1016_0 := hcc1016 0 _ rfl
                                          rw [Nat.add_zero, show ((Kd.slice 3 (Kd.int .i64))).sz = 1 from rfl, Nat.mul_one] at hv1016_0
                                          replace hv1016_0 := Option.some.inj (hv1016_0.symm.trans hx1016_0)
                                          rw [hv1016_0] at ge1016_0
                                          have HL1016_0 := Aside0.mk (show Kd.R (Kd.int .i64) 3 _ _ _ _ (rd_L1 t1008 x88_4) from ge1016_0)
                                          clear hv1016_0 ge1016_0
                                          clear hcc1016 hce1016
                                          have HR1016_0 := Aside0.mk hi1016_0
                                          have HC1016_0 := Aside0.mk hl1016_0
                                          clear hi1016_0 hl1016_0
                                          replace p1016 := eq_true p1016
                                          replace q1016 := eq_true q1016
                                          go_wp2_with (first | ((with_reducible refine gate_callee (f := 12) rfl ?_); refine goesL_ (some 94) rfl rfl Try.func12 (by kernel_rfl) rfl #[.slice A1016_0 (rd_L1 t1008 x88_4).length c1016_0] rfl (by (try simp only [List.map_toArray, List.map_cons, List.map_nil]); first | done | rfl | (simp only [List.length_drop, List.length_take]; rfl)) ?_; (with_reducible refine (sackbutref05_Row.calls k4 _ _ (rd_L1 t1008 x88_4) true _ ?side1 ?side2 A35.out).mono ?_); (case side1 => repeat (first | exact (by repeat (first | (with_reducible exact HR1016_0.out) | (with_reducible refine Kd.C_alloc ?_ _) | (with_reducible refine Kd.C_drewN ?_ _) | (with_reducible refine Kd.C_drew ?_) | exact HR1016_0.out)) | (with_reducible refine Kd.C_alloc ?_ _) | (with_reducible refine Kd.C_drewN ?_ _) | (with_reducible refine Kd.C_drew ?_))); (case side2 => exact HC1016_0.out); rintro e w' ⟨rfl, ⟨nd, rfl⟩⟩; refine ⟨_, rfl, ?_⟩) | (go_at_call 13; (with_reducible refine (sackbutref05_Every.calls k4 _ _ (rd_L1 t1008 x88_4) a0 false _ ?side1 ?side2 A38.out).mono ?_); (case side1 => repeat (first | exact (by repeat (first | (with_reducible exact HR1016_0.out) | (with_reducible refine Kd.C_alloc ?_ _) | (with_reducible refine Kd.C_drewN ?_ _) | (with_reducible refine Kd.C_drew ?_) | exact HR1016_0.out)) | (with_reducible refine Kd.C_alloc ?_ _) | (with_reducible refine Kd.C_drewN ?_ _) | (with_reducible refine Kd.C_drew ?_))); (case side2 => exact HC1016_0.out); rintro e w57 ⟨rfl, hb⟩; have n0_ := Aside0.mk (Kd.S_below (by (with_reducible repeat (first | apply Kd.S_alloc | apply Kd.S_drewN | apply Kd.S_drew)); exact HO_7.out) hb); have n1_ := Aside0.mk (Kd.R_below (by (with_reducible repeat (first | apply Kd.R_alloc | apply Kd.R_drewN | apply Kd.R_drew)); exact HL1016_0.out) hb); have n2_ := Aside0.mk (Kd.C_below (by repeat (first | (with_reducible exact HR1016_0.out) | (with_reducible refine Kd.C_alloc ?_ _) | (with_reducible refine Kd.C_drewN ?_ _) | (with_reducible refine Kd.C_drew ?_) | exact HR1016_0.out)) hb); have n3_ := Aside0.mk (below_step (by repeat (first | (with_reducible first | exact HB.out | apply below_alloc | apply pw_below_drewN | apply below_drew1) | exact HB.out)) hb); clear HO_7; clear HL1016_0; clear HR1016_0; clear HB; have HO_7 := n0_; have HL1016_0 := n1_; have HR1016_0 := n2_; have HB := n3_; clear n0_ n1_ n2_ n3_; (try clear hb); (try clear hb2); (try clear hk); (try clear hi)))
                                          go_ret
                                          exact ⟨by first | rfl | (simp [errW_none, errW_some] <;> rfl) | (simp [*, errW_none, errW_some] <;> rfl), by repeat (first | (with_reducible first | exact HB.out | apply below_alloc | apply pw_below_drewN | apply below_drew1) | exact HB.out)⟩
                                    · rw [if_neg c37] at H
                                      have c37b0 : (((rd_L1 t1008 x88_4).length : Int) == a0) = false := beq_eq_false_iff_ne.mpr c37
                                      have c37b1 : (((rd_L1 t1008 x88_4).length : Int) != a0) = true := bne_iff_ne.mpr c37
                                      obtain rfl := Option.some.inj H
                                      first
                                      | exact absurd hr.out Bool.false_ne_true
                                      | have p1016 : 0 ≤ (x88_4 : Int) := of_decide_eq_true (by first | (with_reducible assumption) | assumption)
                                        have q1016 : x88_4 < (t1008.length : Int) := of_decide_eq_true (by first | (with_reducible assumption) | assumption)
                                        obtain ⟨ad1016, A1016_0, c1016_0, e1016, hx1016_0, hl1016_0, hi1016_0⟩ := at_L1 (Kd.S_reads' HO_7.out).2.2 x88_4 p1016 q1016
                                        cases e1016
                                        obtain ⟨ce1016, hce1016, hMe1016, hcc1016⟩ := Kd.S_get HO_7.out [] x88_4 p1016 (by first | exact q1016 | exact of_decide_eq_true (by first | (with_reducible assumption) | assumption) | (have e_ := (Kd.S_reads' HO_7.out).1; omega))
                                        obtain ⟨ve1016_0, rfl, ge1016_0⟩ := hMe1016
                                        have hv1016_0 := hcc1016 0 _ rfl
                                        rw [Nat.add_zero, show ((Kd.slice 3 (Kd.int .i64))).sz = 1 from rfl, Nat.mul_one] at hv1016_0
                                        replace hv1016_0 := Option.some.inj (hv1016_0.symm.trans hx1016_0)
                                        rw [hv1016_0] at ge1016_0
                                        have HL1016_0 := Aside0.mk (show Kd.R (Kd.int .i64) 3 _ _ _ _ (rd_L1 t1008 x88_4) from ge1016_0)
                                        clear hv1016_0 ge1016_0
                                        clear hcc1016 hce1016
                                        have HR1016_0 := Aside0.mk hi1016_0
                                        have HC1016_0 := Aside0.mk hl1016_0
                                        clear hi1016_0 hl1016_0
                                        replace p1016 := eq_true p1016
                                        replace q1016 := eq_true q1016
                                        go_wp2_with (first | ((with_reducible refine gate_callee (f := 12) rfl ?_); refine goesL_ (some 94) rfl rfl Try.func12 (by kernel_rfl) rfl #[.slice A1016_0 (rd_L1 t1008 x88_4).length c1016_0] rfl (by (try simp only [List.map_toArray, List.map_cons, List.map_nil]); first | done | rfl | (simp only [List.length_drop, List.length_take]; rfl)) ?_; (with_reducible refine (sackbutref05_Row.calls k4 _ _ (rd_L1 t1008 x88_4) true _ ?side1 ?side2 A35.out).mono ?_); (case side1 => repeat (first | exact (by repeat (first | (with_reducible exact HR1016_0.out) | (with_reducible refine Kd.C_alloc ?_ _) | (with_reducible refine Kd.C_drewN ?_ _) | (with_reducible refine Kd.C_drew ?_) | exact HR1016_0.out)) | (with_reducible refine Kd.C_alloc ?_ _) | (with_reducible refine Kd.C_drewN ?_ _) | (with_reducible refine Kd.C_drew ?_))); (case side2 => exact HC1016_0.out); rintro e w' ⟨rfl, ⟨nd, rfl⟩⟩; refine ⟨_, rfl, ?_⟩))
                                        go_ret
                                        exact ⟨by first | rfl | (simp [errW_none, errW_some] <;> rfl) | (simp [*, errW_none, errW_some] <;> rfl), by repeat (first | (with_reducible first | exact HB.out | apply below_alloc | apply pw_below_drewN | apply below_drew1) | exact HB.out)⟩
                                  · replace c36 := Bool.eq_false_iff.mpr c36
                                    subst c36
                                    have H1 : (some false) = some r := by rw [if_neg (show ¬ (false = true) by decide)] at H; exact H
                                    clear H
                                    have H := H1
                                    clear H1
                                    obtain rfl := Option.some.inj H
                                    first
                                    | exact absurd hr.out Bool.false_ne_true
                                    | have p1016 : 0 ≤ (x88_4 : Int) := of_decide_eq_true (by first | (with_reducible assumption) | assumption)
                                      have q1016 : x88_4 < (t1008.length : Int) := of_decide_eq_true (by first | (with_reducible assumption) | assumption)
                                      obtain ⟨ad1016, A1016_0, c1016_0, e1016, hx1016_0, hl1016_0, hi1016_0⟩ := at_L1 (Kd.S_reads' HO_7.out).2.2 x88_4 p1016 q1016
                                      cases e1016
                                      obtain ⟨ce1016, hce1016, hMe1016, hcc1016⟩ := Kd.S_get HO_7.out [] x88_4 p1016 (by first | exact q1016 | exact of_decide_eq_true (by first | (with_reducible assumption) | assumption) | (have e_ := (Kd.S_reads' HO_7.out).1; omega))
                                      obtain ⟨ve1016_0, rfl, ge1016_0⟩ := hMe1016
                                      have hv1016_0 := hcc1016 0 _ rfl
                                      rw [Nat.add_zero, show ((Kd.slice 3 (Kd.int .i64))).sz = 1 from rfl, Nat.mul_one] at hv1016_0
                                      replace hv1016_0 := Option.some.inj (hv1016_0.symm.trans hx1016_0)
                                      rw [hv1016_0] at ge1016_0
                                      have HL1016_0 := Aside0.mk (show Kd.R (Kd.int .i64) 3 _ _ _ _ (rd_L1 t1008 x88_4) from ge1016_0)
                                      clear hv1016_0 ge1016_0
                                      clear hcc1016 hce1016
                                      have HR1016_0 := Aside0.mk hi1016_0
                                      have HC1016_0 := Aside0.mk hl1016_0
                                      clear hi1016_0 hl1016_0
                                      replace p1016 := eq_true p1016
                                      replace q1016 := eq_true q1016
                                      go_wp2_with (first | ((with_reducible refine gate_callee (f := 12) rfl ?_); refine goesL_ (some 94) rfl rfl Try.func12 (by kernel_rfl) rfl #[.slice A1016_0 (rd_L1 t1008 x88_4).length c1016_0] rfl (by (try simp only [List.map_toArray, List.map_cons, List.map_nil]); first | done | rfl | (simp only [List.length_drop, List.length_take]; rfl)) ?_; (with_reducible refine (sackbutref05_Row.calls k4 _ _ (rd_L1 t1008 x88_4) false _ ?side1 ?side2 A35.out).mono ?_); (case side1 => repeat (first | exact (by repeat (first | (with_reducible exact HR1016_0.out) | (with_reducible refine Kd.C_alloc ?_ _) | (with_reducible refine Kd.C_drewN ?_ _) | (with_reducible refine Kd.C_drew ?_) | exact HR1016_0.out)) | (with_reducible refine Kd.C_alloc ?_ _) | (with_reducible refine Kd.C_drewN ?_ _) | (with_reducible refine Kd.C_drew ?_))); (case side2 => exact HC1016_0.out); rintro e w' ⟨rfl, ⟨nd, rfl⟩⟩; refine ⟨_, rfl, ?_⟩))
                                      go_ret
                                      exact ⟨by first | rfl | (simp [errW_none, errW_some] <;> rfl) | (simp [*, errW_none, errW_some] <;> rfl), by repeat (first | (with_reducible first | exact HB.out | apply below_alloc | apply pw_below_drewN | apply below_drew1) | exact HB.out)⟩
                                · rw [if_neg c34] at H
                                  exact absurd H (by simp)
                              · rw [if_neg c33] at H
                                exact absurd H (by simp)
                            · rw [if_neg c32] at H
                              have c32b0 : decide (x88_4 < (t1008.length : Int)) = false := decide_eq_false c32
                              clear c32
                              replace H := Option.bind_eq_some_iff.mp H
                              obtain ⟨t1015, A580, H⟩ := H
                              replace H : (some t1015) = some r := H
                              have A58 := Aside0.mk A580
                              clear A580
                              obtain rfl := Option.some.inj H
                              first
                              | exact absurd hr.out Bool.false_ne_true
                              | go_wp2_with (first | ((with_reducible refine gate_callee (f := 8) rfl ?_); refine goesL_ (some 139) rfl rfl Try.func8 (by kernel_rfl) rfl #[] rfl (by (try simp only [List.map_toArray, List.map_cons, List.map_nil]); first | done | rfl | (simp only [List.length_drop, List.length_take]; rfl)) ?_; (with_reducible refine (sackbutlaw05_awake.calls k4  t1015 _ A58.out).mono ?_); rintro e w59 ⟨rfl, hb⟩; refine ⟨_, rfl, ?_⟩; have n0_ := Aside0.mk (Kd.S_below (by (with_reducible repeat (first | apply Kd.S_alloc | apply Kd.S_drewN | apply Kd.S_drew)); exact HO_7.out) hb); have n1_ := Aside0.mk (below_step (by repeat (first | (with_reducible first | exact HB.out | apply below_alloc | apply pw_below_drewN | apply below_drew1) | exact HB.out)) hb); clear HO_7; clear HB; have HO_7 := n0_; have HB := n1_; clear n0_ n1_; (try clear hb); (try clear hb2); (try clear hk); (try clear hi)))
                                go_ret
                                exact ⟨by first | rfl | (simp [errW_none, errW_some] <;> rfl) | (simp [*, errW_none, errW_some] <;> rfl), by repeat (first | (with_reducible first | exact HB.out | apply below_alloc | apply pw_below_drewN | apply below_drew1) | exact HB.out)⟩
                · rw [if_neg c19] at H
                  have c19b0 : (t1009 == 0) = false := beq_eq_false_iff_ne.mpr c19
                  have c19b1 : (t1009 != 0) = true := bne_iff_ne.mpr c19
                  by_cases c60 : t1009 = 2
                  · rw [if_pos c60] at H
                    have c60b0 : (t1009 == 2) = true := beq_iff_eq.mpr c60
                    have c60b1 : (t1009 != 2) = false := bne_eq_false_iff_eq.mpr c60
                    clear c60
                    by_cases c61 : a0 > 8
                    · rw [if_pos c61] at H
                      have c61b0 : decide (8 < a0) = true := decide_eq_true c61
                      clear c61
                      replace H := Option.bind_eq_some_iff.mp H
                      obtain ⟨t1012, A620, H⟩ := H
                      replace H : (some t1012) = some r := H
                      have A62 := Aside0.mk A620
                      clear A620
                      obtain rfl := Option.some.inj H
                      first
                      | exact absurd hr.out Bool.false_ne_true
                      | go_wp2_with (first | ((with_reducible refine gate_callee (f := 10) rfl ?_); refine goesL_ (some 56) rfl rfl Try.func10 (by kernel_rfl) rfl #[.int .i64 a0] rfl (by (try simp only [List.map_toArray, List.map_cons, List.map_nil]); first | done | rfl | (simp only [List.length_drop, List.length_take]; rfl)) ?_; (with_reducible refine (rows_List.calls a0 t1008 t1009 _ A18.out).mono ?_); rintro e w63 ⟨v1010, rfl, ho0, hb⟩; refine ⟨_, rfl, ?_⟩; have n0_ := Aside0.mk (Kd.R_below (by (with_reducible repeat (first | apply Kd.R_alloc | apply Kd.R_drewN | apply Kd.R_drew)); exact HO_5.out) hb); have n1_ := Aside0.mk (Kd.S_lower (Kd.S_new' ho0 (Kd.R_lt (by (with_reducible repeat (first | apply Kd.R_alloc | apply Kd.R_drewN | apply Kd.R_drew)); exact HO_5.out))) (below_size (by repeat (first | (with_reducible first | exact HB.out | apply below_alloc | apply pw_below_drewN | apply below_drew1) | exact HB.out)))); have n2_ := Aside0.mk (below_step (by repeat (first | (with_reducible first | exact HB.out | apply below_alloc | apply pw_below_drewN | apply below_drew1) | exact HB.out)) hb); clear HO_5; clear HB; have HO_5 := n0_; have HO1011 := n1_; have HB := n2_; clear n0_ n1_ n2_; (try clear hb); (try clear hb2); (try clear hk); (try clear hi); (try clear ho0)) | (go_at_call 8; (with_reducible refine (sackbutlaw05_awake.calls kj12  t1012 _ A62.out).mono ?_); rintro e w64 ⟨rfl, hb⟩; have n0_ := Aside0.mk (Kd.R_below (by (with_reducible repeat (first | apply Kd.R_alloc | apply Kd.R_drewN | apply Kd.R_drew)); exact HO_5.out) hb); have n1_ := Aside0.mk (Kd.S_below (by (with_reducible repeat (first | apply Kd.S_alloc | apply Kd.S_drewN | apply Kd.S_drew)); exact HO1011.out) hb); have n2_ := Aside0.mk (below_step (by repeat (first | (with_reducible first | exact HB.out | apply below_alloc | apply pw_below_drewN | apply below_drew1) | exact HB.out)) hb); clear HO_5; clear HO1011; clear HB; have HO_5 := n0_; have HO1011 := n1_; have HB := n2_; clear n0_ n1_ n2_; (try clear hb); (try clear hb2); (try clear hk); (try clear hi)))
                        go_ret
                        exact ⟨by first | rfl | (simp [errW_none, errW_some] <;> rfl) | (simp [*, errW_none, errW_some] <;> rfl), by repeat (first | (with_reducible first | exact HB.out | apply below_alloc | apply pw_below_drewN | apply below_drew1) | exact HB.out)⟩
                    · rw [if_neg c61] at H
                      have c61b0 : decide (8 < a0) = false := decide_eq_false c61
                      clear c61
                      obtain rfl := Option.some.inj H
                      first
                      | exact absurd hr.out Bool.false_ne_true
                      | go_wp2_with (first | ((with_reducible refine gate_callee (f := 10) rfl ?_); refine goesL_ (some 56) rfl rfl Try.func10 (by kernel_rfl) rfl #[.int .i64 a0] rfl (by (try simp only [List.map_toArray, List.map_cons, List.map_nil]); first | done | rfl | (simp only [List.length_drop, List.length_take]; rfl)) ?_; (with_reducible refine (rows_List.calls a0 t1008 t1009 _ A18.out).mono ?_); rintro e w65 ⟨v1010, rfl, ho0, hb⟩; refine ⟨_, rfl, ?_⟩; have n0_ := Aside0.mk (Kd.R_below (by (with_reducible repeat (first | apply Kd.R_alloc | apply Kd.R_drewN | apply Kd.R_drew)); exact HO_5.out) hb); have n1_ := Aside0.mk (Kd.S_lower (Kd.S_new' ho0 (Kd.R_lt (by (with_reducible repeat (first | apply Kd.R_alloc | apply Kd.R_drewN | apply Kd.R_drew)); exact HO_5.out))) (below_size (by repeat (first | (with_reducible first | exact HB.out | apply below_alloc | apply pw_below_drewN | apply below_drew1) | exact HB.out)))); have n2_ := Aside0.mk (below_step (by repeat (first | (with_reducible first | exact HB.out | apply below_alloc | apply pw_below_drewN | apply below_drew1) | exact HB.out)) hb); clear HO_5; clear HB; have HO_5 := n0_; have HO1011 := n1_; have HB := n2_; clear n0_ n1_ n2_; (try clear hb); (try clear hb2); (try clear hk); (try clear hi); (try clear ho0)))
                        go_ret
                        exact ⟨by first | rfl | (simp [errW_none, errW_some] <;> rfl) | (simp [*, errW_none, errW_some] <;> rfl), by repeat (first | (with_reducible first | exact HB.out | apply below_alloc | apply pw_below_drewN | apply below_drew1) | exact HB.out)⟩
                  · rw [if_neg c60] at H
                    have c60b0 : (t1009 == 2) = false := beq_eq_false_iff_ne.mpr c60
                    have c60b1 : (t1009 != 2) = true := bne_iff_ne.mpr c60
                    obtain rfl := Option.some.inj H
                    first
                    | exact absurd hr.out Bool.false_ne_true
                    | go_wp2_with (first | ((with_reducible refine gate_callee (f := 10) rfl ?_); refine goesL_ (some 56) rfl rfl Try.func10 (by kernel_rfl) rfl #[.int .i64 a0] rfl (by (try simp only [List.map_toArray, List.map_cons, List.map_nil]); first | done | rfl | (simp only [List.length_drop, List.length_take]; rfl)) ?_; (with_reducible refine (rows_List.calls a0 t1008 t1009 _ A18.out).mono ?_); rintro e w66 ⟨v1010, rfl, ho0, hb⟩; refine ⟨_, rfl, ?_⟩; have n0_ := Aside0.mk (Kd.R_below (by (with_reducible repeat (first | apply Kd.R_alloc | apply Kd.R_drewN | apply Kd.R_drew)); exact HO_5.out) hb); have n1_ := Aside0.mk (Kd.S_lower (Kd.S_new' ho0 (Kd.R_lt (by (with_reducible repeat (first | apply Kd.R_alloc | apply Kd.R_drewN | apply Kd.R_drew)); exact HO_5.out))) (below_size (by repeat (first | (with_reducible first | exact HB.out | apply below_alloc | apply pw_below_drewN | apply below_drew1) | exact HB.out)))); have n2_ := Aside0.mk (below_step (by repeat (first | (with_reducible first | exact HB.out | apply below_alloc | apply pw_below_drewN | apply below_drew1) | exact HB.out)) hb); clear HO_5; clear HB; have HO_5 := n0_; have HO1011 := n1_; have HB := n2_; clear n0_ n1_ n2_; (try clear hb); (try clear hb2); (try clear hk); (try clear hi); (try clear ho0)))
                      go_ret
                      exact ⟨by first | rfl | (simp [errW_none, errW_some] <;> rfl) | (simp [*, errW_none, errW_some] <;> rfl), by repeat (first | (with_reducible first | exact HB.out | apply below_alloc | apply pw_below_drewN | apply below_drew1) | exact HB.out)⟩
        · rw [if_neg c11] at H
          have c11b0 : (t1001 == (tabC777000000 a0)) = false := beq_eq_false_iff_ne.mpr c11
          have c11b1 : (t1001 != (tabC777000000 a0)) = true := bne_iff_ne.mpr c11
          obtain rfl := Option.some.inj H
          first
          | exact absurd hr.out Bool.false_ne_true
          | go_wp2
            go_ret
            exact ⟨by first | rfl | (simp [errW_none, errW_some] <;> rfl) | (simp [*, errW_none, errW_some] <;> rfl), by repeat (first | (with_reducible first | exact HB.out | apply below_alloc | apply pw_below_drewN | apply below_drew1) | exact HB.out)⟩

/-- THE ONE PURE STATEMENT of sackbutlaw05_RowsKnown: yours. -/
def sackbutlaw05_RowsKnown.Pure : Prop := ∀ (a0 : Int), (Lit.int .i64 a0).wf = true → ∃ k, sackbutlaw05_RowsKnown.f k a0 = some true
theorem sackbutlaw05_RowsKnown.walk (P : sackbutlaw05_RowsKnown.Pure) (a0 : Int) (w : World) (w0 : (Lit.int .i64 a0).wf = true) :
    Calls Try.prog 3 #[.int .i64 a0] w fun e w' => e = .returned (.bool true) ∧ Below w.heap.size w w' := by
  obtain ⟨k, h⟩ := P a0 w0
  refine (sackbutlaw05_RowsKnown.calls k a0 true w h rfl).mono ?_
  rintro e w' ⟨rfl, hd⟩
  exact ⟨rfl, hd⟩

end Go.Proofs.Ytknchioabngbiaa.P
