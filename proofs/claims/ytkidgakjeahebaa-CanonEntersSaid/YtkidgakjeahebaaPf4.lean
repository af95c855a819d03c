/- A part of a proof that a law's Go function returns true for every input, laid by this session's program mp.py (which drives the kit's print). Conditions: as each theorem states them. -/
import Derived.Test.YtkidgakjeahebaaP0
import Derived.Test.YtkidgakjeahebaaPf10
import Derived.Test.YtkidgakjeahebaaPf11
import Derived.Test.YtkidgakjeahebaaPf9
namespace Go.Proofs.Ytkidgakjeahebaa.P
open Go.RowKit Go.Proofs.YtkidgakjeahebaaW.PrintWords Go.Proofs.YtkidgakjeahebaaW.PrintLast Go.Proofs.YtkidgakjeahebaaW.PrintMore
attribute [local go_sem] max2_int min2_int max_two min_two max_three min_three max_four min_four   -- for this text's walks alone
set_option linter.unusedVariables false
set_option linter.unusedSimpArgs false

/-! ### sackbutlaw02_CanonEnters: function 4 -/
mutual
def sackbutlaw02_CanonEnters.j0 : Nat → Int → Int → Int → Int → Int → Int → Bool → Option (Bool)
  | 0, _, _, _, _, _, _, _ => none
  | k + 1, x0, x1, x2, x3, x9, x10, x42 => if x42 = true then (if x10 = 2 then ((sackbutlaw02_awake.f k).bind fun t1005 => (some t1005)) else (if x10 = 4 then ((sackbutlaw02_awake.f k).bind fun t1006 => (some t1006)) else (some false))) else (if x9 < 0 then (sackbutlaw02_CanonEnters.j1 k x0 x1 x2 x3 x9 true) else (if x9 ≥ x0 then (sackbutlaw02_CanonEnters.j1 k x0 x1 x2 x3 x9 true) else (if 0 ≤ x9 then (if (Go.bits .and .i64 (shr .i64 x2 x9) 1) = 0 then (sackbutlaw02_CanonEnters.j1 k x0 x1 x2 x3 x9 true) else (if x0 = 0 then (none) else (if 0 ≤ (Int.tmod (wrap64 ((wrap64 (x3 - x9)) + x0)) x0) then (sackbutlaw02_CanonEnters.j1 k x0 x1 x2 x3 x9 ((Go.bits .and .i64 (shr .i64 x1 (Int.tmod (wrap64 ((wrap64 (x3 - x9)) + x0)) x0)) 1) == 0)) else (none)))) else (none))))
def sackbutlaw02_CanonEnters.j1 : Nat → Int → Int → Int → Int → Int → Bool → Option (Bool)
  | 0, _, _, _, _, _, _ => none
  | k + 1, x0, x1, x2, x3, x9, x78 => if x78 = true then (some false) else (sackbutlaw02_CanonEnters.l0 k x0 x1 x2 x3 x9 x0 0)
def sackbutlaw02_CanonEnters.l0 : Nat → Int → Int → Int → Int → Int → Int → Int → Option (Bool)
  | 0, _, _, _, _, _, _, _ => none
  | k + 1, x0, x1, x2, x3, x9, x79, x80 => if x80 < x79 then (if x80 = x9 then (sackbutlaw02_CanonEnters.l0 k x0 x1 x2 x3 x9 x79 (wrap64 (x80 + 1))) else (if 0 ≤ x80 then (if (Go.bits .and .i64 (shr .i64 x2 x80) 1) = 1 then (if x0 = 0 then (none) else (if 0 ≤ (Int.tmod (wrap64 ((wrap64 (x3 - x80)) + x0)) x0) then (if (Go.bits .and .i64 (shr .i64 x1 (Int.tmod (wrap64 ((wrap64 (x3 - x80)) + x0)) x0)) 1) = 1 then (some false) else (sackbutlaw02_CanonEnters.l0 k x0 x1 x2 x3 x9 x79 (wrap64 (x80 + 1)))) else (none))) else (sackbutlaw02_CanonEnters.l0 k x0 x1 x2 x3 x9 x79 (wrap64 (x80 + 1)))) else (none))) else ((sackbutlaw02_awake.f k).bind fun t1007 => (some t1007))
end
def sackbutlaw02_CanonEnters.f (k : Nat) (a0 : Int) (a1 : Int) (a2 : Int) (a3 : Int) : Option (Bool) := (canon_Enter.f k a0 a1 a2 a3).bind fun bt1001 => (if bt1001.2 = 0 then ((sackbutref02_Rhythm.f a0 a1).bind fun t1003 => (if t1003 = true then ((sackbutref02_Rhythm.f a0 a2).bind fun t1004 => (if t1004 = true then (if a3 < 0 then (sackbutlaw02_CanonEnters.j0 k a0 a1 a2 a3 bt1001.1 bt1001.2 true) else (sackbutlaw02_CanonEnters.j0 k a0 a1 a2 a3 bt1001.1 bt1001.2 (decide (a3 ≥ a0)))) else (sackbutlaw02_CanonEnters.j0 k a0 a1 a2 a3 bt1001.1 bt1001.2 true))) else (sackbutlaw02_CanonEnters.j0 k a0 a1 a2 a3 bt1001.1 bt1001.2 true))) else (sackbutlaw02_CanonEnters.j0 k a0 a1 a2 a3 bt1001.1 bt1001.2 true))
theorem sackbutlaw02_CanonEnters.mono_l : ∀ k, (∀ y0 y1 y2 y3 y4 y5 y6, LeO (sackbutlaw02_CanonEnters.j0 k y0 y1 y2 y3 y4 y5 y6) (sackbutlaw02_CanonEnters.j0 (k + 1) y0 y1 y2 y3 y4 y5 y6)) ∧ (∀ y0 y1 y2 y3 y4 y5, LeO (sackbutlaw02_CanonEnters.j1 k y0 y1 y2 y3 y4 y5) (sackbutlaw02_CanonEnters.j1 (k + 1) y0 y1 y2 y3 y4 y5)) ∧ (∀ y0 y1 y2 y3 y4 y5 y6, LeO (sackbutlaw02_CanonEnters.l0 k y0 y1 y2 y3 y4 y5 y6) (sackbutlaw02_CanonEnters.l0 (k + 1) y0 y1 y2 y3 y4 y5 y6))
  | 0 => ⟨fun _ _ _ _ _ _ _ r h => by simp [sackbutlaw02_CanonEnters.j0] at h, fun _ _ _ _ _ _ r h => by simp [sackbutlaw02_CanonEnters.j1] at h, fun _ _ _ _ _ _ _ r h => by simp [sackbutlaw02_CanonEnters.l0] at h⟩
  | k + 1 => by
    obtain ⟨ih0, ih1, ih2⟩ := sackbutlaw02_CanonEnters.mono_l k
    refine ⟨?_, ?_, ?_⟩
    · intro y0 y1 y2 y3 y4 y5 y6
      unfold sackbutlaw02_CanonEnters.j0
      repeat' first
      | (with_reducible exact ih0 _ _ _ _ _ _ _)
      | (with_reducible exact ih1 _ _ _ _ _ _)
      | (with_reducible exact ih2 _ _ _ _ _ _ _)
      | (with_reducible exact canon_Enter.mono _ _ _ _ _)
      | (with_reducible exact sackbutlaw02_awake.mono _)
      | (with_reducible exact LeO.refl _)
      | (with_reducible exact LeO.none _)
      | (with_reducible refine LeO.ite ?_ ?_)
      | (with_reducible refine LeO.bind ?_ (fun _ => ?_))
      | exact ih0 _ _ _ _ _ _ _
      | exact ih1 _ _ _ _ _ _
      | exact ih2 _ _ _ _ _ _ _
      | exact canon_Enter.mono _ _ _ _ _
      | exact sackbutlaw02_awake.mono _
      | exact LeO.none _
      | refine LeO.ite ?_ ?_
      | refine LeO.bind ?_ (fun _ => ?_)
    · intro y0 y1 y2 y3 y4 y5
      unfold sackbutlaw02_CanonEnters.j1
      repeat' first
      | (with_reducible exact ih0 _ _ _ _ _ _ _)
      | (with_reducible exact ih1 _ _ _ _ _ _)
      | (with_reducible exact ih2 _ _ _ _ _ _ _)
      | (with_reducible exact canon_Enter.mono _ _ _ _ _)
      | (with_reducible exact sackbutlaw02_awake.mono _)
      | (with_reducible exact LeO.refl _)
      | (with_reducible exact LeO.none _)
      | (with_reducible refine LeO.ite ?_ ?_)
      | (with_reducible refine LeO.bind ?_ (fun _ => ?_))
      | exact ih0 _ _ _ _ _ _ _
      | exact ih1 _ _ _ _ _ _
      | exact ih2 _ _ _ _ _ _ _
      | exact canon_Enter.mono _ _ _ _ _
      | exact sackbutlaw02_awake.mono _
      | exact LeO.none _
      | refine LeO.ite ?_ ?_
      | refine LeO.bind ?_ (fun _ => ?_)
    · intro y0 y1 y2 y3 y4 y5 y6
      unfold sackbutlaw02_CanonEnters.l0
      repeat' first
      | (with_reducible exact ih0 _ _ _ _ _ _ _)
      | (with_reducible exact ih1 _ _ _ _ _ _)
      | (with_reducible exact ih2 _ _ _ _ _ _ _)
      | (with_reducible exact canon_Enter.mono _ _ _ _ _)
      | (with_reducible exact sackbutlaw02_awake.mono _)
      | (with_reducible exact LeO.refl _)
      | (with_reducible exact LeO.none _)
      | (with_reducible refine LeO.ite ?_ ?_)
      | (with_reducible refine LeO.bind ?_ (fun _ => ?_))
      | exact ih0 _ _ _ _ _ _ _
      | exact ih1 _ _ _ _ _ _
      | exact ih2 _ _ _ _ _ _ _
      | exact canon_Enter.mono _ _ _ _ _
      | exact sackbutlaw02_awake.mono _
      | exact LeO.none _
      | refine LeO.ite ?_ ?_
      | refine LeO.bind ?_ (fun _ => ?_)
theorem sackbutlaw02_CanonEnters.mono : ∀ a0 a1 a2 a3 k, LeO (sackbutlaw02_CanonEnters.f k a0 a1 a2 a3) (sackbutlaw02_CanonEnters.f (k + 1) a0 a1 a2 a3) := by
  intro a0 a1 a2 a3 k
  obtain ⟨ih0, ih1, ih2⟩ := sackbutlaw02_CanonEnters.mono_l k
  unfold sackbutlaw02_CanonEnters.f
  repeat' first
      | (with_reducible exact ih0 _ _ _ _ _ _ _)
      | (with_reducible exact ih1 _ _ _ _ _ _)
      | (with_reducible exact ih2 _ _ _ _ _ _ _)
      | (with_reducible exact canon_Enter.mono _ _ _ _ _)
      | (with_reducible exact sackbutlaw02_awake.mono _)
      | (with_reducible exact LeO.refl _)
      | (with_reducible exact LeO.none _)
      | (with_reducible refine LeO.ite ?_ ?_)
      | (with_reducible refine LeO.bind ?_ (fun _ => ?_))
      | exact ih0 _ _ _ _ _ _ _
      | exact ih1 _ _ _ _ _ _
      | exact ih2 _ _ _ _ _ _ _
      | exact canon_Enter.mono _ _ _ _ _
      | exact sackbutlaw02_awake.mono _
      | exact LeO.none _
      | refine LeO.ite ?_ ?_
      | refine LeO.bind ?_ (fun _ => ?_)
set_option maxHeartbeats 8000000 in
set_option maxRecDepth 100000 in
theorem sackbutlaw02_CanonEnters.calls (k : Nat) (a0 : Int) (a1 : Int) (a2 : Int) (a3 : Int) (r : Bool) (w : World) (h : sackbutlaw02_CanonEnters.f k a0 a1 a2 a3 = some r) :
    Calls Try.prog 4 #[.int .i64 a0, .int .i64 a1, .int .i64 a2, .int .i64 a3] w fun e w' => e = .returned (.bool r) ∧ Below w.heap.size w w' := by
  have HB := Aside0.mk (Below.refl w.heap.size w)
  have H : ((canon_Enter.f k a0 a1 a2 a3).bind fun bt1001 => (if bt1001.2 = 0 then ((sackbutref02_Rhythm.f a0 a1).bind fun t1003 => (if t1003 = true then ((sackbutref02_Rhythm.f a0 a2).bind fun t1004 => (if t1004 = true then (if a3 < 0 then (sackbutlaw02_CanonEnters.j0 k a0 a1 a2 a3 bt1001.1 bt1001.2 true) else (sackbutlaw02_CanonEnters.j0 k a0 a1 a2 a3 bt1001.1 bt1001.2 (decide (a3 ≥ a0)))) else (sackbutlaw02_CanonEnters.j0 k a0 a1 a2 a3 bt1001.1 bt1001.2 true))) else (sackbutlaw02_CanonEnters.j0 k a0 a1 a2 a3 bt1001.1 bt1001.2 true))) else (sackbutlaw02_CanonEnters.j0 k a0 a1 a2 a3 bt1001.1 bt1001.2 true))) = some r := h
  clear h
  replace H := Option.bind_eq_some_iff.mp H
  obtain ⟨⟨t1001, t1002⟩, A50, H⟩ := H
  replace H : (if t1002 = 0 then ((sackbutref02_Rhythm.f a0 a1).bind fun t1003 => (if t1003 = true then ((sackbutref02_Rhythm.f a0 a2).bind fun t1004 => (if t1004 = true then (if a3 < 0 then (sackbutlaw02_CanonEnters.j0 k a0 a1 a2 a3 t1001 t1002 true) else (sackbutlaw02_CanonEnters.j0 k a0 a1 a2 a3 t1001 t1002 (decide (a3 ≥ a0)))) else (sackbutlaw02_CanonEnters.j0 k a0 a1 a2 a3 t1001 t1002 true))) else (sackbutlaw02_CanonEnters.j0 k a0 a1 a2 a3 t1001 t1002 true))) else (sackbutlaw02_CanonEnters.j0 k a0 a1 a2 a3 t1001 t1002 true)) = some r := H
  have A5 := Aside0.mk A50
  clear A50
  have HC6 := Aside0.mk H
  clear H
  go_enter Try.func4, Try.ntmps4
  go_upto_region 2 with (first | ((with_reducible refine gate_callee (f := 9) rfl ?_); refine goesL_ (some 17) rfl rfl Try.func9 (by kernel_rfl) rfl #[.int .i64 a0, .int .i64 a1, .int .i64 a2, .int .i64 a3] rfl (by (try simp only [List.map_toArray, List.map_cons, List.map_nil]); first | done | rfl | (simp only [List.length_drop, List.length_take]; rfl)) ?_; (with_reducible refine (canon_Enter.calls k a0 a1 a2 a3 t1001 t1002 _ A5.out).mono ?_); rintro e w7 ⟨rfl, hb⟩; refine ⟨_, rfl, ?_⟩; have n0_ := Aside0.mk (below_step (by repeat (first | (with_reducible first | exact HB.out | apply below_alloc | apply pw_below_drewN | apply below_drew1) | exact HB.out)) hb); clear HB; have HB := n0_; clear n0_; (try clear hb); (try clear hb2); (try clear hk); (try clear hi)))
  (try simp only [Act.put, List.setIfInBounds_toArray, List.set_cons_zero, List.set_cons_succ])
  go_cut [42] (fun v42 wc => ∃ (kq : Nat) (x42_5 : Bool), v42 = .bool x42_5 ∧ Aside0 (sackbutlaw02_CanonEnters.j0 kq a0 a1 a2 a3 t1001 t1002 x42_5 = some r) ∧ Aside0 (kq ≤ k) ∧ Aside0 (Below w.heap.size w wc))
  case first =>
    have H := HC6.out
    clear HC6
    by_cases c8 : t1002 = 0
    · rw [if_pos c8] at H
      have c8b0 : (t1002 == 0) = true := beq_iff_eq.mpr c8
      have c8b1 : (t1002 != 0) = false := bne_eq_false_iff_eq.mpr c8
      clear c8
      (first | rw [c8b0] | (simp only [i64_w, i32_w]; rw [c8b0]) | skip)
      replace H := Option.bind_eq_some_iff.mp H
      obtain ⟨t1003, A90, H⟩ := H
      replace H : (if t1003 = true then ((sackbutref02_Rhythm.f a0 a2).bind fun t1004 => (if t1004 = true then (if a3 < 0 then (sackbutlaw02_CanonEnters.j0 k a0 a1 a2 a3 t1001 t1002 true) else (sackbutlaw02_CanonEnters.j0 k a0 a1 a2 a3 t1001 t1002 (decide (a3 ≥ a0)))) else (sackbutlaw02_CanonEnters.j0 k a0 a1 a2 a3 t1001 t1002 true))) else (sackbutlaw02_CanonEnters.j0 k a0 a1 a2 a3 t1001 t1002 true)) = some r := H
      have A9 := Aside0.mk A90
      clear A90
      by_cases c10 : t1003 = true
      · subst c10
        have H1 : ((sackbutref02_Rhythm.f a0 a2).bind fun t1004 => (if t1004 = true then (if a3 < 0 then (sackbutlaw02_CanonEnters.j0 k a0 a1 a2 a3 t1001 t1002 true) else (sackbutlaw02_CanonEnters.j0 k a0 a1 a2 a3 t1001 t1002 (decide (a3 ≥ a0)))) else (sackbutlaw02_CanonEnters.j0 k a0 a1 a2 a3 t1001 t1002 true))) = some r := by rw [if_pos rfl] at H; exact H
        clear H
        have H := H1
        clear H1
        replace H := Option.bind_eq_some_iff.mp H
        obtain ⟨t1004, A110, H⟩ := H
        replace H : (if t1004 = true then (if a3 < 0 then (sackbutlaw02_CanonEnters.j0 k a0 a1 a2 a3 t1001 t1002 true) else (sackbutlaw02_CanonEnters.j0 k a0 a1 a2 a3 t1001 t1002 (decide (a3 ≥ a0)))) else (sackbutlaw02_CanonEnters.j0 k a0 a1 a2 a3 t1001 t1002 true)) = some r := H
        have A11 := Aside0.mk A110
        clear A110
        by_cases c12 : t1004 = true
        · subst c12
          have H1 : (if a3 < 0 then (sackbutlaw02_CanonEnters.j0 k a0 a1 a2 a3 t1001 t1002 true) else (sackbutlaw02_CanonEnters.j0 k a0 a1 a2 a3 t1001 t1002 (decide (a3 ≥ a0)))) = some r := by rw [if_pos rfl] at H; exact H
          clear H
          have H := H1
          clear H1
          by_cases c13 : a3 < 0
          · rw [if_pos c13] at H
            have c13b0 : decide (a3 < 0) = true := decide_eq_true c13
            clear c13
            have H' := Aside0.mk H
            clear H
            go_wp2_with (first | (go_at_call 10; (with_reducible refine (sackbutref02_Rhythm.calls a0 a1 true _ A9.out).mono ?_); rintro e w' ⟨rfl, ⟨nd, rfl⟩⟩) | (go_at_call 10; (with_reducible refine (sackbutref02_Rhythm.calls a0 a2 true _ A11.out).mono ?_); rintro e w' ⟨rfl, ⟨nd, rfl⟩⟩))
            go_meet
            case rel => exact ⟨_, (true), (by first | rfl | (simp; done) | (simp [*]; done)), H', ⟨by first | omega | exact Nat.le_refl _⟩, ⟨by repeat (first | (with_reducible first | exact HB.out | apply below_alloc | apply pw_below_drewN | apply below_drew1) | exact HB.out)⟩⟩
          · rw [if_neg c13] at H
            have c13b0 : decide (a3 < 0) = false := decide_eq_false c13
            clear c13
            have H' := Aside0.mk H
            clear H
            go_wp2_with (first | (go_at_call 10; (with_reducible refine (sackbutref02_Rhythm.calls a0 a1 true _ A9.out).mono ?_); rintro e w' ⟨rfl, ⟨nd, rfl⟩⟩) | (go_at_call 10; (with_reducible refine (sackbutref02_Rhythm.calls a0 a2 true _ A11.out).mono ?_); rintro e w' ⟨rfl, ⟨nd, rfl⟩⟩))
            go_meet
            case rel => exact ⟨_, (decide (a3 ≥ a0)), (by first | rfl | (simp; done) | (simp [*]; done)), H', ⟨by first | omega | exact Nat.le_refl _⟩, ⟨by repeat (first | (with_reducible first | exact HB.out | apply below_alloc | apply pw_below_drewN | apply below_drew1) | exact HB.out)⟩⟩
        · replace c12 := Bool.eq_false_iff.mpr c12
          subst c12
          have H1 : (sackbutlaw02_CanonEnters.j0 k a0 a1 a2 a3 t1001 t1002 true) = some r := by rw [if_neg (show ¬ (false = true) by decide)] at H; exact H
          clear H
          have H := H1
          clear H1
          have H' := Aside0.mk H
          clear H
          go_wp2_with (first | (go_at_call 10; (with_reducible refine (sackbutref02_Rhythm.calls a0 a1 true _ A9.out).mono ?_); rintro e w' ⟨rfl, ⟨nd, rfl⟩⟩) | (go_at_call 10; (with_reducible refine (sackbutref02_Rhythm.calls a0 a2 false _ A11.out).mono ?_); rintro e w' ⟨rfl, ⟨nd, rfl⟩⟩))
          go_meet
          case rel => exact ⟨_, (true), (by first | rfl | (simp; done) | (simp [*]; done)), H', ⟨by first | omega | exact Nat.le_refl _⟩, ⟨by repeat (first | (with_reducible first | exact HB.out | apply below_alloc | apply pw_below_drewN | apply below_drew1) | exact HB.out)⟩⟩
      · replace c10 := Bool.eq_false_iff.mpr c10
        subst c10
        have H1 : (sackbutlaw02_CanonEnters.j0 k a0 a1 a2 a3 t1001 t1002 true) = some r := by rw [if_neg (show ¬ (false = true) by decide)] at H; exact H
        clear H
        have H := H1
        clear H1
        have H' := Aside0.mk H
        clear H
        go_wp2_with (first | (go_at_call 10; (with_reducible refine (sackbutref02_Rhythm.calls a0 a1 false _ A9.out).mono ?_); rintro e w' ⟨rfl, ⟨nd, rfl⟩⟩))
        go_meet
        case rel => exact ⟨_, (true), (by first | rfl | (simp; done) | (simp [*]; done)), H', ⟨by first | omega | exact Nat.le_refl _⟩, ⟨by repeat (first | (with_reducible first | exact HB.out | apply below_alloc | apply pw_below_drewN | apply below_drew1) | exact HB.out)⟩⟩
    · rw [if_neg c8] at H
      have c8b0 : (t1002 == 0) = false := beq_eq_false_iff_ne.mpr c8
      have c8b1 : (t1002 != 0) = true := bne_iff_ne.mpr c8
      (first | rw [c8b0] | (simp only [i64_w, i32_w]; rw [c8b0]) | skip)
      have H' := Aside0.mk H
      clear H
      go_wp2
      go_meet
      case rel => exact ⟨_, (true), (by first | rfl | (simp; done) | (simp [*]; done)), H', ⟨by first | omega | exact Nat.le_refl _⟩, ⟨by repeat (first | (with_reducible first | exact HB.out | apply below_alloc | apply pw_below_drewN | apply below_drew1) | exact HB.out)⟩⟩
  case rest =>
    clear HC6
    try clear c1
    try clear p2
    try clear c4
    try clear c8
    try clear c8b0
    try clear c8b1
    try clear c9
    try clear c10
    try clear c12
    try clear c13
    try clear c13b0
    obtain ⟨kq, x42_5, rfl, HA, HJ5, HB⟩ := hcut
    cases kq with
    | zero => exact absurd HA.out (by simp [sackbutlaw02_CanonEnters.j0])
    | succ kj5 =>
      have H := HA.out
      clear HA
      simp only [sackbutlaw02_CanonEnters.j0] at H
      by_cases c14 : x42_5 = true
      · subst c14
        have H1 : (if t1002 = 2 then ((sackbutlaw02_awake.f kj5).bind fun t1005 => (some t1005)) else (if t1002 = 4 then ((sackbutlaw02_awake.f kj5).bind fun t1006 => (some t1006)) else (some false))) = some r := by rw [if_pos rfl] at H; exact H
        clear H
        have H := H1
        clear H1
        by_cases c15 : t1002 = 2
        · rw [if_pos c15] at H
          have c15b0 : (t1002 == 2) = true := beq_iff_eq.mpr c15
          have c15b1 : (t1002 != 2) = false := bne_eq_false_iff_eq.mpr c15
          clear c15
          replace H := Option.bind_eq_some_iff.mp H
          obtain ⟨t1005, A160, H⟩ := H
          replace H : (some t1005) = some r := H
          have A16 := Aside0.mk A160
          clear A160
          obtain rfl := Option.some.inj H
          go_wp2_with (first | (go_at_call 11; (with_reducible refine (sackbutlaw02_awake.calls kj5  t1005 _ A16.out).mono ?_); rintro e w17 ⟨rfl, hb⟩; have n0_ := Aside0.mk (below_step (by repeat (first | (with_reducible first | exact HB.out | apply below_alloc | apply pw_below_drewN | apply below_drew1) | exact HB.out)) hb); clear HB; have HB := n0_; clear n0_; (try clear hb); (try clear hb2); (try clear hk); (try clear hi)))
          go_ret
          exact ⟨by first | rfl | (simp [errW_none, errW_some] <;> rfl) | (simp [*, errW_none, errW_some] <;> rfl), by repeat (first | (with_reducible first | exact HB.out | apply below_alloc | apply pw_below_drewN | apply below_drew1) | exact HB.out)⟩
        · rw [if_neg c15] at H
          have c15b0 : (t1002 == 2) = false := beq_eq_false_iff_ne.mpr c15
          have c15b1 : (t1002 != 2) = true := bne_iff_ne.mpr c15
          by_cases c18 : t1002 = 4
          · rw [if_pos c18] at H
            have c18b0 : (t1002 == 4) = true := beq_iff_eq.mpr c18
            have c18b1 : (t1002 != 4) = false := bne_eq_false_iff_eq.mpr c18
            clear c18
            replace H := Option.bind_eq_some_iff.mp H
            obtain ⟨t1006, A190, H⟩ := H
            replace H : (some t1006) = some r := H
            have A19 := Aside0.mk A190
            clear A190
            obtain rfl := Option.some.inj H
            go_wp2_with (first | (go_at_call 11; (with_reducible refine (sackbutlaw02_awake.calls kj5  t1006 _ A19.out).mono ?_); rintro e w20 ⟨rfl, hb⟩; have n0_ := Aside0.mk (below_step (by repeat (first | (with_reducible first | exact HB.out | apply below_alloc | apply pw_below_drewN | apply below_drew1) | exact HB.out)) hb); clear HB; have HB := n0_; clear n0_; (try clear hb); (try clear hb2); (try clear hk); (try clear hi)))
            go_ret
            exact ⟨by first | rfl | (simp [errW_none, errW_some] <;> rfl) | (simp [*, errW_none, errW_some] <;> rfl), by repeat (first | (with_reducible first | exact HB.out | apply below_alloc | apply pw_below_drewN | apply below_drew1) | exact HB.out)⟩
          · rw [if_neg c18] at H
            have c18b0 : (t1002 == 4) = false := beq_eq_false_iff_ne.mpr c18
            have c18b1 : (t1002 != 4) = true := bne_iff_ne.mpr c18
            obtain rfl := Option.some.inj H
            go_wp2
            go_ret
            exact ⟨by first | rfl | (simp [errW_none, errW_some] <;> rfl) | (simp [*, errW_none, errW_some] <;> rfl), by repeat (first | (with_reducible first | exact HB.out | apply below_alloc | apply pw_below_drewN | apply below_drew1) | exact HB.out)⟩
      · replace c14 := Bool.eq_false_iff.mpr c14
        subst c14
        have H1 : (if t1001 < 0 then (sackbutlaw02_CanonEnters.j1 kj5 a0 a1 a2 a3 t1001 true) else (if t1001 ≥ a0 then (sackbutlaw02_CanonEnters.j1 kj5 a0 a1 a2 a3 t1001 true) else (if 0 ≤ t1001 then (if (Go.bits .and .i64 (shr .i64 a2 t1001) 1) = 0 then (sackbutlaw02_CanonEnters.j1 kj5 a0 a1 a2 a3 t1001 true) else (if a0 = 0 then (none) else (if 0 ≤ (Int.tmod (wrap64 ((wrap64 (a3 - t1001)) + a0)) a0) then (sackbutlaw02_CanonEnters.j1 kj5 a0 a1 a2 a3 t1001 ((Go.bits .and .i64 (shr .i64 a1 (Int.tmod (wrap64 ((wrap64 (a3 - t1001)) + a0)) a0)) 1) == 0)) else (none)))) else (none)))) = some r := by rw [if_neg (show ¬ (false = true) by decide)] at H; exact H
        clear H
        have H := H1
        clear H1
        have HC21 := Aside0.mk H
        clear H
        go_upto_region 4 with (fail)
        go_cut [78] (fun v78 wc => ∃ (kq : Nat) (x78_20 : Bool), v78 = .bool x78_20 ∧ Aside0 (sackbutlaw02_CanonEnters.j1 kq a0 a1 a2 a3 t1001 x78_20 = some r) ∧ Aside0 (kq ≤ kj5) ∧ Aside0 (Below w.heap.size w wc))
        case first =>
          have H := HC21.out
          clear HC21
          by_cases c22 : t1001 < 0
          · rw [if_pos c22] at H
            have c22b0 : decide (t1001 < 0) = true := decide_eq_true c22
            clear c22
            (first | rw [c22b0] | (simp only [i64_w, i32_w]; rw [c22b0]) | skip)
            have H' := Aside0.mk H
            clear H
            go_wp2
            go_meet
            case rel => exact ⟨_, (true), (by first | rfl | (simp; done) | (simp [*]; done)), H', ⟨by have := HJ5.out; first | omega | exact Nat.le_refl _⟩, ⟨by repeat (first | (with_reducible first | exact HB.out | apply below_alloc | apply pw_below_drewN | apply below_drew1) | exact HB.out)⟩⟩
          · rw [if_neg c22] at H
            have c22b0 : decide (t1001 < 0) = false := decide_eq_false c22
            clear c22
            (first | rw [c22b0] | (simp only [i64_w, i32_w]; rw [c22b0]) | skip)
            by_cases c23 : t1001 ≥ a0
            · rw [if_pos c23] at H
              have c23b0 : decide (a0 ≤ t1001) = true := decide_eq_true c23
              clear c23
              have H' := Aside0.mk H
              clear H
              go_wp2
              go_meet
              case rel => exact ⟨_, (true), (by first | rfl | (simp; done) | (simp [*]; done)), H', ⟨by have := HJ5.out; first | omega | exact Nat.le_refl _⟩, ⟨by repeat (first | (with_reducible first | exact HB.out | apply below_alloc | apply pw_below_drewN | apply below_drew1) | exact HB.out)⟩⟩
            · rw [if_neg c23] at H
              have c23b0 : decide (a0 ≤ t1001) = false := decide_eq_false c23
              clear c23
              by_cases c24 : 0 ≤ t1001
              · rw [if_pos c24] at H
                have c24b0 := eq_true c24
                have c24b1 : decide (0 ≤ t1001) = true := decide_eq_true c24
                clear c24
                obtain ⟨ji25, hji25⟩ : ∃ j_ : Int, (shr .i64 a2 t1001) = j_ := ⟨_, rfl⟩
                replace H : (if (Go.bits .and .i64 (ji25) 1) = 0 then (sackbutlaw02_CanonEnters.j1 kj5 a0 a1 a2 a3 t1001 true) else (if a0 = 0 then (none) else (if 0 ≤ (Int.tmod (wrap64 ((wrap64 (a3 - t1001)) + a0)) a0) then (sackbutlaw02_CanonEnters.j1 kj5 a0 a1 a2 a3 t1001 ((Go.bits .and .i64 (shr .i64 a1 (Int.tmod (wrap64 ((wrap64 (a3 - t1001)) + a0)) a0)) 1) == 0)) else (none)))) = some r := by first | (rw [hji25] at H; exact H) | (simp only [hji25] at H ⊢; exact H)
                have hji25_ : (a2 / 2 ^ min t1001.toNat 64) = ji25 := hji25
                have hji25z : t1001 ≤ 64 → (a2 / 2 ^ t1001.toNat) = ji25 := shr_small hji25
                by_cases c26 : (Go.bits .and .i64 (ji25) 1) = 0
                · rw [if_pos c26] at H
                  have c26b0 : ((Go.bits .and .i64 (ji25) 1) == 0) = true := beq_iff_eq.mpr c26
                  have c26b1 : ((Go.bits .and .i64 (ji25) 1) != 0) = false := bne_eq_false_iff_eq.mpr c26
                  clear c26
                  have H' := Aside0.mk H
                  clear H
                  go_wp2
                  go_meet
                  case rel => exact ⟨_, (true), (by first | rfl | (simp; done) | (simp [*]; done)), H', ⟨by have := HJ5.out; first | omega | exact Nat.le_refl _⟩, ⟨by repeat (first | (with_reducible first | exact HB.out | apply below_alloc | apply pw_below_drewN | apply below_drew1) | exact HB.out)⟩⟩
                · rw [if_neg c26] at H
                  have c26b0 : ((Go.bits .and .i64 (ji25) 1) == 0) = false := beq_eq_false_iff_ne.mpr c26
                  have c26b1 : ((Go.bits .and .i64 (ji25) 1) != 0) = true := bne_iff_ne.mpr c26
                  by_cases c27 : a0 = 0
                  · rw [if_pos c27] at H
                    exact absurd H (by simp)
                  · rw [if_neg c27] at H
                    have c27b0 : (a0 == 0) = false := beq_eq_false_iff_ne.mpr c27
                    have c27b1 : (a0 != 0) = true := bne_iff_ne.mpr c27
                    obtain ⟨ji28, hji28⟩ : ∃ j_ : Int, (Int.tmod (wrap64 ((wrap64 (a3 - t1001)) + a0)) a0) = j_ := ⟨_, rfl⟩
                    replace H : (if 0 ≤ (ji28) then (sackbutlaw02_CanonEnters.j1 kj5 a0 a1 a2 a3 t1001 ((Go.bits .and .i64 (shr .i64 a1 (ji28)) 1) == 0)) else (none)) = some r := by first | (rw [hji28] at H; exact H) | (simp only [hji28] at H ⊢; exact H)
                    by_cases c29 : 0 ≤ (ji28)
                    · rw [if_pos c29] at H
                      have c29b0 := eq_true c29
                      have c29b1 : decide (0 ≤ (ji28)) = true := decide_eq_true c29
                      clear c29
                      obtain ⟨ji30, hji30⟩ : ∃ j_ : Int, (shr .i64 a1 (ji28)) = j_ := ⟨_, rfl⟩
                      replace H : (sackbutlaw02_CanonEnters.j1 kj5 a0 a1 a2 a3 t1001 ((Go.bits .and .i64 (ji30) 1) == 0)) = some r := by first | (rw [hji30] at H; exact H) | (simp only [hji30] at H ⊢; exact H)
                      have hji30_ : (a1 / 2 ^ min (ji28).toNat 64) = ji30 := hji30
                      have hji30z : (ji28) ≤ 64 → (a1 / 2 ^ (ji28).toNat) = ji30 := shr_small hji30
                      have H' := Aside0.mk H
                      clear H
                      go_wp2
                      go_meet
                      case rel => exact ⟨_, (((Go.bits .and .i64 (ji30) 1) == 0)), (by first | rfl | (simp; done) | (simp only [← hji30] <;> (first | rfl | simp)) | (simp [*]; done)), H', ⟨by have := HJ5.out; first | omega | exact Nat.le_refl _⟩, ⟨by repeat (first | (with_reducible first | exact HB.out | apply below_alloc | apply pw_below_drewN | apply below_drew1) | exact HB.out)⟩⟩
                    · rw [if_neg c29] at H
                      exact absurd H (by simp)
              · rw [if_neg c24] at H
                exact absurd H (by simp)
        case rest =>
          clear HC21
          try clear c1
          try clear c2
          try clear p2
          try clear c4
          try clear p6
          try clear c8
          try clear c8b0
          try clear c8b1
          try clear c9
          try clear c10
          try clear c12
          try clear c13
          try clear c13b0
          try clear c14
          try clear c15
          try clear c15b0
          try clear c15b1
          try clear c18
          try clear c18b0
          try clear c18b1
          try clear c22
          try clear c22b0
          try clear c23
          try clear c23b0
          try clear c24
          try clear c24b0
          try clear c24b1
          try clear c26
          try clear c26b0
          try clear c26b1
          try clear c27
          try clear c27b0
          try clear c27b1
          try clear c29
          try clear c29b0
          try clear c29b1
          try clear p2
          obtain ⟨kq, x78_20, rfl, HA, HJ20, HB⟩ := hcut
          cases kq with
          | zero => exact absurd HA.out (by simp [sackbutlaw02_CanonEnters.j1])
          | succ kj20 =>
            have H := HA.out
            clear HA
            simp only [sackbutlaw02_CanonEnters.j1] at H
            by_cases c31 : x78_20 = true
            · subst c31
              have H1 : (some false) = some r := by rw [if_pos rfl] at H; exact H
              clear H
              have H := H1
              clear H1
              obtain rfl := Option.some.inj H
              go_wp2
              go_ret
              exact ⟨by first | rfl | (simp [errW_none, errW_some] <;> rfl) | (simp [*, errW_none, errW_some] <;> rfl), by repeat (first | (with_reducible first | exact HB.out | apply below_alloc | apply pw_below_drewN | apply below_drew1) | exact HB.out)⟩
            · replace c31 := Bool.eq_false_iff.mpr c31
              subst c31
              have H1 : (sackbutlaw02_CanonEnters.l0 kj20 a0 a1 a2 a3 t1001 a0 0) = some r := by rw [if_neg (show ¬ (false = true) by decide)] at H; exact H
              clear H
              have H := H1
              clear H1
              have H' := Aside0.mk H
              clear H
              go_wp2
              go_loopg [80] kj20 (fun kq v80 w' => ∃ (x80_3 : Int), v80 = .int .i64 x80_3 ∧ Aside0 (sackbutlaw02_CanonEnters.l0 kq a0 a1 a2 a3 t1001 a0 x80_3 = some r) ∧ Aside0 (kq ≤ kj20) ∧ Aside0 (Below w.heap.size w w'))
              case atStart => exact ⟨(0), (by first | rfl | (simp; done) | (simp [*]; done)), H', ⟨Nat.le_refl _⟩, ⟨by repeat (first | (with_reducible first | exact HB.out | apply below_alloc | apply pw_below_drewN | apply below_drew1) | exact HB.out)⟩⟩
              case round =>
                clear H'
                try clear c1
                try clear c2
                try clear p2
                try clear c3
                try clear c4
                try clear p6
                try clear c8
                try clear c8b0
                try clear c8b1
                try clear c9
                try clear c10
                try clear c12
                try clear c13
                try clear c13b0
                try clear c14
                try clear c15
                try clear c15b0
                try clear c15b1
                try clear c18
                try clear c18b0
                try clear c18b1
                try clear c22
                try clear c22b0
                try clear c23
                try clear c23b0
                try clear c24
                try clear c24b0
                try clear c24b1
                try clear c26
                try clear c26b0
                try clear c26b1
                try clear c27
                try clear c27b0
                try clear c27b1
                try clear c29
                try clear c29b0
                try clear c29b1
                try clear c31
                try clear p2
                try clear p6
                obtain ⟨x80_3, rfl, HA, HK3, HB⟩ := hrel
                cases gk with
                | zero => exact absurd HA.out (by simp [sackbutlaw02_CanonEnters.l0])
                | succ k3 =>
                  have H := HA.out
                  clear HA
                  simp only [sackbutlaw02_CanonEnters.l0] at H
                  by_cases c32 : x80_3 < a0
                  · rw [if_pos c32] at H
                    have c32b0 : decide (x80_3 < a0) = true := decide_eq_true c32
                    clear c32
                    by_cases c33 : x80_3 = t1001
                    · rw [if_pos c33] at H
                      have c33b0 : (x80_3 == t1001) = true := beq_iff_eq.mpr c33
                      have c33b1 : (x80_3 != t1001) = false := bne_eq_false_iff_eq.mpr c33
                      clear c33
                      have H' := Aside0.mk H
                      clear H
                      go_wp2
                      go_roundg k3
                      case measure => have := HJ5.out; have := HJ20.out; have := HK3.out; omega
                      case rel => exact ⟨(wrap64 (x80_3 + 1)), (by first | rfl | (simp; done) | (simp [*]; done)), H', ⟨by have := HJ5.out; have := HJ20.out; have := HK3.out; omega⟩, ⟨by repeat (first | (with_reducible first | exact HB.out | apply below_alloc | apply pw_below_drewN | apply below_drew1) | exact HB.out)⟩⟩
                    · rw [if_neg c33] at H
                      have c33b0 : (x80_3 == t1001) = false := beq_eq_false_iff_ne.mpr c33
                      have c33b1 : (x80_3 != t1001) = true := bne_iff_ne.mpr c33
                      by_cases c34 : 0 ≤ x80_3
                      · rw [if_pos c34] at H
                        have c34b0 := eq_true c34
                        have c34b1 : decide (0 ≤ x80_3) = true := decide_eq_true c34
                        clear c34
                        obtain ⟨ji35, hji35⟩ : ∃ j_ : Int, (shr .i64 a2 x80_3) = j_ := ⟨_, rfl⟩
                        replace H : (if (Go.bits .and .i64 (ji35) 1) = 1 then (if a0 = 0 then (none) else (if 0 ≤ (Int.tmod (wrap64 ((wrap64 (a3 - x80_3)) + a0)) a0) then (if (Go.bits .and .i64 (shr .i64 a1 (Int.tmod (wrap64 ((wrap64 (a3 - x80_3)) + a0)) a0)) 1) = 1 then (some false) else (sackbutlaw02_CanonEnters.l0 k3 a0 a1 a2 a3 t1001 a0 (wrap64 (x80_3 + 1)))) else (none))) else (sackbutlaw02_CanonEnters.l0 k3 a0 a1 a2 a3 t1001 a0 (wrap64 (x80_3 + 1)))) = some r := by first | (rw [hji35] at H; exact H) | (simp only [hji35] at H ⊢; exact H)
                        have hji35_ : (a2 / 2 ^ min x80_3.toNat 64) = ji35 := hji35
                        have hji35z : x80_3 ≤ 64 → (a2 / 2 ^ x80_3.toNat) = ji35 := shr_small hji35
                        by_cases c36 : (Go.bits .and .i64 (ji35) 1) = 1
                        · rw [if_pos c36] at H
                          have c36b0 : ((Go.bits .and .i64 (ji35) 1) == 1) = true := beq_iff_eq.mpr c36
                          have c36b1 : ((Go.bits .and .i64 (ji35) 1) != 1) = false := bne_eq_false_iff_eq.mpr c36
                          clear c36
                          by_cases c37 : a0 = 0
                          · rw [if_pos c37] at H
                            exact absurd H (by simp)
                          · rw [if_neg c37] at H
                            have c37b0 : (a0 == 0) = false := beq_eq_false_iff_ne.mpr c37
                            have c37b1 : (a0 != 0) = true := bne_iff_ne.mpr c37
                            obtain ⟨ji38, hji38⟩ : ∃ j_ : Int, (Int.tmod (wrap64 ((wrap64 (a3 - x80_3)) + a0)) a0) = j_ := ⟨_, rfl⟩
                            replace H : (if 0 ≤ (ji38) then (if (Go.bits .and .i64 (shr .i64 a1 (ji38)) 1) = 1 then (some false) else (sackbutlaw02_CanonEnters.l0 k3 a0 a1 a2 a3 t1001 a0 (wrap64 (x80_3 + 1)))) else (none)) = some r := by first | (rw [hji38] at H; exact H) | (simp only [hji38] at H ⊢; exact H)
                            by_cases c39 : 0 ≤ (ji38)
                            · rw [if_pos c39] at H
                              have c39b0 := eq_true c39
                              have c39b1 : decide (0 ≤ (ji38)) = true := decide_eq_true c39
                              clear c39
                              obtain ⟨ji40, hji40⟩ : ∃ j_ : Int, (shr .i64 a1 (ji38)) = j_ := ⟨_, rfl⟩
                              replace H : (if (Go.bits .and .i64 (ji40) 1) = 1 then (some false) else (sackbutlaw02_CanonEnters.l0 k3 a0 a1 a2 a3 t1001 a0 (wrap64 (x80_3 + 1)))) = some r := by first | (rw [hji40] at H; exact H) | (simp only [hji40] at H ⊢; exact H)
                              have hji40_ : (a1 / 2 ^ min (ji38).toNat 64) = ji40 := hji40
                              have hji40z : (ji38) ≤ 64 → (a1 / 2 ^ (ji38).toNat) = ji40 := shr_small hji40
                              by_cases c41 : (Go.bits .and .i64 (ji40) 1) = 1
                              · rw [if_pos c41] at H
                                have c41b0 : ((Go.bits .and .i64 (ji40) 1) == 1) = true := beq_iff_eq.mpr c41
                                have c41b1 : ((Go.bits .and .i64 (ji40) 1) != 1) = false := bne_eq_false_iff_eq.mpr c41
                                clear c41
                                obtain rfl := Option.some.inj H
                                go_wp2
                                go_ret
                                exact ⟨by first | rfl | (simp [errW_none, errW_some] <;> rfl) | (simp only [← hji35, ← hji38, ← hji40]; first | rfl | (simp [errW_none, errW_some] <;> rfl)) | (simp [*, errW_none, errW_some] <;> rfl), by repeat (first | (with_reducible first | exact HB.out | apply below_alloc | apply pw_below_drewN | apply below_drew1) | exact HB.out)⟩
                              · rw [if_neg c41] at H
                                have c41b0 : ((Go.bits .and .i64 (ji40) 1) == 1) = false := beq_eq_false_iff_ne.mpr c41
                                have c41b1 : ((Go.bits .and .i64 (ji40) 1) != 1) = true := bne_iff_ne.mpr c41
                                have H' := Aside0.mk H
                                clear H
                                go_wp2
                                go_roundg k3
                                case measure => have := HJ5.out; have := HJ20.out; have := HK3.out; omega
                                case rel => exact ⟨(wrap64 (x80_3 + 1)), (by first | rfl | (simp; done) | (simp [*]; done)), H', ⟨by have := HJ5.out; have := HJ20.out; have := HK3.out; omega⟩, ⟨by repeat (first | (with_reducible first | exact HB.out | apply below_alloc | apply pw_below_drewN | apply below_drew1) | exact HB.out)⟩⟩
                            · rw [if_neg c39] at H
                              exact absurd H (by simp)
                        · rw [if_neg c36] at H
                          have c36b0 : ((Go.bits .and .i64 (ji35) 1) == 1) = false := beq_eq_false_iff_ne.mpr c36
                          have c36b1 : ((Go.bits .and .i64 (ji35) 1) != 1) = true := bne_iff_ne.mpr c36
                          have H' := Aside0.mk H
                          clear H
                          go_wp2
                          go_roundg k3
                          case measure => have := HJ5.out; have := HJ20.out; have := HK3.out; omega
                          case rel => exact ⟨(wrap64 (x80_3 + 1)), (by first | rfl | (simp; done) | (simp [*]; done)), H', ⟨by have := HJ5.out; have := HJ20.out; have := HK3.out; omega⟩, ⟨by repeat (first | (with_reducible first | exact HB.out | apply below_alloc | apply pw_below_drewN | apply below_drew1) | exact HB.out)⟩⟩
                      · rw [if_neg c34] at H
                        exact absurd H (by simp)
                  · rw [if_neg c32] at H
                    have c32b0 : decide (x80_3 < a0) = false := decide_eq_false c32
                    clear c32
                    replace H := Option.bind_eq_some_iff.mp H
                    obtain ⟨t1007, A420, H⟩ := H
                    replace H : (some t1007) = some r := H
                    have A42 := Aside0.mk A420
                    clear A420
                    obtain rfl := Option.some.inj H
                    go_wp2_with (first | ((with_reducible refine gate_callee (f := 11) rfl ?_); refine goesL_ (some 107) rfl rfl Try.func11 (by kernel_rfl) rfl #[] rfl (by (try simp only [List.map_toArray, List.map_cons, List.map_nil]); first | done | rfl | (simp only [List.length_drop, List.length_take]; rfl)) ?_; (with_reducible refine (sackbutlaw02_awake.calls k3  t1007 _ A42.out).mono ?_); rintro e w43 ⟨rfl, hb⟩; refine ⟨_, rfl, ?_⟩; have n0_ := Aside0.mk (below_step (by repeat (first | (with_reducible first | exact HB.out | apply below_alloc | apply pw_below_drewN | apply below_drew1) | exact HB.out)) hb); clear HB; have HB := n0_; clear n0_; (try clear hb); (try clear hb2); (try clear hk); (try clear hi)))
                    go_ret
                    exact ⟨by first | rfl | (simp [errW_none, errW_some] <;> rfl) | (simp [*, errW_none, errW_some] <;> rfl), by repeat (first | (with_reducible first | exact HB.out | apply below_alloc | apply pw_below_drewN | apply below_drew1) | exact HB.out)⟩

/-- THE ONE PURE STATEMENT of sackbutlaw02_CanonEnters: yours. -/
def sackbutlaw02_CanonEnters.Pure : Prop := ∀ (a0 : Int) (a1 : Int) (a2 : Int) (a3 : Int), (Lit.int .i64 a0).wf = true → (Lit.int .i64 a1).wf = true → (Lit.int .i64 a2).wf = true → (Lit.int .i64 a3).wf = true → ∃ k, sackbutlaw02_CanonEnters.f k a0 a1 a2 a3 = some true
theorem sackbutlaw02_CanonEnters.walk (P : sackbutlaw02_CanonEnters.Pure) (a0 : Int) (a1 : Int) (a2 : Int) (a3 : Int) (w : World) (w0 : (Lit.int .i64 a0).wf = true) (w1 : (Lit.int .i64 a1).wf = true) (w2 : (Lit.int .i64 a2).wf = true) (w3 : (Lit.int .i64 a3).wf = true) :
    Calls Try.prog 4 #[.int .i64 a0, .int .i64 a1, .int .i64 a2, .int .i64 a3] w fun e w' => e = .returned (.bool true) ∧ Below w.heap.size w w' := by
  obtain ⟨k, h⟩ := P a0 a1 a2 a3 w0 w1 w2 w3
  refine (sackbutlaw02_CanonEnters.calls k a0 a1 a2 a3 true w h).mono ?_
  rintro e w' ⟨rfl, hd⟩
  exact ⟨rfl, hd⟩

end Go.Proofs.Ytkidgakjeahebaa.P
