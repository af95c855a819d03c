/- A part of a proof that a law's Go function returns true for every input, laid by this session's program mp.py (which drives the kit's print). Conditions: as each theorem states them. -/
import Derived.Test.YtkidgakjeahebaaP0
import Derived.Test.YtkidgakjeahebaaPf10
import Derived.Test.YtkidgakjeahebaaPf11
import Derived.Test.YtkidgakjeahebaaPf14
import Derived.Test.YtkidgakjeahebaaPf15
import Derived.Test.YtkidgakjeahebaaPf16
import Derived.Test.YtkidgakjeahebaaPf17
import Derived.Test.YtkidgakjeahebaaPf18
namespace Go.Proofs.Ytkidgakjeahebaa.P
open Go.RowKit Go.Proofs.YtkidgakjeahebaaW.PrintWords Go.Proofs.YtkidgakjeahebaaW.PrintLast Go.Proofs.YtkidgakjeahebaaW.PrintMore
attribute [local go_sem] max2_int min2_int max_two min_two max_three min_three max_four min_four   -- for this text's walks alone
set_option linter.unusedVariables false
set_option linter.unusedSimpArgs false

/-! ### sackbutlaw02_CanonPeriods: function 5 -/
def sackbutlaw02_CanonPeriods.j0 : Nat → Int → Int → Int → Int → Int → Bool → Option (Bool)
  | 0, _, _, _, _, _, _ => none
  | k + 1, x0, x1, x2, x9, x10, x57 => if x57 = true then (some false) else (if x2 < 2 then (if x9 = 0 then (some (x10 == 2)) else (some false)) else ((sackbutref02_Is.f x0 x1 x2).bind fun t1009 => (if t1009 = true then ((sackbutref02_Fold.f k x0 x1 x2).bind fun t1010 => (if x9 = t1010 then (some (x10 == 0)) else (some false))) else (if x9 = 0 then (some (x10 == 2)) else (some false)))))
def sackbutlaw02_CanonPeriods.f (k : Nat) (a0 : Int) (a1 : Int) (a2 : Int) : Option (Bool) := (canon_Period.f k a0 a1).bind fun bt1001 => ((canon_Fold.f a0 a1 a2).bind fun bt1003 => ((sackbutref02_Rhythm.f a0 a1).bind fun t1005 => (if t1005 = true then ((sackbutref02_Period.f k a0 a1).bind fun t1007 => (if bt1001.1 = t1007 then (if bt1001.2 = 0 then ((sackbutlaw02_awake.f k).bind fun t1008 => (sackbutlaw02_CanonPeriods.j0 k a0 a1 a2 bt1003.1 bt1003.2 (!t1008))) else (sackbutlaw02_CanonPeriods.j0 k a0 a1 a2 bt1003.1 bt1003.2 true)) else (sackbutlaw02_CanonPeriods.j0 k a0 a1 a2 bt1003.1 bt1003.2 true))) else (if bt1001.1 = 0 then (if bt1003.1 = 0 then (if bt1001.2 = 2 then (if bt1003.2 = 2 then ((sackbutlaw02_awake.f k).bind fun t1006 => (some t1006)) else (some false)) else (some false)) else (some false)) else (some false)))))
theorem sackbutlaw02_CanonPeriods.mono_l : ∀ k, (∀ y0 y1 y2 y3 y4 y5, LeO (sackbutlaw02_CanonPeriods.j0 k y0 y1 y2 y3 y4 y5) (sackbutlaw02_CanonPeriods.j0 (k + 1) y0 y1 y2 y3 y4 y5))
  | 0 => fun _ _ _ _ _ _ r h => by simp [sackbutlaw02_CanonPeriods.j0] at h
  | k + 1 => by
    have ih0 := sackbutlaw02_CanonPeriods.mono_l k
    · intro y0 y1 y2 y3 y4 y5
      unfold sackbutlaw02_CanonPeriods.j0
      repeat' first
      | (with_reducible exact ih0 _ _ _ _ _ _)
      | (with_reducible exact canon_Period.mono _ _ _)
      | (with_reducible exact sackbutlaw02_awake.mono _)
      | (with_reducible exact sackbutref02_Fold.mono _ _ _ _)
      | (with_reducible exact sackbutref02_Period.mono _ _ _)
      | (with_reducible exact LeO.refl _)
      | (with_reducible exact LeO.none _)
      | (with_reducible refine LeO.ite ?_ ?_)
      | (with_reducible refine LeO.bind ?_ (fun _ => ?_))
      | exact ih0 _ _ _ _ _ _
      | exact canon_Period.mono _ _ _
      | exact sackbutlaw02_awake.mono _
      | exact sackbutref02_Fold.mono _ _ _ _
      | exact sackbutref02_Period.mono _ _ _
      | exact LeO.none _
      | refine LeO.ite ?_ ?_
      | refine LeO.bind ?_ (fun _ => ?_)
theorem sackbutlaw02_CanonPeriods.mono : ∀ a0 a1 a2 k, LeO (sackbutlaw02_CanonPeriods.f k a0 a1 a2) (sackbutlaw02_CanonPeriods.f (k + 1) a0 a1 a2) := by
  intro a0 a1 a2 k
  have ih0 := sackbutlaw02_CanonPeriods.mono_l k
  unfold sackbutlaw02_CanonPeriods.f
  repeat' first
      | (with_reducible exact ih0 _ _ _ _ _ _)
      | (with_reducible exact canon_Period.mono _ _ _)
      | (with_reducible exact sackbutlaw02_awake.mono _)
      | (with_reducible exact sackbutref02_Fold.mono _ _ _ _)
      | (with_reducible exact sackbutref02_Period.mono _ _ _)
      | (with_reducible exact LeO.refl _)
      | (with_reducible exact LeO.none _)
      | (with_reducible refine LeO.ite ?_ ?_)
      | (with_reducible refine LeO.bind ?_ (fun _ => ?_))
      | exact ih0 _ _ _ _ _ _
      | exact canon_Period.mono _ _ _
      | exact sackbutlaw02_awake.mono _
      | exact sackbutref02_Fold.mono _ _ _ _
      | exact sackbutref02_Period.mono _ _ _
      | exact LeO.none _
      | refine LeO.ite ?_ ?_
      | refine LeO.bind ?_ (fun _ => ?_)
set_option maxHeartbeats 8000000 in
set_option maxRecDepth 100000 in
theorem sackbutlaw02_CanonPeriods.calls (k : Nat) (a0 : Int) (a1 : Int) (a2 : Int) (r : Bool) (w : World) (h : sackbutlaw02_CanonPeriods.f k a0 a1 a2 = some r) :
    Calls Try.prog 5 #[.int .i64 a0, .int .i64 a1, .int .i64 a2] w fun e w' => e = .returned (.bool r) ∧ Below w.heap.size w w' := by
  have HB := Aside0.mk (Below.refl w.heap.size w)
  have H : ((canon_Period.f k a0 a1).bind fun bt1001 => ((canon_Fold.f a0 a1 a2).bind fun bt1003 => ((sackbutref02_Rhythm.f a0 a1).bind fun t1005 => (if t1005 = true then ((sackbutref02_Period.f k a0 a1).bind fun t1007 => (if bt1001.1 = t1007 then (if bt1001.2 = 0 then ((sackbutlaw02_awake.f k).bind fun t1008 => (sackbutlaw02_CanonPeriods.j0 k a0 a1 a2 bt1003.1 bt1003.2 (!t1008))) else (sackbutlaw02_CanonPeriods.j0 k a0 a1 a2 bt1003.1 bt1003.2 true)) else (sackbutlaw02_CanonPeriods.j0 k a0 a1 a2 bt1003.1 bt1003.2 true))) else (if bt1001.1 = 0 then (if bt1003.1 = 0 then (if bt1001.2 = 2 then (if bt1003.2 = 2 then ((sackbutlaw02_awake.f k).bind fun t1006 => (some t1006)) else (some false)) else (some false)) else (some false)) else (some false)))))) = some r := h
  clear h
  replace H := Option.bind_eq_some_iff.mp H
  obtain ⟨⟨t1001, t1002⟩, A40, H⟩ := H
  replace H : ((canon_Fold.f a0 a1 a2).bind fun bt1003 => ((sackbutref02_Rhythm.f a0 a1).bind fun t1005 => (if t1005 = true then ((sackbutref02_Period.f k a0 a1).bind fun t1007 => (if t1001 = t1007 then (if t1002 = 0 then ((sackbutlaw02_awake.f k).bind fun t1008 => (sackbutlaw02_CanonPeriods.j0 k a0 a1 a2 bt1003.1 bt1003.2 (!t1008))) else (sackbutlaw02_CanonPeriods.j0 k a0 a1 a2 bt1003.1 bt1003.2 true)) else (sackbutlaw02_CanonPeriods.j0 k a0 a1 a2 bt1003.1 bt1003.2 true))) else (if t1001 = 0 then (if bt1003.1 = 0 then (if t1002 = 2 then (if bt1003.2 = 2 then ((sackbutlaw02_awake.f k).bind fun t1006 => (some t1006)) else (some false)) else (some false)) else (some false)) else (some false))))) = some r := H
  have A4 := Aside0.mk A40
  clear A40
  replace H := Option.bind_eq_some_iff.mp H
  obtain ⟨⟨t1003, t1004⟩, A50, H⟩ := H
  replace H : ((sackbutref02_Rhythm.f a0 a1).bind fun t1005 => (if t1005 = true then ((sackbutref02_Period.f k a0 a1).bind fun t1007 => (if t1001 = t1007 then (if t1002 = 0 then ((sackbutlaw02_awake.f k).bind fun t1008 => (sackbutlaw02_CanonPeriods.j0 k a0 a1 a2 t1003 t1004 (!t1008))) else (sackbutlaw02_CanonPeriods.j0 k a0 a1 a2 t1003 t1004 true)) else (sackbutlaw02_CanonPeriods.j0 k a0 a1 a2 t1003 t1004 true))) else (if t1001 = 0 then (if t1003 = 0 then (if t1002 = 2 then (if t1004 = 2 then ((sackbutlaw02_awake.f k).bind fun t1006 => (some t1006)) else (some false)) else (some false)) else (some false)) else (some false)))) = some r := H
  have A5 := Aside0.mk A50
  clear A50
  replace H := Option.bind_eq_some_iff.mp H
  obtain ⟨t1005, A60, H⟩ := H
  replace H : (if t1005 = true then ((sackbutref02_Period.f k a0 a1).bind fun t1007 => (if t1001 = t1007 then (if t1002 = 0 then ((sackbutlaw02_awake.f k).bind fun t1008 => (sackbutlaw02_CanonPeriods.j0 k a0 a1 a2 t1003 t1004 (!t1008))) else (sackbutlaw02_CanonPeriods.j0 k a0 a1 a2 t1003 t1004 true)) else (sackbutlaw02_CanonPeriods.j0 k a0 a1 a2 t1003 t1004 true))) else (if t1001 = 0 then (if t1003 = 0 then (if t1002 = 2 then (if t1004 = 2 then ((sackbutlaw02_awake.f k).bind fun t1006 => (some t1006)) else (some false)) else (some false)) else (some false)) else (some false))) = some r := H
  have A6 := Aside0.mk A60
  clear A60
  by_cases c7 : t1005 = true
  · subst c7
    have H1 : ((sackbutref02_Period.f k a0 a1).bind fun t1007 => (if t1001 = t1007 then (if t1002 = 0 then ((sackbutlaw02_awake.f k).bind fun t1008 => (sackbutlaw02_CanonPeriods.j0 k a0 a1 a2 t1003 t1004 (!t1008))) else (sackbutlaw02_CanonPeriods.j0 k a0 a1 a2 t1003 t1004 true)) else (sackbutlaw02_CanonPeriods.j0 k a0 a1 a2 t1003 t1004 true))) = some r := by rw [if_pos rfl] at H; exact H
    clear H
    have H := H1
    clear H1
    have HC8 := Aside0.mk H
    clear H
    go_enter Try.func5, Try.ntmps5
    go_upto_region 5 with (first | ((with_reducible refine gate_callee (f := 14) rfl ?_); refine goesL_ (some 14) rfl rfl Try.func14 (by kernel_rfl) rfl #[.int .i64 a0, .int .i64 a1] rfl (by (try simp only [List.map_toArray, List.map_cons, List.map_nil]); first | done | rfl | (simp only [List.length_drop, List.length_take]; rfl)) ?_; (with_reducible refine (canon_Period.calls k a0 a1 t1001 t1002 _ A4.out).mono ?_); rintro e w9 ⟨rfl, hb⟩; refine ⟨_, rfl, ?_⟩; have n0_ := Aside0.mk (below_step (by repeat (first | (with_reducible first | exact HB.out | apply below_alloc | apply pw_below_drewN | apply below_drew1) | exact HB.out)) hb); clear HB; have HB := n0_; clear n0_; (try clear hb); (try clear hb2); (try clear hk); (try clear hi)) | ((with_reducible refine gate_callee (f := 15) rfl ?_); refine goesL_ (some 21) rfl rfl Try.func15 (by kernel_rfl) rfl #[.int .i64 a0, .int .i64 a1, .int .i64 a2] rfl (by (try simp only [List.map_toArray, List.map_cons, List.map_nil]); first | done | rfl | (simp only [List.length_drop, List.length_take]; rfl)) ?_; (with_reducible refine (canon_Fold.calls a0 a1 a2 t1003 t1004 _ A5.out).mono ?_); rintro e w10 ⟨rfl, hb⟩; refine ⟨_, rfl, ?_⟩; have n0_ := Aside0.mk (below_step (by repeat (first | (with_reducible first | exact HB.out | apply below_alloc | apply pw_below_drewN | apply below_drew1) | exact HB.out)) hb); clear HB; have HB := n0_; clear n0_; (try clear hb); (try clear hb2); (try clear hk); (try clear hi)) | ((with_reducible refine gate_callee (f := 10) rfl ?_); refine goesL_ (some 26) rfl rfl Try.func10 (by kernel_rfl) rfl #[.int .i64 a0, .int .i64 a1] rfl (by (try simp only [List.map_toArray, List.map_cons, List.map_nil]); first | done | rfl | (simp only [List.length_drop, List.length_take]; rfl)) ?_; (with_reducible refine (sackbutref02_Rhythm.calls a0 a1 true _ A6.out).mono ?_); rintro e w' ⟨rfl, ⟨nd, rfl⟩⟩; refine ⟨_, rfl, ?_⟩))
    (try simp only [Act.put, List.setIfInBounds_toArray, List.set_cons_zero, List.set_cons_succ])
    go_cut [57] (fun v57 wc => ∃ (kq : Nat) (x57_7 : Bool), v57 = .bool x57_7 ∧ Aside0 (sackbutlaw02_CanonPeriods.j0 kq a0 a1 a2 t1003 t1004 x57_7 = some r) ∧ Aside0 (kq ≤ k) ∧ Aside0 (Below w.heap.size w wc))
    case first =>
      have H := HC8.out
      clear HC8
      replace H := Option.bind_eq_some_iff.mp H
      obtain ⟨t1007, A110, H⟩ := H
      replace H : (if t1001 = t1007 then (if t1002 = 0 then ((sackbutlaw02_awake.f k).bind fun t1008 => (sackbutlaw02_CanonPeriods.j0 k a0 a1 a2 t1003 t1004 (!t1008))) else (sackbutlaw02_CanonPeriods.j0 k a0 a1 a2 t1003 t1004 true)) else (sackbutlaw02_CanonPeriods.j0 k a0 a1 a2 t1003 t1004 true)) = some r := H
      have A11 := Aside0.mk A110
      clear A110
      by_cases c12 : t1001 = t1007
      · rw [if_pos c12] at H
        have c12b0 : (t1001 == t1007) = true := beq_iff_eq.mpr c12
        have c12b1 : (t1001 != t1007) = false := bne_eq_false_iff_eq.mpr c12
        clear c12
        (first | rw [c12b0] | (simp only [i64_w, i32_w]; rw [c12b0]) | skip)
        by_cases c13 : t1002 = 0
        · rw [if_pos c13] at H
          have c13b0 : (t1002 == 0) = true := beq_iff_eq.mpr c13
          have c13b1 : (t1002 != 0) = false := bne_eq_false_iff_eq.mpr c13
          clear c13
          replace H := Option.bind_eq_some_iff.mp H
          obtain ⟨t1008, A140, H⟩ := H
          replace H : (sackbutlaw02_CanonPeriods.j0 k a0 a1 a2 t1003 t1004 (!t1008)) = some r := H
          have A14 := Aside0.mk A140
          clear A140
          have H' := Aside0.mk H
          clear H
          go_wp2_with (first | ((with_reducible refine gate_callee (f := 16) rfl ?_); refine goesL_ (some 48) rfl rfl Try.func16 (by kernel_rfl) rfl #[.int .i64 a0, .int .i64 a1] rfl (by (try simp only [List.map_toArray, List.map_cons, List.map_nil]); first | done | rfl | (simp only [List.length_drop, List.length_take]; rfl)) ?_; (with_reducible refine (sackbutref02_Period.calls k a0 a1 t1007 _ A11.out).mono ?_); rintro e w' ⟨rfl, ⟨nd, rfl⟩⟩; refine ⟨_, rfl, ?_⟩) | (go_at_call 11; (with_reducible refine (sackbutlaw02_awake.calls k  t1008 _ A14.out).mono ?_); rintro e w15 ⟨rfl, hb⟩; have n0_ := Aside0.mk (below_step (by repeat (first | (with_reducible first | exact HB.out | apply below_alloc | apply pw_below_drewN | apply below_drew1) | exact HB.out)) hb); clear HB; have HB := n0_; clear n0_; (try clear hb); (try clear hb2); (try clear hk); (try clear hi)))
          go_meet
          case rel => exact ⟨_, (!t1008), (by first | rfl | (simp; done) | (simp [*]; done)), H', ⟨by first | omega | exact Nat.le_refl _⟩, ⟨by repeat (first | (with_reducible first | exact HB.out | apply below_alloc | apply pw_below_drewN | apply below_drew1) | exact HB.out)⟩⟩
        · rw [if_neg c13] at H
          have c13b0 : (t1002 == 0) = false := beq_eq_false_iff_ne.mpr c13
          have c13b1 : (t1002 != 0) = true := bne_iff_ne.mpr c13
          have H' := Aside0.mk H
          clear H
          go_wp2_with (first | ((with_reducible refine gate_callee (f := 16) rfl ?_); refine goesL_ (some 48) rfl rfl Try.func16 (by kernel_rfl) rfl #[.int .i64 a0, .int .i64 a1] rfl (by (try simp only [List.map_toArray, List.map_cons, List.map_nil]); first | done | rfl | (simp only [List.length_drop, List.length_take]; rfl)) ?_; (with_reducible refine (sackbutref02_Period.calls k a0 a1 t1007 _ A11.out).mono ?_); rintro e w' ⟨rfl, ⟨nd, rfl⟩⟩; refine ⟨_, rfl, ?_⟩))
          go_meet
          case rel => exact ⟨_, (true), (by first | rfl | (simp; done) | (simp [*]; done)), H', ⟨by first | omega | exact Nat.le_refl _⟩, ⟨by repeat (first | (with_reducible first | exact HB.out | apply below_alloc | apply pw_below_drewN | apply below_drew1) | exact HB.out)⟩⟩
      · rw [if_neg c12] at H
        have c12b0 : (t1001 == t1007) = false := beq_eq_false_iff_ne.mpr c12
        have c12b1 : (t1001 != t1007) = true := bne_iff_ne.mpr c12
        (first | rw [c12b0] | (simp only [i64_w, i32_w]; rw [c12b0]) | skip)
        have H' := Aside0.mk H
        clear H
        go_wp2_with (first | ((with_reducible refine gate_callee (f := 16) rfl ?_); refine goesL_ (some 48) rfl rfl Try.func16 (by kernel_rfl) rfl #[.int .i64 a0, .int .i64 a1] rfl (by (try simp only [List.map_toArray, List.map_cons, List.map_nil]); first | done | rfl | (simp only [List.length_drop, List.length_take]; rfl)) ?_; (with_reducible refine (sackbutref02_Period.calls k a0 a1 t1007 _ A11.out).mono ?_); rintro e w' ⟨rfl, ⟨nd, rfl⟩⟩; refine ⟨_, rfl, ?_⟩))
        go_meet
        case rel => exact ⟨_, (true), (by first | rfl | (simp; done) | (simp [*]; done)), H', ⟨by first | omega | exact Nat.le_refl _⟩, ⟨by repeat (first | (with_reducible first | exact HB.out | apply below_alloc | apply pw_below_drewN | apply below_drew1) | exact HB.out)⟩⟩
    case rest =>
      clear HC8
      try clear c1
      try clear p2
      try clear c5
      try clear c7
      try clear c10
      try clear c12
      try clear c12b0
      try clear c12b1
      try clear c13
      try clear c13b0
      try clear c13b1
      try clear c14
      try clear c15
      obtain ⟨kq, x57_7, rfl, HA, HJ7, HB⟩ := hcut
      cases kq with
      | zero => exact absurd HA.out (by simp [sackbutlaw02_CanonPeriods.j0])
      | succ kj7 =>
        have H := HA.out
        clear HA
        simp only [sackbutlaw02_CanonPeriods.j0] at H
        by_cases c16 : x57_7 = true
        · subst c16
          have H1 : (some false) = some r := by rw [if_pos rfl] at H; exact H
          clear H
          have H := H1
          clear H1
          obtain rfl := Option.some.inj H
          go_wp2
          go_ret
          exact ⟨by first | rfl | (simp [errW_none, errW_some] <;> rfl) | (simp [*, errW_none, errW_some] <;> rfl), by repeat (first | (with_reducible first | exact HB.out | apply below_alloc | apply pw_below_drewN | apply below_drew1) | exact HB.out)⟩
        · replace c16 := Bool.eq_false_iff.mpr c16
          subst c16
          have H1 : (if a2 < 2 then (if t1003 = 0 then (some (t1004 == 2)) else (some false)) else ((sackbutref02_Is.f a0 a1 a2).bind fun t1009 => (if t1009 = true then ((sackbutref02_Fold.f kj7 a0 a1 a2).bind fun t1010 => (if t1003 = t1010 then (some (t1004 == 0)) else (some false))) else (if t1003 = 0 then (some (t1004 == 2)) else (some false))))) = some r := by rw [if_neg (show ¬ (false = true) by decide)] at H; exact H
          clear H
          have H := H1
          clear H1
          by_cases c17 : a2 < 2
          · rw [if_pos c17] at H
            have c17b0 : decide (a2 < 2) = true := decide_eq_true c17
            clear c17
            by_cases c18 : t1003 = 0
            · rw [if_pos c18] at H
              have c18b0 : (t1003 == 0) = true := beq_iff_eq.mpr c18
              have c18b1 : (t1003 != 0) = false := bne_eq_false_iff_eq.mpr c18
              clear c18
              obtain rfl := Option.some.inj H
              go_wp2
              go_ret
              exact ⟨by first | rfl | (simp [errW_none, errW_some] <;> rfl) | (simp [*, errW_none, errW_some] <;> rfl), by repeat (first | (with_reducible first | exact HB.out | apply below_alloc | apply pw_below_drewN | apply below_drew1) | exact HB.out)⟩
            · rw [if_neg c18] at H
              have c18b0 : (t1003 == 0) = false := beq_eq_false_iff_ne.mpr c18
              have c18b1 : (t1003 != 0) = true := bne_iff_ne.mpr c18
              obtain rfl := Option.some.inj H
              go_wp2
              go_ret
              exact ⟨by first | rfl | (simp [errW_none, errW_some] <;> rfl) | (simp [*, errW_none, errW_some] <;> rfl), by repeat (first | (with_reducible first | exact HB.out | apply below_alloc | apply pw_below_drewN | apply below_drew1) | exact HB.out)⟩
          · rw [if_neg c17] at H
            have c17b0 : decide (a2 < 2) = false := decide_eq_false c17
            clear c17
            replace H := Option.bind_eq_some_iff.mp H
            obtain ⟨t1009, A190, H⟩ := H
            replace H : (if t1009 = true then ((sackbutref02_Fold.f kj7 a0 a1 a2).bind fun t1010 => (if t1003 = t1010 then (some (t1004 == 0)) else (some false))) else (if t1003 = 0 then (some (t1004 == 2)) else (some false))) = some r := H
            have A19 := Aside0.mk A190
            clear A190
            by_cases c20 : t1009 = true
            · subst c20
              have H1 : ((sackbutref02_Fold.f kj7 a0 a1 a2).bind fun t1010 => (if t1003 = t1010 then (some (t1004 == 0)) else (some false))) = some r := by rw [if_pos rfl] at H; exact H
              clear H
              have H := H1
              clear H1
              replace H := Option.bind_eq_some_iff.mp H
              obtain ⟨t1010, A210, H⟩ := H
              replace H : (if t1003 = t1010 then (some (t1004 == 0)) else (some false)) = some r := H
              have A21 := Aside0.mk A210
              clear A210
              by_cases c22 : t1003 = t1010
              · rw [if_pos c22] at H
                have c22b0 : (t1003 == t1010) = true := beq_iff_eq.mpr c22
                have c22b1 : (t1003 != t1010) = false := bne_eq_false_iff_eq.mpr c22
                clear c22
                obtain rfl := Option.some.inj H
                go_wp2_with (first | (go_at_call 17; (with_reducible refine (sackbutref02_Is.calls a0 a1 a2 true _ A19.out).mono ?_); rintro e w' ⟨rfl, ⟨nd, rfl⟩⟩) | ((with_reducible refine gate_callee (f := 18) rfl ?_); refine goesL_ (some 77) rfl rfl Try.func18 (by kernel_rfl) rfl #[.int .i64 a0, .int .i64 a1, .int .i64 a2] rfl (by (try simp only [List.map_toArray, List.map_cons, List.map_nil]); first | done | rfl | (simp only [List.length_drop, List.length_take]; rfl)) ?_; (with_reducible refine (sackbutref02_Fold.calls kj7 a0 a1 a2 t1010 _ A21.out).mono ?_); rintro e w' ⟨rfl, ⟨nd, rfl⟩⟩; refine ⟨_, rfl, ?_⟩))
                go_ret
                exact ⟨by first | rfl | (simp [errW_none, errW_some] <;> rfl) | (simp [*, errW_none, errW_some] <;> rfl), by repeat (first | (with_reducible first | exact HB.out | apply below_alloc | apply pw_below_drewN | apply below_drew1) | exact HB.out)⟩
              · rw [if_neg c22] at H
                have c22b0 : (t1003 == t1010) = false := beq_eq_false_iff_ne.mpr c22
                have c22b1 : (t1003 != t1010) = true := bne_iff_ne.mpr c22
                obtain rfl := Option.some.inj H
                go_wp2_with (first | (go_at_call 17; (with_reducible refine (sackbutref02_Is.calls a0 a1 a2 true _ A19.out).mono ?_); rintro e w' ⟨rfl, ⟨nd, rfl⟩⟩) | ((with_reducible refine gate_callee (f := 18) rfl ?_); refine goesL_ (some 77) rfl rfl Try.func18 (by kernel_rfl) rfl #[.int .i64 a0, .int .i64 a1, .int .i64 a2] rfl (by (try simp only [List.map_toArray, List.map_cons, List.map_nil]); first | done | rfl | (simp only [List.length_drop, List.length_take]; rfl)) ?_; (with_reducible refine (sackbutref02_Fold.calls kj7 a0 a1 a2 t1010 _ A21.out).mono ?_); rintro e w' ⟨rfl, ⟨nd, rfl⟩⟩; refine ⟨_, rfl, ?_⟩))
                go_ret
                exact ⟨by first | rfl | (simp [errW_none, errW_some] <;> rfl) | (simp [*, errW_none, errW_some] <;> rfl), by repeat (first | (with_reducible first | exact HB.out | apply below_alloc | apply pw_below_drewN | apply below_drew1) | exact HB.out)⟩
            · replace c20 := Bool.eq_false_iff.mpr c20
              subst c20
              have H1 : (if t1003 = 0 then (some (t1004 == 2)) else (some false)) = some r := by rw [if_neg (show ¬ (false = true) by decide)] at H; exact H
              clear H
              have H := H1
              clear H1
              by_cases c23 : t1003 = 0
              · rw [if_pos c23] at H
                have c23b0 : (t1003 == 0) = true := beq_iff_eq.mpr c23
                have c23b1 : (t1003 != 0) = false := bne_eq_false_iff_eq.mpr c23
                clear c23
                obtain rfl := Option.some.inj H
                go_wp2_with (first | (go_at_call 17; (with_reducible refine (sackbutref02_Is.calls a0 a1 a2 false _ A19.out).mono ?_); rintro e w' ⟨rfl, ⟨nd, rfl⟩⟩))
                go_ret
                exact ⟨by first | rfl | (simp [errW_none, errW_some] <;> rfl) | (simp [*, errW_none, errW_some] <;> rfl), by repeat (first | (with_reducible first | exact HB.out | apply below_alloc | apply pw_below_drewN | apply below_drew1) | exact HB.out)⟩
              · rw [if_neg c23] at H
                have c23b0 : (t1003 == 0) = false := beq_eq_false_iff_ne.mpr c23
                have c23b1 : (t1003 != 0) = true := bne_iff_ne.mpr c23
                obtain rfl := Option.some.inj H
                go_wp2_with (first | (go_at_call 17; (with_reducible refine (sackbutref02_Is.calls a0 a1 a2 false _ A19.out).mono ?_); rintro e w' ⟨rfl, ⟨nd, rfl⟩⟩))
                go_ret
                exact ⟨by first | rfl | (simp [errW_none, errW_some] <;> rfl) | (simp [*, errW_none, errW_some] <;> rfl), by repeat (first | (with_reducible first | exact HB.out | apply below_alloc | apply pw_below_drewN | apply below_drew1) | exact HB.out)⟩
  · replace c7 := Bool.eq_false_iff.mpr c7
    subst c7
    have H1 : (if t1001 = 0 then (if t1003 = 0 then (if t1002 = 2 then (if t1004 = 2 then ((sackbutlaw02_awake.f k).bind fun t1006 => (some t1006)) else (some false)) else (some false)) else (some false)) else (some false)) = some r := by rw [if_neg (show ¬ (false = true) by decide)] at H; exact H
    clear H
    have H := H1
    clear H1
    by_cases c24 : t1001 = 0
    · rw [if_pos c24] at H
      have c24b0 : (t1001 == 0) = true := beq_iff_eq.mpr c24
      have c24b1 : (t1001 != 0) = false := bne_eq_false_iff_eq.mpr c24
      clear c24
      by_cases c25 : t1003 = 0
      · rw [if_pos c25] at H
        have c25b0 : (t1003 == 0) = true := beq_iff_eq.mpr c25
        have c25b1 : (t1003 != 0) = false := bne_eq_false_iff_eq.mpr c25
        clear c25
        by_cases c26 : t1002 = 2
        · rw [if_pos c26] at H
          have c26b0 : (t1002 == 2) = true := beq_iff_eq.mpr c26
          have c26b1 : (t1002 != 2) = false := bne_eq_false_iff_eq.mpr c26
          clear c26
          by_cases c27 : t1004 = 2
          · rw [if_pos c27] at H
            have c27b0 : (t1004 == 2) = true := beq_iff_eq.mpr c27
            have c27b1 : (t1004 != 2) = false := bne_eq_false_iff_eq.mpr c27
            clear c27
            replace H := Option.bind_eq_some_iff.mp H
            obtain ⟨t1006, A280, H⟩ := H
            replace H : (some t1006) = some r := H
            have A28 := Aside0.mk A280
            clear A280
            obtain rfl := Option.some.inj H
            go_enter Try.func5, Try.ntmps5
            go_wp2_with (first | ((with_reducible refine gate_callee (f := 14) rfl ?_); refine goesL_ (some 14) rfl rfl Try.func14 (by kernel_rfl) rfl #[.int .i64 a0, .int .i64 a1] rfl (by (try simp only [List.map_toArray, List.map_cons, List.map_nil]); first | done | rfl | (simp only [List.length_drop, List.length_take]; rfl)) ?_; (with_reducible refine (canon_Period.calls k a0 a1 t1001 t1002 _ A4.out).mono ?_); rintro e w29 ⟨rfl, hb⟩; refine ⟨_, rfl, ?_⟩; have n0_ := Aside0.mk (below_step (by repeat (first | (with_reducible first | exact HB.out | apply below_alloc | apply pw_below_drewN | apply below_drew1) | exact HB.out)) hb); clear HB; have HB := n0_; clear n0_; (try clear hb); (try clear hb2); (try clear hk); (try clear hi)) | ((with_reducible refine gate_callee (f := 15) rfl ?_); refine goesL_ (some 21) rfl rfl Try.func15 (by kernel_rfl) rfl #[.int .i64 a0, .int .i64 a1, .int .i64 a2] rfl (by (try simp only [List.map_toArray, List.map_cons, List.map_nil]); first | done | rfl | (simp only [List.length_drop, List.length_take]; rfl)) ?_; (with_reducible refine (canon_Fold.calls a0 a1 a2 t1003 t1004 _ A5.out).mono ?_); rintro e w30 ⟨rfl, hb⟩; refine ⟨_, rfl, ?_⟩; have n0_ := Aside0.mk (below_step (by repeat (first | (with_reducible first | exact HB.out | apply below_alloc | apply pw_below_drewN | apply below_drew1) | exact HB.out)) hb); clear HB; have HB := n0_; clear n0_; (try clear hb); (try clear hb2); (try clear hk); (try clear hi)) | ((with_reducible refine gate_callee (f := 10) rfl ?_); refine goesL_ (some 26) rfl rfl Try.func10 (by kernel_rfl) rfl #[.int .i64 a0, .int .i64 a1] rfl (by (try simp only [List.map_toArray, List.map_cons, List.map_nil]); first | done | rfl | (simp only [List.length_drop, List.length_take]; rfl)) ?_; (with_reducible refine (sackbutref02_Rhythm.calls a0 a1 false _ A6.out).mono ?_); rintro e w' ⟨rfl, ⟨nd, rfl⟩⟩; refine ⟨_, rfl, ?_⟩) | (go_at_call 11; (with_reducible refine (sackbutlaw02_awake.calls k  t1006 _ A28.out).mono ?_); rintro e w31 ⟨rfl, hb⟩; have n0_ := Aside0.mk (below_step (by repeat (first | (with_reducible first | exact HB.out | apply below_alloc | apply pw_below_drewN | apply below_drew1) | exact HB.out)) hb); clear HB; have HB := n0_; clear n0_; (try clear hb); (try clear hb2); (try clear hk); (try clear hi)))
            go_ret
            exact ⟨by first | rfl | (simp [errW_none, errW_some] <;> rfl) | (simp [*, errW_none, errW_some] <;> rfl), by repeat (first | (with_reducible first | exact HB.out | apply below_alloc | apply pw_below_drewN | apply below_drew1) | exact HB.out)⟩
          · rw [if_neg c27] at H
            have c27b0 : (t1004 == 2) = false := beq_eq_false_iff_ne.mpr c27
            have c27b1 : (t1004 != 2) = true := bne_iff_ne.mpr c27
            obtain rfl := Option.some.inj H
            go_enter Try.func5, Try.ntmps5
            go_wp2_with (first | ((with_reducible refine gate_callee (f := 14) rfl ?_); refine goesL_ (some 14) rfl rfl Try.func14 (by kernel_rfl) rfl #[.int .i64 a0, .int .i64 a1] rfl (by (try simp only [List.map_toArray, List.map_cons, List.map_nil]); first | done | rfl | (simp only [List.length_drop, List.length_take]; rfl)) ?_; (with_reducible refine (canon_Period.calls k a0 a1 t1001 t1002 _ A4.out).mono ?_); rintro e w32 ⟨rfl, hb⟩; refine ⟨_, rfl, ?_⟩; have n0_ := Aside0.mk (below_step (by repeat (first | (with_reducible first | exact HB.out | apply below_alloc | apply pw_below_drewN | apply below_drew1) | exact HB.out)) hb); clear HB; have HB := n0_; clear n0_; (try clear hb); (try clear hb2); (try clear hk); (try clear hi)) | ((with_reducible refine gate_callee (f := 15) rfl ?_); refine goesL_ (some 21) rfl rfl Try.func15 (by kernel_rfl) rfl #[.int .i64 a0, .int .i64 a1, .int .i64 a2] rfl (by (try simp only [List.map_toArray, List.map_cons, List.map_nil]); first | done | rfl | (simp only [List.length_drop, List.length_take]; rfl)) ?_; (with_reducible refine (canon_Fold.calls a0 a1 a2 t1003 t1004 _ A5.out).mono ?_); rintro e w33 ⟨rfl, hb⟩; refine ⟨_, rfl, ?_⟩; have n0_ := Aside0.mk (below_step (by repeat (first | (with_reducible first | exact HB.out | apply below_alloc | apply pw_below_drewN | apply below_drew1) | exact HB.out)) hb); clear HB; have HB := n0_; clear n0_; (try clear hb); (try clear hb2); (try clear hk); (try clear hi)) | ((with_reducible refine gate_callee (f := 10) rfl ?_); refine goesL_ (some 26) rfl rfl Try.func10 (by kernel_rfl) rfl #[.int .i64 a0, .int .i64 a1] rfl (by (try simp only [List.map_toArray, List.map_cons, List.map_nil]); first | done | rfl | (simp only [List.length_drop, List.length_take]; rfl)) ?_; (with_reducible refine (sackbutref02_Rhythm.calls a0 a1 false _ A6.out).mono ?_); rintro e w' ⟨rfl, ⟨nd, rfl⟩⟩; refine ⟨_, rfl, ?_⟩))
            go_ret
            exact ⟨by first | rfl | (simp [errW_none, errW_some] <;> rfl) | (simp [*, errW_none, errW_some] <;> rfl), by repeat (first | (with_reducible first | exact HB.out | apply below_alloc | apply pw_below_drewN | apply below_drew1) | exact HB.out)⟩
        · rw [if_neg c26] at H
          have c26b0 : (t1002 == 2) = false := beq_eq_false_iff_ne.mpr c26
          have c26b1 : (t1002 != 2) = true := bne_iff_ne.mpr c26
          obtain rfl := Option.some.inj H
          go_enter Try.func5, Try.ntmps5
          go_wp2_with (first | ((with_reducible refine gate_callee (f := 14) rfl ?_); refine goesL_ (some 14) rfl rfl Try.func14 (by kernel_rfl) rfl #[.int .i64 a0, .int .i64 a1] rfl (by (try simp only [List.map_toArray, List.map_cons, List.map_nil]); first | done | rfl | (simp only [List.length_drop, List.length_take]; rfl)) ?_; (with_reducible refine (canon_Period.calls k a0 a1 t1001 t1002 _ A4.out).mono ?_); rintro e w34 ⟨rfl, hb⟩; refine ⟨_, rfl, ?_⟩; have n0_ := Aside0.mk (below_step (by repeat (first | (with_reducible first | exact HB.out | apply below_alloc | apply pw_below_drewN | apply below_drew1) | exact HB.out)) hb); clear HB; have HB := n0_; clear n0_; (try clear hb); (try clear hb2); (try clear hk); (try clear hi)) | ((with_reducible refine gate_callee (f := 15) rfl ?_); refine goesL_ (some 21) rfl rfl Try.func15 (by kernel_rfl) rfl #[.int .i64 a0, .int .i64 a1, .int .i64 a2] rfl (by (try simp only [List.map_toArray, List.map_cons, List.map_nil]); first | done | rfl | (simp only [List.length_drop, List.length_take]; rfl)) ?_; (with_reducible refine (canon_Fold.calls a0 a1 a2 t1003 t1004 _ A5.out).mono ?_); rintro e w35 ⟨rfl, hb⟩; refine ⟨_, rfl, ?_⟩; have n0_ := Aside0.mk (below_step (by repeat (first | (with_reducible first | exact HB.out | apply below_alloc | apply pw_below_drewN | apply below_drew1) | exact HB.out)) hb); clear HB; have HB := n0_; clear n0_; (try clear hb); (try clear hb2); (try clear hk); (try clear hi)) | ((with_reducible refine gate_callee (f := 10) rfl ?_); refine goesL_ (some 26) rfl rfl Try.func10 (by kernel_rfl) rfl #[.int .i64 a0, .int .i64 a1] rfl (by (try simp only [List.map_toArray, List.map_cons, List.map_nil]); first | done | rfl | (simp only [List.length_drop, List.length_take]; rfl)) ?_; (with_reducible refine (sackbutref02_Rhythm.calls a0 a1 false _ A6.out).mono ?_); rintro e w' ⟨rfl, ⟨nd, rfl⟩⟩; refine ⟨_, rfl, ?_⟩))
          go_ret
          exact ⟨by first | rfl | (simp [errW_none, errW_some] <;> rfl) | (simp [*, errW_none, errW_some] <;> rfl), by repeat (first | (with_reducible first | exact HB.out | apply below_alloc | apply pw_below_drewN | apply below_drew1) | exact HB.out)⟩
      · rw [if_neg c25] at H
        have c25b0 : (t1003 == 0) = false := beq_eq_false_iff_ne.mpr c25
        have c25b1 : (t1003 != 0) = true := bne_iff_ne.mpr c25
        obtain rfl := Option.some.inj H
        go_enter Try.func5, Try.ntmps5
        go_wp2_with (first | ((with_reducible refine gate_callee (f := 14) rfl ?_); refine goesL_ (some 14) rfl rfl Try.func14 (by kernel_rfl) rfl #[.int .i64 a0, .int .i64 a1] rfl (by (try simp only [List.map_toArray, List.map_cons, List.map_nil]); first | done | rfl | (simp only [List.length_drop, List.length_take]; rfl)) ?_; (with_reducible refine (canon_Period.calls k a0 a1 t1001 t1002 _ A4.out).mono ?_); rintro e w36 ⟨rfl, hb⟩; refine ⟨_, rfl, ?_⟩; have n0_ := Aside0.mk (below_step (by repeat (first | (with_reducible first | exact HB.out | apply below_alloc | apply pw_below_drewN | apply below_drew1) | exact HB.out)) hb); clear HB; have HB := n0_; clear n0_; (try clear hb); (try clear hb2); (try clear hk); (try clear hi)) | ((with_reducible refine gate_callee (f := 15) rfl ?_); refine goesL_ (some 21) rfl rfl Try.func15 (by kernel_rfl) rfl #[.int .i64 a0, .int .i64 a1, .int .i64 a2] rfl (by (try simp only [List.map_toArray, List.map_cons, List.map_nil]); first | done | rfl | (simp only [List.length_drop, List.length_take]; rfl)) ?_; (with_reducible refine (canon_Fold.calls a0 a1 a2 t1003 t1004 _ A5.out).mono ?_); rintro e w37 ⟨rfl, hb⟩; refine ⟨_, rfl, ?_⟩; have n0_ := Aside0.mk (below_step (by repeat (first | (with_reducible first | exact HB.out | apply below_alloc | apply pw_below_drewN | apply below_drew1) | exact HB.out)) hb); clear HB; have HB := n0_; clear n0_; (try clear hb); (try clear hb2); (try clear hk); (try clear hi)) | ((with_reducible refine gate_callee (f := 10) rfl ?_); refine goesL_ (some 26) rfl rfl Try.func10 (by kernel_rfl) rfl #[.int .i64 a0, .int .i64 a1] rfl (by (try simp only [List.map_toArray, List.map_cons, List.map_nil]); first | done | rfl | (simp only [List.length_drop, List.length_take]; rfl)) ?_; (with_reducible refine (sackbutref02_Rhythm.calls a0 a1 false _ A6.out).mono ?_); rintro e w' ⟨rfl, ⟨nd, rfl⟩⟩; refine ⟨_, rfl, ?_⟩))
        go_ret
        exact ⟨by first | rfl | (simp [errW_none, errW_some] <;> rfl) | (simp [*, errW_none, errW_some] <;> rfl), by repeat (first | (with_reducible first | exact HB.out | apply below_alloc | apply pw_below_drewN | apply below_drew1) | exact HB.out)⟩
    · rw [if_neg c24] at H
      have c24b0 : (t1001 == 0) = false := beq_eq_false_iff_ne.mpr c24
      have c24b1 : (t1001 != 0) = true := bne_iff_ne.mpr c24
      obtain rfl := Option.some.inj H
      go_enter Try.func5, Try.ntmps5
      go_wp2_with (first | ((with_reducible refine gate_callee (f := 14) rfl ?_); refine goesL_ (some 14) rfl rfl Try.func14 (by kernel_rfl) rfl #[.int .i64 a0, .int .i64 a1] rfl (by (try simp only [List.map_toArray, List.map_cons, List.map_nil]); first | done | rfl | (simp only [List.length_drop, List.length_take]; rfl)) ?_; (with_reducible refine (canon_Period.calls k a0 a1 t1001 t1002 _ A4.out).mono ?_); rintro e w38 ⟨rfl, hb⟩; refine ⟨_, rfl, ?_⟩; have n0_ := Aside0.mk (below_step (by repeat (first | (with_reducible first | exact HB.out | apply below_alloc | apply pw_below_drewN | apply below_drew1) | exact HB.out)) hb); clear HB; have HB := n0_; clear n0_; (try clear hb); (try clear hb2); (try clear hk); (try clear hi)) | ((with_reducible refine gate_callee (f := 15) rfl ?_); refine goesL_ (some 21) rfl rfl Try.func15 (by kernel_rfl) rfl #[.int .i64 a0, .int .i64 a1, .int .i64 a2] rfl (by (try simp only [List.map_toArray, List.map_cons, List.map_nil]); first | done | rfl | (simp only [List.length_drop, List.length_take]; rfl)) ?_; (with_reducible refine (canon_Fold.calls a0 a1 a2 t1003 t1004 _ A5.out).mono ?_); rintro e w39 ⟨rfl, hb⟩; refine ⟨_, rfl, ?_⟩; have n0_ := Aside0.mk (below_step (by repeat (first | (with_reducible first | exact HB.out | apply below_alloc | apply pw_below_drewN | apply below_drew1) | exact HB.out)) hb); clear HB; have HB := n0_; clear n0_; (try clear hb); (try clear hb2); (try clear hk); (try clear hi)) | ((with_reducible refine gate_callee (f := 10) rfl ?_); refine goesL_ (some 26) rfl rfl Try.func10 (by kernel_rfl) rfl #[.int .i64 a0, .int .i64 a1] rfl (by (try simp only [List.map_toArray, List.map_cons, List.map_nil]); first | done | rfl | (simp only [List.length_drop, List.length_take]; rfl)) ?_; (with_reducible refine (sackbutref02_Rhythm.calls a0 a1 false _ A6.out).mono ?_); rintro e w' ⟨rfl, ⟨nd, rfl⟩⟩; refine ⟨_, rfl, ?_⟩))
      go_ret
      exact ⟨by first | rfl | (simp [errW_none, errW_some] <;> rfl) | (simp [*, errW_none, errW_some] <;> rfl), by repeat (first | (with_reducible first | exact HB.out | apply below_alloc | apply pw_below_drewN | apply below_drew1) | exact HB.out)⟩

/-- THE ONE PURE STATEMENT of sackbutlaw02_CanonPeriods: yours. -/
def sackbutlaw02_CanonPeriods.Pure : Prop := ∀ (a0 : Int) (a1 : Int) (a2 : Int), (Lit.int .i64 a0).wf = true → (Lit.int .i64 a1).wf = true → (Lit.int .i64 a2).wf = true → ∃ k, sackbutlaw02_CanonPeriods.f k a0 a1 a2 = some true
theorem sackbutlaw02_CanonPeriods.walk (P : sackbutlaw02_CanonPeriods.Pure) (a0 : Int) (a1 : Int) (a2 : Int) (w : World) (w0 : (Lit.int .i64 a0).wf = true) (w1 : (Lit.int .i64 a1).wf = true) (w2 : (Lit.int .i64 a2).wf = true) :
    Calls Try.prog 5 #[.int .i64 a0, .int .i64 a1, .int .i64 a2] w fun e w' => e = .returned (.bool true) ∧ Below w.heap.size w w' := by
  obtain ⟨k, h⟩ := P a0 a1 a2 w0 w1 w2
  refine (sackbutlaw02_CanonPeriods.calls k a0 a1 a2 true w h).mono ?_
  rintro e w' ⟨rfl, hd⟩
  exact ⟨rfl, hd⟩

end Go.Proofs.Ytkidgakjeahebaa.P
