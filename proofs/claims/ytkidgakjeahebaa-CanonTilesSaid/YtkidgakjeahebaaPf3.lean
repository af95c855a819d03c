/- A part of a proof that a law's Go function returns true for every input, laid by this session's program mp.py (which drives the kit's print). Conditions: as each theorem states them. -/
import Derived.Test.YtkidgakjeahebaaP0
import Derived.Test.YtkidgakjeahebaaPf10
import Derived.Test.YtkidgakjeahebaaPf11
import Derived.Test.YtkidgakjeahebaaPf12
import Derived.Test.YtkidgakjeahebaaPf13
import Derived.Test.YtkidgakjeahebaaPf8
import Derived.Test.YtkidgakjeahebaaPf9
namespace Go.Proofs.Ytkidgakjeahebaa.P
open Go.RowKit Go.Proofs.YtkidgakjeahebaaW.PrintWords Go.Proofs.YtkidgakjeahebaaW.PrintLast Go.Proofs.YtkidgakjeahebaaW.PrintMore
attribute [local go_sem] max2_int min2_int max_two min_two max_three min_three max_four min_four   -- for this text's walks alone
set_option linter.unusedVariables false
set_option linter.unusedSimpArgs false

/-! ### sackbutlaw02_CanonTiles: function 3 -/
mutual
def sackbutlaw02_CanonTiles.j0 : Nat → Int → Int → Int → Int → Bool → Int → Int → Int → Bool → Option (Bool)
  | 0, _, _, _, _, _, _, _, _, _ => none
  | k + 1, x0, x1, x2, x3, x9, x10, x11, x12, x39 => if x39 = true then (if x9 = true then (some false) else (if x11 = 0 then (if x10 = 2 then (if x12 = 2 then ((sackbutlaw02_awake.f k).bind fun t1007 => (some t1007)) else (some false)) else (some false)) else (some false))) else ((sackbutref02_Tiles.f k x0 x1 x2).bind fun t1008 => (if (x9 != t1008) = true then (sackbutlaw02_CanonTiles.j1 k x0 x1 x2 x3 x11 x12 true) else (if x10 = 0 then ((sackbutlaw02_awake.f k).bind fun t1009 => (sackbutlaw02_CanonTiles.j1 k x0 x1 x2 x3 x11 x12 (!t1009))) else (sackbutlaw02_CanonTiles.j1 k x0 x1 x2 x3 x11 x12 true))))
def sackbutlaw02_CanonTiles.j1 : Nat → Int → Int → Int → Int → Int → Int → Bool → Option (Bool)
  | 0, _, _, _, _, _, _, _ => none
  | k + 1, x0, x1, x2, x3, x11, x12, x70 => if x70 = true then (some false) else (if x3 < 0 then (if x11 = 0 then (some (x12 == 2)) else (some false)) else (if x3 ≥ x0 then (if x11 = 0 then (some (x12 == 2)) else (some false)) else ((sackbutref02_Enter.f k x0 x1 x2 x3).bind fun bt1010 => (if x11 = bt1010.1 then (some (x12 == bt1010.2)) else (some false)))))
end
def sackbutlaw02_CanonTiles.f (k : Nat) (a0 : Int) (a1 : Int) (a2 : Int) (a3 : Int) : Option (Bool) := (canon_Tiles.f k a0 a1 a2).bind fun bt1001 => ((canon_Enter.f k a0 a1 a2 a3).bind fun bt1003 => ((sackbutref02_Rhythm.f a0 a1).bind fun t1005 => (if t1005 = true then ((sackbutref02_Rhythm.f a0 a2).bind fun t1006 => (sackbutlaw02_CanonTiles.j0 k a0 a1 a2 a3 bt1001.1 bt1001.2 bt1003.1 bt1003.2 (!t1006))) else (sackbutlaw02_CanonTiles.j0 k a0 a1 a2 a3 bt1001.1 bt1001.2 bt1003.1 bt1003.2 true))))
theorem sackbutlaw02_CanonTiles.mono_l : ∀ k, (∀ y0 y1 y2 y3 y4 y5 y6 y7 y8, LeO (sackbutlaw02_CanonTiles.j0 k y0 y1 y2 y3 y4 y5 y6 y7 y8) (sackbutlaw02_CanonTiles.j0 (k + 1) y0 y1 y2 y3 y4 y5 y6 y7 y8)) ∧ (∀ y0 y1 y2 y3 y4 y5 y6, LeO (sackbutlaw02_CanonTiles.j1 k y0 y1 y2 y3 y4 y5 y6) (sackbutlaw02_CanonTiles.j1 (k + 1) y0 y1 y2 y3 y4 y5 y6))
  | 0 => ⟨fun _ _ _ _ _ _ _ _ _ r h => by simp [sackbutlaw02_CanonTiles.j0] at h, fun _ _ _ _ _ _ _ r h => by simp [sackbutlaw02_CanonTiles.j1] at h⟩
  | k + 1 => by
    obtain ⟨ih0, ih1⟩ := sackbutlaw02_CanonTiles.mono_l k
    refine ⟨?_, ?_⟩
    · intro y0 y1 y2 y3 y4 y5 y6 y7 y8
      unfold sackbutlaw02_CanonTiles.j0
      repeat' first
      | (with_reducible exact ih0 _ _ _ _ _ _ _ _ _)
      | (with_reducible exact ih1 _ _ _ _ _ _ _)
      | (with_reducible exact canon_Enter.mono _ _ _ _ _)
      | (with_reducible exact canon_Tiles.mono _ _ _ _)
      | (with_reducible exact sackbutlaw02_awake.mono _)
      | (with_reducible exact sackbutref02_Enter.mono _ _ _ _ _)
      | (with_reducible exact sackbutref02_Tiles.mono _ _ _ _)
      | (with_reducible exact LeO.refl _)
      | (with_reducible exact LeO.none _)
      | (with_reducible refine LeO.ite ?_ ?_)
      | (with_reducible refine LeO.bind ?_ (fun _ => ?_))
      | exact ih0 _ _ _ _ _ _ _ _ _
      | exact ih1 _ _ _ _ _ _ _
      | exact canon_Enter.mono _ _ _ _ _
      | exact canon_Tiles.mono _ _ _ _
      | exact sackbutlaw02_awake.mono _
      | exact sackbutref02_Enter.mono _ _ _ _ _
      | exact sackbutref02_Tiles.mono _ _ _ _
      | exact LeO.none _
      | refine LeO.ite ?_ ?_
      | refine LeO.bind ?_ (fun _ => ?_)
    · intro y0 y1 y2 y3 y4 y5 y6
      unfold sackbutlaw02_CanonTiles.j1
      repeat' first
      | (with_reducible exact ih0 _ _ _ _ _ _ _ _ _)
      | (with_reducible exact ih1 _ _ _ _ _ _ _)
      | (with_reducible exact canon_Enter.mono _ _ _ _ _)
      | (with_reducible exact canon_Tiles.mono _ _ _ _)
      | (with_reducible exact sackbutlaw02_awake.mono _)
      | (with_reducible exact sackbutref02_Enter.mono _ _ _ _ _)
      | (with_reducible exact sackbutref02_Tiles.mono _ _ _ _)
      | (with_reducible exact LeO.refl _)
      | (with_reducible exact LeO.none _)
      | (with_reducible refine LeO.ite ?_ ?_)
      | (with_reducible refine LeO.bind ?_ (fun _ => ?_))
      | exact ih0 _ _ _ _ _ _ _ _ _
      | exact ih1 _ _ _ _ _ _ _
      | exact canon_Enter.mono _ _ _ _ _
      | exact canon_Tiles.mono _ _ _ _
      | exact sackbutlaw02_awake.mono _
      | exact sackbutref02_Enter.mono _ _ _ _ _
      | exact sackbutref02_Tiles.mono _ _ _ _
      | exact LeO.none _
      | refine LeO.ite ?_ ?_
      | refine LeO.bind ?_ (fun _ => ?_)
theorem sackbutlaw02_CanonTiles.mono : ∀ a0 a1 a2 a3 k, LeO (sackbutlaw02_CanonTiles.f k a0 a1 a2 a3) (sackbutlaw02_CanonTiles.f (k + 1) a0 a1 a2 a3) := by
  intro a0 a1 a2 a3 k
  obtain ⟨ih0, ih1⟩ := sackbutlaw02_CanonTiles.mono_l k
  unfold sackbutlaw02_CanonTiles.f
  repeat' first
      | (with_reducible exact ih0 _ _ _ _ _ _ _ _ _)
      | (with_reducible exact ih1 _ _ _ _ _ _ _)
      | (with_reducible exact canon_Enter.mono _ _ _ _ _)
      | (with_reducible exact canon_Tiles.mono _ _ _ _)
      | (with_reducible exact sackbutlaw02_awake.mono _)
      | (with_reducible exact sackbutref02_Enter.mono _ _ _ _ _)
      | (with_reducible exact sackbutref02_Tiles.mono _ _ _ _)
      | (with_reducible exact LeO.refl _)
      | (with_reducible exact LeO.none _)
      | (with_reducible refine LeO.ite ?_ ?_)
      | (with_reducible refine LeO.bind ?_ (fun _ => ?_))
      | exact ih0 _ _ _ _ _ _ _ _ _
      | exact ih1 _ _ _ _ _ _ _
      | exact canon_Enter.mono _ _ _ _ _
      | exact canon_Tiles.mono _ _ _ _
      | exact sackbutlaw02_awake.mono _
      | exact sackbutref02_Enter.mono _ _ _ _ _
      | exact sackbutref02_Tiles.mono _ _ _ _
      | exact LeO.none _
      | refine LeO.ite ?_ ?_
      | refine LeO.bind ?_ (fun _ => ?_)
set_option maxHeartbeats 8000000 in
set_option maxRecDepth 100000 in
theorem sackbutlaw02_CanonTiles.calls (k : Nat) (a0 : Int) (a1 : Int) (a2 : Int) (a3 : Int) (r : Bool) (w : World) (h : sackbutlaw02_CanonTiles.f k a0 a1 a2 a3 = some r) :
    Calls Try.prog 3 #[.int .i64 a0, .int .i64 a1, .int .i64 a2, .int .i64 a3] w fun e w' => e = .returned (.bool r) ∧ Below w.heap.size w w' := by
  have HB := Aside0.mk (Below.refl w.heap.size w)
  have H : ((canon_Tiles.f k a0 a1 a2).bind fun bt1001 => ((canon_Enter.f k a0 a1 a2 a3).bind fun bt1003 => ((sackbutref02_Rhythm.f a0 a1).bind fun t1005 => (if t1005 = true then ((sackbutref02_Rhythm.f a0 a2).bind fun t1006 => (sackbutlaw02_CanonTiles.j0 k a0 a1 a2 a3 bt1001.1 bt1001.2 bt1003.1 bt1003.2 (!t1006))) else (sackbutlaw02_CanonTiles.j0 k a0 a1 a2 a3 bt1001.1 bt1001.2 bt1003.1 bt1003.2 true))))) = some r := h
  clear h
  replace H := Option.bind_eq_some_iff.mp H
  obtain ⟨⟨t1001, t1002⟩, A50, H⟩ := H
  replace H : ((canon_Enter.f k a0 a1 a2 a3).bind fun bt1003 => ((sackbutref02_Rhythm.f a0 a1).bind fun t1005 => (if t1005 = true then ((sackbutref02_Rhythm.f a0 a2).bind fun t1006 => (sackbutlaw02_CanonTiles.j0 k a0 a1 a2 a3 t1001 t1002 bt1003.1 bt1003.2 (!t1006))) else (sackbutlaw02_CanonTiles.j0 k a0 a1 a2 a3 t1001 t1002 bt1003.1 bt1003.2 true)))) = some r := H
  have A5 := Aside0.mk A50
  clear A50
  replace H := Option.bind_eq_some_iff.mp H
  obtain ⟨⟨t1003, t1004⟩, A60, H⟩ := H
  replace H : ((sackbutref02_Rhythm.f a0 a1).bind fun t1005 => (if t1005 = true then ((sackbutref02_Rhythm.f a0 a2).bind fun t1006 => (sackbutlaw02_CanonTiles.j0 k a0 a1 a2 a3 t1001 t1002 t1003 t1004 (!t1006))) else (sackbutlaw02_CanonTiles.j0 k a0 a1 a2 a3 t1001 t1002 t1003 t1004 true))) = some r := H
  have A6 := Aside0.mk A60
  clear A60
  have HC7 := Aside0.mk H
  clear H
  go_enter Try.func3, Try.ntmps3
  go_upto_region 3 with (first | ((with_reducible refine gate_callee (f := 8) rfl ?_); refine goesL_ (some 19) rfl rfl Try.func8 (by kernel_rfl) rfl #[.int .i64 a0, .int .i64 a1, .int .i64 a2] rfl (by (try simp only [List.map_toArray, List.map_cons, List.map_nil]); first | done | rfl | (simp only [List.length_drop, List.length_take]; rfl)) ?_; (with_reducible refine (canon_Tiles.calls k a0 a1 a2 t1001 t1002 _ A5.out).mono ?_); rintro e w8 ⟨rfl, hb⟩; refine ⟨_, rfl, ?_⟩; have n0_ := Aside0.mk (below_step (by repeat (first | (with_reducible first | exact HB.out | apply below_alloc | apply pw_below_drewN | apply below_drew1) | exact HB.out)) hb); clear HB; have HB := n0_; clear n0_; (try clear hb); (try clear hb2); (try clear hk); (try clear hi)) | ((with_reducible refine gate_callee (f := 9) rfl ?_); refine goesL_ (some 27) rfl rfl Try.func9 (by kernel_rfl) rfl #[.int .i64 a0, .int .i64 a1, .int .i64 a2, .int .i64 a3] rfl (by (try simp only [List.map_toArray, List.map_cons, List.map_nil]); first | done | rfl | (simp only [List.length_drop, List.length_take]; rfl)) ?_; (with_reducible refine (canon_Enter.calls k a0 a1 a2 a3 t1003 t1004 _ A6.out).mono ?_); rintro e w9 ⟨rfl, hb⟩; refine ⟨_, rfl, ?_⟩; have n0_ := Aside0.mk (below_step (by repeat (first | (with_reducible first | exact HB.out | apply below_alloc | apply pw_below_drewN | apply below_drew1) | exact HB.out)) hb); clear HB; have HB := n0_; clear n0_; (try clear hb); (try clear hb2); (try clear hk); (try clear hi)))
  (try simp only [Act.put, List.setIfInBounds_toArray, List.set_cons_zero, List.set_cons_succ])
  go_cut [39] (fun v39 wc => ∃ (kq : Nat) (x39_6 : Bool), v39 = .bool x39_6 ∧ Aside0 (sackbutlaw02_CanonTiles.j0 kq a0 a1 a2 a3 t1001 t1002 t1003 t1004 x39_6 = some r) ∧ Aside0 (kq ≤ k) ∧ Aside0 (Below w.heap.size w wc))
  case first =>
    have H := HC7.out
    clear HC7
    replace H := Option.bind_eq_some_iff.mp H
    obtain ⟨t1005, A100, H⟩ := H
    replace H : (if t1005 = true then ((sackbutref02_Rhythm.f a0 a2).bind fun t1006 => (sackbutlaw02_CanonTiles.j0 k a0 a1 a2 a3 t1001 t1002 t1003 t1004 (!t1006))) else (sackbutlaw02_CanonTiles.j0 k a0 a1 a2 a3 t1001 t1002 t1003 t1004 true)) = some r := H
    have A10 := Aside0.mk A100
    clear A100
    by_cases c11 : t1005 = true
    · subst c11
      have H1 : ((sackbutref02_Rhythm.f a0 a2).bind fun t1006 => (sackbutlaw02_CanonTiles.j0 k a0 a1 a2 a3 t1001 t1002 t1003 t1004 (!t1006))) = some r := by rw [if_pos rfl] at H; exact H
      clear H
      have H := H1
      clear H1
      replace H := Option.bind_eq_some_iff.mp H
      obtain ⟨t1006, A120, H⟩ := H
      replace H : (sackbutlaw02_CanonTiles.j0 k a0 a1 a2 a3 t1001 t1002 t1003 t1004 (!t1006)) = some r := H
      have A12 := Aside0.mk A120
      clear A120
      have H' := Aside0.mk H
      clear H
      go_wp2_with (first | ((with_reducible refine gate_callee (f := 10) rfl ?_); refine goesL_ (some 32) rfl rfl Try.func10 (by kernel_rfl) rfl #[.int .i64 a0, .int .i64 a1] rfl (by (try simp only [List.map_toArray, List.map_cons, List.map_nil]); first | done | rfl | (simp only [List.length_drop, List.length_take]; rfl)) ?_; (with_reducible refine (sackbutref02_Rhythm.calls a0 a1 true _ A10.out).mono ?_); rintro e w' ⟨rfl, ⟨nd, rfl⟩⟩; refine ⟨_, rfl, ?_⟩) | (go_at_call 10; (with_reducible refine (sackbutref02_Rhythm.calls a0 a2 t1006 _ A12.out).mono ?_); rintro e w' ⟨rfl, ⟨nd, rfl⟩⟩))
      go_meet
      case rel => exact ⟨_, (!t1006), (by first | rfl | (simp; done) | (simp [*]; done)), H', ⟨by first | omega | exact Nat.le_refl _⟩, ⟨by repeat (first | (with_reducible first | exact HB.out | apply below_alloc | apply pw_below_drewN | apply below_drew1) | exact HB.out)⟩⟩
    · replace c11 := Bool.eq_false_iff.mpr c11
      subst c11
      have H1 : (sackbutlaw02_CanonTiles.j0 k a0 a1 a2 a3 t1001 t1002 t1003 t1004 true) = some r := by rw [if_neg (show ¬ (false = true) by decide)] at H; exact H
      clear H
      have H := H1
      clear H1
      have H' := Aside0.mk H
      clear H
      go_wp2_with (first | ((with_reducible refine gate_callee (f := 10) rfl ?_); refine goesL_ (some 32) rfl rfl Try.func10 (by kernel_rfl) rfl #[.int .i64 a0, .int .i64 a1] rfl (by (try simp only [List.map_toArray, List.map_cons, List.map_nil]); first | done | rfl | (simp only [List.length_drop, List.length_take]; rfl)) ?_; (with_reducible refine (sackbutref02_Rhythm.calls a0 a1 false _ A10.out).mono ?_); rintro e w' ⟨rfl, ⟨nd, rfl⟩⟩; refine ⟨_, rfl, ?_⟩))
      go_meet
      case rel => exact ⟨_, (true), (by first | rfl | (simp; done) | (simp [*]; done)), H', ⟨by first | omega | exact Nat.le_refl _⟩, ⟨by repeat (first | (with_reducible first | exact HB.out | apply below_alloc | apply pw_below_drewN | apply below_drew1) | exact HB.out)⟩⟩
  case rest =>
    clear HC7
    try clear c1
    try clear p2
    try clear c3
    try clear c8
    try clear c9
    try clear c10
    try clear c11
    obtain ⟨kq, x39_6, rfl, HA, HJ6, HB⟩ := hcut
    cases kq with
    | zero => exact absurd HA.out (by simp [sackbutlaw02_CanonTiles.j0])
    | succ kj6 =>
      have H := HA.out
      clear HA
      simp only [sackbutlaw02_CanonTiles.j0] at H
      by_cases c13 : x39_6 = true
      · subst c13
        have H1 : (if t1001 = true then (some false) else (if t1003 = 0 then (if t1002 = 2 then (if t1004 = 2 then ((sackbutlaw02_awake.f kj6).bind fun t1007 => (some t1007)) else (some false)) else (some false)) else (some false))) = some r := by rw [if_pos rfl] at H; exact H
        clear H
        have H := H1
        clear H1
        by_cases c14 : t1001 = true
        · subst c14
          have H1 : (some false) = some r := by rw [if_pos rfl] at H; exact H
          clear H
          have H := H1
          clear H1
          obtain rfl := Option.some.inj H
          go_wp2
          go_ret
          exact ⟨by first | rfl | (simp [errW_none, errW_some] <;> rfl) | (simp [*, errW_none, errW_some] <;> rfl), by repeat (first | (with_reducible first | exact HB.out | apply below_alloc | apply pw_below_drewN | apply below_drew1) | exact HB.out)⟩
        · replace c14 := Bool.eq_false_iff.mpr c14
          subst c14
          have H1 : (if t1003 = 0 then (if t1002 = 2 then (if t1004 = 2 then ((sackbutlaw02_awake.f kj6).bind fun t1007 => (some t1007)) else (some false)) else (some false)) else (some false)) = some r := by rw [if_neg (show ¬ (false = true) by decide)] at H; exact H
          clear H
          have H := H1
          clear H1
          by_cases c15 : t1003 = 0
          · rw [if_pos c15] at H
            have c15b0 : (t1003 == 0) = true := beq_iff_eq.mpr c15
            have c15b1 : (t1003 != 0) = false := bne_eq_false_iff_eq.mpr c15
            clear c15
            by_cases c16 : t1002 = 2
            · rw [if_pos c16] at H
              have c16b0 : (t1002 == 2) = true := beq_iff_eq.mpr c16
              have c16b1 : (t1002 != 2) = false := bne_eq_false_iff_eq.mpr c16
              clear c16
              by_cases c17 : t1004 = 2
              · rw [if_pos c17] at H
                have c17b0 : (t1004 == 2) = true := beq_iff_eq.mpr c17
                have c17b1 : (t1004 != 2) = false := bne_eq_false_iff_eq.mpr c17
                clear c17
                replace H := Option.bind_eq_some_iff.mp H
                obtain ⟨t1007, A180, H⟩ := H
                replace H : (some t1007) = some r := H
                have A18 := Aside0.mk A180
                clear A180
                obtain rfl := Option.some.inj H
                go_wp2_with (first | (go_at_call 11; (with_reducible refine (sackbutlaw02_awake.calls kj6  t1007 _ A18.out).mono ?_); rintro e w19 ⟨rfl, hb⟩; have n0_ := Aside0.mk (below_step (by repeat (first | (with_reducible first | exact HB.out | apply below_alloc | apply pw_below_drewN | apply below_drew1) | exact HB.out)) hb); clear HB; have HB := n0_; clear n0_; (try clear hb); (try clear hb2); (try clear hk); (try clear hi)))
                go_ret
                exact ⟨by first | rfl | (simp [errW_none, errW_some] <;> rfl) | (simp [*, errW_none, errW_some] <;> rfl), by repeat (first | (with_reducible first | exact HB.out | apply below_alloc | apply pw_below_drewN | apply below_drew1) | exact HB.out)⟩
              · rw [if_neg c17] at H
                have c17b0 : (t1004 == 2) = false := beq_eq_false_iff_ne.mpr c17
                have c17b1 : (t1004 != 2) = true := bne_iff_ne.mpr c17
                obtain rfl := Option.some.inj H
                go_wp2
                go_ret
                exact ⟨by first | rfl | (simp [errW_none, errW_some] <;> rfl) | (simp [*, errW_none, errW_some] <;> rfl), by repeat (first | (with_reducible first | exact HB.out | apply below_alloc | apply pw_below_drewN | apply below_drew1) | exact HB.out)⟩
            · rw [if_neg c16] at H
              have c16b0 : (t1002 == 2) = false := beq_eq_false_iff_ne.mpr c16
              have c16b1 : (t1002 != 2) = true := bne_iff_ne.mpr c16
              obtain rfl := Option.some.inj H
              go_wp2
              go_ret
              exact ⟨by first | rfl | (simp [errW_none, errW_some] <;> rfl) | (simp [*, errW_none, errW_some] <;> rfl), by repeat (first | (with_reducible first | exact HB.out | apply below_alloc | apply pw_below_drewN | apply below_drew1) | exact HB.out)⟩
          · rw [if_neg c15] at H
            have c15b0 : (t1003 == 0) = false := beq_eq_false_iff_ne.mpr c15
            have c15b1 : (t1003 != 0) = true := bne_iff_ne.mpr c15
            obtain rfl := Option.some.inj H
            go_wp2
            go_ret
            exact ⟨by first | rfl | (simp [errW_none, errW_some] <;> rfl) | (simp [*, errW_none, errW_some] <;> rfl), by repeat (first | (with_reducible first | exact HB.out | apply below_alloc | apply pw_below_drewN | apply below_drew1) | exact HB.out)⟩
      · replace c13 := Bool.eq_false_iff.mpr c13
        subst c13
        have H1 : ((sackbutref02_Tiles.f kj6 a0 a1 a2).bind fun t1008 => (if (t1001 != t1008) = true then (sackbutlaw02_CanonTiles.j1 kj6 a0 a1 a2 a3 t1003 t1004 true) else (if t1002 = 0 then ((sackbutlaw02_awake.f kj6).bind fun t1009 => (sackbutlaw02_CanonTiles.j1 kj6 a0 a1 a2 a3 t1003 t1004 (!t1009))) else (sackbutlaw02_CanonTiles.j1 kj6 a0 a1 a2 a3 t1003 t1004 true)))) = some r := by rw [if_neg (show ¬ (false = true) by decide)] at H; exact H
        clear H
        have H := H1
        clear H1
        have HC20 := Aside0.mk H
        clear H
        go_upto_region 5 with (fail)
        go_cut [70] (fun v70 wc => ∃ (kq : Nat) (x70_19 : Bool), v70 = .bool x70_19 ∧ Aside0 (sackbutlaw02_CanonTiles.j1 kq a0 a1 a2 a3 t1003 t1004 x70_19 = some r) ∧ Aside0 (kq ≤ kj6) ∧ Aside0 (Below w.heap.size w wc))
        case first =>
          have H := HC20.out
          clear HC20
          replace H := Option.bind_eq_some_iff.mp H
          obtain ⟨t1008, A210, H⟩ := H
          replace H : (if (t1001 != t1008) = true then (sackbutlaw02_CanonTiles.j1 kj6 a0 a1 a2 a3 t1003 t1004 true) else (if t1002 = 0 then ((sackbutlaw02_awake.f kj6).bind fun t1009 => (sackbutlaw02_CanonTiles.j1 kj6 a0 a1 a2 a3 t1003 t1004 (!t1009))) else (sackbutlaw02_CanonTiles.j1 kj6 a0 a1 a2 a3 t1003 t1004 true))) = some r := H
          have A21 := Aside0.mk A210
          clear A210
          by_cases c22 : (t1001 != t1008) = true
          · rw [if_pos c22] at H
            have c22b0 : (t1001 != t1008) = true := c22
            (try (have c22b1 : decide (t1001 = t1008) = false := by simpa using c22))
            (try (have c22b2 : (t1001 == t1008) = false := by simpa using c22))
            (try (have c22b3 : ¬ (t1001 = t1008) := by simpa using c22))
            clear c22
            (first | rw [c22b0] | (simp only [i64_w, i32_w]; rw [c22b0]) | skip)
            have H' := Aside0.mk H
            clear H
            go_wp2_with (first | ((with_reducible refine gate_callee (f := 12) rfl ?_); refine goesL_ (some 61) rfl rfl Try.func12 (by kernel_rfl) rfl #[.int .i64 a0, .int .i64 a1, .int .i64 a2] rfl (by (try simp only [List.map_toArray, List.map_cons, List.map_nil]); first | done | rfl | (simp only [List.length_drop, List.length_take]; rfl)) ?_; (with_reducible refine (sackbutref02_Tiles.calls kj6 a0 a1 a2 t1008 _ A21.out).mono ?_); rintro e w' ⟨rfl, ⟨nd, rfl⟩⟩; refine ⟨_, rfl, ?_⟩))
            go_meet
            case rel => exact ⟨_, (true), (by first | rfl | (simp; done) | (simp [*]; done)), H', ⟨by have := HJ6.out; first | omega | exact Nat.le_refl _⟩, ⟨by repeat (first | (with_reducible first | exact HB.out | apply below_alloc | apply pw_below_drewN | apply below_drew1) | exact HB.out)⟩⟩
          · rw [if_neg c22] at H
            have c22b0 : (t1001 != t1008) = false := by simpa using c22
            (try (have c22b1 : decide (t1001 = t1008) = true := by simpa using c22))
            (try (have c22b2 : (t1001 == t1008) = true := by simpa using c22))
            clear c22
            (first | rw [c22b0] | (simp only [i64_w, i32_w]; rw [c22b0]) | skip)
            by_cases c23 : t1002 = 0
            · rw [if_pos c23] at H
              have c23b0 : (t1002 == 0) = true := beq_iff_eq.mpr c23
              have c23b1 : (t1002 != 0) = false := bne_eq_false_iff_eq.mpr c23
              clear c23
              replace H := Option.bind_eq_some_iff.mp H
              obtain ⟨t1009, A240, H⟩ := H
              replace H : (sackbutlaw02_CanonTiles.j1 kj6 a0 a1 a2 a3 t1003 t1004 (!t1009)) = some r := H
              have A24 := Aside0.mk A240
              clear A240
              have H' := Aside0.mk H
              clear H
              go_wp2_with (first | ((with_reducible refine gate_callee (f := 12) rfl ?_); refine goesL_ (some 61) rfl rfl Try.func12 (by kernel_rfl) rfl #[.int .i64 a0, .int .i64 a1, .int .i64 a2] rfl (by (try simp only [List.map_toArray, List.map_cons, List.map_nil]); first | done | rfl | (simp only [List.length_drop, List.length_take]; rfl)) ?_; (with_reducible refine (sackbutref02_Tiles.calls kj6 a0 a1 a2 t1008 _ A21.out).mono ?_); rintro e w' ⟨rfl, ⟨nd, rfl⟩⟩; refine ⟨_, rfl, ?_⟩) | (go_at_call 11; (with_reducible refine (sackbutlaw02_awake.calls kj6  t1009 _ A24.out).mono ?_); rintro e w25 ⟨rfl, hb⟩; have n0_ := Aside0.mk (below_step (by repeat (first | (with_reducible first | exact HB.out | apply below_alloc | apply pw_below_drewN | apply below_drew1) | exact HB.out)) hb); clear HB; have HB := n0_; clear n0_; (try clear hb); (try clear hb2); (try clear hk); (try clear hi)))
              go_meet
              case rel => exact ⟨_, (!t1009), (by first | rfl | (simp; done) | (simp [*]; done)), H', ⟨by have := HJ6.out; first | omega | exact Nat.le_refl _⟩, ⟨by repeat (first | (with_reducible first | exact HB.out | apply below_alloc | apply pw_below_drewN | apply below_drew1) | exact HB.out)⟩⟩
            · rw [if_neg c23] at H
              have c23b0 : (t1002 == 0) = false := beq_eq_false_iff_ne.mpr c23
              have c23b1 : (t1002 != 0) = true := bne_iff_ne.mpr c23
              have H' := Aside0.mk H
              clear H
              go_wp2_with (first | ((with_reducible refine gate_callee (f := 12) rfl ?_); refine goesL_ (some 61) rfl rfl Try.func12 (by kernel_rfl) rfl #[.int .i64 a0, .int .i64 a1, .int .i64 a2] rfl (by (try simp only [List.map_toArray, List.map_cons, List.map_nil]); first | done | rfl | (simp only [List.length_drop, List.length_take]; rfl)) ?_; (with_reducible refine (sackbutref02_Tiles.calls kj6 a0 a1 a2 t1008 _ A21.out).mono ?_); rintro e w' ⟨rfl, ⟨nd, rfl⟩⟩; refine ⟨_, rfl, ?_⟩))
              go_meet
              case rel => exact ⟨_, (true), (by first | rfl | (simp; done) | (simp [*]; done)), H', ⟨by have := HJ6.out; first | omega | exact Nat.le_refl _⟩, ⟨by repeat (first | (with_reducible first | exact HB.out | apply below_alloc | apply pw_below_drewN | apply below_drew1) | exact HB.out)⟩⟩
        case rest =>
          clear HC20
          try clear c1
          try clear c2
          try clear p2
          try clear c3
          try clear c8
          try clear c9
          try clear c10
          try clear c11
          try clear c12
          try clear c13
          try clear c14
          try clear c15
          try clear c15b0
          try clear c15b1
          try clear c16
          try clear c16b0
          try clear c16b1
          try clear c17
          try clear c17b0
          try clear c17b1
          try clear c22
          try clear c22b0
          try clear c22b1
          try clear c22b2
          try clear c23
          try clear c23b0
          try clear c23b1
          try clear p2
          obtain ⟨kq, x70_19, rfl, HA, HJ19, HB⟩ := hcut
          cases kq with
          | zero => exact absurd HA.out (by simp [sackbutlaw02_CanonTiles.j1])
          | succ kj19 =>
            have H := HA.out
            clear HA
            simp only [sackbutlaw02_CanonTiles.j1] at H
            by_cases c26 : x70_19 = true
            · subst c26
              have H1 : (some false) = some r := by rw [if_pos rfl] at H; exact H
              clear H
              have H := H1
              clear H1
              obtain rfl := Option.some.inj H
              go_wp2
              go_ret
              exact ⟨by first | rfl | (simp [errW_none, errW_some] <;> rfl) | (simp [*, errW_none, errW_some] <;> rfl), by repeat (first | (with_reducible first | exact HB.out | apply below_alloc | apply pw_below_drewN | apply below_drew1) | exact HB.out)⟩
            · replace c26 := Bool.eq_false_iff.mpr c26
              subst c26
              have H1 : (if a3 < 0 then (if t1003 = 0 then (some (t1004 == 2)) else (some false)) else (if a3 ≥ a0 then (if t1003 = 0 then (some (t1004 == 2)) else (some false)) else ((sackbutref02_Enter.f kj19 a0 a1 a2 a3).bind fun bt1010 => (if t1003 = bt1010.1 then (some (t1004 == bt1010.2)) else (some false))))) = some r := by rw [if_neg (show ¬ (false = true) by decide)] at H; exact H
              clear H
              have H := H1
              clear H1
              by_cases c27 : a3 < 0
              · rw [if_pos c27] at H
                have c27b0 : decide (a3 < 0) = true := decide_eq_true c27
                clear c27
                by_cases c28 : t1003 = 0
                · rw [if_pos c28] at H
                  have c28b0 : (t1003 == 0) = true := beq_iff_eq.mpr c28
                  have c28b1 : (t1003 != 0) = false := bne_eq_false_iff_eq.mpr c28
                  clear c28
                  obtain rfl := Option.some.inj H
                  go_wp2
                  go_ret
                  exact ⟨by first | rfl | (simp [errW_none, errW_some] <;> rfl) | (simp [*, errW_none, errW_some] <;> rfl), by repeat (first | (with_reducible first | exact HB.out | apply below_alloc | apply pw_below_drewN | apply below_drew1) | exact HB.out)⟩
                · rw [if_neg c28] at H
                  have c28b0 : (t1003 == 0) = false := beq_eq_false_iff_ne.mpr c28
                  have c28b1 : (t1003 != 0) = true := bne_iff_ne.mpr c28
                  obtain rfl := Option.some.inj H
                  go_wp2
                  go_ret
                  exact ⟨by first | rfl | (simp [errW_none, errW_some] <;> rfl) | (simp [*, errW_none, errW_some] <;> rfl), by repeat (first | (with_reducible first | exact HB.out | apply below_alloc | apply pw_below_drewN | apply below_drew1) | exact HB.out)⟩
              · rw [if_neg c27] at H
                have c27b0 : decide (a3 < 0) = false := decide_eq_false c27
                clear c27
                by_cases c29 : a3 ≥ a0
                · rw [if_pos c29] at H
                  have c29b0 : decide (a0 ≤ a3) = true := decide_eq_true c29
                  clear c29
                  by_cases c30 : t1003 = 0
                  · rw [if_pos c30] at H
                    have c30b0 : (t1003 == 0) = true := beq_iff_eq.mpr c30
                    have c30b1 : (t1003 != 0) = false := bne_eq_false_iff_eq.mpr c30
                    clear c30
                    obtain rfl := Option.some.inj H
                    go_wp2
                    go_ret
                    exact ⟨by first | rfl | (simp [errW_none, errW_some] <;> rfl) | (simp [*, errW_none, errW_some] <;> rfl), by repeat (first | (with_reducible first | exact HB.out | apply below_alloc | apply pw_below_drewN | apply below_drew1) | exact HB.out)⟩
                  · rw [if_neg c30] at H
                    have c30b0 : (t1003 == 0) = false := beq_eq_false_iff_ne.mpr c30
                    have c30b1 : (t1003 != 0) = true := bne_iff_ne.mpr c30
                    obtain rfl := Option.some.inj H
                    go_wp2
                    go_ret
                    exact ⟨by first | rfl | (simp [errW_none, errW_some] <;> rfl) | (simp [*, errW_none, errW_some] <;> rfl), by repeat (first | (with_reducible first | exact HB.out | apply below_alloc | apply pw_below_drewN | apply below_drew1) | exact HB.out)⟩
                · rw [if_neg c29] at H
                  have c29b0 : decide (a0 ≤ a3) = false := decide_eq_false c29
                  clear c29
                  replace H := Option.bind_eq_some_iff.mp H
                  obtain ⟨⟨t1010, t1011⟩, A310, H⟩ := H
                  replace H : (if t1003 = t1010 then (some (t1004 == t1011)) else (some false)) = some r := H
                  have A31 := Aside0.mk A310
                  clear A310
                  by_cases c32 : t1003 = t1010
                  · rw [if_pos c32] at H
                    have c32b0 : (t1003 == t1010) = true := beq_iff_eq.mpr c32
                    have c32b1 : (t1003 != t1010) = false := bne_eq_false_iff_eq.mpr c32
                    clear c32
                    obtain rfl := Option.some.inj H
                    go_wp2_with (first | ((with_reducible refine gate_callee (f := 13) rfl ?_); refine goesL_ (some 89) rfl rfl Try.func13 (by kernel_rfl) rfl #[.int .i64 a0, .int .i64 a1, .int .i64 a2, .int .i64 a3] rfl (by (try simp only [List.map_toArray, List.map_cons, List.map_nil]); first | done | rfl | (simp only [List.length_drop, List.length_take]; rfl)) ?_; (with_reducible refine (sackbutref02_Enter.calls kj19 a0 a1 a2 a3 t1010 t1011 _ A31.out).mono ?_); rintro e w' ⟨rfl, ⟨nd, rfl⟩⟩; refine ⟨_, rfl, ?_⟩))
                    go_ret
                    exact ⟨by first | rfl | (simp [errW_none, errW_some] <;> rfl) | (simp [*, errW_none, errW_some] <;> rfl), by repeat (first | (with_reducible first | exact HB.out | apply below_alloc | apply pw_below_drewN | apply below_drew1) | exact HB.out)⟩
                  · rw [if_neg c32] at H
                    have c32b0 : (t1003 == t1010) = false := beq_eq_false_iff_ne.mpr c32
                    have c32b1 : (t1003 != t1010) = true := bne_iff_ne.mpr c32
                    obtain rfl := Option.some.inj H
                    go_wp2_with (first | ((with_reducible refine gate_callee (f := 13) rfl ?_); refine goesL_ (some 89) rfl rfl Try.func13 (by kernel_rfl) rfl #[.int .i64 a0, .int .i64 a1, .int .i64 a2, .int .i64 a3] rfl (by (try simp only [List.map_toArray, List.map_cons, List.map_nil]); first | done | rfl | (simp only [List.length_drop, List.length_take]; rfl)) ?_; (with_reducible refine (sackbutref02_Enter.calls kj19 a0 a1 a2 a3 t1010 t1011 _ A31.out).mono ?_); rintro e w' ⟨rfl, ⟨nd, rfl⟩⟩; refine ⟨_, rfl, ?_⟩))
                    go_ret
                    exact ⟨by first | rfl | (simp [errW_none, errW_some] <;> rfl) | (simp [*, errW_none, errW_some] <;> rfl), by repeat (first | (with_reducible first | exact HB.out | apply below_alloc | apply pw_below_drewN | apply below_drew1) | exact HB.out)⟩

/-- THE ONE PURE STATEMENT of sackbutlaw02_CanonTiles: yours. -/
def sackbutlaw02_CanonTiles.Pure : Prop := ∀ (a0 : Int) (a1 : Int) (a2 : Int) (a3 : Int), (Lit.int .i64 a0).wf = true → (Lit.int .i64 a1).wf = true → (Lit.int .i64 a2).wf = true → (Lit.int .i64 a3).wf = true → ∃ k, sackbutlaw02_CanonTiles.f k a0 a1 a2 a3 = some true
theorem sackbutlaw02_CanonTiles.walk (P : sackbutlaw02_CanonTiles.Pure) (a0 : Int) (a1 : Int) (a2 : Int) (a3 : Int) (w : World) (w0 : (Lit.int .i64 a0).wf = true) (w1 : (Lit.int .i64 a1).wf = true) (w2 : (Lit.int .i64 a2).wf = true) (w3 : (Lit.int .i64 a3).wf = true) :
    Calls Try.prog 3 #[.int .i64 a0, .int .i64 a1, .int .i64 a2, .int .i64 a3] w fun e w' => e = .returned (.bool true) ∧ Below w.heap.size w w' := by
  obtain ⟨k, h⟩ := P a0 a1 a2 a3 w0 w1 w2 w3
  refine (sackbutlaw02_CanonTiles.calls k a0 a1 a2 a3 true w h).mono ?_
  rintro e w' ⟨rfl, hd⟩
  exact ⟨rfl, hd⟩

end Go.Proofs.Ytkidgakjeahebaa.P
