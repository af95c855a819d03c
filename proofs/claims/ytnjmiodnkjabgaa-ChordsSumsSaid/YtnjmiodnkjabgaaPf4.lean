/- A part of a proof that a law's Go function returns true for every input, laid by this session's program mp.py (which drives the kit's print). Conditions: as each theorem states them. -/
import Derived.Test.YtnjmiodnkjabgaaP0
import Derived.Test.YtnjmiodnkjabgaaPf10
import Derived.Test.YtnjmiodnkjabgaaPf6
import Derived.Test.YtnjmiodnkjabgaaPf7
import Derived.Test.YtnjmiodnkjabgaaPf8
import Derived.Test.YtnjmiodnkjabgaaPf9
namespace Go.Proofs.Ytnjmiodnkjabgaa.P
open Go.RowKit Go.Proofs.YtnjmiodnkjabgaaW.PrintWords Go.Proofs.YtnjmiodnkjabgaaW.PrintLast Go.Proofs.YtnjmiodnkjabgaaW.PrintMore
attribute [local go_sem] max2_int min2_int max_two min_two max_three min_three max_four min_four   -- for this text's walks alone
set_option linter.unusedVariables false
set_option linter.unusedSimpArgs false

/-! ### sackbutlaw01_ChordsSums: function 4 -/
mutual
def sackbutlaw01_ChordsSums.j0 : Nat → Int → Int → Int → List Int → Int → Bool → Option (Bool)
  | 0, _, _, _, _, _, _ => none
  | k + 1, x0, x1, x2, x7, x8, x39 => if x39 = true then (if x8 = 2 then ((sackbutlaw01_awake.f).bind fun t1007 => (some t1007)) else (if x8 = 0 then ((sackbutlaw01_awake.f).bind fun t1008 => (some t1008)) else (some false))) else ((chords_Common.f k x0 x1 x1).bind fun bt1009 => ((chords_Common.f k x0 x1 x2).bind fun bt1013 => (if bt1009.2 = 0 then (if bt1013.2 = 0 then (if (x7.length : Int) = (wrap64 (Int.tdiv x0 2)) then (if (bt1009.1.length : Int) = x0 then (sackbutlaw01_ChordsSums.j1 k x0 x1 x2 x7 bt1009.1 bt1013.1 ((bt1013.1.length : Int) != x0)) else (sackbutlaw01_ChordsSums.j1 k x0 x1 x2 x7 bt1009.1 bt1013.1 true)) else (sackbutlaw01_ChordsSums.j1 k x0 x1 x2 x7 bt1009.1 bt1013.1 true)) else (sackbutlaw01_ChordsSums.j1 k x0 x1 x2 x7 bt1009.1 bt1013.1 true)) else (sackbutlaw01_ChordsSums.j1 k x0 x1 x2 x7 bt1009.1 bt1013.1 true))))
def sackbutlaw01_ChordsSums.j1 : Nat → Int → Int → Int → List Int → List Int → List Int → Bool → Option (Bool)
  | 0, _, _, _, _, _, _, _ => none
  | k + 1, x0, x1, x2, x7, x9, x11, x87 => if x87 = true then (some false) else ((sackbutref01_Size.f k x1).bind fun t1017 => (sackbutlaw01_ChordsSums.l0 k x0 x2 x7 x9 x11 t1017 0 0 (x7.length : Int) 0))
def sackbutlaw01_ChordsSums.l0 : Nat → Int → Int → List Int → List Int → List Int → Int → Int → Int → Int → Int → Option (Bool)
  | 0, _, _, _, _, _, _, _, _, _, _ => none
  | k + 1, x0, x2, x7, x9, x11, x13, x14, x15, x91, x92 => if x92 < x91 then (if 0 ≤ x92 then (if x92 < (x7.length : Int) then (if (wrap64 (2 * (wrap64 (x92 + 1)))) = x0 then (if 0 ≤ (wrap64 (x92 + 1)) then (if (wrap64 (x92 + 1)) < (x9.length : Int) then (if (rd x9 (wrap64 (x92 + 1))) = (wrap64 ((rd x7 x92) * 2)) then (if 0 ≤ (wrap64 ((wrap64 (x0 - x92)) - 1)) then (if (wrap64 ((wrap64 (x0 - x92)) - 1)) < (x9.length : Int) then (if (rd x9 (wrap64 ((wrap64 (x0 - x92)) - 1))) = (wrap64 ((rd x7 x92) * 2)) then (sackbutlaw01_ChordsSums.l0 k x0 x2 x7 x9 x11 x13 (wrap64 (x14 + (rd x7 x92))) x15 x91 (wrap64 (x92 + 1))) else (some false)) else (none)) else (none)) else (some false)) else (none)) else (none)) else (if 0 ≤ (wrap64 (x92 + 1)) then (if (wrap64 (x92 + 1)) < (x9.length : Int) then (if (rd x9 (wrap64 (x92 + 1))) = (rd x7 x92) then (if 0 ≤ (wrap64 ((wrap64 (x0 - x92)) - 1)) then (if (wrap64 ((wrap64 (x0 - x92)) - 1)) < (x9.length : Int) then (if (rd x9 (wrap64 ((wrap64 (x0 - x92)) - 1))) = (rd x7 x92) then (sackbutlaw01_ChordsSums.l0 k x0 x2 x7 x9 x11 x13 (wrap64 (x14 + (rd x7 x92))) x15 x91 (wrap64 (x92 + 1))) else (some false)) else (none)) else (none)) else (some false)) else (none)) else (none))) else (none)) else (none)) else (sackbutlaw01_ChordsSums.l1 k x2 x9 x11 x13 x14 x15 (x11.length : Int) 0)
def sackbutlaw01_ChordsSums.l1 : Nat → Int → List Int → List Int → Int → Int → Int → Int → Int → Option (Bool)
  | 0, _, _, _, _, _, _, _, _ => none
  | k + 1, x2, x9, x11, x13, x14, x15, x127, x128 => if x128 < x127 then (if 0 ≤ x128 then (if x128 < (x11.length : Int) then (sackbutlaw01_ChordsSums.l1 k x2 x9 x11 x13 x14 (wrap64 (x15 + (rd x11 x128))) x127 (wrap64 (x128 + 1))) else (none)) else (none)) else (if x14 = (wrap64 (Int.tdiv (wrap64 (x13 * (wrap64 (x13 - 1)))) 2)) then (if 0 < (x9.length : Int) then (if (rd x9 0) = x13 then ((sackbutref01_Size.f k x2).bind fun t1025 => (if x15 = (wrap64 (x13 * t1025)) then ((sackbutlaw01_awake.f).bind fun t1026 => (some t1026)) else (some false))) else (some false)) else (none)) else (some false))
end
def sackbutlaw01_ChordsSums.f (k : Nat) (a0 : Int) (a1 : Int) (a2 : Int) : Option (Bool) := (chords_Vector.f k a0 a1).bind fun bt1001 => (if bt1001.2 = 0 then ((sackbutref01_Valid.f a0 a1).bind fun t1005 => (if t1005 = true then ((sackbutref01_Valid.f a0 a2).bind fun t1006 => (sackbutlaw01_ChordsSums.j0 k a0 a1 a2 bt1001.1 bt1001.2 (!t1006))) else (sackbutlaw01_ChordsSums.j0 k a0 a1 a2 bt1001.1 bt1001.2 true))) else (sackbutlaw01_ChordsSums.j0 k a0 a1 a2 bt1001.1 bt1001.2 true))
theorem sackbutlaw01_ChordsSums.mono_l : ∀ k, (∀ y0 y1 y2 y3 y4 y5, LeO (sackbutlaw01_ChordsSums.j0 k y0 y1 y2 y3 y4 y5) (sackbutlaw01_ChordsSums.j0 (k + 1) y0 y1 y2 y3 y4 y5)) ∧ (∀ y0 y1 y2 y3 y4 y5 y6, LeO (sackbutlaw01_ChordsSums.j1 k y0 y1 y2 y3 y4 y5 y6) (sackbutlaw01_ChordsSums.j1 (k + 1) y0 y1 y2 y3 y4 y5 y6)) ∧ (∀ y0 y1 y2 y3 y4 y5 y6 y7 y8 y9, LeO (sackbutlaw01_ChordsSums.l0 k y0 y1 y2 y3 y4 y5 y6 y7 y8 y9) (sackbutlaw01_ChordsSums.l0 (k + 1) y0 y1 y2 y3 y4 y5 y6 y7 y8 y9)) ∧ (∀ y0 y1 y2 y3 y4 y5 y6 y7, LeO (sackbutlaw01_ChordsSums.l1 k y0 y1 y2 y3 y4 y5 y6 y7) (sackbutlaw01_ChordsSums.l1 (k + 1) y0 y1 y2 y3 y4 y5 y6 y7))
  | 0 => ⟨fun _ _ _ _ _ _ r h => by simp [sackbutlaw01_ChordsSums.j0] at h, fun _ _ _ _ _ _ _ r h => by simp [sackbutlaw01_ChordsSums.j1] at h, fun _ _ _ _ _ _ _ _ _ _ r h => by simp [sackbutlaw01_ChordsSums.l0] at h, fun _ _ _ _ _ _ _ _ r h => by simp [sackbutlaw01_ChordsSums.l1] at h⟩
  | k + 1 => by
    obtain ⟨ih0, ih1, ih2, ih3⟩ := sackbutlaw01_ChordsSums.mono_l k
    refine ⟨?_, ?_, ?_, ?_⟩
    · intro y0 y1 y2 y3 y4 y5
      unfold sackbutlaw01_ChordsSums.j0
      repeat' first
      | (with_reducible exact ih0 _ _ _ _ _ _)
      | (with_reducible exact ih1 _ _ _ _ _ _ _)
      | (with_reducible exact ih2 _ _ _ _ _ _ _ _ _ _)
      | (with_reducible exact ih3 _ _ _ _ _ _ _ _)
      | (with_reducible exact chords_Common.mono _ _ _ _)
      | (with_reducible exact chords_Vector.mono _ _ _)
      | (with_reducible exact sackbutref01_Size.mono _ _)
      | (with_reducible exact LeO.refl _)
      | (with_reducible exact LeO.none _)
      | (with_reducible refine LeO.ite ?_ ?_)
      | (with_reducible refine LeO.bind ?_ (fun _ => ?_))
      | exact ih0 _ _ _ _ _ _
      | exact ih1 _ _ _ _ _ _ _
      | exact ih2 _ _ _ _ _ _ _ _ _ _
      | exact ih3 _ _ _ _ _ _ _ _
      | exact chords_Common.mono _ _ _ _
      | exact chords_Vector.mono _ _ _
      | exact sackbutref01_Size.mono _ _
      | exact LeO.none _
      | refine LeO.ite ?_ ?_
      | refine LeO.bind ?_ (fun _ => ?_)
    · intro y0 y1 y2 y3 y4 y5 y6
      unfold sackbutlaw01_ChordsSums.j1
      repeat' first
      | (with_reducible exact ih0 _ _ _ _ _ _)
      | (with_reducible exact ih1 _ _ _ _ _ _ _)
      | (with_reducible exact ih2 _ _ _ _ _ _ _ _ _ _)
      | (with_reducible exact ih3 _ _ _ _ _ _ _ _)
      | (with_reducible exact chords_Common.mono _ _ _ _)
      | (with_reducible exact chords_Vector.mono _ _ _)
      | (with_reducible exact sackbutref01_Size.mono _ _)
      | (with_reducible exact LeO.refl _)
      | (with_reducible exact LeO.none _)
      | (with_reducible refine LeO.ite ?_ ?_)
      | (with_reducible refine LeO.bind ?_ (fun _ => ?_))
      | exact ih0 _ _ _ _ _ _
      | exact ih1 _ _ _ _ _ _ _
      | exact ih2 _ _ _ _ _ _ _ _ _ _
      | exact ih3 _ _ _ _ _ _ _ _
      | exact chords_Common.mono _ _ _ _
      | exact chords_Vector.mono _ _ _
      | exact sackbutref01_Size.mono _ _
      | exact LeO.none _
      | refine LeO.ite ?_ ?_
      | refine LeO.bind ?_ (fun _ => ?_)
    · intro y0 y1 y2 y3 y4 y5 y6 y7 y8 y9
      unfold sackbutlaw01_ChordsSums.l0
      repeat' first
      | (with_reducible exact ih0 _ _ _ _ _ _)
      | (with_reducible exact ih1 _ _ _ _ _ _ _)
      | (with_reducible exact ih2 _ _ _ _ _ _ _ _ _ _)
      | (with_reducible exact ih3 _ _ _ _ _ _ _ _)
      | (with_reducible exact chords_Common.mono _ _ _ _)
      | (with_reducible exact chords_Vector.mono _ _ _)
      | (with_reducible exact sackbutref01_Size.mono _ _)
      | (with_reducible exact LeO.refl _)
      | (with_reducible exact LeO.none _)
      | (with_reducible refine LeO.ite ?_ ?_)
      | (with_reducible refine LeO.bind ?_ (fun _ => ?_))
      | exact ih0 _ _ _ _ _ _
      | exact ih1 _ _ _ _ _ _ _
      | exact ih2 _ _ _ _ _ _ _ _ _ _
      | exact ih3 _ _ _ _ _ _ _ _
      | exact chords_Common.mono _ _ _ _
      | exact chords_Vector.mono _ _ _
      | exact sackbutref01_Size.mono _ _
      | exact LeO.none _
      | refine LeO.ite ?_ ?_
      | refine LeO.bind ?_ (fun _ => ?_)
    · intro y0 y1 y2 y3 y4 y5 y6 y7
      unfold sackbutlaw01_ChordsSums.l1
      repeat' first
      | (with_reducible exact ih0 _ _ _ _ _ _)
      | (with_reducible exact ih1 _ _ _ _ _ _ _)
      | (with_reducible exact ih2 _ _ _ _ _ _ _ _ _ _)
      | (with_reducible exact ih3 _ _ _ _ _ _ _ _)
      | (with_reducible exact chords_Common.mono _ _ _ _)
      | (with_reducible exact chords_Vector.mono _ _ _)
      | (with_reducible exact sackbutref01_Size.mono _ _)
      | (with_reducible exact LeO.refl _)
      | (with_reducible exact LeO.none _)
      | (with_reducible refine LeO.ite ?_ ?_)
      | (with_reducible refine LeO.bind ?_ (fun _ => ?_))
      | exact ih0 _ _ _ _ _ _
      | exact ih1 _ _ _ _ _ _ _
      | exact ih2 _ _ _ _ _ _ _ _ _ _
      | exact ih3 _ _ _ _ _ _ _ _
      | exact chords_Common.mono _ _ _ _
      | exact chords_Vector.mono _ _ _
      | exact sackbutref01_Size.mono _ _
      | exact LeO.none _
      | refine LeO.ite ?_ ?_
      | refine LeO.bind ?_ (fun _ => ?_)
theorem sackbutlaw01_ChordsSums.mono : ∀ a0 a1 a2 k, LeO (sackbutlaw01_ChordsSums.f k a0 a1 a2) (sackbutlaw01_ChordsSums.f (k + 1) a0 a1 a2) := by
  intro a0 a1 a2 k
  obtain ⟨ih0, ih1, ih2, ih3⟩ := sackbutlaw01_ChordsSums.mono_l k
  unfold sackbutlaw01_ChordsSums.f
  repeat' first
      | (with_reducible exact ih0 _ _ _ _ _ _)
      | (with_reducible exact ih1 _ _ _ _ _ _ _)
      | (with_reducible exact ih2 _ _ _ _ _ _ _ _ _ _)
      | (with_reducible exact ih3 _ _ _ _ _ _ _ _)
      | (with_reducible exact chords_Common.mono _ _ _ _)
      | (with_reducible exact chords_Vector.mono _ _ _)
      | (with_reducible exact sackbutref01_Size.mono _ _)
      | (with_reducible exact LeO.refl _)
      | (with_reducible exact LeO.none _)
      | (with_reducible refine LeO.ite ?_ ?_)
      | (with_reducible refine LeO.bind ?_ (fun _ => ?_))
      | exact ih0 _ _ _ _ _ _
      | exact ih1 _ _ _ _ _ _ _
      | exact ih2 _ _ _ _ _ _ _ _ _ _
      | exact ih3 _ _ _ _ _ _ _ _
      | exact chords_Common.mono _ _ _ _
      | exact chords_Vector.mono _ _ _
      | exact sackbutref01_Size.mono _ _
      | exact LeO.none _
      | refine LeO.ite ?_ ?_
      | refine LeO.bind ?_ (fun _ => ?_)
set_option maxHeartbeats 8000000 in
set_option maxRecDepth 100000 in
theorem sackbutlaw01_ChordsSums.calls (k : Nat) (a0 : Int) (a1 : Int) (a2 : Int) (r : Bool) (w : World) (h : sackbutlaw01_ChordsSums.f k a0 a1 a2 = some r) :
    Calls Try.prog 4 #[.int .i64 a0, .int .i64 a1, .int .i64 a2] w fun e w' => e = .returned (.bool r) ∧ Below w.heap.size w w' := by
  have HB := Aside0.mk (Below.refl w.heap.size w)
  have H : ((chords_Vector.f k a0 a1).bind fun bt1001 => (if bt1001.2 = 0 then ((sackbutref01_Valid.f a0 a1).bind fun t1005 => (if t1005 = true then ((sackbutref01_Valid.f a0 a2).bind fun t1006 => (sackbutlaw01_ChordsSums.j0 k a0 a1 a2 bt1001.1 bt1001.2 (!t1006))) else (sackbutlaw01_ChordsSums.j0 k a0 a1 a2 bt1001.1 bt1001.2 true))) else (sackbutlaw01_ChordsSums.j0 k a0 a1 a2 bt1001.1 bt1001.2 true))) = some r := h
  clear h
  replace H := Option.bind_eq_some_iff.mp H
  obtain ⟨⟨t1001, t1002⟩, A40, H⟩ := H
  replace H : (if t1002 = 0 then ((sackbutref01_Valid.f a0 a1).bind fun t1005 => (if t1005 = true then ((sackbutref01_Valid.f a0 a2).bind fun t1006 => (sackbutlaw01_ChordsSums.j0 k a0 a1 a2 t1001 t1002 (!t1006))) else (sackbutlaw01_ChordsSums.j0 k a0 a1 a2 t1001 t1002 true))) else (sackbutlaw01_ChordsSums.j0 k a0 a1 a2 t1001 t1002 true)) = some r := H
  have A4 := Aside0.mk A40
  clear A40
  have HC5 := Aside0.mk H
  clear H
  go_enter Try.func4, Try.ntmps4
  go_upto_region 2 with (first | ((with_reducible refine gate_callee (f := 6) rfl ?_); refine goesL_ (some 23) rfl rfl Try.func6 (by kernel_rfl) rfl #[.int .i64 a0, .int .i64 a1] rfl (by (try simp only [List.map_toArray, List.map_cons, List.map_nil]); first | done | rfl | (simp only [List.length_drop, List.length_take]; rfl)) ?_; (with_reducible refine (chords_Vector.calls k a0 a1 t1001 t1002 _ A4.out).mono ?_); rintro e w6 ⟨v1003, rfl, ho0, hb⟩; refine ⟨_, rfl, ?_⟩; have n0_ := Aside0.mk (Kd.R_lower ho0 (below_size (by repeat (first | (with_reducible first | exact HB.out | apply below_alloc | apply pw_below_drewN | apply below_drew1) | exact HB.out)))); have n1_ := Aside0.mk (below_step (by repeat (first | (with_reducible first | exact HB.out | apply below_alloc | apply pw_below_drewN | apply below_drew1) | exact HB.out)) hb); clear HB; have HO1004 := n0_; have HB := n1_; clear n0_ n1_; (try clear hb); (try clear hb2); (try clear hk); (try clear hi); (try clear ho0)))
  (try simp only [Act.put, List.setIfInBounds_toArray, List.set_cons_zero, List.set_cons_succ])
  go_cut [39] (fun v39 wc => ∃ (kq : Nat) (x39_4 : Bool), v39 = .bool x39_4 ∧ Aside0 (sackbutlaw01_ChordsSums.j0 kq a0 a1 a2 t1001 t1002 x39_4 = some r) ∧ Aside0 (kq ≤ k) ∧ Aside0 (Kd.R (Kd.int .i64) 3 wc w.heap.size (fun _ => True) v1003 t1001) ∧ Aside0 (Below w.heap.size w wc))
  case first =>
    have H := HC5.out
    clear HC5
    by_cases c7 : t1002 = 0
    · rw [if_pos c7] at H
      have c7b0 : (t1002 == 0) = true := beq_iff_eq.mpr c7
      have c7b1 : (t1002 != 0) = false := bne_eq_false_iff_eq.mpr c7
      clear c7
      (first | rw [c7b0] | (simp only [i64_w, i32_w]; rw [c7b0]) | skip)
      replace H := Option.bind_eq_some_iff.mp H
      obtain ⟨t1005, A80, H⟩ := H
      replace H : (if t1005 = true then ((sackbutref01_Valid.f a0 a2).bind fun t1006 => (sackbutlaw01_ChordsSums.j0 k a0 a1 a2 t1001 t1002 (!t1006))) else (sackbutlaw01_ChordsSums.j0 k a0 a1 a2 t1001 t1002 true)) = some r := H
      have A8 := Aside0.mk A80
      clear A80
      by_cases c9 : t1005 = true
      · subst c9
        have H1 : ((sackbutref01_Valid.f a0 a2).bind fun t1006 => (sackbutlaw01_ChordsSums.j0 k a0 a1 a2 t1001 t1002 (!t1006))) = some r := by rw [if_pos rfl] at H; exact H
        clear H
        have H := H1
        clear H1
        replace H := Option.bind_eq_some_iff.mp H
        obtain ⟨t1006, A100, H⟩ := H
        replace H : (sackbutlaw01_ChordsSums.j0 k a0 a1 a2 t1001 t1002 (!t1006)) = some r := H
        have A10 := Aside0.mk A100
        clear A100
        have H' := Aside0.mk H
        clear H
        go_wp2_with (first | (go_at_call 7; (with_reducible refine (sackbutref01_Valid.calls a0 a1 true _ A8.out).mono ?_); rintro e w' ⟨rfl, ⟨nd, rfl⟩⟩) | (go_at_call 7; (with_reducible refine (sackbutref01_Valid.calls a0 a2 t1006 _ A10.out).mono ?_); rintro e w' ⟨rfl, ⟨nd, rfl⟩⟩))
        go_meet
        case rel => exact ⟨_, (!t1006), (by first | rfl | (simp; done) | (simp [*]; done)), H', ⟨by first | omega | exact Nat.le_refl _⟩, ⟨by (with_reducible repeat (first | apply Kd.R_alloc | apply Kd.R_drewN | apply Kd.R_drew)); exact HO1004.out⟩, ⟨by repeat (first | (with_reducible first | exact HB.out | apply below_alloc | apply pw_below_drewN | apply below_drew1) | exact HB.out)⟩⟩
      · replace c9 := Bool.eq_false_iff.mpr c9
        subst c9
        have H1 : (sackbutlaw01_ChordsSums.j0 k a0 a1 a2 t1001 t1002 true) = some r := by rw [if_neg (show ¬ (false = true) by decide)] at H; exact H
        clear H
        have H := H1
        clear H1
        have H' := Aside0.mk H
        clear H
        go_wp2_with (first | (go_at_call 7; (with_reducible refine (sackbutref01_Valid.calls a0 a1 false _ A8.out).mono ?_); rintro e w' ⟨rfl, ⟨nd, rfl⟩⟩))
        go_meet
        case rel => exact ⟨_, (true), (by first | rfl | (simp; done) | (simp [*]; done)), H', ⟨by first | omega | exact Nat.le_refl _⟩, ⟨by (with_reducible repeat (first | apply Kd.R_alloc | apply Kd.R_drewN | apply Kd.R_drew)); exact HO1004.out⟩, ⟨by repeat (first | (with_reducible first | exact HB.out | apply below_alloc | apply pw_below_drewN | apply below_drew1) | exact HB.out)⟩⟩
    · rw [if_neg c7] at H
      have c7b0 : (t1002 == 0) = false := beq_eq_false_iff_ne.mpr c7
      have c7b1 : (t1002 != 0) = true := bne_iff_ne.mpr c7
      (first | rw [c7b0] | (simp only [i64_w, i32_w]; rw [c7b0]) | skip)
      have H' := Aside0.mk H
      clear H
      go_wp2
      go_meet
      case rel => exact ⟨_, (true), (by first | rfl | (simp; done) | (simp [*]; done)), H', ⟨by first | omega | exact Nat.le_refl _⟩, ⟨by (with_reducible repeat (first | apply Kd.R_alloc | apply Kd.R_drewN | apply Kd.R_drew)); exact HO1004.out⟩, ⟨by repeat (first | (with_reducible first | exact HB.out | apply below_alloc | apply pw_below_drewN | apply below_drew1) | exact HB.out)⟩⟩
  case rest =>
    clear HC5
    try clear p2
    try clear c4
    try clear c6
    try clear c7
    try clear c7b0
    try clear c7b1
    try clear c9
    obtain ⟨kq, x39_4, rfl, HA, HJ4, HO_7, HB⟩ := hcut
    cases kq with
    | zero => exact absurd HA.out (by simp [sackbutlaw01_ChordsSums.j0])
    | succ kj4 =>
      have H := HA.out
      clear HA
      simp only [sackbutlaw01_ChordsSums.j0] at H
      by_cases c11 : x39_4 = true
      · subst c11
        have H1 : (if t1002 = 2 then ((sackbutlaw01_awake.f).bind fun t1007 => (some t1007)) else (if t1002 = 0 then ((sackbutlaw01_awake.f).bind fun t1008 => (some t1008)) else (some false))) = some r := by rw [if_pos rfl] at H; exact H
        clear H
        have H := H1
        clear H1
        by_cases c12 : t1002 = 2
        · rw [if_pos c12] at H
          have c12b0 : (t1002 == 2) = true := beq_iff_eq.mpr c12
          have c12b1 : (t1002 != 2) = false := bne_eq_false_iff_eq.mpr c12
          clear c12
          replace H := Option.bind_eq_some_iff.mp H
          obtain ⟨t1007, A130, H⟩ := H
          replace H : (some t1007) = some r := H
          have A13 := Aside0.mk A130
          clear A130
          obtain rfl := Option.some.inj H
          go_wp2_with (first | (go_at_call 8; (with_reducible refine (sackbutlaw01_awake.calls  t1007 _ A13.out).mono ?_); rintro e w14 ⟨rfl, hb⟩; have n0_ := Aside0.mk (Kd.R_below (by (with_reducible repeat (first | apply Kd.R_alloc | apply Kd.R_drewN | apply Kd.R_drew)); exact HO_7.out) hb); have n1_ := Aside0.mk (below_step (by repeat (first | (with_reducible first | exact HB.out | apply below_alloc | apply pw_below_drewN | apply below_drew1) | exact HB.out)) hb); clear HO_7; clear HB; have HO_7 := n0_; have HB := n1_; clear n0_ n1_; (try clear hb); (try clear hb2); (try clear hk); (try clear hi)))
          go_ret
          exact ⟨by first | rfl | (simp [errW_none, errW_some] <;> rfl) | (simp [*, errW_none, errW_some] <;> rfl), by repeat (first | (with_reducible first | exact HB.out | apply below_alloc | apply pw_below_drewN | apply below_drew1) | exact HB.out)⟩
        · rw [if_neg c12] at H
          have c12b0 : (t1002 == 2) = false := beq_eq_false_iff_ne.mpr c12
          have c12b1 : (t1002 != 2) = true := bne_iff_ne.mpr c12
          by_cases c15 : t1002 = 0
          · rw [if_pos c15] at H
            have c15b0 : (t1002 == 0) = true := beq_iff_eq.mpr c15
            have c15b1 : (t1002 != 0) = false := bne_eq_false_iff_eq.mpr c15
            clear c15
            replace H := Option.bind_eq_some_iff.mp H
            obtain ⟨t1008, A160, H⟩ := H
            replace H : (some t1008) = some r := H
            have A16 := Aside0.mk A160
            clear A160
            obtain rfl := Option.some.inj H
            go_wp2_with (first | (go_at_call 8; (with_reducible refine (sackbutlaw01_awake.calls  t1008 _ A16.out).mono ?_); rintro e w17 ⟨rfl, hb⟩; have n0_ := Aside0.mk (Kd.R_below (by (with_reducible repeat (first | apply Kd.R_alloc | apply Kd.R_drewN | apply Kd.R_drew)); exact HO_7.out) hb); have n1_ := Aside0.mk (below_step (by repeat (first | (with_reducible first | exact HB.out | apply below_alloc | apply pw_below_drewN | apply below_drew1) | exact HB.out)) hb); clear HO_7; clear HB; have HO_7 := n0_; have HB := n1_; clear n0_ n1_; (try clear hb); (try clear hb2); (try clear hk); (try clear hi)))
            go_ret
            exact ⟨by first | rfl | (simp [errW_none, errW_some] <;> rfl) | (simp [*, errW_none, errW_some] <;> rfl), by repeat (first | (with_reducible first | exact HB.out | apply below_alloc | apply pw_below_drewN | apply below_drew1) | exact HB.out)⟩
          · rw [if_neg c15] at H
            have c15b0 : (t1002 == 0) = false := beq_eq_false_iff_ne.mpr c15
            have c15b1 : (t1002 != 0) = true := bne_iff_ne.mpr c15
            obtain rfl := Option.some.inj H
            go_wp2
            go_ret
            exact ⟨by first | rfl | (simp [errW_none, errW_some] <;> rfl) | (simp [*, errW_none, errW_some] <;> rfl), by repeat (first | (with_reducible first | exact HB.out | apply below_alloc | apply pw_below_drewN | apply below_drew1) | exact HB.out)⟩
      · replace c11 := Bool.eq_false_iff.mpr c11
        subst c11
        have H1 : ((chords_Common.f kj4 a0 a1 a1).bind fun bt1009 => ((chords_Common.f kj4 a0 a1 a2).bind fun bt1013 => (if bt1009.2 = 0 then (if bt1013.2 = 0 then (if (t1001.length : Int) = (wrap64 (Int.tdiv a0 2)) then (if (bt1009.1.length : Int) = a0 then (sackbutlaw01_ChordsSums.j1 kj4 a0 a1 a2 t1001 bt1009.1 bt1013.1 ((bt1013.1.length : Int) != a0)) else (sackbutlaw01_ChordsSums.j1 kj4 a0 a1 a2 t1001 bt1009.1 bt1013.1 true)) else (sackbutlaw01_ChordsSums.j1 kj4 a0 a1 a2 t1001 bt1009.1 bt1013.1 true)) else (sackbutlaw01_ChordsSums.j1 kj4 a0 a1 a2 t1001 bt1009.1 bt1013.1 true)) else (sackbutlaw01_ChordsSums.j1 kj4 a0 a1 a2 t1001 bt1009.1 bt1013.1 true)))) = some r := by rw [if_neg (show ¬ (false = true) by decide)] at H; exact H
        clear H
        have H := H1
        clear H1
        replace H := Option.bind_eq_some_iff.mp H
        obtain ⟨⟨t1009, t1010⟩, A180, H⟩ := H
        replace H : ((chords_Common.f kj4 a0 a1 a2).bind fun bt1013 => (if t1010 = 0 then (if bt1013.2 = 0 then (if (t1001.length : Int) = (wrap64 (Int.tdiv a0 2)) then (if (t1009.length : Int) = a0 then (sackbutlaw01_ChordsSums.j1 kj4 a0 a1 a2 t1001 t1009 bt1013.1 ((bt1013.1.length : Int) != a0)) else (sackbutlaw01_ChordsSums.j1 kj4 a0 a1 a2 t1001 t1009 bt1013.1 true)) else (sackbutlaw01_ChordsSums.j1 kj4 a0 a1 a2 t1001 t1009 bt1013.1 true)) else (sackbutlaw01_ChordsSums.j1 kj4 a0 a1 a2 t1001 t1009 bt1013.1 true)) else (sackbutlaw01_ChordsSums.j1 kj4 a0 a1 a2 t1001 t1009 bt1013.1 true))) = some r := H
        have A18 := Aside0.mk A180
        clear A180
        replace H := Option.bind_eq_some_iff.mp H
        obtain ⟨⟨t1013, t1014⟩, A190, H⟩ := H
        replace H : (if t1010 = 0 then (if t1014 = 0 then (if (t1001.length : Int) = (wrap64 (Int.tdiv a0 2)) then (if (t1009.length : Int) = a0 then (sackbutlaw01_ChordsSums.j1 kj4 a0 a1 a2 t1001 t1009 t1013 ((t1013.length : Int) != a0)) else (sackbutlaw01_ChordsSums.j1 kj4 a0 a1 a2 t1001 t1009 t1013 true)) else (sackbutlaw01_ChordsSums.j1 kj4 a0 a1 a2 t1001 t1009 t1013 true)) else (sackbutlaw01_ChordsSums.j1 kj4 a0 a1 a2 t1001 t1009 t1013 true)) else (sackbutlaw01_ChordsSums.j1 kj4 a0 a1 a2 t1001 t1009 t1013 true)) = some r := H
        have A19 := Aside0.mk A190
        clear A190
        have HC20 := Aside0.mk H
        clear H
        go_upto_region 6 with (first | ((with_reducible refine gate_callee (f := 10) rfl ?_); refine goesL_ (some 53) rfl rfl Try.func10 (by kernel_rfl) rfl #[.int .i64 a0, .int .i64 a1, .int .i64 a1] rfl (by (try simp only [List.map_toArray, List.map_cons, List.map_nil]); first | done | rfl | (simp only [List.length_drop, List.length_take]; rfl)) ?_; (with_reducible refine (chords_Common.calls kj4 a0 a1 a1 t1009 t1010 _ A18.out).mono ?_); rintro e w21 ⟨v1011, rfl, ho0, hb⟩; refine ⟨_, rfl, ?_⟩; have n0_ := Aside0.mk (Kd.R_elder' (by (with_reducible repeat (first | apply Kd.R_alloc | apply Kd.R_drewN | apply Kd.R_drew)); exact HO_7.out) (Kd.R_base ho0) hb); have n1_ := Aside0.mk (Kd.R_lower (Kd.R_new' ho0 (Kd.R_lt (by (with_reducible repeat (first | apply Kd.R_alloc | apply Kd.R_drewN | apply Kd.R_drew)); exact HO_7.out))) (below_size (by repeat (first | (with_reducible first | exact HB.out | apply below_alloc | apply pw_below_drewN | apply below_drew1) | exact HB.out)))); have n2_ := Aside0.mk (below_step (by repeat (first | (with_reducible first | exact HB.out | apply below_alloc | apply pw_below_drewN | apply below_drew1) | exact HB.out)) hb); clear HO_7; clear HB; have HO_7 := n0_; have HO1012 := n1_; have HB := n2_; clear n0_ n1_ n2_; (try clear hb); (try clear hb2); (try clear hk); (try clear hi); (try clear ho0)) | ((with_reducible refine gate_callee (f := 10) rfl ?_); refine goesL_ (some 60) rfl rfl Try.func10 (by kernel_rfl) rfl #[.int .i64 a0, .int .i64 a1, .int .i64 a2] rfl (by (try simp only [List.map_toArray, List.map_cons, List.map_nil]); first | done | rfl | (simp only [List.length_drop, List.length_take]; rfl)) ?_; (with_reducible refine (chords_Common.calls kj4 a0 a1 a2 t1013 t1014 _ A19.out).mono ?_); rintro e w22 ⟨v1015, rfl, ho0, hb⟩; refine ⟨_, rfl, ?_⟩; have n0_ := Aside0.mk (Kd.R_elder' (by (with_reducible repeat (first | apply Kd.R_alloc | apply Kd.R_drewN | apply Kd.R_drew)); exact HO_7.out) (Kd.R_base ho0) hb); have n1_ := Aside0.mk (Kd.R_elder' (by (with_reducible repeat (first | apply Kd.R_alloc | apply Kd.R_drewN | apply Kd.R_drew)); exact HO1012.out) (Kd.R_base ho0) hb); have n2_ := Aside0.mk (Kd.R_lower (Kd.R_new' (Kd.R_new' ho0 (Kd.R_lt (by (with_reducible repeat (first | apply Kd.R_alloc | apply Kd.R_drewN | apply Kd.R_drew)); exact HO_7.out))) (Kd.R_lt (by (with_reducible repeat (first | apply Kd.R_alloc | apply Kd.R_drewN | apply Kd.R_drew)); exact HO1012.out))) (below_size (by repeat (first | (with_reducible first | exact HB.out | apply below_alloc | apply pw_below_drewN | apply below_drew1) | exact HB.out)))); have n3_ := Aside0.mk (below_step (by repeat (first | (with_reducible first | exact HB.out | apply below_alloc | apply pw_below_drewN | apply below_drew1) | exact HB.out)) hb); clear HO_7; clear HO1012; clear HB; have HO_7 := n0_; have HO1012 := n1_; have HO1016 := n2_; have HB := n3_; clear n0_ n1_ n2_ n3_; (try clear hb); (try clear hb2); (try clear hk); (try clear hi); (try clear ho0)))
        (try simp only [Act.put, List.setIfInBounds_toArray, List.set_cons_zero, List.set_cons_succ])
        go_cut [87] (fun v87 wc => ∃ (kq : Nat) (x87_19 : Bool), v87 = .bool x87_19 ∧ Aside0 (sackbutlaw01_ChordsSums.j1 kq a0 a1 a2 t1001 t1009 t1013 x87_19 = some r) ∧ Aside0 (kq ≤ kj4) ∧ Aside0 (Kd.R (Kd.int .i64) 3 wc w.heap.size (fun k_ => some k_ ≠ (v1011 : Value).ownBlock ∧ some k_ ≠ (v1015 : Value).ownBlock) v1003 t1001) ∧ Aside0 (Kd.R (Kd.int .i64) 3 wc w.heap.size (fun k_ => some k_ ≠ (v1003 : Value).ownBlock ∧ some k_ ≠ (v1015 : Value).ownBlock) v1011 t1009) ∧ Aside0 (Kd.R (Kd.int .i64) 3 wc w.heap.size (fun k_ => some k_ ≠ (v1003 : Value).ownBlock ∧ some k_ ≠ (v1011 : Value).ownBlock) v1015 t1013) ∧ Aside0 (Below w.heap.size w wc))
        case first =>
          have H := HC20.out
          clear HC20
          by_cases c23 : t1010 = 0
          · rw [if_pos c23] at H
            have c23b0 : (t1010 == 0) = true := beq_iff_eq.mpr c23
            have c23b1 : (t1010 != 0) = false := bne_eq_false_iff_eq.mpr c23
            clear c23
            (first | rw [c23b0] | (simp only [i64_w, i32_w]; rw [c23b0]) | skip)
            by_cases c24 : t1014 = 0
            · rw [if_pos c24] at H
              have c24b0 : (t1014 == 0) = true := beq_iff_eq.mpr c24
              have c24b1 : (t1014 != 0) = false := bne_eq_false_iff_eq.mpr c24
              clear c24
              by_cases c25 : (t1001.length : Int) = (wrap64 (Int.tdiv a0 2))
              · rw [if_pos c25] at H
                have c25b0 : ((t1001.length : Int) == (wrap64 (Int.tdiv a0 2))) = true := beq_iff_eq.mpr c25
                have c25b1 : ((t1001.length : Int) != (wrap64 (Int.tdiv a0 2))) = false := bne_eq_false_iff_eq.mpr c25
                clear c25
                by_cases c26 : (t1009.length : Int) = a0
                · rw [if_pos c26] at H
                  have c26b0 : ((t1009.length : Int) == a0) = true := beq_iff_eq.mpr c26
                  have c26b1 : ((t1009.length : Int) != a0) = false := bne_eq_false_iff_eq.mpr c26
                  clear c26
                  have H' := Aside0.mk H
                  clear H
                  obtain ⟨Ao27, co27, eo27⟩ := Kd.R_slice HO_7.out
                  subst eo27
                  obtain ⟨Ao28, co28, eo28⟩ := Kd.R_slice HO1012.out
                  subst eo28
                  obtain ⟨Ao29, co29, eo29⟩ := Kd.R_slice HO1016.out
                  subst eo29
                  go_wp2
                  go_meet
                  case rel => exact ⟨_, (((t1013.length : Int) != a0)), (by first | rfl | (simp; done) | (simp [*]; done)), H', ⟨by have := HJ4.out; first | omega | exact Nat.le_refl _⟩, ⟨by (with_reducible repeat (first | apply Kd.R_alloc | apply Kd.R_drewN | apply Kd.R_drew)); exact Kd.R_mono HO_7.out (fun _ hk => ⟨hk.1.2, hk.2⟩)⟩, ⟨by (with_reducible repeat (first | apply Kd.R_alloc | apply Kd.R_drewN | apply Kd.R_drew)); exact Kd.R_mono HO1012.out (fun _ hk => ⟨hk.1.2, hk.2⟩)⟩, ⟨by (with_reducible repeat (first | apply Kd.R_alloc | apply Kd.R_drewN | apply Kd.R_drew)); exact Kd.R_mono HO1016.out (fun _ hk => ⟨hk.1.2, hk.2⟩)⟩, ⟨by repeat (first | (with_reducible first | exact HB.out | apply below_alloc | apply pw_below_drewN | apply below_drew1) | exact HB.out)⟩⟩
                · rw [if_neg c26] at H
                  have c26b0 : ((t1009.length : Int) == a0) = false := beq_eq_false_iff_ne.mpr c26
                  have c26b1 : ((t1009.length : Int) != a0) = true := bne_iff_ne.mpr c26
                  have H' := Aside0.mk H
                  clear H
                  obtain ⟨Ao30, co30, eo30⟩ := Kd.R_slice HO_7.out
                  subst eo30
                  obtain ⟨Ao31, co31, eo31⟩ := Kd.R_slice HO1012.out
                  subst eo31
                  go_wp2
                  go_meet
                  case rel => exact ⟨_, (true), (by first | rfl | (simp; done) | (simp [*]; done)), H', ⟨by have := HJ4.out; first | omega | exact Nat.le_refl _⟩, ⟨by (with_reducible repeat (first | apply Kd.R_alloc | apply Kd.R_drewN | apply Kd.R_drew)); exact Kd.R_mono HO_7.out (fun _ hk => ⟨hk.1.2, hk.2⟩)⟩, ⟨by (with_reducible repeat (first | apply Kd.R_alloc | apply Kd.R_drewN | apply Kd.R_drew)); exact Kd.R_mono HO1012.out (fun _ hk => ⟨hk.1.2, hk.2⟩)⟩, ⟨by (with_reducible repeat (first | apply Kd.R_alloc | apply Kd.R_drewN | apply Kd.R_drew)); exact Kd.R_mono HO1016.out (fun _ hk => ⟨hk.1.2, hk.2⟩)⟩, ⟨by repeat (first | (with_reducible first | exact HB.out | apply below_alloc | apply pw_below_drewN | apply below_drew1) | exact HB.out)⟩⟩
              · rw [if_neg c25] at H
                have c25b0 : ((t1001.length : Int) == (wrap64 (Int.tdiv a0 2))) = false := beq_eq_false_iff_ne.mpr c25
                have c25b1 : ((t1001.length : Int) != (wrap64 (Int.tdiv a0 2))) = true := bne_iff_ne.mpr c25
                have H' := Aside0.mk H
                clear H
                obtain ⟨Ao32, co32, eo32⟩ := Kd.R_slice HO_7.out
                subst eo32
                go_wp2
                go_meet
                case rel => exact ⟨_, (true), (by first | rfl | (simp; done) | (simp [*]; done)), H', ⟨by have := HJ4.out; first | omega | exact Nat.le_refl _⟩, ⟨by (with_reducible repeat (first | apply Kd.R_alloc | apply Kd.R_drewN | apply Kd.R_drew)); exact Kd.R_mono HO_7.out (fun _ hk => ⟨hk.1.2, hk.2⟩)⟩, ⟨by (with_reducible repeat (first | apply Kd.R_alloc | apply Kd.R_drewN | apply Kd.R_drew)); exact Kd.R_mono HO1012.out (fun _ hk => ⟨hk.1.2, hk.2⟩)⟩, ⟨by (with_reducible repeat (first | apply Kd.R_alloc | apply Kd.R_drewN | apply Kd.R_drew)); exact Kd.R_mono HO1016.out (fun _ hk => ⟨hk.1.2, hk.2⟩)⟩, ⟨by repeat (first | (with_reducible first | exact HB.out | apply below_alloc | apply pw_below_drewN | apply below_drew1) | exact HB.out)⟩⟩
            · rw [if_neg c24] at H
              have c24b0 : (t1014 == 0) = false := beq_eq_false_iff_ne.mpr c24
              have c24b1 : (t1014 != 0) = true := bne_iff_ne.mpr c24
              have H' := Aside0.mk H
              clear H
              go_wp2
              go_meet
              case rel => exact ⟨_, (true), (by first | rfl | (simp; done) | (simp [*]; done)), H', ⟨by have := HJ4.out; first | omega | exact Nat.le_refl _⟩, ⟨by (with_reducible repeat (first | apply Kd.R_alloc | apply Kd.R_drewN | apply Kd.R_drew)); exact Kd.R_mono HO_7.out (fun _ hk => ⟨hk.1.2, hk.2⟩)⟩, ⟨by (with_reducible repeat (first | apply Kd.R_alloc | apply Kd.R_drewN | apply Kd.R_drew)); exact Kd.R_mono HO1012.out (fun _ hk => ⟨hk.1.2, hk.2⟩)⟩, ⟨by (with_reducible repeat (first | apply Kd.R_alloc | apply Kd.R_drewN | apply Kd.R_drew)); exact Kd.R_mono HO1016.out (fun _ hk => ⟨hk.1.2, hk.2⟩)⟩, ⟨by repeat (first | (with_reducible first | exact HB.out | apply below_alloc | apply pw_below_drewN | apply below_drew1) | exact HB.out)⟩⟩
          · rw [if_neg c23] at H
            have c23b0 : (t1010 == 0) = false := beq_eq_false_iff_ne.mpr c23
            have c23b1 : (t1010 != 0) = true := bne_iff_ne.mpr c23
            (first | rw [c23b0] | (simp only [i64_w, i32_w]; rw [c23b0]) | skip)
            have H' := Aside0.mk H
            clear H
            go_wp2
            go_meet
            case rel => exact ⟨_, (true), (by first | rfl | (simp; done) | (simp [*]; done)), H', ⟨by have := HJ4.out; first | omega | exact Nat.le_refl _⟩, ⟨by (with_reducible repeat (first | apply Kd.R_alloc | apply Kd.R_drewN | apply Kd.R_drew)); exact Kd.R_mono HO_7.out (fun _ hk => ⟨hk.1.2, hk.2⟩)⟩, ⟨by (with_reducible repeat (first | apply Kd.R_alloc | apply Kd.R_drewN | apply Kd.R_drew)); exact Kd.R_mono HO1012.out (fun _ hk => ⟨hk.1.2, hk.2⟩)⟩, ⟨by (with_reducible repeat (first | apply Kd.R_alloc | apply Kd.R_drewN | apply Kd.R_drew)); exact Kd.R_mono HO1016.out (fun _ hk => ⟨hk.1.2, hk.2⟩)⟩, ⟨by repeat (first | (with_reducible first | exact HB.out | apply below_alloc | apply pw_below_drewN | apply below_drew1) | exact HB.out)⟩⟩
        case rest =>
          clear HC20
          try clear c1
          try clear c2
          try clear p2
          try clear c4
          try clear c6
          try clear p6
          try clear c7
          try clear c7b0
          try clear c7b1
          try clear c9
          try clear c10
          try clear c11
          try clear c12
          try clear c12b0
          try clear c12b1
          try clear c15
          try clear c15b0
          try clear c15b1
          try clear c23
          try clear c23b0
          try clear c23b1
          try clear c24
          try clear c24b0
          try clear c24b1
          try clear c25
          try clear c25b0
          try clear c25b1
          try clear c26
          try clear c26b0
          try clear c26b1
          try clear p2
          obtain ⟨kq, x87_19, rfl, HA, HJ19, HO_7, HO_9, HO_11, HB⟩ := hcut
          cases kq with
          | zero => exact absurd HA.out (by simp [sackbutlaw01_ChordsSums.j1])
          | succ kj19 =>
            have H := HA.out
            clear HA
            simp only [sackbutlaw01_ChordsSums.j1] at H
            by_cases c33 : x87_19 = true
            · subst c33
              have H1 : (some false) = some r := by rw [if_pos rfl] at H; exact H
              clear H
              have H := H1
              clear H1
              obtain rfl := Option.some.inj H
              go_wp2
              go_ret
              exact ⟨by first | rfl | (simp [errW_none, errW_some] <;> rfl) | (simp [*, errW_none, errW_some] <;> rfl), by repeat (first | (with_reducible first | exact HB.out | apply below_alloc | apply pw_below_drewN | apply below_drew1) | exact HB.out)⟩
            · replace c33 := Bool.eq_false_iff.mpr c33
              subst c33
              have H1 : ((sackbutref01_Size.f kj19 a1).bind fun t1017 => (sackbutlaw01_ChordsSums.l0 kj19 a0 a2 t1001 t1009 t1013 t1017 0 0 (t1001.length : Int) 0)) = some r := by rw [if_neg (show ¬ (false = true) by decide)] at H; exact H
              clear H
              have H := H1
              clear H1
              replace H := Option.bind_eq_some_iff.mp H
              obtain ⟨t1017, A340, H⟩ := H
              replace H : (sackbutlaw01_ChordsSums.l0 kj19 a0 a2 t1001 t1009 t1013 t1017 0 0 (t1001.length : Int) 0) = some r := H
              have A34 := Aside0.mk A340
              clear A340
              have H' := Aside0.mk H
              clear H
              go_wp2_with (first | ((with_reducible refine gate_callee (f := 9) rfl ?_); refine goesL_ (some 89) rfl rfl Try.func9 (by kernel_rfl) rfl #[.int .i64 a1] rfl (by (try simp only [List.map_toArray, List.map_cons, List.map_nil]); first | done | rfl | (simp only [List.length_drop, List.length_take]; rfl)) ?_; (with_reducible refine (sackbutref01_Size.calls kj19 a1 t1017 _ A34.out).mono ?_); rintro e w' ⟨rfl, ⟨nd, rfl⟩⟩; refine ⟨_, rfl, ?_⟩; obtain ⟨Ao35, co35, eo35⟩ := Kd.R_slice HO_7.out; subst eo35))
              go_loopg [14, 92] kj19 (fun kq v14 v92 w' => ∃ (x14_3 : Int) (x92_3 : Int), v14 = .int .i64 x14_3 ∧ v92 = .int .i64 x92_3 ∧ Aside0 (sackbutlaw01_ChordsSums.l0 kq a0 a2 t1001 t1009 t1013 t1017 x14_3 0 (t1001.length : Int) x92_3 = some r) ∧ Aside0 (kq ≤ kj19) ∧ Aside0 (Kd.R (Kd.int .i64) 3 w' w.heap.size (fun k_ => some k_ ≠ (v1011 : Value).ownBlock ∧ some k_ ≠ (v1015 : Value).ownBlock) (.slice Ao35 t1001.length co35) t1001) ∧ Aside0 (Kd.R (Kd.int .i64) 3 w' w.heap.size (fun k_ => some k_ ≠ ((.slice Ao35 t1001.length co35) : Value).ownBlock ∧ some k_ ≠ (v1015 : Value).ownBlock) v1011 t1009) ∧ Aside0 (Kd.R (Kd.int .i64) 3 w' w.heap.size (fun k_ => some k_ ≠ ((.slice Ao35 t1001.length co35) : Value).ownBlock ∧ some k_ ≠ (v1011 : Value).ownBlock) v1015 t1013) ∧ Aside0 (Below w.heap.size w w'))
              case atStart => exact ⟨(0), (0), (by first | rfl | (simp; done) | (simp [*]; done)), (by first | rfl | (simp; done) | (simp [*]; done)), H', ⟨Nat.le_refl _⟩, ⟨by (with_reducible repeat (first | apply Kd.R_alloc | apply Kd.R_drewN | apply Kd.R_drew)); exact HO_7.out⟩, ⟨by (with_reducible repeat (first | apply Kd.R_alloc | apply Kd.R_drewN | apply Kd.R_drew)); exact HO_9.out⟩, ⟨by (with_reducible repeat (first | apply Kd.R_alloc | apply Kd.R_drewN | apply Kd.R_drew)); exact HO_11.out⟩, ⟨by repeat (first | (with_reducible first | exact HB.out | apply below_alloc | apply pw_below_drewN | apply below_drew1) | exact HB.out)⟩⟩
              case round =>
                clear H'
                try clear c1
                try clear c2
                try clear p2
                try clear c3
                try clear c4
                try clear c6
                try clear p6
                try clear c7
                try clear c7b0
                try clear c7b1
                try clear c9
                try clear c10
                try clear c11
                try clear c12
                try clear c12b0
                try clear c12b1
                try clear c15
                try clear c15b0
                try clear c15b1
                try clear c23
                try clear c23b0
                try clear c23b1
                try clear c24
                try clear c24b0
                try clear c24b1
                try clear c25
                try clear c25b0
                try clear c25b1
                try clear c26
                try clear c26b0
                try clear c26b1
                try clear c33
                try clear p2
                try clear p6
                obtain ⟨x14_3, x92_3, rfl, rfl, HA, HK3, HO_7, HO_9, HO_11, HB⟩ := hrel
                cases gk with
                | zero => exact absurd HA.out (by simp [sackbutlaw01_ChordsSums.l0])
                | succ k3 =>
                  have H := HA.out
                  clear HA
                  simp only [sackbutlaw01_ChordsSums.l0] at H
                  by_cases c36 : x92_3 < (t1001.length : Int)
                  · rw [if_pos c36] at H
                    have c36b0 : decide (x92_3 < (t1001.length : Int)) = true := decide_eq_true c36
                    clear c36
                    by_cases c37 : 0 ≤ x92_3
                    · rw [if_pos c37] at H
                      have c37b0 : decide (0 ≤ x92_3) = true := decide_eq_true c37
                      clear c37
                      by_cases c38 : x92_3 < (t1001.length : Int)
                      · rw [if_pos c38] at H
                        have c38b0 : decide (x92_3 < (t1001.length : Int)) = true := decide_eq_true c38
                        clear c38
                        by_cases c39 : (wrap64 (2 * (wrap64 (x92_3 + 1)))) = a0
                        · rw [if_pos c39] at H
                          have c39b0 : ((wrap64 (2 * (wrap64 (x92_3 + 1)))) == a0) = true := beq_iff_eq.mpr c39
                          have c39b1 : ((wrap64 (2 * (wrap64 (x92_3 + 1)))) != a0) = false := bne_eq_false_iff_eq.mpr c39
                          clear c39
                          obtain ⟨ji40, hji40⟩ : ∃ j_ : Int, (wrap64 (x92_3 + 1)) = j_ := ⟨_, rfl⟩
                          replace H : (if 0 ≤ (ji40) then (if (ji40) < (t1009.length : Int) then (if (rd t1009 (ji40)) = (wrap64 ((rd t1001 x92_3) * 2)) then (if 0 ≤ (wrap64 ((wrap64 (a0 - x92_3)) - 1)) then (if (wrap64 ((wrap64 (a0 - x92_3)) - 1)) < (t1009.length : Int) then (if (rd t1009 (wrap64 ((wrap64 (a0 - x92_3)) - 1))) = (wrap64 ((rd t1001 x92_3) * 2)) then (sackbutlaw01_ChordsSums.l0 k3 a0 a2 t1001 t1009 t1013 t1017 (wrap64 (x14_3 + (rd t1001 x92_3))) 0 (t1001.length : Int) ji40) else (some false)) else (none)) else (none)) else (some false)) else (none)) else (none)) = some r := by first | (rw [hji40] at H; exact H) | (simp only [hji40] at H ⊢; exact H)
                          (try rw [hji40] at c39b0)
                          (try rw [hji40] at c39b1)
                          have hji40w : (IntKind.i64.wrap (x92_3 + 1)) = ji40 := (i64_w _).trans hji40
                          by_cases c41 : 0 ≤ (ji40)
                          · rw [if_pos c41] at H
                            have c41b0 : decide (0 ≤ (ji40)) = true := decide_eq_true c41
                            clear c41
                            by_cases c42 : (ji40) < (t1009.length : Int)
                            · rw [if_pos c42] at H
                              have c42b0 : decide ((ji40) < (t1009.length : Int)) = true := decide_eq_true c42
                              clear c42
                              by_cases c43 : (rd t1009 (ji40)) = (wrap64 ((rd t1001 x92_3) * 2))
                              · rw [if_pos c43] at H
                                have c43b0 : ((rd t1009 (ji40)) == (wrap64 ((rd t1001 x92_3) * 2))) = true := beq_iff_eq.mpr c43
                                have c43b1 : ((rd t1009 (ji40)) != (wrap64 ((rd t1001 x92_3) * 2))) = false := bne_eq_false_iff_eq.mpr c43
                                clear c43
                                obtain ⟨ji44, hji44⟩ : ∃ j_ : Int, (wrap64 ((wrap64 (a0 - x92_3)) - 1)) = j_ := ⟨_, rfl⟩
                                replace H : (if 0 ≤ (ji44) then (if (ji44) < (t1009.length : Int) then (if (rd t1009 (ji44)) = (wrap64 ((rd t1001 x92_3) * 2)) then (sackbutlaw01_ChordsSums.l0 k3 a0 a2 t1001 t1009 t1013 t1017 (wrap64 (x14_3 + (rd t1001 x92_3))) 0 (t1001.length : Int) ji40) else (some false)) else (none)) else (none)) = some r := by first | (rw [hji44] at H; exact H) | (simp only [hji44] at H ⊢; exact H)
                                have hji44w : (IntKind.i64.wrap ((wrap64 (a0 - x92_3)) - 1)) = ji44 := (i64_w _).trans hji44
                                by_cases c45 : 0 ≤ (ji44)
                                · rw [if_pos c45] at H
                                  have c45b0 : decide (0 ≤ (ji44)) = true := decide_eq_true c45
                                  clear c45
                                  by_cases c46 : (ji44) < (t1009.length : Int)
                                  · rw [if_pos c46] at H
                                    have c46b0 : decide ((ji44) < (t1009.length : Int)) = true := decide_eq_true c46
                                    clear c46
                                    by_cases c47 : (rd t1009 (ji44)) = (wrap64 ((rd t1001 x92_3) * 2))
                                    · rw [if_pos c47] at H
                                      have c47b0 : ((rd t1009 (ji44)) == (wrap64 ((rd t1001 x92_3) * 2))) = true := beq_iff_eq.mpr c47
                                      have c47b1 : ((rd t1009 (ji44)) != (wrap64 ((rd t1001 x92_3) * 2))) = false := bne_eq_false_iff_eq.mpr c47
                                      clear c47
                                      have H' := Aside0.mk H
                                      clear H
                                      have p1018 : 0 ≤ (x92_3 : Int) := of_decide_eq_true (by first | (with_reducible assumption) | assumption)
                                      have q1018 : x92_3 < (t1001.length : Int) := of_decide_eq_true (by first | (with_reducible assumption) | assumption)
                                      obtain ⟨ad1018, e1018, hx1018_0⟩ := Kd.at_int (Kd.R_reads' HO_7.out).2.2 x92_3 p1018 q1018
                                      cases e1018
                                      replace p1018 := eq_true p1018
                                      replace q1018 := eq_true q1018
                                      obtain ⟨Ao48, co48, eo48⟩ := Kd.R_slice HO_9.out
                                      subst eo48
                                      have p1019 : 0 ≤ ((ji40) : Int) := of_decide_eq_true (by first | (with_reducible assumption) | assumption)
                                      have q1019 : (ji40) < (t1009.length : Int) := of_decide_eq_true (by first | (with_reducible assumption) | assumption)
                                      obtain ⟨ad1019, e1019, hx1019_0⟩ := Kd.at_int (Kd.R_reads' HO_9.out).2.2 (ji40) p1019 q1019
                                      cases e1019
                                      replace p1019 := eq_true p1019
                                      replace q1019 := eq_true q1019
                                      have p1020 : 0 ≤ ((ji44) : Int) := of_decide_eq_true (by first | (with_reducible assumption) | assumption)
                                      have q1020 : (ji44) < (t1009.length : Int) := of_decide_eq_true (by first | (with_reducible assumption) | assumption)
                                      obtain ⟨ad1020, e1020, hx1020_0⟩ := Kd.at_int (Kd.R_reads' HO_9.out).2.2 (ji44) p1020 q1020
                                      obtain rfl : ad1019 = ad1020 := (by injection e1020)
                                      replace p1020 := eq_true p1020
                                      replace q1020 := eq_true q1020
                                      go_wp2
                                      go_roundg k3
                                      case measure => have := HJ4.out; have := HJ19.out; have := HK3.out; omega
                                      case rel => exact ⟨(wrap64 (x14_3 + (rd t1001 x92_3))), (ji40), (by first | rfl | (simp; done) | (simp [*]; done)), (by first | rfl | (simp; done) | (simp only [← hji40] <;> (first | rfl | simp)) | (simp [*]; done)), H', ⟨by have := HJ4.out; have := HJ19.out; have := HK3.out; omega⟩, ⟨by (with_reducible repeat (first | apply Kd.R_alloc | apply Kd.R_drewN | apply Kd.R_drew)); exact HO_7.out⟩, ⟨by (with_reducible repeat (first | apply Kd.R_alloc | apply Kd.R_drewN | apply Kd.R_drew)); exact HO_9.out⟩, ⟨by (with_reducible repeat (first | apply Kd.R_alloc | apply Kd.R_drewN | apply Kd.R_drew)); exact HO_11.out⟩, ⟨by repeat (first | (with_reducible first | exact HB.out | apply below_alloc | apply pw_below_drewN | apply below_drew1) | exact HB.out)⟩⟩
                                    · rw [if_neg c47] at H
                                      have c47b0 : ((rd t1009 (ji44)) == (wrap64 ((rd t1001 x92_3) * 2))) = false := beq_eq_false_iff_ne.mpr c47
                                      have c47b1 : ((rd t1009 (ji44)) != (wrap64 ((rd t1001 x92_3) * 2))) = true := bne_iff_ne.mpr c47
                                      obtain rfl := Option.some.inj H
                                      have p1018 : 0 ≤ (x92_3 : Int) := of_decide_eq_true (by first | (with_reducible assumption) | assumption)
                                      have q1018 : x92_3 < (t1001.length : Int) := of_decide_eq_true (by first | (with_reducible assumption) | assumption)
                                      obtain ⟨ad1018, e1018, hx1018_0⟩ := Kd.at_int (Kd.R_reads' HO_7.out).2.2 x92_3 p1018 q1018
                                      cases e1018
                                      replace p1018 := eq_true p1018
                                      replace q1018 := eq_true q1018
                                      obtain ⟨Ao49, co49, eo49⟩ := Kd.R_slice HO_9.out
                                      subst eo49
                                      have p1019 : 0 ≤ ((ji40) : Int) := of_decide_eq_true (by first | (with_reducible assumption) | assumption)
                                      have q1019 : (ji40) < (t1009.length : Int) := of_decide_eq_true (by first | (with_reducible assumption) | assumption)
                                      obtain ⟨ad1019, e1019, hx1019_0⟩ := Kd.at_int (Kd.R_reads' HO_9.out).2.2 (ji40) p1019 q1019
                                      cases e1019
                                      replace p1019 := eq_true p1019
                                      replace q1019 := eq_true q1019
                                      have p1020 : 0 ≤ ((ji44) : Int) := of_decide_eq_true (by first | (with_reducible assumption) | assumption)
                                      have q1020 : (ji44) < (t1009.length : Int) := of_decide_eq_true (by first | (with_reducible assumption) | assumption)
                                      obtain ⟨ad1020, e1020, hx1020_0⟩ := Kd.at_int (Kd.R_reads' HO_9.out).2.2 (ji44) p1020 q1020
                                      obtain rfl : ad1019 = ad1020 := (by injection e1020)
                                      replace p1020 := eq_true p1020
                                      replace q1020 := eq_true q1020
                                      go_wp2
                                      go_ret
                                      exact ⟨by first | rfl | (simp [errW_none, errW_some] <;> rfl) | (simp only [← hji40, ← hji44]; first | rfl | (simp [errW_none, errW_some] <;> rfl)) | (simp [*, errW_none, errW_some] <;> rfl), by repeat (first | (with_reducible first | exact HB.out | apply below_alloc | apply pw_below_drewN | apply below_drew1) | exact HB.out)⟩
                                  · rw [if_neg c46] at H
                                    exact absurd H (by simp)
                                · rw [if_neg c45] at H
                                  exact absurd H (by simp)
                              · rw [if_neg c43] at H
                                have c43b0 : ((rd t1009 (ji40)) == (wrap64 ((rd t1001 x92_3) * 2))) = false := beq_eq_false_iff_ne.mpr c43
                                have c43b1 : ((rd t1009 (ji40)) != (wrap64 ((rd t1001 x92_3) * 2))) = true := bne_iff_ne.mpr c43
                                obtain rfl := Option.some.inj H
                                have p1018 : 0 ≤ (x92_3 : Int) := of_decide_eq_true (by first | (with_reducible assumption) | assumption)
                                have q1018 : x92_3 < (t1001.length : Int) := of_decide_eq_true (by first | (with_reducible assumption) | assumption)
                                obtain ⟨ad1018, e1018, hx1018_0⟩ := Kd.at_int (Kd.R_reads' HO_7.out).2.2 x92_3 p1018 q1018
                                cases e1018
                                replace p1018 := eq_true p1018
                                replace q1018 := eq_true q1018
                                obtain ⟨Ao50, co50, eo50⟩ := Kd.R_slice HO_9.out
                                subst eo50
                                have p1019 : 0 ≤ ((ji40) : Int) := of_decide_eq_true (by first | (with_reducible assumption) | assumption)
                                have q1019 : (ji40) < (t1009.length : Int) := of_decide_eq_true (by first | (with_reducible assumption) | assumption)
                                obtain ⟨ad1019, e1019, hx1019_0⟩ := Kd.at_int (Kd.R_reads' HO_9.out).2.2 (ji40) p1019 q1019
                                cases e1019
                                replace p1019 := eq_true p1019
                                replace q1019 := eq_true q1019
                                go_wp2
                                go_ret
                                exact ⟨by first | rfl | (simp [errW_none, errW_some] <;> rfl) | (simp only [← hji40]; first | rfl | (simp [errW_none, errW_some] <;> rfl)) | (simp [*, errW_none, errW_some] <;> rfl), by repeat (first | (with_reducible first | exact HB.out | apply below_alloc | apply pw_below_drewN | apply below_drew1) | exact HB.out)⟩
                            · rw [if_neg c42] at H
                              exact absurd H (by simp)
                          · rw [if_neg c41] at H
                            exact absurd H (by simp)
                        · rw [if_neg c39] at H
                          have c39b0 : ((wrap64 (2 * (wrap64 (x92_3 + 1)))) == a0) = false := beq_eq_false_iff_ne.mpr c39
                          have c39b1 : ((wrap64 (2 * (wrap64 (x92_3 + 1)))) != a0) = true := bne_iff_ne.mpr c39
                          obtain ⟨ji51, hji51⟩ : ∃ j_ : Int, (wrap64 (x92_3 + 1)) = j_ := ⟨_, rfl⟩
                          replace H : (if 0 ≤ (ji51) then (if (ji51) < (t1009.length : Int) then (if (rd t1009 (ji51)) = (rd t1001 x92_3) then (if 0 ≤ (wrap64 ((wrap64 (a0 - x92_3)) - 1)) then (if (wrap64 ((wrap64 (a0 - x92_3)) - 1)) < (t1009.length : Int) then (if (rd t1009 (wrap64 ((wrap64 (a0 - x92_3)) - 1))) = (rd t1001 x92_3) then (sackbutlaw01_ChordsSums.l0 k3 a0 a2 t1001 t1009 t1013 t1017 (wrap64 (x14_3 + (rd t1001 x92_3))) 0 (t1001.length : Int) ji51) else (some false)) else (none)) else (none)) else (some false)) else (none)) else (none)) = some r := by first | (rw [hji51] at H; exact H) | (simp only [hji51] at H ⊢; exact H)
                          (try rw [hji51] at c39b0)
                          (try rw [hji51] at c39b1)
                          have hji51w : (IntKind.i64.wrap (x92_3 + 1)) = ji51 := (i64_w _).trans hji51
                          by_cases c52 : 0 ≤ (ji51)
                          · rw [if_pos c52] at H
                            have c52b0 : decide (0 ≤ (ji51)) = true := decide_eq_true c52
                            clear c52
                            by_cases c53 : (ji51) < (t1009.length : Int)
                            · rw [if_pos c53] at H
                              have c53b0 : decide ((ji51) < (t1009.length : Int)) = true := decide_eq_true c53
                              clear c53
                              by_cases c54 : (rd t1009 (ji51)) = (rd t1001 x92_3)
                              · rw [if_pos c54] at H
                                have c54b0 : ((rd t1009 (ji51)) == (rd t1001 x92_3)) = true := beq_iff_eq.mpr c54
                                have c54b1 : ((rd t1009 (ji51)) != (rd t1001 x92_3)) = false := bne_eq_false_iff_eq.mpr c54
                                clear c54
                                obtain ⟨ji55, hji55⟩ : ∃ j_ : Int, (wrap64 ((wrap64 (a0 - x92_3)) - 1)) = j_ := ⟨_, rfl⟩
                                replace H : (if 0 ≤ (ji55) then (if (ji55) < (t1009.length : Int) then (if (rd t1009 (ji55)) = (rd t1001 x92_3) then (sackbutlaw01_ChordsSums.l0 k3 a0 a2 t1001 t1009 t1013 t1017 (wrap64 (x14_3 + (rd t1001 x92_3))) 0 (t1001.length : Int) ji51) else (some false)) else (none)) else (none)) = some r := by first | (rw [hji55] at H; exact H) | (simp only [hji55] at H ⊢; exact H)
                                have hji55w : (IntKind.i64.wrap ((wrap64 (a0 - x92_3)) - 1)) = ji55 := (i64_w _).trans hji55
                                by_cases c56 : 0 ≤ (ji55)
                                · rw [if_pos c56] at H
                                  have c56b0 : decide (0 ≤ (ji55)) = true := decide_eq_true c56
                                  clear c56
                                  by_cases c57 : (ji55) < (t1009.length : Int)
                                  · rw [if_pos c57] at H
                                    have c57b0 : decide ((ji55) < (t1009.length : Int)) = true := decide_eq_true c57
                                    clear c57
                                    by_cases c58 : (rd t1009 (ji55)) = (rd t1001 x92_3)
                                    · rw [if_pos c58] at H
                                      have c58b0 : ((rd t1009 (ji55)) == (rd t1001 x92_3)) = true := beq_iff_eq.mpr c58
                                      have c58b1 : ((rd t1009 (ji55)) != (rd t1001 x92_3)) = false := bne_eq_false_iff_eq.mpr c58
                                      clear c58
                                      have H' := Aside0.mk H
                                      clear H
                                      have p1018 : 0 ≤ (x92_3 : Int) := of_decide_eq_true (by first | (with_reducible assumption) | assumption)
                                      have q1018 : x92_3 < (t1001.length : Int) := of_decide_eq_true (by first | (with_reducible assumption) | assumption)
                                      obtain ⟨ad1018, e1018, hx1018_0⟩ := Kd.at_int (Kd.R_reads' HO_7.out).2.2 x92_3 p1018 q1018
                                      cases e1018
                                      replace p1018 := eq_true p1018
                                      replace q1018 := eq_true q1018
                                      obtain ⟨Ao59, co59, eo59⟩ := Kd.R_slice HO_9.out
                                      subst eo59
                                      have p1021 : 0 ≤ ((ji51) : Int) := of_decide_eq_true (by first | (with_reducible assumption) | assumption)
                                      have q1021 : (ji51) < (t1009.length : Int) := of_decide_eq_true (by first | (with_reducible assumption) | assumption)
                                      obtain ⟨ad1021, e1021, hx1021_0⟩ := Kd.at_int (Kd.R_reads' HO_9.out).2.2 (ji51) p1021 q1021
                                      cases e1021
                                      replace p1021 := eq_true p1021
                                      replace q1021 := eq_true q1021
                                      have p1022 : 0 ≤ ((ji55) : Int) := of_decide_eq_true (by first | (with_reducible assumption) | assumption)
                                      have q1022 : (ji55) < (t1009.length : Int) := of_decide_eq_true (by first | (with_reducible assumption) | assumption)
                                      obtain ⟨ad1022, e1022, hx1022_0⟩ := Kd.at_int (Kd.R_reads' HO_9.out).2.2 (ji55) p1022 q1022
                                      obtain rfl : ad1021 = ad1022 := (by injection e1022)
                                      replace p1022 := eq_true p1022
                                      replace q1022 := eq_true q1022
                                      go_wp2
                                      go_roundg k3
                                      case measure => have := HJ4.out; have := HJ19.out; have := HK3.out; omega
                                      case rel => exact ⟨(wrap64 (x14_3 + (rd t1001 x92_3))), (ji51), (by first | rfl | (simp; done) | (simp [*]; done)), (by first | rfl | (simp; done) | (simp only [← hji51] <;> (first | rfl | simp)) | (simp [*]; done)), H', ⟨by have := HJ4.out; have := HJ19.out; have := HK3.out; omega⟩, ⟨by (with_reducible repeat (first | apply Kd.R_alloc | apply Kd.R_drewN | apply Kd.R_drew)); exact HO_7.out⟩, ⟨by (with_reducible repeat (first | apply Kd.R_alloc | apply Kd.R_drewN | apply Kd.R_drew)); exact HO_9.out⟩, ⟨by (with_reducible repeat (first | apply Kd.R_alloc | apply Kd.R_drewN | apply Kd.R_drew)); exact HO_11.out⟩, ⟨by repeat (first | (with_reducible first | exact HB.out | apply below_alloc | apply pw_below_drewN | apply below_drew1) | exact HB.out)⟩⟩
                                    · rw [if_neg c58] at H
                                      have c58b0 : ((rd t1009 (ji55)) == (rd t1001 x92_3)) = false := beq_eq_false_iff_ne.mpr c58
                                      have c58b1 : ((rd t1009 (ji55)) != (rd t1001 x92_3)) = true := bne_iff_ne.mpr c58
                                      obtain rfl := Option.some.inj H
                                      have p1018 : 0 ≤ (x92_3 : Int) := of_decide_eq_true (by first | (with_reducible assumption) | assumption)
                                      have q1018 : x92_3 < (t1001.length : Int) := of_decide_eq_true (by first | (with_reducible assumption) | assumption)
                                      obtain ⟨ad1018, e1018, hx1018_0⟩ := Kd.at_int (Kd.R_reads' HO_7.out).2.2 x92_3 p1018 q1018
                                      cases e1018
                                      replace p1018 := eq_true p1018
                                      replace q1018 := eq_true q1018
                                      obtain ⟨Ao60, co60, eo60⟩ := Kd.R_slice HO_9.out
                                      subst eo60
                                      have p1021 : 0 ≤ ((ji51) : Int) := of_decide_eq_true (by first | (with_reducible assumption) | assumption)
                                      have q1021 : (ji51) < (t1009.length : Int) := of_decide_eq_true (by first | (with_reducible assumption) | assumption)
                                      obtain ⟨ad1021, e1021, hx1021_0⟩ := Kd.at_int (Kd.R_reads' HO_9.out).2.2 (ji51) p1021 q1021
                                      cases e1021
                                      replace p1021 := eq_true p1021
                                      replace q1021 := eq_true q1021
                                      have p1022 : 0 ≤ ((ji55) : Int) := of_decide_eq_true (by first | (with_reducible assumption) | assumption)
                                      have q1022 : (ji55) < (t1009.length : Int) := of_decide_eq_true (by first | (with_reducible assumption) | assumption)
                                      obtain ⟨ad1022, e1022, hx1022_0⟩ := Kd.at_int (Kd.R_reads' HO_9.out).2.2 (ji55) p1022 q1022
                                      obtain rfl : ad1021 = ad1022 := (by injection e1022)
                                      replace p1022 := eq_true p1022
                                      replace q1022 := eq_true q1022
                                      go_wp2
                                      go_ret
                                      exact ⟨by first | rfl | (simp [errW_none, errW_some] <;> rfl) | (simp only [← hji51, ← hji55]; first | rfl | (simp [errW_none, errW_some] <;> rfl)) | (simp [*, errW_none, errW_some] <;> rfl), by repeat (first | (with_reducible first | exact HB.out | apply below_alloc | apply pw_below_drewN | apply below_drew1) | exact HB.out)⟩
                                  · rw [if_neg c57] at H
                                    exact absurd H (by simp)
                                · rw [if_neg c56] at H
                                  exact absurd H (by simp)
                              · rw [if_neg c54] at H
                                have c54b0 : ((rd t1009 (ji51)) == (rd t1001 x92_3)) = false := beq_eq_false_iff_ne.mpr c54
                                have c54b1 : ((rd t1009 (ji51)) != (rd t1001 x92_3)) = true := bne_iff_ne.mpr c54
                                obtain rfl := Option.some.inj H
                                have p1018 : 0 ≤ (x92_3 : Int) := of_decide_eq_true (by first | (with_reducible assumption) | assumption)
                                have q1018 : x92_3 < (t1001.length : Int) := of_decide_eq_true (by first | (with_reducible assumption) | assumption)
                                obtain ⟨ad1018, e1018, hx1018_0⟩ := Kd.at_int (Kd.R_reads' HO_7.out).2.2 x92_3 p1018 q1018
                                cases e1018
                                replace p1018 := eq_true p1018
                                replace q1018 := eq_true q1018
                                obtain ⟨Ao61, co61, eo61⟩ := Kd.R_slice HO_9.out
                                subst eo61
                                have p1021 : 0 ≤ ((ji51) : Int) := of_decide_eq_true (by first | (with_reducible assumption) | assumption)
                                have q1021 : (ji51) < (t1009.length : Int) := of_decide_eq_true (by first | (with_reducible assumption) | assumption)
                                obtain ⟨ad1021, e1021, hx1021_0⟩ := Kd.at_int (Kd.R_reads' HO_9.out).2.2 (ji51) p1021 q1021
                                cases e1021
                                replace p1021 := eq_true p1021
                                replace q1021 := eq_true q1021
                                go_wp2
                                go_ret
                                exact ⟨by first | rfl | (simp [errW_none, errW_some] <;> rfl) | (simp only [← hji51]; first | rfl | (simp [errW_none, errW_some] <;> rfl)) | (simp [*, errW_none, errW_some] <;> rfl), by repeat (first | (with_reducible first | exact HB.out | apply below_alloc | apply pw_below_drewN | apply below_drew1) | exact HB.out)⟩
                            · rw [if_neg c53] at H
                              exact absurd H (by simp)
                          · rw [if_neg c52] at H
                            exact absurd H (by simp)
                      · rw [if_neg c38] at H
                        exact absurd H (by simp)
                    · rw [if_neg c37] at H
                      exact absurd H (by simp)
                  · rw [if_neg c36] at H
                    have c36b0 : decide (x92_3 < (t1001.length : Int)) = false := decide_eq_false c36
                    clear c36
                    have H' := Aside0.mk H
                    clear H
                    obtain ⟨Ao62, co62, eo62⟩ := Kd.R_slice HO_11.out
                    subst eo62
                    go_wp2
                    go_loopg [15, 128] k3 (fun kq v15 v128 w' => ∃ (x15_4 : Int) (x128_4 : Int), v15 = .int .i64 x15_4 ∧ v128 = .int .i64 x128_4 ∧ Aside0 (sackbutlaw01_ChordsSums.l1 kq a2 t1009 t1013 t1017 x14_3 x15_4 (t1013.length : Int) x128_4 = some r) ∧ Aside0 (kq ≤ k3) ∧ Aside0 (Kd.R (Kd.int .i64) 3 w' w.heap.size (fun k_ => some k_ ≠ ((.slice Ao62 t1013.length co62) : Value).ownBlock) v1011 t1009) ∧ Aside0 (Kd.R (Kd.int .i64) 3 w' w.heap.size (fun k_ => some k_ ≠ (v1011 : Value).ownBlock) (.slice Ao62 t1013.length co62) t1013) ∧ Aside0 (Below w.heap.size w w'))
                    case atStart => exact ⟨(0), (0), (by first | rfl | (simp; done) | (simp [*]; done)), (by first | rfl | (simp; done) | (simp [*]; done)), H', ⟨Nat.le_refl _⟩, ⟨by (with_reducible repeat (first | apply Kd.R_alloc | apply Kd.R_drewN | apply Kd.R_drew)); exact Kd.R_mono HO_9.out (fun _ hk => hk.2)⟩, ⟨by (with_reducible repeat (first | apply Kd.R_alloc | apply Kd.R_drewN | apply Kd.R_drew)); exact Kd.R_mono HO_11.out (fun _ hk => hk.2)⟩, ⟨by repeat (first | (with_reducible first | exact HB.out | apply below_alloc | apply pw_below_drewN | apply below_drew1) | exact HB.out)⟩⟩
                    case round =>
                      clear H'
                      try clear c1
                      try clear p1
                      try clear q1
                      try clear hx1
                      try clear c2
                      try clear p2
                      try clear c3
                      try clear c4
                      try clear c5
                      try clear c6
                      try clear p6
                      try clear c7
                      try clear c7b0
                      try clear c7b1
                      try clear c9
                      try clear c10
                      try clear p10
                      try clear q10
                      try clear hx10
                      try clear c11
                      try clear c12
                      try clear c12b0
                      try clear c12b1
                      try clear c15
                      try clear c15b0
                      try clear c15b1
                      try clear c23
                      try clear c23b0
                      try clear c23b1
                      try clear c24
                      try clear c24b0
                      try clear c24b1
                      try clear c25
                      try clear c25b0
                      try clear c25b1
                      try clear c26
                      try clear c26b0
                      try clear c26b1
                      try clear c33
                      try clear c36
                      try clear c36b0
                      try clear c37
                      try clear c37b0
                      try clear c38
                      try clear c38b0
                      try clear c39
                      try clear c39b0
                      try clear c39b1
                      try clear c41
                      try clear c41b0
                      try clear c42
                      try clear c42b0
                      try clear c43
                      try clear c43b0
                      try clear c43b1
                      try clear c45
                      try clear c45b0
                      try clear c46
                      try clear c46b0
                      try clear c47
                      try clear c47b0
                      try clear c47b1
                      try clear c52
                      try clear c52b0
                      try clear c53
                      try clear c53b0
                      try clear c54
                      try clear c54b0
                      try clear c54b1
                      try clear c56
                      try clear c56b0
                      try clear c57
                      try clear c57b0
                      try clear c58
                      try clear c58b0
                      try clear c58b1
                      try clear hx1018_0
                      try clear hx1019_0
                      try clear hx1020_0
                      try clear hx1021_0
                      try clear hx1022_0
                      try clear p1018
                      try clear p1019
                      try clear p1020
                      try clear p1021
                      try clear p1022
                      try clear p2
                      try clear p6
                      try clear q1018
                      try clear q1019
                      try clear q1020
                      try clear q1021
                      try clear q1022
                      obtain ⟨x15_4, x128_4, rfl, rfl, HA, HK4, HO_9, HO_11, HB⟩ := hrel
                      cases gk with
                      | zero => exact absurd HA.out (by simp [sackbutlaw01_ChordsSums.l1])
                      | succ k4 =>
                        have H := HA.out
                        clear HA
                        simp only [sackbutlaw01_ChordsSums.l1] at H
                        by_cases c63 : x128_4 < (t1013.length : Int)
                        · rw [if_pos c63] at H
                          have c63b0 : decide (x128_4 < (t1013.length : Int)) = true := decide_eq_true c63
                          clear c63
                          by_cases c64 : 0 ≤ x128_4
                          · rw [if_pos c64] at H
                            have c64b0 : decide (0 ≤ x128_4) = true := decide_eq_true c64
                            clear c64
                            by_cases c65 : x128_4 < (t1013.length : Int)
                            · rw [if_pos c65] at H
                              have c65b0 : decide (x128_4 < (t1013.length : Int)) = true := decide_eq_true c65
                              clear c65
                              have H' := Aside0.mk H
                              clear H
                              have p1023 : 0 ≤ (x128_4 : Int) := of_decide_eq_true (by first | (with_reducible assumption) | assumption)
                              have q1023 : x128_4 < (t1013.length : Int) := of_decide_eq_true (by first | (with_reducible assumption) | assumption)
                              obtain ⟨ad1023, e1023, hx1023_0⟩ := Kd.at_int (Kd.R_reads' HO_11.out).2.2 x128_4 p1023 q1023
                              cases e1023
                              replace p1023 := eq_true p1023
                              replace q1023 := eq_true q1023
                              go_wp2
                              go_roundg k4
                              case measure => have := HJ4.out; have := HJ19.out; have := HK3.out; have := HK4.out; omega
                              case rel => exact ⟨(wrap64 (x15_4 + (rd t1013 x128_4))), (wrap64 (x128_4 + 1)), (by first | rfl | (simp; done) | (simp [*]; done)), (by first | rfl | (simp; done) | (simp [*]; done)), H', ⟨by have := HJ4.out; have := HJ19.out; have := HK3.out; have := HK4.out; omega⟩, ⟨by (with_reducible repeat (first | apply Kd.R_alloc | apply Kd.R_drewN | apply Kd.R_drew)); exact HO_9.out⟩, ⟨by (with_reducible repeat (first | apply Kd.R_alloc | apply Kd.R_drewN | apply Kd.R_drew)); exact HO_11.out⟩, ⟨by repeat (first | (with_reducible first | exact HB.out | apply below_alloc | apply pw_below_drewN | apply below_drew1) | exact HB.out)⟩⟩
                            · rw [if_neg c65] at H
                              exact absurd H (by simp)
                          · rw [if_neg c64] at H
                            exact absurd H (by simp)
                        · rw [if_neg c63] at H
                          have c63b0 : decide (x128_4 < (t1013.length : Int)) = false := decide_eq_false c63
                          clear c63
                          by_cases c66 : x14_3 = (wrap64 (Int.tdiv (wrap64 (t1017 * (wrap64 (t1017 - 1)))) 2))
                          · rw [if_pos c66] at H
                            have c66b0 : (x14_3 == (wrap64 (Int.tdiv (wrap64 (t1017 * (wrap64 (t1017 - 1)))) 2))) = true := beq_iff_eq.mpr c66
                            have c66b1 : (x14_3 != (wrap64 (Int.tdiv (wrap64 (t1017 * (wrap64 (t1017 - 1)))) 2))) = false := bne_eq_false_iff_eq.mpr c66
                            clear c66
                            by_cases c67 : 0 < (t1009.length : Int)
                            · rw [if_pos c67] at H
                              have c67b0 : decide (0 < (t1009.length : Int)) = true := decide_eq_true c67
                              have c67b1 : decide (0 < t1009.length) = true := decide_eq_true (by omega)
                              clear c67
                              by_cases c68 : (rd t1009 0) = t1017
                              · rw [if_pos c68] at H
                                have c68b0 : ((rd t1009 0) == t1017) = true := beq_iff_eq.mpr c68
                                have c68b1 : ((rd t1009 0) != t1017) = false := bne_eq_false_iff_eq.mpr c68
                                clear c68
                                replace H := Option.bind_eq_some_iff.mp H
                                obtain ⟨t1025, A690, H⟩ := H
                                replace H : (if x15_4 = (wrap64 (t1017 * t1025)) then ((sackbutlaw01_awake.f).bind fun t1026 => (some t1026)) else (some false)) = some r := H
                                have A69 := Aside0.mk A690
                                clear A690
                                by_cases c70 : x15_4 = (wrap64 (t1017 * t1025))
                                · rw [if_pos c70] at H
                                  have c70b0 : (x15_4 == (wrap64 (t1017 * t1025))) = true := beq_iff_eq.mpr c70
                                  have c70b1 : (x15_4 != (wrap64 (t1017 * t1025))) = false := bne_eq_false_iff_eq.mpr c70
                                  clear c70
                                  replace H := Option.bind_eq_some_iff.mp H
                                  obtain ⟨t1026, A710, H⟩ := H
                                  replace H : (some t1026) = some r := H
                                  have A71 := Aside0.mk A710
                                  clear A710
                                  obtain rfl := Option.some.inj H
                                  obtain ⟨Ao72, co72, eo72⟩ := Kd.R_slice HO_9.out
                                  subst eo72
                                  have p1024 : 0 ≤ (0 : Int) := (by omega)
                                  have q1024 : 0 < (t1009.length : Int) := of_decide_eq_true (by first | (with_reducible assumption) | assumption)
                                  obtain ⟨ad1024, e1024, hx1024_0⟩ := Kd.at_int (Kd.R_reads' HO_9.out).2.2 0 p1024 q1024
                                  cases e1024
                                  have qi1024 : (0 < t1009.length) = True := eq_true (by omega)
                                  (try rw [show ((0 : Int)).toNat = 0 from rfl] at hx1024_0)
                                  (try rw [Addr.add_zero'] at hx1024_0)
                                  replace p1024 := eq_true p1024
                                  replace q1024 := eq_true q1024
                                  go_wp2_with (first | (go_at_call 9; (with_reducible refine (sackbutref01_Size.calls k4 a2 t1025 _ A69.out).mono ?_); rintro e w' ⟨rfl, ⟨nd, rfl⟩⟩) | (go_at_call 8; (with_reducible refine (sackbutlaw01_awake.calls  t1026 _ A71.out).mono ?_); rintro e w73 ⟨rfl, hb⟩; have n0_ := Aside0.mk (Kd.R_below (by (with_reducible repeat (first | apply Kd.R_alloc | apply Kd.R_drewN | apply Kd.R_drew)); exact HO_9.out) hb); have n1_ := Aside0.mk (Kd.R_below (by (with_reducible repeat (first | apply Kd.R_alloc | apply Kd.R_drewN | apply Kd.R_drew)); exact HO_11.out) hb); have n2_ := Aside0.mk (below_step (by repeat (first | (with_reducible first | exact HB.out | apply below_alloc | apply pw_below_drewN | apply below_drew1) | exact HB.out)) hb); clear HO_9; clear HO_11; clear HB; have HO_9 := n0_; have HO_11 := n1_; have HB := n2_; clear n0_ n1_ n2_; (try clear hb); (try clear hb2); (try clear hk); (try clear hi)))
                                  go_ret
                                  exact ⟨by first | rfl | (simp [errW_none, errW_some] <;> rfl) | (simp [*, errW_none, errW_some] <;> rfl), by repeat (first | (with_reducible first | exact HB.out | apply below_alloc | apply pw_below_drewN | apply below_drew1) | exact HB.out)⟩
                                · rw [if_neg c70] at H
                                  have c70b0 : (x15_4 == (wrap64 (t1017 * t1025))) = false := beq_eq_false_iff_ne.mpr c70
                                  have c70b1 : (x15_4 != (wrap64 (t1017 * t1025))) = true := bne_iff_ne.mpr c70
                                  obtain rfl := Option.some.inj H
                                  obtain ⟨Ao74, co74, eo74⟩ := Kd.R_slice HO_9.out
                                  subst eo74
                                  have p1024 : 0 ≤ (0 : Int) := (by omega)
                                  have q1024 : 0 < (t1009.length : Int) := of_decide_eq_true (by first | (with_reducible assumption) | assumption)
                                  obtain ⟨ad1024, e1024, hx1024_0⟩ := Kd.at_int (Kd.R_reads' HO_9.out).2.2 0 p1024 q1024
                                  cases e1024
                                  have qi1024 : (0 < t1009.length) = True := eq_true (by omega)
                                  (try rw [show ((0 : Int)).toNat = 0 from rfl] at hx1024_0)
                                  (try rw [Addr.add_zero'] at hx1024_0)
                                  replace p1024 := eq_true p1024
                                  replace q1024 := eq_true q1024
                                  go_wp2_with (first | (go_at_call 9; (with_reducible refine (sackbutref01_Size.calls k4 a2 t1025 _ A69.out).mono ?_); rintro e w' ⟨rfl, ⟨nd, rfl⟩⟩))
                                  go_ret
                                  exact ⟨by first | rfl | (simp [errW_none, errW_some] <;> rfl) | (simp [*, errW_none, errW_some] <;> rfl), by repeat (first | (with_reducible first | exact HB.out | apply below_alloc | apply pw_below_drewN | apply below_drew1) | exact HB.out)⟩
                              · rw [if_neg c68] at H
                                have c68b0 : ((rd t1009 0) == t1017) = false := beq_eq_false_iff_ne.mpr c68
                                have c68b1 : ((rd t1009 0) != t1017) = true := bne_iff_ne.mpr c68
                                obtain rfl := Option.some.inj H
                                obtain ⟨Ao75, co75, eo75⟩ := Kd.R_slice HO_9.out
                                subst eo75
                                have p1024 : 0 ≤ (0 : Int) := (by omega)
                                have q1024 : 0 < (t1009.length : Int) := of_decide_eq_true (by first | (with_reducible assumption) | assumption)
                                obtain ⟨ad1024, e1024, hx1024_0⟩ := Kd.at_int (Kd.R_reads' HO_9.out).2.2 0 p1024 q1024
                                cases e1024
                                have qi1024 : (0 < t1009.length) = True := eq_true (by omega)
                                (try rw [show ((0 : Int)).toNat = 0 from rfl] at hx1024_0)
                                (try rw [Addr.add_zero'] at hx1024_0)
                                replace p1024 := eq_true p1024
                                replace q1024 := eq_true q1024
                                go_wp2
                                go_ret
                                exact ⟨by first | rfl | (simp [errW_none, errW_some] <;> rfl) | (simp [*, errW_none, errW_some] <;> rfl), by repeat (first | (with_reducible first | exact HB.out | apply below_alloc | apply pw_below_drewN | apply below_drew1) | exact HB.out)⟩
                            · rw [if_neg c67] at H
                              exact absurd H (by simp)
                          · rw [if_neg c66] at H
                            have c66b0 : (x14_3 == (wrap64 (Int.tdiv (wrap64 (t1017 * (wrap64 (t1017 - 1)))) 2))) = false := beq_eq_false_iff_ne.mpr c66
                            have c66b1 : (x14_3 != (wrap64 (Int.tdiv (wrap64 (t1017 * (wrap64 (t1017 - 1)))) 2))) = true := bne_iff_ne.mpr c66
                            obtain rfl := Option.some.inj H
                            go_wp2
                            go_ret
                            exact ⟨by first | rfl | (simp [errW_none, errW_some] <;> rfl) | (simp [*, errW_none, errW_some] <;> rfl), by repeat (first | (with_reducible first | exact HB.out | apply below_alloc | apply pw_below_drewN | apply below_drew1) | exact HB.out)⟩

/-- THE ONE PURE STATEMENT of sackbutlaw01_ChordsSums: yours. -/
def sackbutlaw01_ChordsSums.Pure : Prop := ∀ (a0 : Int) (a1 : Int) (a2 : Int), (Lit.int .i64 a0).wf = true → (Lit.int .i64 a1).wf = true → (Lit.int .i64 a2).wf = true → ∃ k, sackbutlaw01_ChordsSums.f k a0 a1 a2 = some true
theorem sackbutlaw01_ChordsSums.walk (P : sackbutlaw01_ChordsSums.Pure) (a0 : Int) (a1 : Int) (a2 : Int) (w : World) (w0 : (Lit.int .i64 a0).wf = true) (w1 : (Lit.int .i64 a1).wf = true) (w2 : (Lit.int .i64 a2).wf = true) :
    Calls Try.prog 4 #[.int .i64 a0, .int .i64 a1, .int .i64 a2] w fun e w' => e = .returned (.bool true) ∧ Below w.heap.size w w' := by
  obtain ⟨k, h⟩ := P a0 a1 a2 w0 w1 w2
  refine (sackbutlaw01_ChordsSums.calls k a0 a1 a2 true w h).mono ?_
  rintro e w' ⟨rfl, hd⟩
  exact ⟨rfl, hd⟩

end Go.Proofs.Ytnjmiodnkjabgaa.P
