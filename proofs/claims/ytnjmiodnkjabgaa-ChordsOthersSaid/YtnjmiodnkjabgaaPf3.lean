/- A part of a proof that a law's Go function returns true for every input, laid by this session's program mp.py (which drives the kit's print). Conditions: as each theorem states them. -/
import Derived.Test.YtnjmiodnkjabgaaP0
import Derived.Test.YtnjmiodnkjabgaaPf6
import Derived.Test.YtnjmiodnkjabgaaPf7
import Derived.Test.YtnjmiodnkjabgaaPf8
import Derived.Test.YtnjmiodnkjabgaaPf9
namespace Go.Proofs.Ytnjmiodnkjabgaa.P
open Go.RowKit Go.Proofs.YtnjmiodnkjabgaaW.PrintWords Go.Proofs.YtnjmiodnkjabgaaW.PrintLast Go.Proofs.YtnjmiodnkjabgaaW.PrintMore
attribute [local go_sem] max2_int min2_int max_two min_two max_three min_three max_four min_four   -- for this text's walks alone
set_option linter.unusedVariables false
set_option linter.unusedSimpArgs false

/-! ### sackbutlaw01_ChordsOthers: function 3 -/
mutual
def sackbutlaw01_ChordsOthers.j0 : Nat → Int → Int → List Int → Int → Bool → Option (Bool)
  | 0, _, _, _, _, _ => none
  | k + 1, x0, x1, x5, x6, x25 => if x25 = true then (if x6 = 2 then ((sackbutlaw01_awake.f).bind fun t1006 => (some t1006)) else (some false)) else (if 0 ≤ x0 then ((chords_Vector.f k x0 (wrap64 ((wrap64 ((shl .i64 1 x0) - 1)) - x1))).bind fun bt1007 => (if bt1007.2 = 0 then (if (x5.length : Int) = (wrap64 (Int.tdiv x0 2)) then (sackbutlaw01_ChordsOthers.j1 k x0 x1 x5 bt1007.1 ((bt1007.1.length : Int) != (wrap64 (Int.tdiv x0 2)))) else (sackbutlaw01_ChordsOthers.j1 k x0 x1 x5 bt1007.1 true)) else (sackbutlaw01_ChordsOthers.j1 k x0 x1 x5 bt1007.1 true))) else (none))
def sackbutlaw01_ChordsOthers.j1 : Nat → Int → Int → List Int → List Int → Bool → Option (Bool)
  | 0, _, _, _, _, _ => none
  | k + 1, x0, x1, x5, x7, x56 => if x56 = true then (some false) else ((sackbutref01_Size.f k x1).bind fun t1011 => (sackbutlaw01_ChordsOthers.l0 k x0 x5 x7 t1011 (x5.length : Int) 0))
def sackbutlaw01_ChordsOthers.l0 : Nat → Int → List Int → List Int → Int → Int → Int → Option (Bool)
  | 0, _, _, _, _, _, _ => none
  | k + 1, x0, x5, x7, x9, x60, x61 => if x61 < x60 then (if (wrap64 (2 * (wrap64 (x61 + 1)))) = x0 then (if 0 ≤ x61 then (if x61 < (x7.length : Int) then (if x61 < (x5.length : Int) then (if (wrap64 ((rd x7 x61) - (rd x5 x61))) = (wrap64 ((wrap64 (Int.tdiv x0 2)) - x9)) then (sackbutlaw01_ChordsOthers.l0 k x0 x5 x7 x9 x60 (wrap64 (x61 + 1))) else (some false)) else (none)) else (none)) else (none)) else (if 0 ≤ x61 then (if x61 < (x7.length : Int) then (if x61 < (x5.length : Int) then (if (wrap64 ((rd x7 x61) - (rd x5 x61))) = (wrap64 (x0 - (wrap64 (2 * x9)))) then (sackbutlaw01_ChordsOthers.l0 k x0 x5 x7 x9 x60 (wrap64 (x61 + 1))) else (some false)) else (none)) else (none)) else (none))) else ((sackbutlaw01_awake.f).bind fun t1012 => (some t1012))
end
def sackbutlaw01_ChordsOthers.f (k : Nat) (a0 : Int) (a1 : Int) : Option (Bool) := (chords_Vector.f k a0 a1).bind fun bt1001 => (if bt1001.2 = 0 then ((sackbutref01_Valid.f a0 a1).bind fun t1005 => (sackbutlaw01_ChordsOthers.j0 k a0 a1 bt1001.1 bt1001.2 (!t1005))) else (sackbutlaw01_ChordsOthers.j0 k a0 a1 bt1001.1 bt1001.2 true))
theorem sackbutlaw01_ChordsOthers.mono_l : ∀ k, (∀ y0 y1 y2 y3 y4, LeO (sackbutlaw01_ChordsOthers.j0 k y0 y1 y2 y3 y4) (sackbutlaw01_ChordsOthers.j0 (k + 1) y0 y1 y2 y3 y4)) ∧ (∀ y0 y1 y2 y3 y4, LeO (sackbutlaw01_ChordsOthers.j1 k y0 y1 y2 y3 y4) (sackbutlaw01_ChordsOthers.j1 (k + 1) y0 y1 y2 y3 y4)) ∧ (∀ y0 y1 y2 y3 y4 y5, LeO (sackbutlaw01_ChordsOthers.l0 k y0 y1 y2 y3 y4 y5) (sackbutlaw01_ChordsOthers.l0 (k + 1) y0 y1 y2 y3 y4 y5))
  | 0 => ⟨fun _ _ _ _ _ r h => by simp [sackbutlaw01_ChordsOthers.j0] at h, fun _ _ _ _ _ r h => by simp [sackbutlaw01_ChordsOthers.j1] at h, fun _ _ _ _ _ _ r h => by simp [sackbutlaw01_ChordsOthers.l0] at h⟩
  | k + 1 => by
    obtain ⟨ih0, ih1, ih2⟩ := sackbutlaw01_ChordsOthers.mono_l k
    refine ⟨?_, ?_, ?_⟩
    · intro y0 y1 y2 y3 y4
      unfold sackbutlaw01_ChordsOthers.j0
      repeat' first
      | (with_reducible exact ih0 _ _ _ _ _)
      | (with_reducible exact ih1 _ _ _ _ _)
      | (with_reducible exact ih2 _ _ _ _ _ _)
      | (with_reducible exact chords_Vector.mono _ _ _)
      | (with_reducible exact sackbutref01_Size.mono _ _)
      | (with_reducible exact LeO.refl _)
      | (with_reducible exact LeO.none _)
      | (with_reducible refine LeO.ite ?_ ?_)
      | (with_reducible refine LeO.bind ?_ (fun _ => ?_))
      | exact ih0 _ _ _ _ _
      | exact ih1 _ _ _ _ _
      | exact ih2 _ _ _ _ _ _
      | exact chords_Vector.mono _ _ _
      | exact sackbutref01_Size.mono _ _
      | exact LeO.none _
      | refine LeO.ite ?_ ?_
      | refine LeO.bind ?_ (fun _ => ?_)
    · intro y0 y1 y2 y3 y4
      unfold sackbutlaw01_ChordsOthers.j1
      repeat' first
      | (with_reducible exact ih0 _ _ _ _ _)
      | (with_reducible exact ih1 _ _ _ _ _)
      | (with_reducible exact ih2 _ _ _ _ _ _)
      | (with_reducible exact chords_Vector.mono _ _ _)
      | (with_reducible exact sackbutref01_Size.mono _ _)
      | (with_reducible exact LeO.refl _)
      | (with_reducible exact LeO.none _)
      | (with_reducible refine LeO.ite ?_ ?_)
      | (with_reducible refine LeO.bind ?_ (fun _ => ?_))
      | exact ih0 _ _ _ _ _
      | exact ih1 _ _ _ _ _
      | exact ih2 _ _ _ _ _ _
      | exact chords_Vector.mono _ _ _
      | exact sackbutref01_Size.mono _ _
      | exact LeO.none _
      | refine LeO.ite ?_ ?_
      | refine LeO.bind ?_ (fun _ => ?_)
    · intro y0 y1 y2 y3 y4 y5
      unfold sackbutlaw01_ChordsOthers.l0
      repeat' first
      | (with_reducible exact ih0 _ _ _ _ _)
      | (with_reducible exact ih1 _ _ _ _ _)
      | (with_reducible exact ih2 _ _ _ _ _ _)
      | (with_reducible exact chords_Vector.mono _ _ _)
      | (with_reducible exact sackbutref01_Size.mono _ _)
      | (with_reducible exact LeO.refl _)
      | (with_reducible exact LeO.none _)
      | (with_reducible refine LeO.ite ?_ ?_)
      | (with_reducible refine LeO.bind ?_ (fun _ => ?_))
      | exact ih0 _ _ _ _ _
      | exact ih1 _ _ _ _ _
      | exact ih2 _ _ _ _ _ _
      | exact chords_Vector.mono _ _ _
      | exact sackbutref01_Size.mono _ _
      | exact LeO.none _
      | refine LeO.ite ?_ ?_
      | refine LeO.bind ?_ (fun _ => ?_)
theorem sackbutlaw01_ChordsOthers.mono : ∀ a0 a1 k, LeO (sackbutlaw01_ChordsOthers.f k a0 a1) (sackbutlaw01_ChordsOthers.f (k + 1) a0 a1) := by
  intro a0 a1 k
  obtain ⟨ih0, ih1, ih2⟩ := sackbutlaw01_ChordsOthers.mono_l k
  unfold sackbutlaw01_ChordsOthers.f
  repeat' first
      | (with_reducible exact ih0 _ _ _ _ _)
      | (with_reducible exact ih1 _ _ _ _ _)
      | (with_reducible exact ih2 _ _ _ _ _ _)
      | (with_reducible exact chords_Vector.mono _ _ _)
      | (with_reducible exact sackbutref01_Size.mono _ _)
      | (with_reducible exact LeO.refl _)
      | (with_reducible exact LeO.none _)
      | (with_reducible refine LeO.ite ?_ ?_)
      | (with_reducible refine LeO.bind ?_ (fun _ => ?_))
      | exact ih0 _ _ _ _ _
      | exact ih1 _ _ _ _ _
      | exact ih2 _ _ _ _ _ _
      | exact chords_Vector.mono _ _ _
      | exact sackbutref01_Size.mono _ _
      | exact LeO.none _
      | refine LeO.ite ?_ ?_
      | refine LeO.bind ?_ (fun _ => ?_)
set_option maxHeartbeats 8000000 in
set_option maxRecDepth 100000 in
theorem sackbutlaw01_ChordsOthers.calls (k : Nat) (a0 : Int) (a1 : Int) (r : Bool) (w : World) (h : sackbutlaw01_ChordsOthers.f k a0 a1 = some r) :
    Calls Try.prog 3 #[.int .i64 a0, .int .i64 a1] w fun e w' => e = .returned (.bool r) ∧ Below w.heap.size w w' := by
  have HB := Aside0.mk (Below.refl w.heap.size w)
  have H : ((chords_Vector.f k a0 a1).bind fun bt1001 => (if bt1001.2 = 0 then ((sackbutref01_Valid.f a0 a1).bind fun t1005 => (sackbutlaw01_ChordsOthers.j0 k a0 a1 bt1001.1 bt1001.2 (!t1005))) else (sackbutlaw01_ChordsOthers.j0 k a0 a1 bt1001.1 bt1001.2 true))) = some r := h
  clear h
  replace H := Option.bind_eq_some_iff.mp H
  obtain ⟨⟨t1001, t1002⟩, A30, H⟩ := H
  replace H : (if t1002 = 0 then ((sackbutref01_Valid.f a0 a1).bind fun t1005 => (sackbutlaw01_ChordsOthers.j0 k a0 a1 t1001 t1002 (!t1005))) else (sackbutlaw01_ChordsOthers.j0 k a0 a1 t1001 t1002 true)) = some r := H
  have A3 := Aside0.mk A30
  clear A30
  have HC4 := Aside0.mk H
  clear H
  go_enter Try.func3, Try.ntmps3
  go_upto_region 2 with (first | (go_at_call 6; (with_reducible refine (chords_Vector.calls k a0 a1 t1001 t1002 _ A3.out).mono ?_); rintro e w5 ⟨v1003, rfl, ho0, hb⟩; have n0_ := Aside0.mk (Kd.R_lower ho0 (below_size (by repeat (first | (with_reducible first | exact HB.out | apply below_alloc | apply pw_below_drewN | apply below_drew1) | exact HB.out)))); have n1_ := Aside0.mk (below_step (by repeat (first | (with_reducible first | exact HB.out | apply below_alloc | apply pw_below_drewN | apply below_drew1) | exact HB.out)) hb); clear HB; have HO1004 := n0_; have HB := n1_; clear n0_ n1_; (try clear hb); (try clear hb2); (try clear hk); (try clear hi); (try clear ho0)))
  repeat (go_quiet (first | (go_at_call 6; (with_reducible refine (chords_Vector.calls k a0 a1 t1001 t1002 _ A3.out).mono ?_); rintro e w5 ⟨v1003, rfl, ho0, hb⟩; have n0_ := Aside0.mk (Kd.R_lower ho0 (below_size (by repeat (first | (with_reducible first | exact HB.out | apply below_alloc | apply pw_below_drewN | apply below_drew1) | exact HB.out)))); have n1_ := Aside0.mk (below_step (by repeat (first | (with_reducible first | exact HB.out | apply below_alloc | apply pw_below_drewN | apply below_drew1) | exact HB.out)) hb); clear HB; have HO1004 := n0_; have HB := n1_; clear n0_ n1_; (try clear hb); (try clear hb2); (try clear hk); (try clear hi); (try clear ho0))); go_upto_region 2 with (first | (go_at_call 6; (with_reducible refine (chords_Vector.calls k a0 a1 t1001 t1002 _ A3.out).mono ?_); rintro e w5 ⟨v1003, rfl, ho0, hb⟩; have n0_ := Aside0.mk (Kd.R_lower ho0 (below_size (by repeat (first | (with_reducible first | exact HB.out | apply below_alloc | apply pw_below_drewN | apply below_drew1) | exact HB.out)))); have n1_ := Aside0.mk (below_step (by repeat (first | (with_reducible first | exact HB.out | apply below_alloc | apply pw_below_drewN | apply below_drew1) | exact HB.out)) hb); clear HB; have HO1004 := n0_; have HB := n1_; clear n0_ n1_; (try clear hb); (try clear hb2); (try clear hk); (try clear hi); (try clear ho0))))
  (try simp only [Act.put, List.setIfInBounds_toArray, List.set_cons_zero, List.set_cons_succ])
  go_cut [25] (fun v25 wc => ∃ (kq : Nat) (x25_3 : Bool), v25 = .bool x25_3 ∧ Aside0 (sackbutlaw01_ChordsOthers.j0 kq a0 a1 t1001 t1002 x25_3 = some r) ∧ Aside0 (kq ≤ k) ∧ Aside0 (Kd.R (Kd.int .i64) 3 wc w.heap.size (fun _ => True) v1003 t1001) ∧ Aside0 (Below w.heap.size w wc))
  case first =>
    have H := HC4.out
    clear HC4
    by_cases c6 : t1002 = 0
    · rw [if_pos c6] at H
      have c6b0 : (t1002 == 0) = true := beq_iff_eq.mpr c6
      have c6b1 : (t1002 != 0) = false := bne_eq_false_iff_eq.mpr c6
      clear c6
      (first | rw [c6b0] | (simp only [i64_w, i32_w]; rw [c6b0]) | skip)
      replace H := Option.bind_eq_some_iff.mp H
      obtain ⟨t1005, A70, H⟩ := H
      replace H : (sackbutlaw01_ChordsOthers.j0 k a0 a1 t1001 t1002 (!t1005)) = some r := H
      have A7 := Aside0.mk A70
      clear A70
      have H' := Aside0.mk H
      clear H
      go_wp2_with (first | (go_at_call 7; (with_reducible refine (sackbutref01_Valid.calls a0 a1 t1005 _ A7.out).mono ?_); rintro e w' ⟨rfl, ⟨nd, rfl⟩⟩; (try first | exact ⟨rfl, _, World.drewN_drewN _ _ _⟩ | exact ⟨rfl, _, Eq.trans (World.drewN_drewN _ _ _) (congrArg (World.drewN _) (Nat.add_assoc _ _ _))⟩)))
      repeat (go_quiet (first | (go_at_call 7; (with_reducible refine (sackbutref01_Valid.calls a0 a1 t1005 _ A7.out).mono ?_); rintro e w' ⟨rfl, ⟨nd, rfl⟩⟩; (try first | exact ⟨rfl, _, World.drewN_drewN _ _ _⟩ | exact ⟨rfl, _, Eq.trans (World.drewN_drewN _ _ _) (congrArg (World.drewN _) (Nat.add_assoc _ _ _))⟩))); try go_wp2_with (first | (go_at_call 7; (with_reducible refine (sackbutref01_Valid.calls a0 a1 t1005 _ A7.out).mono ?_); rintro e w' ⟨rfl, ⟨nd, rfl⟩⟩; (try first | exact ⟨rfl, _, World.drewN_drewN _ _ _⟩ | exact ⟨rfl, _, Eq.trans (World.drewN_drewN _ _ _) (congrArg (World.drewN _) (Nat.add_assoc _ _ _))⟩))))
      go_meet
      case rel => exact ⟨_, (!t1005), (by first | rfl | (simp; done) | (simp [*]; done)), H', ⟨by first | omega | exact Nat.le_refl _⟩, ⟨by (with_reducible repeat (first | apply Kd.R_alloc | apply Kd.R_drewN | apply Kd.R_drew)); exact HO1004.out⟩, ⟨by repeat (first | (with_reducible first | exact HB.out | apply below_alloc | apply pw_below_drewN | apply below_drew1) | exact HB.out)⟩⟩
    · rw [if_neg c6] at H
      have c6b0 : (t1002 == 0) = false := beq_eq_false_iff_ne.mpr c6
      have c6b1 : (t1002 != 0) = true := bne_iff_ne.mpr c6
      (first | rw [c6b0] | (simp only [i64_w, i32_w]; rw [c6b0]) | skip)
      have H' := Aside0.mk H
      clear H
      go_wp2
      repeat (go_quiet (fail); try go_wp2)
      go_meet
      case rel => exact ⟨_, (true), (by first | rfl | (simp; done) | (simp [*]; done)), H', ⟨by first | omega | exact Nat.le_refl _⟩, ⟨by (with_reducible repeat (first | apply Kd.R_alloc | apply Kd.R_drewN | apply Kd.R_drew)); exact HO1004.out⟩, ⟨by repeat (first | (with_reducible first | exact HB.out | apply below_alloc | apply pw_below_drewN | apply below_drew1) | exact HB.out)⟩⟩
  case rest =>
    clear HC4
    try clear p2
    try clear c3
    try clear c6
    try clear c6b0
    try clear c6b1
    obtain ⟨kq, x25_3, rfl, HA, HJ3, HO_5, HB⟩ := hcut
    cases kq with
    | zero => exact absurd HA.out (by simp [sackbutlaw01_ChordsOthers.j0])
    | succ kj3 =>
      have H := HA.out
      clear HA
      simp only [sackbutlaw01_ChordsOthers.j0] at H
      by_cases c8 : x25_3 = true
      · subst c8
        have H1 : (if t1002 = 2 then ((sackbutlaw01_awake.f).bind fun t1006 => (some t1006)) else (some false)) = some r := by rw [if_pos rfl] at H; exact H
        clear H
        have H := H1
        clear H1
        by_cases c9 : t1002 = 2
        · rw [if_pos c9] at H
          have c9b0 : (t1002 == 2) = true := beq_iff_eq.mpr c9
          have c9b1 : (t1002 != 2) = false := bne_eq_false_iff_eq.mpr c9
          clear c9
          replace H := Option.bind_eq_some_iff.mp H
          obtain ⟨t1006, A100, H⟩ := H
          replace H : (some t1006) = some r := H
          have A10 := Aside0.mk A100
          clear A100
          obtain rfl := Option.some.inj H
          go_wp2_with (first | (go_at_call 8; (with_reducible refine (sackbutlaw01_awake.calls  t1006 _ A10.out).mono ?_); rintro e w11 ⟨rfl, hb⟩; have n0_ := Aside0.mk (Kd.R_below (by (with_reducible repeat (first | apply Kd.R_alloc | apply Kd.R_drewN | apply Kd.R_drew)); exact HO_5.out) hb); have n1_ := Aside0.mk (below_step (by repeat (first | (with_reducible first | exact HB.out | apply below_alloc | apply pw_below_drewN | apply below_drew1) | exact HB.out)) hb); clear HO_5; clear HB; have HO_5 := n0_; have HB := n1_; clear n0_ n1_; (try clear hb); (try clear hb2); (try clear hk); (try clear hi)))
          repeat (go_quiet (first | (go_at_call 8; (with_reducible refine (sackbutlaw01_awake.calls  t1006 _ A10.out).mono ?_); rintro e w11 ⟨rfl, hb⟩; have n0_ := Aside0.mk (Kd.R_below (by (with_reducible repeat (first | apply Kd.R_alloc | apply Kd.R_drewN | apply Kd.R_drew)); exact HO_5.out) hb); have n1_ := Aside0.mk (below_step (by repeat (first | (with_reducible first | exact HB.out | apply below_alloc | apply pw_below_drewN | apply below_drew1) | exact HB.out)) hb); clear HO_5; clear HB; have HO_5 := n0_; have HB := n1_; clear n0_ n1_; (try clear hb); (try clear hb2); (try clear hk); (try clear hi))); try go_wp2_with (first | (go_at_call 8; (with_reducible refine (sackbutlaw01_awake.calls  t1006 _ A10.out).mono ?_); rintro e w11 ⟨rfl, hb⟩; have n0_ := Aside0.mk (Kd.R_below (by (with_reducible repeat (first | apply Kd.R_alloc | apply Kd.R_drewN | apply Kd.R_drew)); exact HO_5.out) hb); have n1_ := Aside0.mk (below_step (by repeat (first | (with_reducible first | exact HB.out | apply below_alloc | apply pw_below_drewN | apply below_drew1) | exact HB.out)) hb); clear HO_5; clear HB; have HO_5 := n0_; have HB := n1_; clear n0_ n1_; (try clear hb); (try clear hb2); (try clear hk); (try clear hi))))
          go_ret
          exact ⟨by first | rfl | (simp [errW_none, errW_some] <;> rfl) | (simp [*, errW_none, errW_some] <;> rfl), by repeat (first | (with_reducible first | exact HB.out | apply below_alloc | apply pw_below_drewN | apply below_drew1) | exact HB.out)⟩
        · rw [if_neg c9] at H
          have c9b0 : (t1002 == 2) = false := beq_eq_false_iff_ne.mpr c9
          have c9b1 : (t1002 != 2) = true := bne_iff_ne.mpr c9
          obtain rfl := Option.some.inj H
          go_wp2
          repeat (go_quiet (fail); try go_wp2)
          go_ret
          exact ⟨by first | rfl | (simp [errW_none, errW_some] <;> rfl) | (simp [*, errW_none, errW_some] <;> rfl), by repeat (first | (with_reducible first | exact HB.out | apply below_alloc | apply pw_below_drewN | apply below_drew1) | exact HB.out)⟩
      · replace c8 := Bool.eq_false_iff.mpr c8
        subst c8
        have H1 : (if 0 ≤ a0 then ((chords_Vector.f kj3 a0 (wrap64 ((wrap64 ((shl .i64 1 a0) - 1)) - a1))).bind fun bt1007 => (if bt1007.2 = 0 then (if (t1001.length : Int) = (wrap64 (Int.tdiv a0 2)) then (sackbutlaw01_ChordsOthers.j1 kj3 a0 a1 t1001 bt1007.1 ((bt1007.1.length : Int) != (wrap64 (Int.tdiv a0 2)))) else (sackbutlaw01_ChordsOthers.j1 kj3 a0 a1 t1001 bt1007.1 true)) else (sackbutlaw01_ChordsOthers.j1 kj3 a0 a1 t1001 bt1007.1 true))) else (none)) = some r := by rw [if_neg (show ¬ (false = true) by decide)] at H; exact H
        clear H
        have H := H1
        clear H1
        by_cases c12 : 0 ≤ a0
        · rw [if_pos c12] at H
          have c12b0 := eq_true c12
          have c12b1 : decide (0 ≤ a0) = true := decide_eq_true c12
          clear c12
          obtain ⟨ji13, hji13⟩ : ∃ j_ : Int, (shl .i64 1 a0) = j_ := ⟨_, rfl⟩
          replace H : ((chords_Vector.f kj3 a0 (wrap64 ((wrap64 ((ji13) - 1)) - a1))).bind fun bt1007 => (if bt1007.2 = 0 then (if (t1001.length : Int) = (wrap64 (Int.tdiv a0 2)) then (sackbutlaw01_ChordsOthers.j1 kj3 a0 a1 t1001 bt1007.1 ((bt1007.1.length : Int) != (wrap64 (Int.tdiv a0 2)))) else (sackbutlaw01_ChordsOthers.j1 kj3 a0 a1 t1001 bt1007.1 true)) else (sackbutlaw01_ChordsOthers.j1 kj3 a0 a1 t1001 bt1007.1 true))) = some r := by first | (rw [hji13] at H; exact H) | (simp only [hji13] at H ⊢; exact H)
          have hji13_ : (IntKind.i64.wrap (1 * 2 ^ min a0.toNat 64)) = ji13 := hji13
          have hji13z : a0 ≤ 64 → (IntKind.i64.wrap (1 * 2 ^ a0.toNat)) = ji13 := shl_small hji13
          have hji13u : (IntKind.i64.wrap (2 ^ min a0.toNat 64)) = ji13 := by have h_ := hji13_; rw [Int.one_mul] at h_; exact h_
          have hji13v : a0 ≤ 64 → (IntKind.i64.wrap (2 ^ a0.toNat)) = ji13 := fun hle_ => by have h_ := hji13z hle_; rw [Int.one_mul] at h_; exact h_
          have hji13y : (wrap64 (1 * 2 ^ min a0.toNat 64)) = ji13 := (i64_w _).symm.trans hji13_
          have hji13x : a0 ≤ 64 → (wrap64 (1 * 2 ^ a0.toNat)) = ji13 := fun h_ => (i64_w _).symm.trans (hji13z h_)
          replace H := Option.bind_eq_some_iff.mp H
          obtain ⟨⟨t1007, t1008⟩, A140, H⟩ := H
          replace H : (if t1008 = 0 then (if (t1001.length : Int) = (wrap64 (Int.tdiv a0 2)) then (sackbutlaw01_ChordsOthers.j1 kj3 a0 a1 t1001 t1007 ((t1007.length : Int) != (wrap64 (Int.tdiv a0 2)))) else (sackbutlaw01_ChordsOthers.j1 kj3 a0 a1 t1001 t1007 true)) else (sackbutlaw01_ChordsOthers.j1 kj3 a0 a1 t1001 t1007 true)) = some r := H
          have A14 := Aside0.mk A140
          clear A140
          have HC15 := Aside0.mk H
          clear H
          go_upto_region 5 with (first | (go_at_call 6; (with_reducible refine (chords_Vector.calls kj3 a0 (wrap64 ((wrap64 ((ji13) - 1)) - a1)) t1007 t1008 _ A14.out).mono ?_); rintro e w16 ⟨v1009, rfl, ho0, hb⟩; have n0_ := Aside0.mk (Kd.R_elder' (by (with_reducible repeat (first | apply Kd.R_alloc | apply Kd.R_drewN | apply Kd.R_drew)); exact HO_5.out) (Kd.R_base ho0) hb); have n1_ := Aside0.mk (Kd.R_lower (Kd.R_new' ho0 (Kd.R_lt (by (with_reducible repeat (first | apply Kd.R_alloc | apply Kd.R_drewN | apply Kd.R_drew)); exact HO_5.out))) (below_size (by repeat (first | (with_reducible first | exact HB.out | apply below_alloc | apply pw_below_drewN | apply below_drew1) | exact HB.out)))); have n2_ := Aside0.mk (below_step (by repeat (first | (with_reducible first | exact HB.out | apply below_alloc | apply pw_below_drewN | apply below_drew1) | exact HB.out)) hb); clear HO_5; clear HB; have HO_5 := n0_; have HO1010 := n1_; have HB := n2_; clear n0_ n1_ n2_; (try clear hb); (try clear hb2); (try clear hk); (try clear hi); (try clear ho0)))
          repeat (go_quiet (first | (go_at_call 6; (with_reducible refine (chords_Vector.calls kj3 a0 (wrap64 ((wrap64 ((ji13) - 1)) - a1)) t1007 t1008 _ A14.out).mono ?_); rintro e w16 ⟨v1009, rfl, ho0, hb⟩; have n0_ := Aside0.mk (Kd.R_elder' (by (with_reducible repeat (first | apply Kd.R_alloc | apply Kd.R_drewN | apply Kd.R_drew)); exact HO_5.out) (Kd.R_base ho0) hb); have n1_ := Aside0.mk (Kd.R_lower (Kd.R_new' ho0 (Kd.R_lt (by (with_reducible repeat (first | apply Kd.R_alloc | apply Kd.R_drewN | apply Kd.R_drew)); exact HO_5.out))) (below_size (by repeat (first | (with_reducible first | exact HB.out | apply below_alloc | apply pw_below_drewN | apply below_drew1) | exact HB.out)))); have n2_ := Aside0.mk (below_step (by repeat (first | (with_reducible first | exact HB.out | apply below_alloc | apply pw_below_drewN | apply below_drew1) | exact HB.out)) hb); clear HO_5; clear HB; have HO_5 := n0_; have HO1010 := n1_; have HB := n2_; clear n0_ n1_ n2_; (try clear hb); (try clear hb2); (try clear hk); (try clear hi); (try clear ho0))); go_upto_region 5 with (first | (go_at_call 6; (with_reducible refine (chords_Vector.calls kj3 a0 (wrap64 ((wrap64 ((ji13) - 1)) - a1)) t1007 t1008 _ A14.out).mono ?_); rintro e w16 ⟨v1009, rfl, ho0, hb⟩; have n0_ := Aside0.mk (Kd.R_elder' (by (with_reducible repeat (first | apply Kd.R_alloc | apply Kd.R_drewN | apply Kd.R_drew)); exact HO_5.out) (Kd.R_base ho0) hb); have n1_ := Aside0.mk (Kd.R_lower (Kd.R_new' ho0 (Kd.R_lt (by (with_reducible repeat (first | apply Kd.R_alloc | apply Kd.R_drewN | apply Kd.R_drew)); exact HO_5.out))) (below_size (by repeat (first | (with_reducible first | exact HB.out | apply below_alloc | apply pw_below_drewN | apply below_drew1) | exact HB.out)))); have n2_ := Aside0.mk (below_step (by repeat (first | (with_reducible first | exact HB.out | apply below_alloc | apply pw_below_drewN | apply below_drew1) | exact HB.out)) hb); clear HO_5; clear HB; have HO_5 := n0_; have HO1010 := n1_; have HB := n2_; clear n0_ n1_ n2_; (try clear hb); (try clear hb2); (try clear hk); (try clear hi); (try clear ho0))))
          (try simp only [Act.put, List.setIfInBounds_toArray, List.set_cons_zero, List.set_cons_succ])
          go_cut [56] (fun v56 wc => ∃ (kq : Nat) (x56_14 : Bool), v56 = .bool x56_14 ∧ Aside0 (sackbutlaw01_ChordsOthers.j1 kq a0 a1 t1001 t1007 x56_14 = some r) ∧ Aside0 (kq ≤ kj3) ∧ Aside0 (Kd.R (Kd.int .i64) 3 wc w.heap.size (fun k_ => some k_ ≠ (v1009 : Value).ownBlock) v1003 t1001) ∧ Aside0 (Kd.R (Kd.int .i64) 3 wc w.heap.size (fun k_ => some k_ ≠ (v1003 : Value).ownBlock) v1009 t1007) ∧ Aside0 (Below w.heap.size w wc))
          case first =>
            have H := HC15.out
            clear HC15
            by_cases c17 : t1008 = 0
            · rw [if_pos c17] at H
              have c17b0 : (t1008 == 0) = true := beq_iff_eq.mpr c17
              have c17b1 : (t1008 != 0) = false := bne_eq_false_iff_eq.mpr c17
              clear c17
              (first | rw [c17b0] | (simp only [i64_w, i32_w]; rw [c17b0]) | skip)
              by_cases c18 : (t1001.length : Int) = (wrap64 (Int.tdiv a0 2))
              · rw [if_pos c18] at H
                have c18b0 : ((t1001.length : Int) == (wrap64 (Int.tdiv a0 2))) = true := beq_iff_eq.mpr c18
                have c18b1 : ((t1001.length : Int) != (wrap64 (Int.tdiv a0 2))) = false := bne_eq_false_iff_eq.mpr c18
                clear c18
                have H' := Aside0.mk H
                clear H
                obtain ⟨Ao19, co19, eo19⟩ := Kd.R_slice HO_5.out
                subst eo19
                obtain ⟨Ao20, co20, eo20⟩ := Kd.R_slice HO1010.out
                subst eo20
                go_wp2
                repeat (go_quiet (fail); try go_wp2)
                go_meet
                case rel => exact ⟨_, (((t1007.length : Int) != (wrap64 (Int.tdiv a0 2)))), (by first | rfl | (simp; done) | (simp [*]; done)), H', ⟨by have := HJ3.out; first | omega | exact Nat.le_refl _⟩, ⟨by (with_reducible repeat (first | apply Kd.R_alloc | apply Kd.R_drewN | apply Kd.R_drew)); exact Kd.R_mono HO_5.out (fun _ hk => hk.2)⟩, ⟨by (with_reducible repeat (first | apply Kd.R_alloc | apply Kd.R_drewN | apply Kd.R_drew)); exact Kd.R_mono HO1010.out (fun _ hk => hk.2)⟩, ⟨by repeat (first | (with_reducible first | exact HB.out | apply below_alloc | apply pw_below_drewN | apply below_drew1) | exact HB.out)⟩⟩
              · rw [if_neg c18] at H
                have c18b0 : ((t1001.length : Int) == (wrap64 (Int.tdiv a0 2))) = false := beq_eq_false_iff_ne.mpr c18
                have c18b1 : ((t1001.length : Int) != (wrap64 (Int.tdiv a0 2))) = true := bne_iff_ne.mpr c18
                have H' := Aside0.mk H
                clear H
                obtain ⟨Ao21, co21, eo21⟩ := Kd.R_slice HO_5.out
                subst eo21
                go_wp2
                repeat (go_quiet (fail); try go_wp2)
                go_meet
                case rel => exact ⟨_, (true), (by first | rfl | (simp; done) | (simp [*]; done)), H', ⟨by have := HJ3.out; first | omega | exact Nat.le_refl _⟩, ⟨by (with_reducible repeat (first | apply Kd.R_alloc | apply Kd.R_drewN | apply Kd.R_drew)); exact Kd.R_mono HO_5.out (fun _ hk => hk.2)⟩, ⟨by (with_reducible repeat (first | apply Kd.R_alloc | apply Kd.R_drewN | apply Kd.R_drew)); exact Kd.R_mono HO1010.out (fun _ hk => hk.2)⟩, ⟨by repeat (first | (with_reducible first | exact HB.out | apply below_alloc | apply pw_below_drewN | apply below_drew1) | exact HB.out)⟩⟩
            · rw [if_neg c17] at H
              have c17b0 : (t1008 == 0) = false := beq_eq_false_iff_ne.mpr c17
              have c17b1 : (t1008 != 0) = true := bne_iff_ne.mpr c17
              (first | rw [c17b0] | (simp only [i64_w, i32_w]; rw [c17b0]) | skip)
              have H' := Aside0.mk H
              clear H
              go_wp2
              repeat (go_quiet (fail); try go_wp2)
              go_meet
              case rel => exact ⟨_, (true), (by first | rfl | (simp; done) | (simp [*]; done)), H', ⟨by have := HJ3.out; first | omega | exact Nat.le_refl _⟩, ⟨by (with_reducible repeat (first | apply Kd.R_alloc | apply Kd.R_drewN | apply Kd.R_drew)); exact Kd.R_mono HO_5.out (fun _ hk => hk.2)⟩, ⟨by (with_reducible repeat (first | apply Kd.R_alloc | apply Kd.R_drewN | apply Kd.R_drew)); exact Kd.R_mono HO1010.out (fun _ hk => hk.2)⟩, ⟨by repeat (first | (with_reducible first | exact HB.out | apply below_alloc | apply pw_below_drewN | apply below_drew1) | exact HB.out)⟩⟩
          case rest =>
            clear HC15
            try clear c1
            try clear p2
            try clear c3
            try clear c6
            try clear c6b0
            try clear c6b1
            try clear p6
            try clear c8
            try clear c9
            try clear c9b0
            try clear c9b1
            try clear c12
            try clear c12b0
            try clear c12b1
            try clear c17
            try clear c17b0
            try clear c17b1
            try clear c18
            try clear c18b0
            try clear c18b1
            try clear p2
            obtain ⟨kq, x56_14, rfl, HA, HJ14, HO_5, HO_7, HB⟩ := hcut
            cases kq with
            | zero => exact absurd HA.out (by simp [sackbutlaw01_ChordsOthers.j1])
            | succ kj14 =>
              have H := HA.out
              clear HA
              simp only [sackbutlaw01_ChordsOthers.j1] at H
              by_cases c22 : x56_14 = true
              · subst c22
                have H1 : (some false) = some r := by rw [if_pos rfl] at H; exact H
                clear H
                have H := H1
                clear H1
                obtain rfl := Option.some.inj H
                go_wp2
                repeat (go_quiet (fail); try go_wp2)
                go_ret
                exact ⟨by first | rfl | (simp [errW_none, errW_some] <;> rfl) | (simp only [← hji13]; first | rfl | (simp [errW_none, errW_some] <;> rfl)) | (simp [*, errW_none, errW_some] <;> rfl), by repeat (first | (with_reducible first | exact HB.out | apply below_alloc | apply pw_below_drewN | apply below_drew1) | exact HB.out)⟩
              · replace c22 := Bool.eq_false_iff.mpr c22
                subst c22
                have H1 : ((sackbutref01_Size.f kj14 a1).bind fun t1011 => (sackbutlaw01_ChordsOthers.l0 kj14 a0 t1001 t1007 t1011 (t1001.length : Int) 0)) = some r := by rw [if_neg (show ¬ (false = true) by decide)] at H; exact H
                clear H
                have H := H1
                clear H1
                replace H := Option.bind_eq_some_iff.mp H
                obtain ⟨t1011, A230, H⟩ := H
                replace H : (sackbutlaw01_ChordsOthers.l0 kj14 a0 t1001 t1007 t1011 (t1001.length : Int) 0) = some r := H
                have A23 := Aside0.mk A230
                clear A230
                have H' := Aside0.mk H
                clear H
                go_wp2_with (first | (go_at_call 9; (with_reducible refine (sackbutref01_Size.calls kj14 a1 t1011 _ A23.out).mono ?_); rintro e w' ⟨rfl, ⟨nd, rfl⟩⟩; (try first | exact ⟨rfl, _, World.drewN_drewN _ _ _⟩ | exact ⟨rfl, _, Eq.trans (World.drewN_drewN _ _ _) (congrArg (World.drewN _) (Nat.add_assoc _ _ _))⟩); obtain ⟨Ao24, co24, eo24⟩ := Kd.R_slice HO_5.out; subst eo24))
                repeat (go_quiet (first | (go_at_call 9; (with_reducible refine (sackbutref01_Size.calls kj14 a1 t1011 _ A23.out).mono ?_); rintro e w' ⟨rfl, ⟨nd, rfl⟩⟩; (try first | exact ⟨rfl, _, World.drewN_drewN _ _ _⟩ | exact ⟨rfl, _, Eq.trans (World.drewN_drewN _ _ _) (congrArg (World.drewN _) (Nat.add_assoc _ _ _))⟩); obtain ⟨Ao24, co24, eo24⟩ := Kd.R_slice HO_5.out; subst eo24)); try go_wp2_with (first | (go_at_call 9; (with_reducible refine (sackbutref01_Size.calls kj14 a1 t1011 _ A23.out).mono ?_); rintro e w' ⟨rfl, ⟨nd, rfl⟩⟩; (try first | exact ⟨rfl, _, World.drewN_drewN _ _ _⟩ | exact ⟨rfl, _, Eq.trans (World.drewN_drewN _ _ _) (congrArg (World.drewN _) (Nat.add_assoc _ _ _))⟩); obtain ⟨Ao24, co24, eo24⟩ := Kd.R_slice HO_5.out; subst eo24)))
                go_loopg [61] kj14 (fun kq v61 w' => ∃ (x61_3 : Int), v61 = .int .i64 x61_3 ∧ Aside0 (sackbutlaw01_ChordsOthers.l0 kq a0 t1001 t1007 t1011 (t1001.length : Int) x61_3 = some r) ∧ Aside0 (kq ≤ kj14) ∧ Aside0 (Kd.R (Kd.int .i64) 3 w' w.heap.size (fun k_ => some k_ ≠ (v1009 : Value).ownBlock) (.slice Ao24 t1001.length co24) t1001) ∧ Aside0 (Kd.R (Kd.int .i64) 3 w' w.heap.size (fun k_ => some k_ ≠ ((.slice Ao24 t1001.length co24) : Value).ownBlock) v1009 t1007) ∧ Aside0 (Below w.heap.size w w'))
                case atStart => exact ⟨(0), (by first | rfl | (simp; done) | (simp [*]; done)), H', ⟨Nat.le_refl _⟩, ⟨by (with_reducible repeat (first | apply Kd.R_alloc | apply Kd.R_drewN | apply Kd.R_drew)); exact HO_5.out⟩, ⟨by (with_reducible repeat (first | apply Kd.R_alloc | apply Kd.R_drewN | apply Kd.R_drew)); exact HO_7.out⟩, ⟨by repeat (first | (with_reducible first | exact HB.out | apply below_alloc | apply pw_below_drewN | apply below_drew1) | exact HB.out)⟩⟩
                case round =>
                  clear H'
                  try clear c1
                  try clear c2
                  try clear p2
                  try clear c3
                  try clear c6
                  try clear c6b0
                  try clear c6b1
                  try clear p6
                  try clear c8
                  try clear c9
                  try clear c9b0
                  try clear c9b1
                  try clear c12
                  try clear c12b0
                  try clear c12b1
                  try clear c17
                  try clear c17b0
                  try clear c17b1
                  try clear c18
                  try clear c18b0
                  try clear c18b1
                  try clear c22
                  try clear p2
                  try clear p6
                  obtain ⟨x61_3, rfl, HA, HK3, HO_5, HO_7, HB⟩ := hrel
                  cases gk with
                  | zero => exact absurd HA.out (by simp [sackbutlaw01_ChordsOthers.l0])
                  | succ k3 =>
                    have H := HA.out
                    clear HA
                    simp only [sackbutlaw01_ChordsOthers.l0] at H
                    by_cases c25 : x61_3 < (t1001.length : Int)
                    · rw [if_pos c25] at H
                      have c25b0 : decide (x61_3 < (t1001.length : Int)) = true := decide_eq_true c25
                      clear c25
                      by_cases c26 : (wrap64 (2 * (wrap64 (x61_3 + 1)))) = a0
                      · rw [if_pos c26] at H
                        have c26b0 : ((wrap64 (2 * (wrap64 (x61_3 + 1)))) == a0) = true := beq_iff_eq.mpr c26
                        have c26b1 : ((wrap64 (2 * (wrap64 (x61_3 + 1)))) != a0) = false := bne_eq_false_iff_eq.mpr c26
                        clear c26
                        by_cases c27 : 0 ≤ x61_3
                        · rw [if_pos c27] at H
                          have c27b0 : decide (0 ≤ x61_3) = true := decide_eq_true c27
                          clear c27
                          by_cases c28 : x61_3 < (t1007.length : Int)
                          · rw [if_pos c28] at H
                            have c28b0 : decide (x61_3 < (t1007.length : Int)) = true := decide_eq_true c28
                            clear c28
                            by_cases c29 : x61_3 < (t1001.length : Int)
                            · rw [if_pos c29] at H
                              have c29b0 : decide (x61_3 < (t1001.length : Int)) = true := decide_eq_true c29
                              clear c29
                              by_cases c30 : (wrap64 ((rd t1007 x61_3) - (rd t1001 x61_3))) = (wrap64 ((wrap64 (Int.tdiv a0 2)) - t1011))
                              · rw [if_pos c30] at H
                                have c30b0 : ((wrap64 ((rd t1007 x61_3) - (rd t1001 x61_3))) == (wrap64 ((wrap64 (Int.tdiv a0 2)) - t1011))) = true := beq_iff_eq.mpr c30
                                have c30b1 : ((wrap64 ((rd t1007 x61_3) - (rd t1001 x61_3))) != (wrap64 ((wrap64 (Int.tdiv a0 2)) - t1011))) = false := bne_eq_false_iff_eq.mpr c30
                                clear c30
                                have H' := Aside0.mk H
                                clear H
                                obtain ⟨Ao31, co31, eo31⟩ := Kd.R_slice HO_7.out
                                subst eo31
                                have p1013 : 0 ≤ (x61_3 : Int) := of_decide_eq_true (by first | (with_reducible assumption) | assumption)
                                have q1013 : x61_3 < (t1007.length : Int) := of_decide_eq_true (by first | (with_reducible assumption) | assumption)
                                obtain ⟨ad1013, e1013, hx1013_0⟩ := Kd.at_int (Kd.R_reads' HO_7.out).2.2 x61_3 p1013 q1013
                                cases e1013
                                replace p1013 := eq_true p1013
                                replace q1013 := eq_true q1013
                                have p1014 : 0 ≤ (x61_3 : Int) := of_decide_eq_true (by first | (with_reducible assumption) | assumption)
                                have q1014 : x61_3 < (t1001.length : Int) := of_decide_eq_true (by first | (with_reducible assumption) | assumption)
                                obtain ⟨ad1014, e1014, hx1014_0⟩ := Kd.at_int (Kd.R_reads' HO_5.out).2.2 x61_3 p1014 q1014
                                cases e1014
                                replace p1014 := eq_true p1014
                                replace q1014 := eq_true q1014
                                go_wp2
                                repeat (go_quiet (fail); try go_wp2)
                                go_roundg k3
                                case measure => have := HJ3.out; have := HJ14.out; have := HK3.out; omega
                                case rel => exact ⟨(wrap64 (x61_3 + 1)), (by first | rfl | (simp; done) | (simp [*]; done)), H', ⟨by have := HJ3.out; have := HJ14.out; have := HK3.out; omega⟩, ⟨by (with_reducible repeat (first | apply Kd.R_alloc | apply Kd.R_drewN | apply Kd.R_drew)); exact HO_5.out⟩, ⟨by (with_reducible repeat (first | apply Kd.R_alloc | apply Kd.R_drewN | apply Kd.R_drew)); exact HO_7.out⟩, ⟨by repeat (first | (with_reducible first | exact HB.out | apply below_alloc | apply pw_below_drewN | apply below_drew1) | exact HB.out)⟩⟩
                              · rw [if_neg c30] at H
                                have c30b0 : ((wrap64 ((rd t1007 x61_3) - (rd t1001 x61_3))) == (wrap64 ((wrap64 (Int.tdiv a0 2)) - t1011))) = false := beq_eq_false_iff_ne.mpr c30
                                have c30b1 : ((wrap64 ((rd t1007 x61_3) - (rd t1001 x61_3))) != (wrap64 ((wrap64 (Int.tdiv a0 2)) - t1011))) = true := bne_iff_ne.mpr c30
                                obtain rfl := Option.some.inj H
                                obtain ⟨Ao32, co32, eo32⟩ := Kd.R_slice HO_7.out
                                subst eo32
                                have p1013 : 0 ≤ (x61_3 : Int) := of_decide_eq_true (by first | (with_reducible assumption) | assumption)
                                have q1013 : x61_3 < (t1007.length : Int) := of_decide_eq_true (by first | (with_reducible assumption) | assumption)
                                obtain ⟨ad1013, e1013, hx1013_0⟩ := Kd.at_int (Kd.R_reads' HO_7.out).2.2 x61_3 p1013 q1013
                                cases e1013
                                replace p1013 := eq_true p1013
                                replace q1013 := eq_true q1013
                                have p1014 : 0 ≤ (x61_3 : Int) := of_decide_eq_true (by first | (with_reducible assumption) | assumption)
                                have q1014 : x61_3 < (t1001.length : Int) := of_decide_eq_true (by first | (with_reducible assumption) | assumption)
                                obtain ⟨ad1014, e1014, hx1014_0⟩ := Kd.at_int (Kd.R_reads' HO_5.out).2.2 x61_3 p1014 q1014
                                cases e1014
                                replace p1014 := eq_true p1014
                                replace q1014 := eq_true q1014
                                go_wp2
                                repeat (go_quiet (fail); try go_wp2)
                                go_ret
                                exact ⟨by first | rfl | (simp [errW_none, errW_some] <;> rfl) | (simp only [← hji13]; first | rfl | (simp [errW_none, errW_some] <;> rfl)) | (simp [*, errW_none, errW_some] <;> rfl), by repeat (first | (with_reducible first | exact HB.out | apply below_alloc | apply pw_below_drewN | apply below_drew1) | exact HB.out)⟩
                            · rw [if_neg c29] at H
                              exact absurd H (by simp)
                          · rw [if_neg c28] at H
                            exact absurd H (by simp)
                        · rw [if_neg c27] at H
                          exact absurd H (by simp)
                      · rw [if_neg c26] at H
                        have c26b0 : ((wrap64 (2 * (wrap64 (x61_3 + 1)))) == a0) = false := beq_eq_false_iff_ne.mpr c26
                        have c26b1 : ((wrap64 (2 * (wrap64 (x61_3 + 1)))) != a0) = true := bne_iff_ne.mpr c26
                        by_cases c33 : 0 ≤ x61_3
                        · rw [if_pos c33] at H
                          have c33b0 : decide (0 ≤ x61_3) = true := decide_eq_true c33
                          clear c33
                          by_cases c34 : x61_3 < (t1007.length : Int)
                          · rw [if_pos c34] at H
                            have c34b0 : decide (x61_3 < (t1007.length : Int)) = true := decide_eq_true c34
                            clear c34
                            by_cases c35 : x61_3 < (t1001.length : Int)
                            · rw [if_pos c35] at H
                              have c35b0 : decide (x61_3 < (t1001.length : Int)) = true := decide_eq_true c35
                              clear c35
                              by_cases c36 : (wrap64 ((rd t1007 x61_3) - (rd t1001 x61_3))) = (wrap64 (a0 - (wrap64 (2 * t1011))))
                              · rw [if_pos c36] at H
                                have c36b0 : ((wrap64 ((rd t1007 x61_3) - (rd t1001 x61_3))) == (wrap64 (a0 - (wrap64 (2 * t1011))))) = true := beq_iff_eq.mpr c36
                                have c36b1 : ((wrap64 ((rd t1007 x61_3) - (rd t1001 x61_3))) != (wrap64 (a0 - (wrap64 (2 * t1011))))) = false := bne_eq_false_iff_eq.mpr c36
                                clear c36
                                have H' := Aside0.mk H
                                clear H
                                obtain ⟨Ao37, co37, eo37⟩ := Kd.R_slice HO_7.out
                                subst eo37
                                have p1015 : 0 ≤ (x61_3 : Int) := of_decide_eq_true (by first | (with_reducible assumption) | assumption)
                                have q1015 : x61_3 < (t1007.length : Int) := of_decide_eq_true (by first | (with_reducible assumption) | assumption)
                                obtain ⟨ad1015, e1015, hx1015_0⟩ := Kd.at_int (Kd.R_reads' HO_7.out).2.2 x61_3 p1015 q1015
                                cases e1015
                                replace p1015 := eq_true p1015
                                replace q1015 := eq_true q1015
                                have p1016 : 0 ≤ (x61_3 : Int) := of_decide_eq_true (by first | (with_reducible assumption) | assumption)
                                have q1016 : x61_3 < (t1001.length : Int) := of_decide_eq_true (by first | (with_reducible assumption) | assumption)
                                obtain ⟨ad1016, e1016, hx1016_0⟩ := Kd.at_int (Kd.R_reads' HO_5.out).2.2 x61_3 p1016 q1016
                                cases e1016
                                replace p1016 := eq_true p1016
                                replace q1016 := eq_true q1016
                                go_wp2
                                repeat (go_quiet (fail); try go_wp2)
                                go_roundg k3
                                case measure => have := HJ3.out; have := HJ14.out; have := HK3.out; omega
                                case rel => exact ⟨(wrap64 (x61_3 + 1)), (by first | rfl | (simp; done) | (simp [*]; done)), H', ⟨by have := HJ3.out; have := HJ14.out; have := HK3.out; omega⟩, ⟨by (with_reducible repeat (first | apply Kd.R_alloc | apply Kd.R_drewN | apply Kd.R_drew)); exact HO_5.out⟩, ⟨by (with_reducible repeat (first | apply Kd.R_alloc | apply Kd.R_drewN | apply Kd.R_drew)); exact HO_7.out⟩, ⟨by repeat (first | (with_reducible first | exact HB.out | apply below_alloc | apply pw_below_drewN | apply below_drew1) | exact HB.out)⟩⟩
                              · rw [if_neg c36] at H
                                have c36b0 : ((wrap64 ((rd t1007 x61_3) - (rd t1001 x61_3))) == (wrap64 (a0 - (wrap64 (2 * t1011))))) = false := beq_eq_false_iff_ne.mpr c36
                                have c36b1 : ((wrap64 ((rd t1007 x61_3) - (rd t1001 x61_3))) != (wrap64 (a0 - (wrap64 (2 * t1011))))) = true := bne_iff_ne.mpr c36
                                obtain rfl := Option.some.inj H
                                obtain ⟨Ao38, co38, eo38⟩ := Kd.R_slice HO_7.out
                                subst eo38
                                have p1015 : 0 ≤ (x61_3 : Int) := of_decide_eq_true (by first | (with_reducible assumption) | assumption)
                                have q1015 : x61_3 < (t1007.length : Int) := of_decide_eq_true (by first | (with_reducible assumption) | assumption)
                                obtain ⟨ad1015, e1015, hx1015_0⟩ := Kd.at_int (Kd.R_reads' HO_7.out).2.2 x61_3 p1015 q1015
                                cases e1015
                                replace p1015 := eq_true p1015
                                replace q1015 := eq_true q1015
                                have p1016 : 0 ≤ (x61_3 : Int) := of_decide_eq_true (by first | (with_reducible assumption) | assumption)
                                have q1016 : x61_3 < (t1001.length : Int) := of_decide_eq_true (by first | (with_reducible assumption) | assumption)
                                obtain ⟨ad1016, e1016, hx1016_0⟩ := Kd.at_int (Kd.R_reads' HO_5.out).2.2 x61_3 p1016 q1016
                                cases e1016
                                replace p1016 := eq_true p1016
                                replace q1016 := eq_true q1016
                                go_wp2
                                repeat (go_quiet (fail); try go_wp2)
                                go_ret
                                exact ⟨by first | rfl | (simp [errW_none, errW_some] <;> rfl) | (simp only [← hji13]; first | rfl | (simp [errW_none, errW_some] <;> rfl)) | (simp [*, errW_none, errW_some] <;> rfl), by repeat (first | (with_reducible first | exact HB.out | apply below_alloc | apply pw_below_drewN | apply below_drew1) | exact HB.out)⟩
                            · rw [if_neg c35] at H
                              exact absurd H (by simp)
                          · rw [if_neg c34] at H
                            exact absurd H (by simp)
                        · rw [if_neg c33] at H
                          exact absurd H (by simp)
                    · rw [if_neg c25] at H
                      have c25b0 : decide (x61_3 < (t1001.length : Int)) = false := decide_eq_false c25
                      clear c25
                      replace H := Option.bind_eq_some_iff.mp H
                      obtain ⟨t1012, A390, H⟩ := H
                      replace H : (some t1012) = some r := H
                      have A39 := Aside0.mk A390
                      clear A390
                      obtain rfl := Option.some.inj H
                      go_wp2_with (first | (go_at_call 8; (with_reducible refine (sackbutlaw01_awake.calls  t1012 _ A39.out).mono ?_); rintro e w40 ⟨rfl, hb⟩; have n0_ := Aside0.mk (Kd.R_below (by (with_reducible repeat (first | apply Kd.R_alloc | apply Kd.R_drewN | apply Kd.R_drew)); exact HO_5.out) hb); have n1_ := Aside0.mk (Kd.R_below (by (with_reducible repeat (first | apply Kd.R_alloc | apply Kd.R_drewN | apply Kd.R_drew)); exact HO_7.out) hb); have n2_ := Aside0.mk (below_step (by repeat (first | (with_reducible first | exact HB.out | apply below_alloc | apply pw_below_drewN | apply below_drew1) | exact HB.out)) hb); clear HO_5; clear HO_7; clear HB; have HO_5 := n0_; have HO_7 := n1_; have HB := n2_; clear n0_ n1_ n2_; (try clear hb); (try clear hb2); (try clear hk); (try clear hi)))
                      repeat (go_quiet (first | (go_at_call 8; (with_reducible refine (sackbutlaw01_awake.calls  t1012 _ A39.out).mono ?_); rintro e w40 ⟨rfl, hb⟩; have n0_ := Aside0.mk (Kd.R_below (by (with_reducible repeat (first | apply Kd.R_alloc | apply Kd.R_drewN | apply Kd.R_drew)); exact HO_5.out) hb); have n1_ := Aside0.mk (Kd.R_below (by (with_reducible repeat (first | apply Kd.R_alloc | apply Kd.R_drewN | apply Kd.R_drew)); exact HO_7.out) hb); have n2_ := Aside0.mk (below_step (by repeat (first | (with_reducible first | exact HB.out | apply below_alloc | apply pw_below_drewN | apply below_drew1) | exact HB.out)) hb); clear HO_5; clear HO_7; clear HB; have HO_5 := n0_; have HO_7 := n1_; have HB := n2_; clear n0_ n1_ n2_; (try clear hb); (try clear hb2); (try clear hk); (try clear hi))); try go_wp2_with (first | (go_at_call 8; (with_reducible refine (sackbutlaw01_awake.calls  t1012 _ A39.out).mono ?_); rintro e w40 ⟨rfl, hb⟩; have n0_ := Aside0.mk (Kd.R_below (by (with_reducible repeat (first | apply Kd.R_alloc | apply Kd.R_drewN | apply Kd.R_drew)); exact HO_5.out) hb); have n1_ := Aside0.mk (Kd.R_below (by (with_reducible repeat (first | apply Kd.R_alloc | apply Kd.R_drewN | apply Kd.R_drew)); exact HO_7.out) hb); have n2_ := Aside0.mk (below_step (by repeat (first | (with_reducible first | exact HB.out | apply below_alloc | apply pw_below_drewN | apply below_drew1) | exact HB.out)) hb); clear HO_5; clear HO_7; clear HB; have HO_5 := n0_; have HO_7 := n1_; have HB := n2_; clear n0_ n1_ n2_; (try clear hb); (try clear hb2); (try clear hk); (try clear hi))))
                      go_ret
                      exact ⟨by first | rfl | (simp [errW_none, errW_some] <;> rfl) | (simp only [← hji13]; first | rfl | (simp [errW_none, errW_some] <;> rfl)) | (simp [*, errW_none, errW_some] <;> rfl), by repeat (first | (with_reducible first | exact HB.out | apply below_alloc | apply pw_below_drewN | apply below_drew1) | exact HB.out)⟩
        · rw [if_neg c12] at H
          exact absurd H (by simp)

/-- THE ONE PURE STATEMENT of sackbutlaw01_ChordsOthers: yours. -/
def sackbutlaw01_ChordsOthers.Pure : Prop := ∀ (a0 : Int) (a1 : Int), (Lit.int .i64 a0).wf = true → (Lit.int .i64 a1).wf = true → ∃ k, sackbutlaw01_ChordsOthers.f k a0 a1 = some true
theorem sackbutlaw01_ChordsOthers.walk (P : sackbutlaw01_ChordsOthers.Pure) (a0 : Int) (a1 : Int) (w : World) (w0 : (Lit.int .i64 a0).wf = true) (w1 : (Lit.int .i64 a1).wf = true) :
    Calls Try.prog 3 #[.int .i64 a0, .int .i64 a1] w fun e w' => e = .returned (.bool true) ∧ Below w.heap.size w w' := by
  obtain ⟨k, h⟩ := P a0 a1 w0 w1
  refine (sackbutlaw01_ChordsOthers.calls k a0 a1 true w h).mono ?_
  rintro e w' ⟨rfl, hd⟩
  exact ⟨rfl, hd⟩

end Go.Proofs.Ytnjmiodnkjabgaa.P
