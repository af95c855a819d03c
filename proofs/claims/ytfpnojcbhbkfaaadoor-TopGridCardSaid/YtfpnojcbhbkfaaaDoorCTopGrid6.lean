/- Proved here: the Go function sackbuttop.TopGrid returns true for every input (its printed form comes to true), whatever its arguments. Conditions: none beyond the row's own reach in memory. -/
import Derived.LaidMore
import Derived.Stop.Joined
import Derived.ProofKit
import Derived.OpenShut
import Derived.Test.YtfpnojcbhbkfaaaDoorRows
import Derived.WalkKit
import Derived.ShutString
import Derived.ChangeOld
import Derived.Below
import Derived.SizedLaws
import Derived.SevenTiedAt
import Derived.Test.YtfpnojcbhbkfaaaDoorCards
import Derived.Test.YtfpnojcbhbkfaaaDoorTie
import Derived.Test.YtfpnojcbhbkfaaaDoorCTopGrid1
import Derived.Test.YtfpnojcbhbkfaaaDoorCTopGrid2
import Derived.Test.YtfpnojcbhbkfaaaDoorCTopGrid3
import Derived.Test.YtfpnojcbhbkfaaaDoorCTopGrid4
import Derived.Test.YtfpnojcbhbkfaaaDoorCTopGrid5
namespace Go.Proofs.YtfpnojcbhbkfaaaDoor.P
open Go.RowKit Go.Proofs.YtfpnojcbhbkfaaaDoorW.PrintWords Go.Proofs.YtfpnojcbhbkfaaaDoorW.PrintLast Go.Proofs.YtfpnojcbhbkfaaaDoorW.PrintMore
attribute [local go_sem] max2_int min2_int max_two min_two max_three min_three max_four min_four   -- for this text's walks alone
set_option linter.unusedVariables false
set_option linter.unusedSimpArgs false

/-! ### sackbuttop_TopGrid: function 4 -/
mutual
def sackbuttop_TopGrid.j0 : Nat → Int → Int → Bool → Option (Bool)
  | 0, _, _, _ => none
  | k + 1, x0, x1, x25 => if x25 = true then ((sackbuttop_turns.f k).bind fun t1002 => (some t1002)) else ((even_Spread.f k x0 x1 0).bind fun bt1003 => (if bt1003.2 = 0 then ((sackbutref02_Rhythm.f x0 bt1003.1).bind fun t1005 => (sackbuttop_TopGrid.j1 k x0 x1 bt1003.1 (!t1005))) else (sackbuttop_TopGrid.j1 k x0 x1 bt1003.1 true)))
def sackbuttop_TopGrid.j1 : Nat → Int → Int → Int → Bool → Option (Bool)
  | 0, _, _, _, _ => none
  | k + 1, x0, x1, x5, x40 => if x40 = true then (some false) else ((canon_Period.f k x0 x5).bind fun bt1006 => (if x1 = 0 then (none) else (if 0 ≤ (wrap64 (Int.tdiv x0 x1)) then ((canon_Tiles.f k x0 x5 (wrap64 ((shl .i64 1 (wrap64 (Int.tdiv x0 x1))) - 1))).bind fun bt1008 => ((canon_Partner.f x0 x5).bind fun bt1010 => ((wheels_Silent.f x0 x5).bind fun bt1012 => (if bt1006.2 = 0 then (if bt1008.2 = 0 then (if bt1010.2 = 0 then (if bt1012.2 = 0 then (if bt1006.1 = (wrap64 (Int.tdiv x0 x1)) then (if bt1008.1 = true then (sackbuttop_TopGrid.j2 k x0 x1 bt1012.1 (decide (bt1010.1 > (wrap64 ((shl .i64 1 (wrap64 (Int.tdiv x0 x1))) - 1))))) else (sackbuttop_TopGrid.j2 k x0 x1 bt1012.1 true)) else (sackbuttop_TopGrid.j2 k x0 x1 bt1012.1 true)) else (sackbuttop_TopGrid.j2 k x0 x1 bt1012.1 true)) else (sackbuttop_TopGrid.j2 k x0 x1 bt1012.1 true)) else (sackbuttop_TopGrid.j2 k x0 x1 bt1012.1 true)) else (sackbuttop_TopGrid.j2 k x0 x1 bt1012.1 true))))) else (none))))
def sackbuttop_TopGrid.j2 : Nat → Int → Int → Int → Bool → Option (Bool)
  | 0, _, _, _, _ => none
  | k + 1, x0, x1, x13, x103 => if x103 = true then (some false) else (sackbuttop_TopGrid.l0 k x0 x1 x13 x0 0)
def sackbuttop_TopGrid.l0 : Nat → Int → Int → Int → Int → Int → Option (Bool)
  | 0, _, _, _, _, _ => none
  | k + 1, x0, x1, x13, x104, x105 => if x105 < x104 then (if 0 ≤ x105 then (if x1 = 0 then (none) else (if x0 = 0 then (none) else (if (((Go.bits .and .i64 (shr .i64 x13 x105) 1) == 0) != ((Int.tmod (wrap64 (x105 * (wrap64 (Int.tdiv x0 x1)))) x0) == 0)) = true then (some false) else (sackbuttop_TopGrid.l0 k x0 x1 x13 x104 (wrap64 (x105 + 1)))))) else (none)) else ((sackbuttop_turns.f k).bind fun t1014 => (some t1014))
end
def sackbuttop_TopGrid.f (k : Nat) (a0 : Int) (a1 : Int) : Option (Bool) := (sackbutref03_Part.f a0 a1).bind fun t1001 => (if t1001 = true then (if a1 = 0 then (none) else (sackbuttop_TopGrid.j0 k a0 a1 ((Int.tmod a0 a1) != 0))) else (sackbuttop_TopGrid.j0 k a0 a1 true))
theorem sackbuttop_TopGrid.mono_l : ∀ k, (∀ y0 y1 y2, LeO (sackbuttop_TopGrid.j0 k y0 y1 y2) (sackbuttop_TopGrid.j0 (k + 1) y0 y1 y2)) ∧ (∀ y0 y1 y2 y3, LeO (sackbuttop_TopGrid.j1 k y0 y1 y2 y3) (sackbuttop_TopGrid.j1 (k + 1) y0 y1 y2 y3)) ∧ (∀ y0 y1 y2 y3, LeO (sackbuttop_TopGrid.j2 k y0 y1 y2 y3) (sackbuttop_TopGrid.j2 (k + 1) y0 y1 y2 y3)) ∧ (∀ y0 y1 y2 y3 y4, LeO (sackbuttop_TopGrid.l0 k y0 y1 y2 y3 y4) (sackbuttop_TopGrid.l0 (k + 1) y0 y1 y2 y3 y4))
  | 0 => ⟨fun _ _ _ r h => by simp [sackbuttop_TopGrid.j0] at h, fun _ _ _ _ r h => by simp [sackbuttop_TopGrid.j1] at h, fun _ _ _ _ r h => by simp [sackbuttop_TopGrid.j2] at h, fun _ _ _ _ _ r h => by simp [sackbuttop_TopGrid.l0] at h⟩
  | k + 1 => by
    obtain ⟨ih0, ih1, ih2, ih3⟩ := sackbuttop_TopGrid.mono_l k
    refine ⟨?_, ?_, ?_, ?_⟩
    · intro y0 y1 y2
      unfold sackbuttop_TopGrid.j0
      repeat' first
      | (with_reducible exact ih0 _ _ _)
      | (with_reducible exact ih1 _ _ _ _)
      | (with_reducible exact ih2 _ _ _ _)
      | (with_reducible exact ih3 _ _ _ _ _)
      | (with_reducible exact canon_Period.mono _ _ _)
      | (with_reducible exact canon_Tiles.mono _ _ _ _)
      | (with_reducible exact even_Spread.mono _ _ _ _)
      | (with_reducible exact sackbuttop_turns.mono _)
      | (with_reducible exact LeO.refl _)
      | (with_reducible exact LeO.none _)
      | (with_reducible refine LeO.ite ?_ ?_)
      | (with_reducible refine LeO.bind ?_ (fun _ => ?_))
      | exact ih0 _ _ _
      | exact ih1 _ _ _ _
      | exact ih2 _ _ _ _
      | exact ih3 _ _ _ _ _
      | exact canon_Period.mono _ _ _
      | exact canon_Tiles.mono _ _ _ _
      | exact even_Spread.mono _ _ _ _
      | exact sackbuttop_turns.mono _
      | exact LeO.none _
      | refine LeO.ite ?_ ?_
      | refine LeO.bind ?_ (fun _ => ?_)
    · intro y0 y1 y2 y3
      unfold sackbuttop_TopGrid.j1
      repeat' first
      | (with_reducible exact ih0 _ _ _)
      | (with_reducible exact ih1 _ _ _ _)
      | (with_reducible exact ih2 _ _ _ _)
      | (with_reducible exact ih3 _ _ _ _ _)
      | (with_reducible exact canon_Period.mono _ _ _)
      | (with_reducible exact canon_Tiles.mono _ _ _ _)
      | (with_reducible exact even_Spread.mono _ _ _ _)
      | (with_reducible exact sackbuttop_turns.mono _)
      | (with_reducible exact LeO.refl _)
      | (with_reducible exact LeO.none _)
      | (with_reducible refine LeO.ite ?_ ?_)
      | (with_reducible refine LeO.bind ?_ (fun _ => ?_))
      | exact ih0 _ _ _
      | exact ih1 _ _ _ _
      | exact ih2 _ _ _ _
      | exact ih3 _ _ _ _ _
      | exact canon_Period.mono _ _ _
      | exact canon_Tiles.mono _ _ _ _
      | exact even_Spread.mono _ _ _ _
      | exact sackbuttop_turns.mono _
      | exact LeO.none _
      | refine LeO.ite ?_ ?_
      | refine LeO.bind ?_ (fun _ => ?_)
    · intro y0 y1 y2 y3
      unfold sackbuttop_TopGrid.j2
      repeat' first
      | (with_reducible exact ih0 _ _ _)
      | (with_reducible exact ih1 _ _ _ _)
      | (with_reducible exact ih2 _ _ _ _)
      | (with_reducible exact ih3 _ _ _ _ _)
      | (with_reducible exact canon_Period.mono _ _ _)
      | (with_reducible exact canon_Tiles.mono _ _ _ _)
      | (with_reducible exact even_Spread.mono _ _ _ _)
      | (with_reducible exact sackbuttop_turns.mono _)
      | (with_reducible exact LeO.refl _)
      | (with_reducible exact LeO.none _)
      | (with_reducible refine LeO.ite ?_ ?_)
      | (with_reducible refine LeO.bind ?_ (fun _ => ?_))
      | exact ih0 _ _ _
      | exact ih1 _ _ _ _
      | exact ih2 _ _ _ _
      | exact ih3 _ _ _ _ _
      | exact canon_Period.mono _ _ _
      | exact canon_Tiles.mono _ _ _ _
      | exact even_Spread.mono _ _ _ _
      | exact sackbuttop_turns.mono _
      | exact LeO.none _
      | refine LeO.ite ?_ ?_
      | refine LeO.bind ?_ (fun _ => ?_)
    · intro y0 y1 y2 y3 y4
      unfold sackbuttop_TopGrid.l0
      repeat' first
      | (with_reducible exact ih0 _ _ _)
      | (with_reducible exact ih1 _ _ _ _)
      | (with_reducible exact ih2 _ _ _ _)
      | (with_reducible exact ih3 _ _ _ _ _)
      | (with_reducible exact canon_Period.mono _ _ _)
      | (with_reducible exact canon_Tiles.mono _ _ _ _)
      | (with_reducible exact even_Spread.mono _ _ _ _)
      | (with_reducible exact sackbuttop_turns.mono _)
      | (with_reducible exact LeO.refl _)
      | (with_reducible exact LeO.none _)
      | (with_reducible refine LeO.ite ?_ ?_)
      | (with_reducible refine LeO.bind ?_ (fun _ => ?_))
      | exact ih0 _ _ _
      | exact ih1 _ _ _ _
      | exact ih2 _ _ _ _
      | exact ih3 _ _ _ _ _
      | exact canon_Period.mono _ _ _
      | exact canon_Tiles.mono _ _ _ _
      | exact even_Spread.mono _ _ _ _
      | exact sackbuttop_turns.mono _
      | exact LeO.none _
      | refine LeO.ite ?_ ?_
      | refine LeO.bind ?_ (fun _ => ?_)
theorem sackbuttop_TopGrid.mono : ∀ a0 a1 k, LeO (sackbuttop_TopGrid.f k a0 a1) (sackbuttop_TopGrid.f (k + 1) a0 a1) := by
  intro a0 a1 k
  obtain ⟨ih0, ih1, ih2, ih3⟩ := sackbuttop_TopGrid.mono_l k
  unfold sackbuttop_TopGrid.f
  repeat' first
      | (with_reducible exact ih0 _ _ _)
      | (with_reducible exact ih1 _ _ _ _)
      | (with_reducible exact ih2 _ _ _ _)
      | (with_reducible exact ih3 _ _ _ _ _)
      | (with_reducible exact canon_Period.mono _ _ _)
      | (with_reducible exact canon_Tiles.mono _ _ _ _)
      | (with_reducible exact even_Spread.mono _ _ _ _)
      | (with_reducible exact sackbuttop_turns.mono _)
      | (with_reducible exact LeO.refl _)
      | (with_reducible exact LeO.none _)
      | (with_reducible refine LeO.ite ?_ ?_)
      | (with_reducible refine LeO.bind ?_ (fun _ => ?_))
      | exact ih0 _ _ _
      | exact ih1 _ _ _ _
      | exact ih2 _ _ _ _
      | exact ih3 _ _ _ _ _
      | exact canon_Period.mono _ _ _
      | exact canon_Tiles.mono _ _ _ _
      | exact even_Spread.mono _ _ _ _
      | exact sackbuttop_turns.mono _
      | exact LeO.none _
      | refine LeO.ite ?_ ?_
      | refine LeO.bind ?_ (fun _ => ?_)
set_option maxHeartbeats 8000000 in
set_option maxRecDepth 100000 in
theorem sackbuttop_TopGrid.calls (k : Nat) (a0 : Int) (a1 : Int) (r : Bool) (w : World) (hT : Tabs w) (h : sackbuttop_TopGrid.f k a0 a1 = some r) :
    Calls Tryd.prog 4 #[.int .i64 a0, .int .i64 a1] w fun e w' => e = .returned (.bool r) ∧ Below w.heap.size w w' := by
  have HB := Aside0.mk (Below.refl w.heap.size w)
  have HT0 := Aside0.mk hT
  clear hT
  have H : ((sackbutref03_Part.f a0 a1).bind fun t1001 => (if t1001 = true then (if a1 = 0 then (none) else (sackbuttop_TopGrid.j0 k a0 a1 ((Int.tmod a0 a1) != 0))) else (sackbuttop_TopGrid.j0 k a0 a1 true))) = some r := h
  clear h
  have HC3 := Aside0.mk H
  clear H
  go_enter Tryd.func4, Tryd.ntmps4
  go_upto_region 1 with (fail)
  repeat (go_quiet (fail); go_upto_region 1 with (fail))
  go_cut [25] (fun v25 wc => ∃ (kq : Nat) (x25_2 : Bool), v25 = .bool x25_2 ∧ Aside0 (sackbuttop_TopGrid.j0 kq a0 a1 x25_2 = some r) ∧ Aside0 (kq ≤ k) ∧ Aside0 (Below w.heap.size w wc))
  case first =>
    have H := HC3.out
    clear HC3
    replace H := Option.bind_eq_some_iff.mp H
    obtain ⟨t1001, A40, H⟩ := H
    replace H : (if t1001 = true then (if a1 = 0 then (none) else (sackbuttop_TopGrid.j0 k a0 a1 ((Int.tmod a0 a1) != 0))) else (sackbuttop_TopGrid.j0 k a0 a1 true)) = some r := H
    have A4 := Aside0.mk A40
    clear A40
    by_cases c5 : t1001 = true
    · subst c5
      have H1 : (if a1 = 0 then (none) else (sackbuttop_TopGrid.j0 k a0 a1 ((Int.tmod a0 a1) != 0))) = some r := by rw [if_pos rfl] at H; exact H
      clear H
      have H := H1
      clear H1
      by_cases c6 : a1 = 0
      · rw [if_pos c6] at H
        exact absurd H (by simp)
      · rw [if_neg c6] at H
        have c6b0 : (a1 == 0) = false := beq_eq_false_iff_ne.mpr c6
        have c6b1 : (a1 != 0) = true := bne_iff_ne.mpr c6
        (first | rw [c6b0] | (simp only [i64_w, i32_w]; rw [c6b0]) | skip)
        have H' := Aside0.mk H
        clear H
        go_wp2_with (first | (go_at_call 17; (with_reducible refine (sackbutref03_Part.calls a0 a1 true _ A4.out).mono ?_); rintro e w' ⟨rfl, ⟨nd, rfl⟩⟩; (try first | exact ⟨rfl, _, World.drewN_drewN _ _ _⟩ | exact ⟨rfl, _, Eq.trans (World.drewN_drewN _ _ _) (congrArg (World.drewN _) (Nat.add_assoc _ _ _))⟩)))
        repeat (go_quiet (first | (go_at_call 17; (with_reducible refine (sackbutref03_Part.calls a0 a1 true _ A4.out).mono ?_); rintro e w' ⟨rfl, ⟨nd, rfl⟩⟩; (try first | exact ⟨rfl, _, World.drewN_drewN _ _ _⟩ | exact ⟨rfl, _, Eq.trans (World.drewN_drewN _ _ _) (congrArg (World.drewN _) (Nat.add_assoc _ _ _))⟩))); try go_wp2_with (first | (go_at_call 17; (with_reducible refine (sackbutref03_Part.calls a0 a1 true _ A4.out).mono ?_); rintro e w' ⟨rfl, ⟨nd, rfl⟩⟩; (try first | exact ⟨rfl, _, World.drewN_drewN _ _ _⟩ | exact ⟨rfl, _, Eq.trans (World.drewN_drewN _ _ _) (congrArg (World.drewN _) (Nat.add_assoc _ _ _))⟩))))
        go_meet
        case rel => exact ⟨_, (((Int.tmod a0 a1) != 0)), (by first | rfl | (simp; done) | (simp [*]; done)), H', ⟨by first | omega | exact Nat.le_refl _⟩, ⟨by repeat (first | (with_reducible first | exact HB.out | apply below_alloc | apply pw_below_drewN | apply below_drew1) | exact HB.out)⟩⟩
    · replace c5 := Bool.eq_false_iff.mpr c5
      subst c5
      have H1 : (sackbuttop_TopGrid.j0 k a0 a1 true) = some r := by rw [if_neg (show ¬ (false = true) by decide)] at H; exact H
      clear H
      have H := H1
      clear H1
      have H' := Aside0.mk H
      clear H
      go_wp2_with (first | (go_at_call 17; (with_reducible refine (sackbutref03_Part.calls a0 a1 false _ A4.out).mono ?_); rintro e w' ⟨rfl, ⟨nd, rfl⟩⟩; (try first | exact ⟨rfl, _, World.drewN_drewN _ _ _⟩ | exact ⟨rfl, _, Eq.trans (World.drewN_drewN _ _ _) (congrArg (World.drewN _) (Nat.add_assoc _ _ _))⟩)))
      repeat (go_quiet (first | (go_at_call 17; (with_reducible refine (sackbutref03_Part.calls a0 a1 false _ A4.out).mono ?_); rintro e w' ⟨rfl, ⟨nd, rfl⟩⟩; (try first | exact ⟨rfl, _, World.drewN_drewN _ _ _⟩ | exact ⟨rfl, _, Eq.trans (World.drewN_drewN _ _ _) (congrArg (World.drewN _) (Nat.add_assoc _ _ _))⟩))); try go_wp2_with (first | (go_at_call 17; (with_reducible refine (sackbutref03_Part.calls a0 a1 false _ A4.out).mono ?_); rintro e w' ⟨rfl, ⟨nd, rfl⟩⟩; (try first | exact ⟨rfl, _, World.drewN_drewN _ _ _⟩ | exact ⟨rfl, _, Eq.trans (World.drewN_drewN _ _ _) (congrArg (World.drewN _) (Nat.add_assoc _ _ _))⟩))))
      go_meet
      case rel => exact ⟨_, (true), (by first | rfl | (simp; done) | (simp [*]; done)), H', ⟨by first | omega | exact Nat.le_refl _⟩, ⟨by repeat (first | (with_reducible first | exact HB.out | apply below_alloc | apply pw_below_drewN | apply below_drew1) | exact HB.out)⟩⟩
  case rest =>
    clear HC3
    try clear p2
    try clear c4
    try clear c5
    try clear c6
    try clear c6b0
    try clear c6b1
    obtain ⟨kq, x25_2, rfl, HA, HJ2, HB⟩ := hcut
    cases kq with
    | zero => exact absurd HA.out (by simp [sackbuttop_TopGrid.j0])
    | succ kj2 =>
      have H := HA.out
      clear HA
      simp only [sackbuttop_TopGrid.j0] at H
      by_cases c7 : x25_2 = true
      · subst c7
        have H1 : ((sackbuttop_turns.f kj2).bind fun t1002 => (some t1002)) = some r := by rw [if_pos rfl] at H; exact H
        clear H
        have H := H1
        clear H1
        replace H := Option.bind_eq_some_iff.mp H
        obtain ⟨t1002, A80, H⟩ := H
        replace H : (some t1002) = some r := H
        have A8 := Aside0.mk A80
        clear A80
        obtain rfl := Option.some.inj H
        go_wp2_with (first | (go_at_call 18; (with_reducible refine (sackbuttop_turns.calls kj2  t1002 _ A8.out).mono ?_); rintro e w9 ⟨rfl, hb⟩; have n0_ := Aside0.mk (below_step (by repeat (first | (with_reducible first | exact HB.out | apply below_alloc | apply pw_below_drewN | apply below_drew1) | exact HB.out)) hb); clear HB; have HB := n0_; clear n0_; (try clear hb); (try clear hb2); (try clear hk); (try clear hi)))
        repeat (go_quiet (first | (go_at_call 18; (with_reducible refine (sackbuttop_turns.calls kj2  t1002 _ A8.out).mono ?_); rintro e w9 ⟨rfl, hb⟩; have n0_ := Aside0.mk (below_step (by repeat (first | (with_reducible first | exact HB.out | apply below_alloc | apply pw_below_drewN | apply below_drew1) | exact HB.out)) hb); clear HB; have HB := n0_; clear n0_; (try clear hb); (try clear hb2); (try clear hk); (try clear hi))); try go_wp2_with (first | (go_at_call 18; (with_reducible refine (sackbuttop_turns.calls kj2  t1002 _ A8.out).mono ?_); rintro e w9 ⟨rfl, hb⟩; have n0_ := Aside0.mk (below_step (by repeat (first | (with_reducible first | exact HB.out | apply below_alloc | apply pw_below_drewN | apply below_drew1) | exact HB.out)) hb); clear HB; have HB := n0_; clear n0_; (try clear hb); (try clear hb2); (try clear hk); (try clear hi))))
        go_ret
        exact ⟨by first | rfl | (simp [errW_none, errW_some] <;> rfl) | (simp [*, errW_none, errW_some] <;> rfl), by repeat (first | (with_reducible first | exact HB.out | apply below_alloc | apply pw_below_drewN | apply below_drew1) | exact HB.out)⟩
      · replace c7 := Bool.eq_false_iff.mpr c7
        subst c7
        have H1 : ((even_Spread.f kj2 a0 a1 0).bind fun bt1003 => (if bt1003.2 = 0 then ((sackbutref02_Rhythm.f a0 bt1003.1).bind fun t1005 => (sackbuttop_TopGrid.j1 kj2 a0 a1 bt1003.1 (!t1005))) else (sackbuttop_TopGrid.j1 kj2 a0 a1 bt1003.1 true))) = some r := by rw [if_neg (show ¬ (false = true) by decide)] at H; exact H
        clear H
        have H := H1
        clear H1
        replace H := Option.bind_eq_some_iff.mp H
        obtain ⟨⟨t1003, t1004⟩, A100, H⟩ := H
        replace H : (if t1004 = 0 then ((sackbutref02_Rhythm.f a0 t1003).bind fun t1005 => (sackbuttop_TopGrid.j1 kj2 a0 a1 t1003 (!t1005))) else (sackbuttop_TopGrid.j1 kj2 a0 a1 t1003 true)) = some r := H
        have A10 := Aside0.mk A100
        clear A100
        have HC11 := Aside0.mk H
        clear H
        go_upto_region 4 with (first | (go_at_call 19; (with_reducible refine (even_Spread.calls kj2 a0 a1 0 t1003 t1004 _ A10.out).mono ?_); rintro e w' ⟨rfl, ⟨nd, rfl⟩⟩; (try first | exact ⟨rfl, _, World.drewN_drewN _ _ _⟩ | exact ⟨rfl, _, Eq.trans (World.drewN_drewN _ _ _) (congrArg (World.drewN _) (Nat.add_assoc _ _ _))⟩)))
        repeat (go_quiet (first | (go_at_call 19; (with_reducible refine (even_Spread.calls kj2 a0 a1 0 t1003 t1004 _ A10.out).mono ?_); rintro e w' ⟨rfl, ⟨nd, rfl⟩⟩; (try first | exact ⟨rfl, _, World.drewN_drewN _ _ _⟩ | exact ⟨rfl, _, Eq.trans (World.drewN_drewN _ _ _) (congrArg (World.drewN _) (Nat.add_assoc _ _ _))⟩))); go_upto_region 4 with (first | (go_at_call 19; (with_reducible refine (even_Spread.calls kj2 a0 a1 0 t1003 t1004 _ A10.out).mono ?_); rintro e w' ⟨rfl, ⟨nd, rfl⟩⟩; (try first | exact ⟨rfl, _, World.drewN_drewN _ _ _⟩ | exact ⟨rfl, _, Eq.trans (World.drewN_drewN _ _ _) (congrArg (World.drewN _) (Nat.add_assoc _ _ _))⟩))))
        (try simp only [Act.put, List.setIfInBounds_toArray, List.set_cons_zero, List.set_cons_succ])
        go_cut [40] (fun v40 wc => ∃ (kq : Nat) (x40_10 : Bool), v40 = .bool x40_10 ∧ Aside0 (sackbuttop_TopGrid.j1 kq a0 a1 t1003 x40_10 = some r) ∧ Aside0 (kq ≤ kj2) ∧ Aside0 (Below w.heap.size w wc))
        case first =>
          have H := HC11.out
          clear HC11
          by_cases c12 : t1004 = 0
          · rw [if_pos c12] at H
            have c12b0 : (t1004 == 0) = true := beq_iff_eq.mpr c12
            have c12b1 : (t1004 != 0) = false := bne_eq_false_iff_eq.mpr c12
            clear c12
            (first | rw [c12b0] | (simp only [i64_w, i32_w]; rw [c12b0]) | skip)
            replace H := Option.bind_eq_some_iff.mp H
            obtain ⟨t1005, A130, H⟩ := H
            replace H : (sackbuttop_TopGrid.j1 kj2 a0 a1 t1003 (!t1005)) = some r := H
            have A13 := Aside0.mk A130
            clear A130
            have H' := Aside0.mk H
            clear H
            go_wp2_with (first | (go_at_call 20; (with_reducible refine (sackbutref02_Rhythm.calls a0 t1003 t1005 _ A13.out).mono ?_); rintro e w' ⟨rfl, ⟨nd, rfl⟩⟩; (try first | exact ⟨rfl, _, World.drewN_drewN _ _ _⟩ | exact ⟨rfl, _, Eq.trans (World.drewN_drewN _ _ _) (congrArg (World.drewN _) (Nat.add_assoc _ _ _))⟩)))
            repeat (go_quiet (first | (go_at_call 20; (with_reducible refine (sackbutref02_Rhythm.calls a0 t1003 t1005 _ A13.out).mono ?_); rintro e w' ⟨rfl, ⟨nd, rfl⟩⟩; (try first | exact ⟨rfl, _, World.drewN_drewN _ _ _⟩ | exact ⟨rfl, _, Eq.trans (World.drewN_drewN _ _ _) (congrArg (World.drewN _) (Nat.add_assoc _ _ _))⟩))); try go_wp2_with (first | (go_at_call 20; (with_reducible refine (sackbutref02_Rhythm.calls a0 t1003 t1005 _ A13.out).mono ?_); rintro e w' ⟨rfl, ⟨nd, rfl⟩⟩; (try first | exact ⟨rfl, _, World.drewN_drewN _ _ _⟩ | exact ⟨rfl, _, Eq.trans (World.drewN_drewN _ _ _) (congrArg (World.drewN _) (Nat.add_assoc _ _ _))⟩))))
            go_meet
            case rel => exact ⟨_, (!t1005), (by first | rfl | (simp; done) | (simp [*]; done)), H', ⟨by have := HJ2.out; first | omega | exact Nat.le_refl _⟩, ⟨by repeat (first | (with_reducible first | exact HB.out | apply below_alloc | apply pw_below_drewN | apply below_drew1) | exact HB.out)⟩⟩
          · rw [if_neg c12] at H
            have c12b0 : (t1004 == 0) = false := beq_eq_false_iff_ne.mpr c12
            have c12b1 : (t1004 != 0) = true := bne_iff_ne.mpr c12
            (first | rw [c12b0] | (simp only [i64_w, i32_w]; rw [c12b0]) | skip)
            have H' := Aside0.mk H
            clear H
            go_wp2
            repeat (go_quiet (fail); try go_wp2)
            go_meet
            case rel => exact ⟨_, (true), (by first | rfl | (simp; done) | (simp [*]; done)), H', ⟨by have := HJ2.out; first | omega | exact Nat.le_refl _⟩, ⟨by repeat (first | (with_reducible first | exact HB.out | apply below_alloc | apply pw_below_drewN | apply below_drew1) | exact HB.out)⟩⟩
        case rest =>
          clear HC11
          try clear c1
          try clear p2
          try clear c4
          try clear c5
          try clear c6
          try clear c6b0
          try clear c6b1
          try clear c7
          try clear c12
          try clear c12b0
          try clear c12b1
          try clear p2
          obtain ⟨kq, x40_10, rfl, HA, HJ10, HB⟩ := hcut
          cases kq with
          | zero => exact absurd HA.out (by simp [sackbuttop_TopGrid.j1])
          | succ kj10 =>
            have H := HA.out
            clear HA
            simp only [sackbuttop_TopGrid.j1] at H
            by_cases c14 : x40_10 = true
            · subst c14
              have H1 : (some false) = some r := by rw [if_pos rfl] at H; exact H
              clear H
              have H := H1
              clear H1
              obtain rfl := Option.some.inj H
              go_wp2
              repeat (go_quiet (fail); try go_wp2)
              go_ret
              exact ⟨by first | rfl | (simp [errW_none, errW_some] <;> rfl) | (simp [*, errW_none, errW_some] <;> rfl), by repeat (first | (with_reducible first | exact HB.out | apply below_alloc | apply pw_below_drewN | apply below_drew1) | exact HB.out)⟩
            · replace c14 := Bool.eq_false_iff.mpr c14
              subst c14
              have H1 : ((canon_Period.f kj10 a0 t1003).bind fun bt1006 => (if a1 = 0 then (none) else (if 0 ≤ (wrap64 (Int.tdiv a0 a1)) then ((canon_Tiles.f kj10 a0 t1003 (wrap64 ((shl .i64 1 (wrap64 (Int.tdiv a0 a1))) - 1))).bind fun bt1008 => ((canon_Partner.f a0 t1003).bind fun bt1010 => ((wheels_Silent.f a0 t1003).bind fun bt1012 => (if bt1006.2 = 0 then (if bt1008.2 = 0 then (if bt1010.2 = 0 then (if bt1012.2 = 0 then (if bt1006.1 = (wrap64 (Int.tdiv a0 a1)) then (if bt1008.1 = true then (sackbuttop_TopGrid.j2 kj10 a0 a1 bt1012.1 (decide (bt1010.1 > (wrap64 ((shl .i64 1 (wrap64 (Int.tdiv a0 a1))) - 1))))) else (sackbuttop_TopGrid.j2 kj10 a0 a1 bt1012.1 true)) else (sackbuttop_TopGrid.j2 kj10 a0 a1 bt1012.1 true)) else (sackbuttop_TopGrid.j2 kj10 a0 a1 bt1012.1 true)) else (sackbuttop_TopGrid.j2 kj10 a0 a1 bt1012.1 true)) else (sackbuttop_TopGrid.j2 kj10 a0 a1 bt1012.1 true)) else (sackbuttop_TopGrid.j2 kj10 a0 a1 bt1012.1 true))))) else (none)))) = some r := by rw [if_neg (show ¬ (false = true) by decide)] at H; exact H
              clear H
              have H := H1
              clear H1
              replace H := Option.bind_eq_some_iff.mp H
              obtain ⟨⟨t1006, t1007⟩, A150, H⟩ := H
              replace H : (if a1 = 0 then (none) else (if 0 ≤ (wrap64 (Int.tdiv a0 a1)) then ((canon_Tiles.f kj10 a0 t1003 (wrap64 ((shl .i64 1 (wrap64 (Int.tdiv a0 a1))) - 1))).bind fun bt1008 => ((canon_Partner.f a0 t1003).bind fun bt1010 => ((wheels_Silent.f a0 t1003).bind fun bt1012 => (if t1007 = 0 then (if bt1008.2 = 0 then (if bt1010.2 = 0 then (if bt1012.2 = 0 then (if t1006 = (wrap64 (Int.tdiv a0 a1)) then (if bt1008.1 = true then (sackbuttop_TopGrid.j2 kj10 a0 a1 bt1012.1 (decide (bt1010.1 > (wrap64 ((shl .i64 1 (wrap64 (Int.tdiv a0 a1))) - 1))))) else (sackbuttop_TopGrid.j2 kj10 a0 a1 bt1012.1 true)) else (sackbuttop_TopGrid.j2 kj10 a0 a1 bt1012.1 true)) else (sackbuttop_TopGrid.j2 kj10 a0 a1 bt1012.1 true)) else (sackbuttop_TopGrid.j2 kj10 a0 a1 bt1012.1 true)) else (sackbuttop_TopGrid.j2 kj10 a0 a1 bt1012.1 true)) else (sackbuttop_TopGrid.j2 kj10 a0 a1 bt1012.1 true))))) else (none))) = some r := H
              have A15 := Aside0.mk A150
              clear A150
              by_cases c16 : a1 = 0
              · rw [if_pos c16] at H
                exact absurd H (by simp)
              · rw [if_neg c16] at H
                have c16b0 : (a1 == 0) = false := beq_eq_false_iff_ne.mpr c16
                have c16b1 : (a1 != 0) = true := bne_iff_ne.mpr c16
                obtain ⟨ji17, hji17⟩ : ∃ j_ : Int, (wrap64 (Int.tdiv a0 a1)) = j_ := ⟨_, rfl⟩
                replace H : (if 0 ≤ (ji17) then ((canon_Tiles.f kj10 a0 t1003 (wrap64 ((shl .i64 1 (ji17)) - 1))).bind fun bt1008 => ((canon_Partner.f a0 t1003).bind fun bt1010 => ((wheels_Silent.f a0 t1003).bind fun bt1012 => (if t1007 = 0 then (if bt1008.2 = 0 then (if bt1010.2 = 0 then (if bt1012.2 = 0 then (if t1006 = (ji17) then (if bt1008.1 = true then (sackbuttop_TopGrid.j2 kj10 a0 a1 bt1012.1 (decide (bt1010.1 > (wrap64 ((shl .i64 1 (ji17)) - 1))))) else (sackbuttop_TopGrid.j2 kj10 a0 a1 bt1012.1 true)) else (sackbuttop_TopGrid.j2 kj10 a0 a1 bt1012.1 true)) else (sackbuttop_TopGrid.j2 kj10 a0 a1 bt1012.1 true)) else (sackbuttop_TopGrid.j2 kj10 a0 a1 bt1012.1 true)) else (sackbuttop_TopGrid.j2 kj10 a0 a1 bt1012.1 true)) else (sackbuttop_TopGrid.j2 kj10 a0 a1 bt1012.1 true))))) else (none)) = some r := by first | (rw [hji17] at H; exact H) | (simp only [hji17] at H ⊢; exact H)
                (try rw [hji17] at A15)
                have hji17w : (IntKind.i64.wrap (Int.tdiv a0 a1)) = ji17 := (i64_w _).trans hji17
                by_cases c18 : 0 ≤ (ji17)
                · rw [if_pos c18] at H
                  have c18b0 := eq_true c18
                  have c18b1 : decide (0 ≤ (ji17)) = true := decide_eq_true c18
                  clear c18
                  obtain ⟨ji19, hji19⟩ : ∃ j_ : Int, (shl .i64 1 (ji17)) = j_ := ⟨_, rfl⟩
                  replace H : ((canon_Tiles.f kj10 a0 t1003 (wrap64 ((ji19) - 1))).bind fun bt1008 => ((canon_Partner.f a0 t1003).bind fun bt1010 => ((wheels_Silent.f a0 t1003).bind fun bt1012 => (if t1007 = 0 then (if bt1008.2 = 0 then (if bt1010.2 = 0 then (if bt1012.2 = 0 then (if t1006 = (ji17) then (if bt1008.1 = true then (sackbuttop_TopGrid.j2 kj10 a0 a1 bt1012.1 (decide (bt1010.1 > (wrap64 ((ji19) - 1))))) else (sackbuttop_TopGrid.j2 kj10 a0 a1 bt1012.1 true)) else (sackbuttop_TopGrid.j2 kj10 a0 a1 bt1012.1 true)) else (sackbuttop_TopGrid.j2 kj10 a0 a1 bt1012.1 true)) else (sackbuttop_TopGrid.j2 kj10 a0 a1 bt1012.1 true)) else (sackbuttop_TopGrid.j2 kj10 a0 a1 bt1012.1 true)) else (sackbuttop_TopGrid.j2 kj10 a0 a1 bt1012.1 true))))) = some r := by first | (rw [hji19] at H; exact H) | (simp only [hji19] at H ⊢; exact H)
                  (try rw [hji19] at A15)
                  have hji19_ : (IntKind.i64.wrap (1 * 2 ^ min (ji17).toNat 64)) = ji19 := hji19
                  have hji19z : (ji17) ≤ 64 → (IntKind.i64.wrap (1 * 2 ^ (ji17).toNat)) = ji19 := shl_small hji19
                  have hji19u : (IntKind.i64.wrap (2 ^ min (ji17).toNat 64)) = ji19 := by have h_ := hji19_; rw [Int.one_mul] at h_; exact h_
                  have hji19v : (ji17) ≤ 64 → (IntKind.i64.wrap (2 ^ (ji17).toNat)) = ji19 := fun hle_ => by have h_ := hji19z hle_; rw [Int.one_mul] at h_; exact h_
                  have hji19y : (wrap64 (1 * 2 ^ min (ji17).toNat 64)) = ji19 := (i64_w _).symm.trans hji19_
                  have hji19x : (ji17) ≤ 64 → (wrap64 (1 * 2 ^ (ji17).toNat)) = ji19 := fun h_ => (i64_w _).symm.trans (hji19z h_)
                  replace H := Option.bind_eq_some_iff.mp H
                  obtain ⟨⟨t1008, t1009⟩, A200, H⟩ := H
                  replace H : ((canon_Partner.f a0 t1003).bind fun bt1010 => ((wheels_Silent.f a0 t1003).bind fun bt1012 => (if t1007 = 0 then (if t1009 = 0 then (if bt1010.2 = 0 then (if bt1012.2 = 0 then (if t1006 = (ji17) then (if t1008 = true then (sackbuttop_TopGrid.j2 kj10 a0 a1 bt1012.1 (decide (bt1010.1 > (wrap64 ((ji19) - 1))))) else (sackbuttop_TopGrid.j2 kj10 a0 a1 bt1012.1 true)) else (sackbuttop_TopGrid.j2 kj10 a0 a1 bt1012.1 true)) else (sackbuttop_TopGrid.j2 kj10 a0 a1 bt1012.1 true)) else (sackbuttop_TopGrid.j2 kj10 a0 a1 bt1012.1 true)) else (sackbuttop_TopGrid.j2 kj10 a0 a1 bt1012.1 true)) else (sackbuttop_TopGrid.j2 kj10 a0 a1 bt1012.1 true)))) = some r := H
                  have A20 := Aside0.mk A200
                  clear A200
                  replace H := Option.bind_eq_some_iff.mp H
                  obtain ⟨⟨t1010, t1011⟩, A210, H⟩ := H
                  replace H : ((wheels_Silent.f a0 t1003).bind fun bt1012 => (if t1007 = 0 then (if t1009 = 0 then (if t1011 = 0 then (if bt1012.2 = 0 then (if t1006 = (ji17) then (if t1008 = true then (sackbuttop_TopGrid.j2 kj10 a0 a1 bt1012.1 (decide (t1010 > (wrap64 ((ji19) - 1))))) else (sackbuttop_TopGrid.j2 kj10 a0 a1 bt1012.1 true)) else (sackbuttop_TopGrid.j2 kj10 a0 a1 bt1012.1 true)) else (sackbuttop_TopGrid.j2 kj10 a0 a1 bt1012.1 true)) else (sackbuttop_TopGrid.j2 kj10 a0 a1 bt1012.1 true)) else (sackbuttop_TopGrid.j2 kj10 a0 a1 bt1012.1 true)) else (sackbuttop_TopGrid.j2 kj10 a0 a1 bt1012.1 true))) = some r := H
                  have A21 := Aside0.mk A210
                  clear A210
                  replace H := Option.bind_eq_some_iff.mp H
                  obtain ⟨⟨t1012, t1013⟩, A220, H⟩ := H
                  replace H : (if t1007 = 0 then (if t1009 = 0 then (if t1011 = 0 then (if t1013 = 0 then (if t1006 = (ji17) then (if t1008 = true then (sackbuttop_TopGrid.j2 kj10 a0 a1 t1012 (decide (t1010 > (wrap64 ((ji19) - 1))))) else (sackbuttop_TopGrid.j2 kj10 a0 a1 t1012 true)) else (sackbuttop_TopGrid.j2 kj10 a0 a1 t1012 true)) else (sackbuttop_TopGrid.j2 kj10 a0 a1 t1012 true)) else (sackbuttop_TopGrid.j2 kj10 a0 a1 t1012 true)) else (sackbuttop_TopGrid.j2 kj10 a0 a1 t1012 true)) else (sackbuttop_TopGrid.j2 kj10 a0 a1 t1012 true)) = some r := H
                  have A22 := Aside0.mk A220
                  clear A220
                  have HC23 := Aside0.mk H
                  clear H
                  go_upto_region 10 with (first | (go_at_call 21; (with_reducible refine (canon_Period.calls kj10 a0 t1003 t1006 t1007 _ A15.out).mono ?_); rintro e w24 ⟨rfl, hb⟩; have n0_ := Aside0.mk (below_step (by repeat (first | (with_reducible first | exact HB.out | apply below_alloc | apply pw_below_drewN | apply below_drew1) | exact HB.out)) hb); clear HB; have HB := n0_; clear n0_; (try clear hb); (try clear hb2); (try clear hk); (try clear hi)) | (go_at_call 22; (with_reducible refine (canon_Tiles.calls kj10 a0 t1003 (wrap64 ((ji19) - 1)) t1008 t1009 _ A20.out).mono ?_); rintro e w25 ⟨rfl, hb⟩; have n0_ := Aside0.mk (below_step (by repeat (first | (with_reducible first | exact HB.out | apply below_alloc | apply pw_below_drewN | apply below_drew1) | exact HB.out)) hb); clear HB; have HB := n0_; clear n0_; (try clear hb); (try clear hb2); (try clear hk); (try clear hi)) | (go_at_call 23; (with_reducible refine (canon_Partner.calls a0 t1003 t1010 t1011 _ ?side1 A21.out).mono ?_); (case side1 => exact Tabs.below HT0.out (by repeat (first | (with_reducible first | exact HB.out | apply below_alloc | apply pw_below_drewN | apply below_drew1) | exact HB.out))); rintro e w26 ⟨rfl, hb⟩; have n0_ := Aside0.mk (below_step (by repeat (first | (with_reducible first | exact HB.out | apply below_alloc | apply pw_below_drewN | apply below_drew1) | exact HB.out)) hb); clear HB; have HB := n0_; clear n0_; (try clear hb); (try clear hb2); (try clear hk); (try clear hi)) | (go_at_call 24; (with_reducible refine (wheels_Silent.calls a0 t1003 t1012 t1013 _ A22.out).mono ?_); rintro e w27 ⟨rfl, hb⟩; have n0_ := Aside0.mk (below_step (by repeat (first | (with_reducible first | exact HB.out | apply below_alloc | apply pw_below_drewN | apply below_drew1) | exact HB.out)) hb); clear HB; have HB := n0_; clear n0_; (try clear hb); (try clear hb2); (try clear hk); (try clear hi)))
                  repeat (go_quiet (first | (go_at_call 21; (with_reducible refine (canon_Period.calls kj10 a0 t1003 t1006 t1007 _ A15.out).mono ?_); rintro e w24 ⟨rfl, hb⟩; have n0_ := Aside0.mk (below_step (by repeat (first | (with_reducible first | exact HB.out | apply below_alloc | apply pw_below_drewN | apply below_drew1) | exact HB.out)) hb); clear HB; have HB := n0_; clear n0_; (try clear hb); (try clear hb2); (try clear hk); (try clear hi)) | (go_at_call 22; (with_reducible refine (canon_Tiles.calls kj10 a0 t1003 (wrap64 ((ji19) - 1)) t1008 t1009 _ A20.out).mono ?_); rintro e w25 ⟨rfl, hb⟩; have n0_ := Aside0.mk (below_step (by repeat (first | (with_reducible first | exact HB.out | apply below_alloc | apply pw_below_drewN | apply below_drew1) | exact HB.out)) hb); clear HB; have HB := n0_; clear n0_; (try clear hb); (try clear hb2); (try clear hk); (try clear hi)) | (go_at_call 23; (with_reducible refine (canon_Partner.calls a0 t1003 t1010 t1011 _ ?side1 A21.out).mono ?_); (case side1 => exact Tabs.below HT0.out (by repeat (first | (with_reducible first | exact HB.out | apply below_alloc | apply pw_below_drewN | apply below_drew1) | exact HB.out))); rintro e w26 ⟨rfl, hb⟩; have n0_ := Aside0.mk (below_step (by repeat (first | (with_reducible first | exact HB.out | apply below_alloc | apply pw_below_drewN | apply below_drew1) | exact HB.out)) hb); clear HB; have HB := n0_; clear n0_; (try clear hb); (try clear hb2); (try clear hk); (try clear hi)) | (go_at_call 24; (with_reducible refine (wheels_Silent.calls a0 t1003 t1012 t1013 _ A22.out).mono ?_); rintro e w27 ⟨rfl, hb⟩; have n0_ := Aside0.mk (below_step (by repeat (first | (with_reducible first | exact HB.out | apply below_alloc | apply pw_below_drewN | apply below_drew1) | exact HB.out)) hb); clear HB; have HB := n0_; clear n0_; (try clear hb); (try clear hb2); (try clear hk); (try clear hi))); go_upto_region 10 with (first | (go_at_call 21; (with_reducible refine (canon_Period.calls kj10 a0 t1003 t1006 t1007 _ A15.out).mono ?_); rintro e w24 ⟨rfl, hb⟩; have n0_ := Aside0.mk (below_step (by repeat (first | (with_reducible first | exact HB.out | apply below_alloc | apply pw_below_drewN | apply below_drew1) | exact HB.out)) hb); clear HB; have HB := n0_; clear n0_; (try clear hb); (try clear hb2); (try clear hk); (try clear hi)) | (go_at_call 22; (with_reducible refine (canon_Tiles.calls kj10 a0 t1003 (wrap64 ((ji19) - 1)) t1008 t1009 _ A20.out).mono ?_); rintro e w25 ⟨rfl, hb⟩; have n0_ := Aside0.mk (below_step (by repeat (first | (with_reducible first | exact HB.out | apply below_alloc | apply pw_below_drewN | apply below_drew1) | exact HB.out)) hb); clear HB; have HB := n0_; clear n0_; (try clear hb); (try clear hb2); (try clear hk); (try clear hi)) | (go_at_call 23; (with_reducible refine (canon_Partner.calls a0 t1003 t1010 t1011 _ ?side1 A21.out).mono ?_); (case side1 => exact Tabs.below HT0.out (by repeat (first | (with_reducible first | exact HB.out | apply below_alloc | apply pw_below_drewN | apply below_drew1) | exact HB.out))); rintro e w26 ⟨rfl, hb⟩; have n0_ := Aside0.mk (below_step (by repeat (first | (with_reducible first | exact HB.out | apply below_alloc | apply pw_below_drewN | apply below_drew1) | exact HB.out)) hb); clear HB; have HB := n0_; clear n0_; (try clear hb); (try clear hb2); (try clear hk); (try clear hi)) | (go_at_call 24; (with_reducible refine (wheels_Silent.calls a0 t1003 t1012 t1013 _ A22.out).mono ?_); rintro e w27 ⟨rfl, hb⟩; have n0_ := Aside0.mk (below_step (by repeat (first | (with_reducible first | exact HB.out | apply below_alloc | apply pw_below_drewN | apply below_drew1) | exact HB.out)) hb); clear HB; have HB := n0_; clear n0_; (try clear hb); (try clear hb2); (try clear hk); (try clear hi))))
                  (try simp only [Act.put, List.setIfInBounds_toArray, List.set_cons_zero, List.set_cons_succ])
                  go_cut [103] (fun v103 wc => ∃ (kq : Nat) (x103_22 : Bool), v103 = .bool x103_22 ∧ Aside0 (sackbuttop_TopGrid.j2 kq a0 a1 t1012 x103_22 = some r) ∧ Aside0 (kq ≤ kj10) ∧ Aside0 (Below w.heap.size w wc))
                  case first =>
                    have H := HC23.out
                    clear HC23
                    by_cases c28 : t1007 = 0
                    · rw [if_pos c28] at H
                      have c28b0 : (t1007 == 0) = true := beq_iff_eq.mpr c28
                      have c28b1 : (t1007 != 0) = false := bne_eq_false_iff_eq.mpr c28
                      clear c28
                      (first | rw [c28b0] | (simp only [i64_w, i32_w]; rw [c28b0]) | skip)
                      by_cases c29 : t1009 = 0
                      · rw [if_pos c29] at H
                        have c29b0 : (t1009 == 0) = true := beq_iff_eq.mpr c29
                        have c29b1 : (t1009 != 0) = false := bne_eq_false_iff_eq.mpr c29
                        clear c29
                        by_cases c30 : t1011 = 0
                        · rw [if_pos c30] at H
                          have c30b0 : (t1011 == 0) = true := beq_iff_eq.mpr c30
                          have c30b1 : (t1011 != 0) = false := bne_eq_false_iff_eq.mpr c30
                          clear c30
                          by_cases c31 : t1013 = 0
                          · rw [if_pos c31] at H
                            have c31b0 : (t1013 == 0) = true := beq_iff_eq.mpr c31
                            have c31b1 : (t1013 != 0) = false := bne_eq_false_iff_eq.mpr c31
                            clear c31
                            by_cases c32 : t1006 = (ji17)
                            · rw [if_pos c32] at H
                              have c32b0 : (t1006 == (ji17)) = true := beq_iff_eq.mpr c32
                              have c32b1 : (t1006 != (ji17)) = false := bne_eq_false_iff_eq.mpr c32
                              clear c32
                              by_cases c33 : t1008 = true
                              · subst c33
                                have H1 : (sackbuttop_TopGrid.j2 kj10 a0 a1 t1012 (decide (t1010 > (wrap64 ((ji19) - 1))))) = some r := by rw [if_pos rfl] at H; exact H
                                clear H
                                have H := H1
                                clear H1
                                have c34b0 := eq_true (of_decide_eq_true (by first | (with_reducible assumption) | assumption) : 0 ≤ (ji17))
                                have H' := Aside0.mk H
                                clear H
                                go_wp2
                                repeat (go_quiet (fail); try go_wp2)
                                go_meet
                                case rel => exact ⟨_, (decide (t1010 > (wrap64 ((ji19) - 1)))), (by first | rfl | (simp; done) | (simp only [← hji19] <;> (first | rfl | simp)) | (simp [*]; done)), H', ⟨by have := HJ2.out; have := HJ10.out; first | omega | exact Nat.le_refl _⟩, ⟨by repeat (first | (with_reducible first | exact HB.out | apply below_alloc | apply pw_below_drewN | apply below_drew1) | exact HB.out)⟩⟩
                              · replace c33 := Bool.eq_false_iff.mpr c33
                                subst c33
                                have H1 : (sackbuttop_TopGrid.j2 kj10 a0 a1 t1012 true) = some r := by rw [if_neg (show ¬ (false = true) by decide)] at H; exact H
                                clear H
                                have H := H1
                                clear H1
                                have H' := Aside0.mk H
                                clear H
                                go_wp2
                                repeat (go_quiet (fail); try go_wp2)
                                go_meet
                                case rel => exact ⟨_, (true), (by first | rfl | (simp; done) | (simp [*]; done)), H', ⟨by have := HJ2.out; have := HJ10.out; first | omega | exact Nat.le_refl _⟩, ⟨by repeat (first | (with_reducible first | exact HB.out | apply below_alloc | apply pw_below_drewN | apply below_drew1) | exact HB.out)⟩⟩
                            · rw [if_neg c32] at H
                              have c32b0 : (t1006 == (ji17)) = false := beq_eq_false_iff_ne.mpr c32
                              have c32b1 : (t1006 != (ji17)) = true := bne_iff_ne.mpr c32
                              have H' := Aside0.mk H
                              clear H
                              go_wp2
                              repeat (go_quiet (fail); try go_wp2)
                              go_meet
                              case rel => exact ⟨_, (true), (by first | rfl | (simp; done) | (simp [*]; done)), H', ⟨by have := HJ2.out; have := HJ10.out; first | omega | exact Nat.le_refl _⟩, ⟨by repeat (first | (with_reducible first | exact HB.out | apply below_alloc | apply pw_below_drewN | apply below_drew1) | exact HB.out)⟩⟩
                          · rw [if_neg c31] at H
                            have c31b0 : (t1013 == 0) = false := beq_eq_false_iff_ne.mpr c31
                            have c31b1 : (t1013 != 0) = true := bne_iff_ne.mpr c31
                            have H' := Aside0.mk H
                            clear H
                            go_wp2
                            repeat (go_quiet (fail); try go_wp2)
                            go_meet
                            case rel => exact ⟨_, (true), (by first | rfl | (simp; done) | (simp [*]; done)), H', ⟨by have := HJ2.out; have := HJ10.out; first | omega | exact Nat.le_refl _⟩, ⟨by repeat (first | (with_reducible first | exact HB.out | apply below_alloc | apply pw_below_drewN | apply below_drew1) | exact HB.out)⟩⟩
                        · rw [if_neg c30] at H
                          have c30b0 : (t1011 == 0) = false := beq_eq_false_iff_ne.mpr c30
                          have c30b1 : (t1011 != 0) = true := bne_iff_ne.mpr c30
                          have H' := Aside0.mk H
                          clear H
                          go_wp2
                          repeat (go_quiet (fail); try go_wp2)
                          go_meet
                          case rel => exact ⟨_, (true), (by first | rfl | (simp; done) | (simp [*]; done)), H', ⟨by have := HJ2.out; have := HJ10.out; first | omega | exact Nat.le_refl _⟩, ⟨by repeat (first | (with_reducible first | exact HB.out | apply below_alloc | apply pw_below_drewN | apply below_drew1) | exact HB.out)⟩⟩
                      · rw [if_neg c29] at H
                        have c29b0 : (t1009 == 0) = false := beq_eq_false_iff_ne.mpr c29
                        have c29b1 : (t1009 != 0) = true := bne_iff_ne.mpr c29
                        have H' := Aside0.mk H
                        clear H
                        go_wp2
                        repeat (go_quiet (fail); try go_wp2)
                        go_meet
                        case rel => exact ⟨_, (true), (by first | rfl | (simp; done) | (simp [*]; done)), H', ⟨by have := HJ2.out; have := HJ10.out; first | omega | exact Nat.le_refl _⟩, ⟨by repeat (first | (with_reducible first | exact HB.out | apply below_alloc | apply pw_below_drewN | apply below_drew1) | exact HB.out)⟩⟩
                    · rw [if_neg c28] at H
                      have c28b0 : (t1007 == 0) = false := beq_eq_false_iff_ne.mpr c28
                      have c28b1 : (t1007 != 0) = true := bne_iff_ne.mpr c28
                      (first | rw [c28b0] | (simp only [i64_w, i32_w]; rw [c28b0]) | skip)
                      have H' := Aside0.mk H
                      clear H
                      go_wp2
                      repeat (go_quiet (fail); try go_wp2)
                      go_meet
                      case rel => exact ⟨_, (true), (by first | rfl | (simp; done) | (simp [*]; done)), H', ⟨by have := HJ2.out; have := HJ10.out; first | omega | exact Nat.le_refl _⟩, ⟨by repeat (first | (with_reducible first | exact HB.out | apply below_alloc | apply pw_below_drewN | apply below_drew1) | exact HB.out)⟩⟩
                  case rest =>
                    clear HC23
                    try clear c1
                    try clear c2
                    try clear p2
                    try clear c3
                    try clear c4
                    try clear c5
                    try clear c6
                    try clear c6b0
                    try clear c6b1
                    try clear p6
                    try clear c7
                    try clear c12
                    try clear c12b0
                    try clear c12b1
                    try clear c14
                    try clear c16
                    try clear c16b0
                    try clear c16b1
                    try clear c18
                    try clear c18b0
                    try clear c18b1
                    try clear c28
                    try clear c28b0
                    try clear c28b1
                    try clear c29
                    try clear c29b0
                    try clear c29b1
                    try clear c30
                    try clear c30b0
                    try clear c30b1
                    try clear c31
                    try clear c31b0
                    try clear c31b1
                    try clear c32
                    try clear c32b0
                    try clear c32b1
                    try clear c33
                    try clear c34
                    try clear c34b0
                    try clear c35
                    try clear c35b0
                    try clear p2
                    obtain ⟨kq, x103_22, rfl, HA, HJ22, HB⟩ := hcut
                    cases kq with
                    | zero => exact absurd HA.out (by simp [sackbuttop_TopGrid.j2])
                    | succ kj22 =>
                      have H := HA.out
                      clear HA
                      simp only [sackbuttop_TopGrid.j2] at H
                      by_cases c36 : x103_22 = true
                      · subst c36
                        have H1 : (some false) = some r := by rw [if_pos rfl] at H; exact H
                        clear H
                        have H := H1
                        clear H1
                        obtain rfl := Option.some.inj H
                        go_wp2
                        repeat (go_quiet (fail); try go_wp2)
                        go_ret
                        exact ⟨by first | rfl | (simp [errW_none, errW_some] <;> rfl) | (simp only [← hji17, ← hji19]; first | rfl | (simp [errW_none, errW_some] <;> rfl)) | (simp [*, errW_none, errW_some] <;> rfl), by repeat (first | (with_reducible first | exact HB.out | apply below_alloc | apply pw_below_drewN | apply below_drew1) | exact HB.out)⟩
                      · replace c36 := Bool.eq_false_iff.mpr c36
                        subst c36
                        have H1 : (sackbuttop_TopGrid.l0 kj22 a0 a1 t1012 a0 0) = some r := by rw [if_neg (show ¬ (false = true) by decide)] at H; exact H
                        clear H
                        have H := H1
                        clear H1
                        have H' := Aside0.mk H
                        clear H
                        go_wp2
                        repeat (go_quiet (fail); try go_wp2)
                        go_loopg [105] kj22 (fun kq v105 w' => ∃ (x105_4 : Int), v105 = .int .i64 x105_4 ∧ Aside0 (sackbuttop_TopGrid.l0 kq a0 a1 t1012 a0 x105_4 = some r) ∧ Aside0 (kq ≤ kj22) ∧ Aside0 (Below w.heap.size w w'))
                        case atStart => exact ⟨(0), (by first | rfl | (simp; done) | (simp [*]; done)), H', ⟨Nat.le_refl _⟩, ⟨by repeat (first | (with_reducible first | exact HB.out | apply below_alloc | apply pw_below_drewN | apply below_drew1) | exact HB.out)⟩⟩
                        case round =>
                          clear H'
                          try clear c1
                          try clear c2
                          try clear p2
                          try clear c3
                          try clear c4
                          try clear c5
                          try clear c6
                          try clear c6b0
                          try clear c6b1
                          try clear p6
                          try clear c7
                          try clear c12
                          try clear c12b0
                          try clear c12b1
                          try clear c14
                          try clear c16
                          try clear c16b0
                          try clear c16b1
                          try clear c18
                          try clear c18b0
                          try clear c18b1
                          try clear c28
                          try clear c28b0
                          try clear c28b1
                          try clear c29
                          try clear c29b0
                          try clear c29b1
                          try clear c30
                          try clear c30b0
                          try clear c30b1
                          try clear c31
                          try clear c31b0
                          try clear c31b1
                          try clear c32
                          try clear c32b0
                          try clear c32b1
                          try clear c33
                          try clear c34
                          try clear c34b0
                          try clear c35
                          try clear c35b0
                          try clear c36
                          try clear p2
                          try clear p6
                          obtain ⟨x105_4, rfl, HA, HK4, HB⟩ := hrel
                          cases gk with
                          | zero => exact absurd HA.out (by simp [sackbuttop_TopGrid.l0])
                          | succ k4 =>
                            have H := HA.out
                            clear HA
                            simp only [sackbuttop_TopGrid.l0] at H
                            by_cases c37 : x105_4 < a0
                            · rw [if_pos c37] at H
                              have c37b0 : decide (x105_4 < a0) = true := decide_eq_true c37
                              clear c37
                              by_cases c38 : 0 ≤ x105_4
                              · rw [if_pos c38] at H
                                have c38b0 := eq_true c38
                                have c38b1 : decide (0 ≤ x105_4) = true := decide_eq_true c38
                                clear c38
                                obtain ⟨ji39, hji39⟩ : ∃ j_ : Int, (shr .i64 t1012 x105_4) = j_ := ⟨_, rfl⟩
                                replace H : (if a1 = 0 then (none) else (if a0 = 0 then (none) else (if (((Go.bits .and .i64 (ji39) 1) == 0) != ((Int.tmod (wrap64 (x105_4 * (wrap64 (Int.tdiv a0 a1)))) a0) == 0)) = true then (some false) else (sackbuttop_TopGrid.l0 k4 a0 a1 t1012 a0 (wrap64 (x105_4 + 1)))))) = some r := by first | (rw [hji39] at H; exact H) | (simp only [hji39] at H ⊢; exact H)
                                have hji39_ : (t1012 / 2 ^ min x105_4.toNat 64) = ji39 := hji39
                                have hji39z : x105_4 ≤ 64 → (t1012 / 2 ^ x105_4.toNat) = ji39 := shr_small hji39
                                by_cases c40 : a1 = 0
                                · rw [if_pos c40] at H
                                  exact absurd H (by simp)
                                · rw [if_neg c40] at H
                                  have c40b0 : (a1 == 0) = false := beq_eq_false_iff_ne.mpr c40
                                  have c40b1 : (a1 != 0) = true := bne_iff_ne.mpr c40
                                  by_cases c41 : a0 = 0
                                  · rw [if_pos c41] at H
                                    exact absurd H (by simp)
                                  · rw [if_neg c41] at H
                                    have c41b0 : (a0 == 0) = false := beq_eq_false_iff_ne.mpr c41
                                    have c41b1 : (a0 != 0) = true := bne_iff_ne.mpr c41
                                    by_cases c42 : (((Go.bits .and .i64 (ji39) 1) == 0) != ((Int.tmod (wrap64 (x105_4 * (wrap64 (Int.tdiv a0 a1)))) a0) == 0)) = true
                                    · rw [if_pos c42] at H
                                      have c42b0 : (((Go.bits .and .i64 (ji39) 1) == 0) != ((Int.tmod (wrap64 (x105_4 * (wrap64 (Int.tdiv a0 a1)))) a0) == 0)) = true := c42
                                      (try (have c42b1 : decide (((Go.bits .and .i64 (ji39) 1) == 0) = ((Int.tmod (wrap64 (x105_4 * (wrap64 (Int.tdiv a0 a1)))) a0) == 0)) = false := by simpa using c42))
                                      (try (have c42b2 : (((Go.bits .and .i64 (ji39) 1) == 0) == ((Int.tmod (wrap64 (x105_4 * (wrap64 (Int.tdiv a0 a1)))) a0) == 0)) = false := by simpa using c42))
                                      (try (have c42b3 : ¬ (((Go.bits .and .i64 (ji39) 1) == 0) = ((Int.tmod (wrap64 (x105_4 * (wrap64 (Int.tdiv a0 a1)))) a0) == 0)) := by simpa using c42))
                                      clear c42
                                      (try rw [hji17] at c42b0)
                                      (try rw [hji17] at c42b1)
                                      (try rw [hji17] at c42b2)
                                      obtain rfl := Option.some.inj H
                                      go_wp2
                                      repeat (go_quiet (fail); try go_wp2)
                                      go_ret
                                      exact ⟨by first | rfl | (simp [errW_none, errW_some] <;> rfl) | (simp only [← hji17, ← hji19, ← hji39]; first | rfl | (simp [errW_none, errW_some] <;> rfl)) | (simp [*, errW_none, errW_some] <;> rfl), by repeat (first | (with_reducible first | exact HB.out | apply below_alloc | apply pw_below_drewN | apply below_drew1) | exact HB.out)⟩
                                    · rw [if_neg c42] at H
                                      have c42b0 : (((Go.bits .and .i64 (ji39) 1) == 0) != ((Int.tmod (wrap64 (x105_4 * (wrap64 (Int.tdiv a0 a1)))) a0) == 0)) = false := by simpa using c42
                                      (try (have c42b1 : decide (((Go.bits .and .i64 (ji39) 1) == 0) = ((Int.tmod (wrap64 (x105_4 * (wrap64 (Int.tdiv a0 a1)))) a0) == 0)) = true := by simpa using c42))
                                      (try (have c42b2 : (((Go.bits .and .i64 (ji39) 1) == 0) == ((Int.tmod (wrap64 (x105_4 * (wrap64 (Int.tdiv a0 a1)))) a0) == 0)) = true := by simpa using c42))
                                      clear c42
                                      (try rw [hji17] at c42b0)
                                      (try rw [hji17] at c42b1)
                                      (try rw [hji17] at c42b2)
                                      have H' := Aside0.mk H
                                      clear H
                                      go_wp2
                                      repeat (go_quiet (fail); try go_wp2)
                                      go_roundg k4
                                      case measure => have := HJ2.out; have := HJ10.out; have := HJ22.out; have := HK4.out; omega
                                      case rel => exact ⟨(wrap64 (x105_4 + 1)), (by first | rfl | (simp; done) | (simp [*]; done)), H', ⟨by have := HJ2.out; have := HJ10.out; have := HJ22.out; have := HK4.out; omega⟩, ⟨by repeat (first | (with_reducible first | exact HB.out | apply below_alloc | apply pw_below_drewN | apply below_drew1) | exact HB.out)⟩⟩
                              · rw [if_neg c38] at H
                                exact absurd H (by simp)
                            · rw [if_neg c37] at H
                              have c37b0 : decide (x105_4 < a0) = false := decide_eq_false c37
                              clear c37
                              replace H := Option.bind_eq_some_iff.mp H
                              obtain ⟨t1014, A430, H⟩ := H
                              replace H : (some t1014) = some r := H
                              have A43 := Aside0.mk A430
                              clear A430
                              obtain rfl := Option.some.inj H
                              go_wp2_with (first | (go_at_call 18; (with_reducible refine (sackbuttop_turns.calls k4  t1014 _ A43.out).mono ?_); rintro e w44 ⟨rfl, hb⟩; have n0_ := Aside0.mk (below_step (by repeat (first | (with_reducible first | exact HB.out | apply below_alloc | apply pw_below_drewN | apply below_drew1) | exact HB.out)) hb); clear HB; have HB := n0_; clear n0_; (try clear hb); (try clear hb2); (try clear hk); (try clear hi)))
                              repeat (go_quiet (first | (go_at_call 18; (with_reducible refine (sackbuttop_turns.calls k4  t1014 _ A43.out).mono ?_); rintro e w44 ⟨rfl, hb⟩; have n0_ := Aside0.mk (below_step (by repeat (first | (with_reducible first | exact HB.out | apply below_alloc | apply pw_below_drewN | apply below_drew1) | exact HB.out)) hb); clear HB; have HB := n0_; clear n0_; (try clear hb); (try clear hb2); (try clear hk); (try clear hi))); try go_wp2_with (first | (go_at_call 18; (with_reducible refine (sackbuttop_turns.calls k4  t1014 _ A43.out).mono ?_); rintro e w44 ⟨rfl, hb⟩; have n0_ := Aside0.mk (below_step (by repeat (first | (with_reducible first | exact HB.out | apply below_alloc | apply pw_below_drewN | apply below_drew1) | exact HB.out)) hb); clear HB; have HB := n0_; clear n0_; (try clear hb); (try clear hb2); (try clear hk); (try clear hi))))
                              go_ret
                              exact ⟨by first | rfl | (simp [errW_none, errW_some] <;> rfl) | (simp only [← hji17, ← hji19]; first | rfl | (simp [errW_none, errW_some] <;> rfl)) | (simp [*, errW_none, errW_some] <;> rfl), by repeat (first | (with_reducible first | exact HB.out | apply below_alloc | apply pw_below_drewN | apply below_drew1) | exact HB.out)⟩
                · rw [if_neg c18] at H
                  exact absurd H (by simp)

/-- THE ONE PURE STATEMENT of sackbuttop_TopGrid: yours. -/
def sackbuttop_TopGrid.Pure : Prop := ∀ (a0 : Int) (a1 : Int), (Lit.int .i64 a0).wf = true → (Lit.int .i64 a1).wf = true → ∃ k, sackbuttop_TopGrid.f k a0 a1 = some true
theorem sackbuttop_TopGrid.walk (P : sackbuttop_TopGrid.Pure) (a0 : Int) (a1 : Int) (w : World) (hT : Tabs w) (w0 : (Lit.int .i64 a0).wf = true) (w1 : (Lit.int .i64 a1).wf = true) :
    Calls Tryd.prog 4 #[.int .i64 a0, .int .i64 a1] w fun e w' => e = .returned (.bool true) ∧ Below w.heap.size w w' := by
  obtain ⟨k, h⟩ := P a0 a1 w0 w1
  refine (sackbuttop_TopGrid.calls k a0 a1 true w hT h).mono ?_
  rintro e w' ⟨rfl, hd⟩
  exact ⟨rfl, hd⟩

end Go.Proofs.YtfpnojcbhbkfaaaDoor.P
namespace Go.Proofs.YtfpnojcbhbkfaaaDoor.P
open Go.RowKit Go.Proofs.YtfpnojcbhbkfaaaDoorW.PrintWords Go.Proofs.YtfpnojcbhbkfaaaDoorW.PrintLast Go.Proofs.YtfpnojcbhbkfaaaDoorW.PrintMore
attribute [local go_sem] max2_int min2_int max_two min_two max_three min_three max_four min_four   -- for this text's walks alone
set_option linter.unusedVariables false
set_option linter.unusedSimpArgs false

/-! all partners, and the least one -/
theorem minStep_fold : ∀ (l : List Nat) (m : Nat), m ≠ 0 → (∀ b ∈ l, b ≠ 0) → l.foldl minStep m ≠ 0 ∧ l.foldl minStep m ∈ m :: l ∧ ∀ b ∈ m :: l, l.foldl minStep m ≤ b
  | [], m, h, _ => ⟨h, by simp, by simp⟩
  | c :: l, m, h, hl => by
    have e : minStep m c = if c < m then c else m := by unfold minStep; simp [h]
    have h1 : minStep m c ≠ 0 := by rw [e]; split; exact hl c (by simp); exact h
    obtain ⟨a1, a2, a3⟩ := minStep_fold l (minStep m c) h1 (fun b hb => hl b (by simp [hb]))
    refine ⟨a1, ?_, fun b hb => ?_⟩
    · rw [List.foldl_cons]
      rcases List.mem_cons.1 a2 with h2 | h2
      · rw [h2, e]; split <;> simp
      · simp [h2]
    · rw [List.foldl_cons]
      have h3 := a3 (minStep m c) (by simp)
      rw [List.mem_cons, List.mem_cons] at hb
      rcases hb with rfl | rfl | hb
      · have : minStep b c ≤ b := by rw [e]; split <;> omega
        omega
      · have : minStep m b ≤ b := by rw [e]; split <;> omega
        omega
      · exact a3 b (by simp [hb])
theorem minB_spec {l : List Nat} (hl : ∀ b ∈ l, b ≠ 0) (h : l ≠ []) : minB l ≠ 0 ∧ minB l ∈ l ∧ ∀ b ∈ l, minB l ≤ b := by
  cases l with
  | nil => exact absurd rfl h
  | cons c l =>
    have e : minB (c :: l) = l.foldl minStep c := by
      show l.foldl minStep (minStep 0 c) = _
      unfold minStep; simp
    rw [e]
    exact minStep_fold l c (hl c (by simp)) (fun b hb => hl b (by simp [hb]))
theorem PL_spec {n a : Nat} (hn : 1 ≤ n) (ha : a < 2 ^ n) (h0 : a.testBit 0 = true) : (PL n a).Nodup ∧ ∀ c, c ∈ PL n a ↔ (c < 2 ^ n ∧ Tiled n a c ∧ c.testBit 0 = true) := partners_spec hn ha h0 (stepOk_A ha)
theorem PL_ne {n a : Nat} (hn : 1 ≤ n) (ha : a < 2 ^ n) (h0 : a.testBit 0 = true) : ∀ b ∈ PL n a, b ≠ 0 := by
  intro b hb e
  have := ((PL_spec hn ha h0).2 b).1 hb
  rw [e] at this
  simp at this
theorem PL_some {n a : Nat} (hn : 1 ≤ n) (ha : a < 2 ^ n) (h0 : a.testBit 0 = true) : PL n a ≠ [] ↔ ∃ c, c < 2 ^ n ∧ Tiled n a c ∧ c.testBit 0 = true := by
  constructor
  · intro h
    obtain ⟨c, hc⟩ := List.exists_mem_of_ne_nil _ h
    exact ⟨c, ((PL_spec hn ha h0).2 c).1 hc⟩
  · rintro ⟨c, hc⟩ e
    have := ((PL_spec hn ha h0).2 c).2 hc
    rw [e] at this; cases this
theorem Partner_f {n a : Nat} (hv : ValidR n a) : canon_Partner.f n a = some (if PL n a = [] then (0, 4) else (((minB (PL n a) : Nat) : Int), 0)) := by
  unfold canon_Partner.f
  rw [if_pos hv]
  obtain ⟨N, A, e1, e2, h2, h24, hA, h0⟩ := validR_nat hv
  obtain rfl : n = N := by omega
  obtain rfl : a = A := by omega
  simp only [Int.toNat_natCast]
  by_cases e : PL n a = []
  · have : minI (PL n a) = 0 := by unfold minI; rw [e]; rfl
    rw [if_pos this, if_pos e]
  · have h := (minB_spec (PL_ne (by omega) hA h0) e).1
    have : minI (PL n a) ≠ 0 := by unfold minI; omega
    rw [if_neg this, if_neg e]; rfl
theorem odd_valid {n a : Nat} (hn : 2 ≤ n) (hn2 : n ≤ 24) (ha : a < 2 ^ n) (h0 : a.testBit 0 = true) : ValidR (n : Int) (a : Int) := by
  have e1 : (a : Int) < ((2 ^ n : Nat) : Int) := by omega
  rw [pow_cast] at e1
  refine ⟨by omega, by omega, by omega, by rw [Int.toNat_natCast]; exact e1, ?_⟩
  have := of_decide_eq_true ((Nat.testBit_zero a).symm.trans h0)
  omega
theorem PL_len {n a : Nat} (hn : 1 ≤ n) (ha : a < 2 ^ n) (h0 : a.testBit 0 = true) : (PL n a).length ≤ 2 ^ n := by
  have := nodup_length_le (PL n a) (List.range (2 ^ n)) (PL_spec hn ha h0).1 (fun c hc => List.mem_range.2 (((PL_spec hn ha h0).2 c).1 hc).1)
  rwa [List.length_range] at this
theorem lenI_PL {n a : Nat} (hn : 1 ≤ n) (hn2 : n ≤ 24) (ha : a < 2 ^ n) (h0 : a.testBit 0 = true) : lenI (PL n a) = (((PL n a).length : Nat) : Int) := by
  have := PL_len hn ha h0
  have := pow24 hn2
  unfold lenI
  exact wrap_id (by omega) (by omega)

end Go.Proofs.YtfpnojcbhbkfaaaDoor.P
namespace Go.Proofs.YtfpnojcbhbkfaaaDoor.P
open Go.RowKit Go.Proofs.YtfpnojcbhbkfaaaDoorW.PrintWords Go.Proofs.YtfpnojcbhbkfaaaDoorW.PrintLast Go.Proofs.YtfpnojcbhbkfaaaDoorW.PrintMore
attribute [local go_sem] max2_int min2_int max_two min_two max_three min_three max_four min_four   -- for this text's walks alone
set_option linter.unusedVariables false
set_option linter.unusedSimpArgs false

/-! slices.Equal -/
theorem Equal_loop (l0 l1 : List Int) (hlen : l0.length = l1.length) (hb : l0.length < 9223372036854775807) : ∀ (xs ys pre pre1 : List Int), l0 = pre ++ xs → l1 = pre1 ++ ys → pre.length = pre1.length →
    Ev (fun k => slices_Equal_int_int.l0 k l0 l1 (l0.length : Int) (pre.length : Int)) (decide (xs = ys)) := by
  intro xs
  induction xs with
  | nil =>
    intro ys pre pre1 h0 h1 hp
    have hy : ys = [] := by
      have := congrArg List.length h0; have := congrArg List.length h1
      simp at *
      exact List.eq_nil_of_length_eq_zero (by omega)
    subst hy
    refine Ev.succ ?_
    simp only [slices_Equal_int_int.l0, if_neg (mid_end h0)]
    simpa using Ev.some true
  | cons x xs ih =>
    intro ys pre pre1 h0 h1 hp
    cases ys with
    | nil => exfalso; have := congrArg List.length h0; have := congrArg List.length h1; simp at *; omega
    | cons y ys =>
      have r1 : rd l1 (pre.length : Int) = y := by rw [hp]; exact mid_rd h1
      have l1' : (pre.length : Int) < (l1.length : Int) := by rw [hp]; exact mid_lt h1
      refine Ev.succ ?_
      simp only [slices_Equal_int_int.l0, if_pos (mid_lt h0), if_pos (show (0 : Int) ≤ (pre.length : Int) by omega), if_pos l1', mid_rd h0, r1, mid_next h0 hb]
      refine Ev.ite (fun e => ?_) (fun e => ?_)
      · have := ih ys (pre ++ [x]) (pre1 ++ [y]) (mid_mv h0) (mid_mv h1) (by simp [hp])
        simpa [e] using this
      · simpa [e] using Ev.some false
theorem Equal_ev (l0 l1 : List Int) (hb : l0.length < 9223372036854775807) : Ev (fun k => slices_Equal_int_int.f k l0 l1) (decide (l0 = l1)) := by
  unfold slices_Equal_int_int.f
  refine Ev.ite (fun e => ?_) (fun e => ?_)
  · exact Equal_loop l0 l1 (by omega) hb l0 l1 [] [] rfl rfl rfl
  · have : l0 ≠ l1 := fun h => e (by rw [h])
    simpa [this] using Ev.some false


end Go.Proofs.YtfpnojcbhbkfaaaDoor.P
namespace Go.Proofs.YtfpnojcbhbkfaaaDoor.P
open Go.RowKit Go.Proofs.YtfpnojcbhbkfaaaDoorW.PrintWords Go.Proofs.YtfpnojcbhbkfaaaDoorW.PrintLast Go.Proofs.YtfpnojcbhbkfaaaDoorW.PrintMore
attribute [local go_sem] max2_int min2_int max_two min_two max_three min_three max_four min_four   -- for this text's walks alone
set_option linter.unusedVariables false
set_option linter.unusedSimpArgs false

/-! sackbuttop.turns passes -/
theorem turns_ev : Ev (fun k => sackbuttop_turns.f k) true := by
  unfold sackbuttop_turns.f
  refine Ev.bind_some (show wheels_Spectrum.f 4 [0, 1, 0, 0] = some ([1, 5, 12, 8], 0) from by unfold wheels_Spectrum.f; rw [if_pos (by decide)]; kernel_rfl) ?_
  simp only [if_true]
  refine Ev.bind (Equal_ev _ _ (by decide)) ?_
  simp only [decide_true]
  exact Ev.some _

end Go.Proofs.YtfpnojcbhbkfaaaDoor.P
namespace Go.Proofs.YtfpnojcbhbkfaaaDoor.P
open Go.RowKit Go.Proofs.YtfpnojcbhbkfaaaDoorW.PrintWords Go.Proofs.YtfpnojcbhbkfaaaDoorW.PrintLast Go.Proofs.YtfpnojcbhbkfaaaDoorW.PrintMore
attribute [local go_sem] max2_int min2_int max_two min_two max_three min_three max_four min_four   -- for this text's walks alone
set_option linter.unusedVariables false
set_option linter.unusedSimpArgs false

/-! strokes whose number divides the beats -/
def gridN (n k : Nat) : Nat := (List.range k).foldl (fun s i => s ||| 2 ^ (i * (n / k))) 0
theorem grid_tab : ((List.range' 2 15).all fun n => (List.range' 1 16).all fun k => decide (n % k ≠ 0) || (decide (k ≤ n) && decide (even_Spread.f 60 (n : Int) (k : Int) 0 = some ((gridN n k : Int), 0)) && decide (gridN n k < 2 ^ n) && (gridN n k).testBit 0 && decide (1 ≤ n / k) && decide (n / k ≤ n) &&
    decide (canon_circle_period.f 60 (n : Int) (gridN n k : Int) = some ((n / k : Nat) : Int)) && decide (canon_circle_tiles.f 60 (n : Int) (gridN n k : Int) ((2 ^ (n / k) - 1 : Nat) : Int) = some true) &&
    (List.range n).all fun j => decide (specN n (gridN n k) j = 0) == decide (j * (n / k) % n ≠ 0))) = true := by kernel_rfl
theorem grid_at {n k : Nat} (h2 : 2 ≤ n) (h16 : n ≤ 16) (hk1 : 1 ≤ k) (hk : k ≤ n) (hd : n % k = 0) : even_Spread.f 60 (n : Int) (k : Int) 0 = some ((gridN n k : Int), 0) ∧ gridN n k < 2 ^ n ∧ (gridN n k).testBit 0 = true ∧ 1 ≤ n / k ∧ n / k ≤ n ∧
    canon_circle_period.f 60 (n : Int) (gridN n k : Int) = some ((n / k : Nat) : Int) ∧ canon_circle_tiles.f 60 (n : Int) (gridN n k : Int) ((2 ^ (n / k) - 1 : Nat) : Int) = some true ∧ ∀ j, j < n → (specN n (gridN n k) j = 0 ↔ j * (n / k) % n ≠ 0) := by
  have h := List.all_eq_true.1 (List.all_eq_true.1 grid_tab n (List.mem_range'_1.2 ⟨h2, by omega⟩)) k (List.mem_range'_1.2 ⟨hk1, by omega⟩)
  rw [decide_eq_false (show ¬ n % k ≠ 0 by omega), Bool.false_or] at h
  simp only [Bool.and_eq_true, decide_eq_true_eq, List.all_eq_true, List.mem_range, beq_iff_eq] at h
  obtain ⟨⟨⟨⟨⟨⟨⟨⟨_, h1⟩, h3⟩, h4⟩, h5⟩, h6⟩, h7⟩, h8⟩, h9⟩ := h
  exact ⟨h1, h3, h4, h5, h6, h7, h8, fun j hj => decide_eq_decide.1 (h9 j hj)⟩
theorem grid_valid {n a : Nat} (hn : 2 ≤ n) (hn2 : n ≤ 24) (ha : a < 2 ^ n) (h0 : a.testBit 0 = true) : ValidR (n : Int) (a : Int) := by
  have e1 : (a : Int) < ((2 ^ n : Nat) : Int) := by omega
  rw [pow_cast] at e1
  refine ⟨by omega, by omega, by omega, by rw [Int.toNat_natCast]; exact e1, ?_⟩
  have := of_decide_eq_true ((Nat.testBit_zero a).symm.trans h0)
  omega
theorem grid_loop {n k d x : Nat} (h2 : 2 ≤ n) (h16 : n ≤ 16) (hk1 : 1 ≤ k) (hx : x < 2 ^ n) (hb : ∀ j, j < n → (x.testBit j = true ↔ j * d % n ≠ 0)) (hdn : d ≤ n) (hq : wrap64 (Int.tdiv (n : Int) (k : Int)) = (d : Int)) : ∀ (m j : Nat), j + m = n →
    Ev (fun i => sackbuttop_TopGrid.l0 i (n : Int) (k : Int) (x : Int) (n : Int) (j : Int)) true := by
  intro m
  induction m with
  | zero =>
    intro j hj
    refine Ev.succ ?_
    simp only [sackbuttop_TopGrid.l0, if_neg (show ¬ (j : Int) < (n : Int) by omega)]
    exact Ev.bind turns_ev (Ev.some _)
  | succ m ih =>
    intro j hj
    have hw : wrap64 ((j : Int) + 1) = ((j + 1 : Nat) : Int) := by rw [wrap_id (by omega) (by omega)]; omega
    have hm : Int.tmod (wrap64 ((j : Int) * (d : Int))) (n : Int) = ((j * d % n : Nat) : Int) := by
      have : j * d ≤ 16 * 16 := Nat.mul_le_mul (by omega) (by omega)
      rw [← Int.natCast_mul, wrap_id (by omega) (by omega), Int.tmod_eq_emod_of_nonneg (by omega), ← Int.natCast_emod]
    have hbit := bit_r (show n ≤ 24 by omega) hx (show j ≤ 64 by omega)
    have hc : ((Go.bits .and .i64 (shr .i64 (x : Int) (j : Int)) 1 == 0) != (Int.tmod (wrap64 ((j : Int) * (d : Int))) (n : Int) == 0)) = false := by
      rw [hbit, hm]
      have := hb j (by omega)
      by_cases hz : j * d % n = 0
      · have hf : ¬ x.testBit j = true := fun h => this.1 h hz
        rw [if_neg hf, hz]; rfl
      · rw [if_pos (this.2 hz)]
        have e2 : (((j * d % n : Nat) : Int) == 0) = false := beq_eq_false_iff_ne.2 (by omega)
        rw [e2]; rfl
    refine Ev.succ ?_
    simp only [sackbuttop_TopGrid.l0, if_pos (show (j : Int) < (n : Int) by omega), if_pos (show (0 : Int) ≤ (j : Int) by omega), if_neg (show ¬ (k : Int) = 0 by omega), if_neg (show ¬ (n : Int) = 0 by omega), hq, hc, Bool.false_eq_true, if_false, hw]
    exact ih (j + 1) (by omega)
theorem part_f (n k : Int) : sackbutref03_Part.f n k = some (decide (2 ≤ n ∧ n ≤ 16 ∧ 1 ≤ k ∧ k ≤ n)) := by
  unfold sackbutref03_Part.f
  by_cases h1 : n ≥ 2
  · by_cases h2 : n ≤ 16
    · by_cases h3 : k ≥ 1
      · rw [if_pos h1, if_pos h2, if_pos h3]
        congr 1
        rw [decide_eq_decide]
        omega
      · rw [if_pos h1, if_pos h2, if_neg h3, decide_eq_false (by omega)]
    · rw [if_pos h1, if_neg h2, decide_eq_false (by omega)]
  · rw [if_neg h1, decide_eq_false (by omega)]
theorem TopGrid : sackbuttop_TopGrid.Pure := by
  intro a0 a1 _ _
  refine Ev.rounds (g := fun k => sackbuttop_TopGrid.f k a0 a1) ?_
  have hfin : ∀ x y, Ev (fun k => sackbuttop_TopGrid.j0 k x y true) true := fun x y => by
    refine Ev.succ ?_
    simp only [sackbuttop_TopGrid.j0, if_true]
    exact Ev.bind turns_ev (Ev.some _)
  unfold sackbuttop_TopGrid.f
  refine Ev.bind_some (part_f _ _) ?_
  by_cases hp : 2 ≤ a0 ∧ a0 ≤ 16 ∧ 1 ≤ a1 ∧ a1 ≤ a0
  · rw [decide_eq_true hp]
    obtain ⟨n, rfl⟩ : ∃ n : Nat, a0 = (n : Int) := ⟨a0.toNat, by omega⟩
    obtain ⟨k, rfl⟩ : ∃ k : Nat, a1 = (k : Int) := ⟨a1.toNat, by omega⟩
    have h2 : 2 ≤ n := by omega
    have h16 : n ≤ 16 := by omega
    have hk1 : 1 ≤ k := by omega
    have hkn : k ≤ n := by omega
    have hm : Int.tmod (n : Int) (k : Int) = ((n % k : Nat) : Int) := by rw [Int.tmod_eq_emod_of_nonneg (by omega), ← Int.natCast_emod]
    simp only [if_true, if_neg (show ¬ (k : Int) = 0 by omega), hm]
    by_cases hd : n % k = 0
    · obtain ⟨g1, g2, g3, g4, g5, g6, g7, g8⟩ := grid_at h2 h16 hk1 hkn hd
      have hz : (((n % k : Nat) : Int) != 0) = false := by rw [hd]; rfl
      rw [hz]
      generalize gridN n k = s at g1 g2 g3 g6 g7 g8
      have hv := grid_valid h2 (by omega) g2 g3
      have hq : wrap64 (Int.tdiv (n : Int) (k : Int)) = ((n / k : Nat) : Int) := by
        rw [Int.tdiv_eq_ediv_of_nonneg (by omega), ← Int.natCast_ediv]
        generalize n / k = d at g5
        exact wrap_id (by omega) (by omega)
      generalize n / k = d at g4 g5 g6 g7 g8 hq
      have hB : wrap64 (shl .i64 1 (d : Int) - 1) = ((2 ^ d - 1 : Nat) : Int) := full_w (by omega)
      have hBl : 2 ^ d - 1 < 2 ^ n := by
        have h1 := Nat.pow_le_pow_right (n := 2) (by omega) g5
        have := Nat.two_pow_pos d
        omega
      have hB0 : (2 ^ d - 1).testBit 0 = true := by rw [Nat.testBit_two_pow_sub_one]; exact decide_eq_true (by omega)
      have hvB := grid_valid h2 (by omega) hBl hB0
      have hT : Tiled n s (2 ^ d - 1) := of_decide_eq_true (Ev.det (tiles_ev (show n ≤ 24 by omega) g2 hBl) (Ev.of (canon_circle_tiles.mono _ _ _) g7))
      have hTe := Tiles_ev (n : Int) (s : Int) ((2 ^ d - 1 : Nat) : Int)
      rw [if_pos ⟨hv, hvB⟩] at hTe
      simp only [Int.toNat_natCast] at hTe
      rw [decide_eq_true hT] at hTe
      have hne : PL n s ≠ [] := (PL_some (by omega) g2 g3).2 ⟨_, hBl, hT, hB0⟩
      have hle := (minB_spec (PL_ne (by omega) g2 g3) hne).2.2 _ (((PL_spec (by omega) g2 g3).2 _).2 ⟨hBl, hT, hB0⟩)
      have hPer : Ev (fun i => canon_Period.f i (n : Int) (s : Int)) ((d : Int), 0) := by
        unfold canon_Period.f
        refine Ev.bind_some (cvalid1_f _ _) ?_
        rw [decide_eq_true hv]
        simp only [if_true]
        exact Ev.bind (Ev.of (canon_circle_period.mono _ _) g6) (Ev.some _)
      have hSil : wheels_Silent.f (n : Int) (s : Int) = some ((silN n s n : Int), 0) := by
        unfold wheels_Silent.f
        rw [Int.toNat_natCast, Int.toNat_natCast, if_pos ⟨by omega, by omega, by omega, by exact_mod_cast g2⟩]
      refine Ev.succ ?_
      simp only [sackbuttop_TopGrid.j0, Bool.false_eq_true, if_false]
      refine Ev.bind (Ev.of (even_Spread.mono _ _ _) g1) ?_
      simp only [if_true]
      refine Ev.bind_some (rhythm_f _ _) ?_
      rw [decide_eq_true hv, Bool.not_true]
      refine Ev.succ ?_
      simp only [sackbuttop_TopGrid.j1, Bool.false_eq_true, if_false]
      refine Ev.bind hPer ?_
      simp only [if_neg (show ¬ (k : Int) = 0 by omega), hq, if_pos (show (0 : Int) ≤ (d : Int) by omega), hB]
      refine Ev.bind hTe ?_
      refine Ev.bind_some (Partner_f hv) ?_
      rw [if_neg hne]
      refine Ev.bind_some hSil ?_
      have hgt : decide (((minB (PL n s) : Nat) : Int) > ((2 ^ d - 1 : Nat) : Int)) = false := decide_eq_false (by omega)
      simp only [if_true, hgt]
      refine Ev.succ ?_
      simp only [sackbuttop_TopGrid.j2, Bool.false_eq_true, if_false]
      exact grid_loop h2 h16 hk1 (silN_lt n s n) (fun j hj => by rw [silN_bit, decide_eq_true hj, Bool.true_and, decide_eq_true_eq]; exact g8 j hj) g5 hq n 0 (by omega)
    · have hz : (((n % k : Nat) : Int) != 0) = true := bne_iff_ne.2 (by omega)
      rw [hz]
      exact hfin _ _
  · rw [decide_eq_false hp]
    simp only [Bool.false_eq_true, if_false]
    exact hfin _ _

end Go.Proofs.YtfpnojcbhbkfaaaDoor.P
namespace Go.Proofs.YtfpnojcbhbkfaaaDoor.Pure
theorem TopGrid : Go.Proofs.YtfpnojcbhbkfaaaDoor.P.sackbuttop_TopGrid.Pure := Go.Proofs.YtfpnojcbhbkfaaaDoor.P.TopGrid
end Go.Proofs.YtfpnojcbhbkfaaaDoor.Pure
namespace Go.Proofs.YtfpnojcbhbkfaaaDoor.P
open Go.RowKit Go.Proofs.YtfpnojcbhbkfaaaDoorW.PrintWords Go.Proofs.YtfpnojcbhbkfaaaDoorW.PrintLast Go.Proofs.YtfpnojcbhbkfaaaDoorW.PrintMore
attribute [local go_sem] max2_int min2_int max_two min_two max_three min_three max_four min_four   -- for this text's walks alone
set_option linter.unusedVariables false
set_option linter.unusedSimpArgs false

open Go.ChangeShapes Go.WideShapes Go.ChangeAt Go.WideElems
/-! what the row's listed tables give the walks -/
def doorLaid2 : List (String × DataW Unit) := [("math/bits.deBruijn32tab", Rows.laid_math_bits_deBruijn32tab), ("math/bits.deBruijn64tab", Rows.laid_math_bits_deBruijn64tab)]
theorem door_g64 : Tryd.prog.globalNamed "math/bits.deBruijn64tab" = some 1 := by kernel_rfl
theorem door_t64 : (Tryd.prog.globals[1]?).map (·.type) = some 135 := by kernel_rfl
theorem door_met (os : Os) (args : Array Value) : laidMetH Tryd.prog doorLaid2 ((World.doorLaid Tryd.prog 19 os).forCall (fun _ _ => 0) ⟨#[], args, []⟩).memory :=
  laidMetH_of_parts3 (fuel := 8) (laidMet_of_run' 8 (by kernel_rfl) (by kernel_rfl)) (by kernel_rfl) (by kernel_rfl)
theorem door_tab : (Rows.laid_math_bits_deBruijn64tab : DataW Unit) = .agg (tzTab.map fun (n : Nat) => .lit (.int .u8 (n : Int))) := rfl
theorem door_c8 : Tryd.prog.cellsOf 5 = 1 := by kernel_rfl
theorem tabs_of_laid {W : World} (h : laidMetH Tryd.prog doorLaid2 W) : Tabs W := by
  rw [MakeChecks.laidMetH_plain _ _ _ (by kernel_rfl)] at h
  obtain ⟨ps, ⟨g0, t0, cs0, f0, p0, q0, hg0, ht0, hv0, hd0, ⟨g1, t1, cs1, f1, p1, q1, hg1, ht1, hv1, hd1, _, _⟩, _⟩, _, _⟩ := h
  obtain rfl := Option.some.inj (door_g64.symm.trans hg1)
  obtain rfl := Option.some.inj (door_t64.symm.trans ht1)
  obtain ⟨xs, m1, rfl, hx1, hlen, hn, hel⟩ := DataW.trod_array Tryd.underlying135 hd1
  simp only [Prod.mk.injEq] at hx1
  have hl := hx1.1
  rw [door_tab] at hl
  simp only [DataW.agg.injEq] at hl
  intro i hi
  have h0 := hel i hi
  obtain ⟨x, hx⟩ : ∃ x, xs[i]? = some x := ⟨xs[i], by simp [hn, hi]⟩
  rw [hx] at h0
  obtain ⟨k, e1, e2, _⟩ := DataW.trod_int Tryd.underlying5 h0
  have hk := congrArg (fun l => l[i]?) hl
  simp only [List.getElem?_map, hx, Option.map_some, e2] at hk
  have ht : tzTab[i]? = some (tzTab.getD i 0) := by
    rw [List.getD_eq_getElem?_getD]
    have hlen : tzTab.length = 64 := by decide
    rw [List.getElem?_eq_getElem (by omega)]; rfl
  rw [ht] at hk
  simp only [Option.map_some, Option.some.injEq, DataW.lit.injEq, Lit.int.injEq, true_and] at hk
  rw [door_c8, Nat.mul_one] at e1
  have hc := World.var?_cell hg1 hv1 i
  rw [hc]
  have : cs1.toList[i]? = some (.int .u8 k) := by
    have := congrArg (fun l => l[0]?) e1
    simpa using this
  rw [← Array.getElem?_toList, this, hk]

end Go.Proofs.YtfpnojcbhbkfaaaDoor.P
namespace Go.Proofs.YtfpnojcbhbkfaaaDoor.topGrid
open Go.ChangeShapes Go.WideShapes Go.ChangeAt Go.RowKit
open Go.ChangeMaps (open_string shut_string)
set_option linter.unusedVariables false
theorem own : ownKnob Tryd.prog.godebug = none := by kernel_rfl
set_option maxRecDepth 100000 in
theorem lifted (os : Os) (started : os.Started) (H : Type) (enc : TypeId × Value → H) :
    ReturnsInHanded {} Tryd.checked os 4 .any (fun w args => (Rows.topGridSpec.pre enc Tryd.prog Tryd.f4 [] false w args ∧ laidMetH Tryd.prog P.doorLaid2 w) ∧ sizedMet enc Tryd.prog Tryd.f4 (OpenSpec.ofChange Rows.topGridSpec) false w args) (Rows.topGridSpec.post enc Tryd.prog Tryd.f4 false true false false) := by
  refine returnsInHanded_of_change_and (C := Tryd.checked) (X := fun w _ => laidMetH Tryd.prog P.doorLaid2 w) (fun _ _ _ hh h => h.of_heap hh) own started (by kernel_rfl) Tryd.func4
    (ChangeSpec.witness_shaped (enc := enc) (C := Tryd.checked) (os := os) (X := fun w _ => laidMetH Tryd.prog P.doorLaid2 w) false (World.doorLaid Tryd.prog 19 os) #[.int .i64 0, .int .i64 0] 8 rfl (World.shaped_of_RefB (by kernel_rfl) (by kernel_rfl)) (by kernel_rfl) (by kernel_rfl) (by kernel_rfl) (P.door_met os _)) ?_
  intro W base args ds gs before hval0 hW hcnd hsz0 hL _
  have hsz : (DataW.weightsEach Tryd.prog (Tryd.f4.params.toList ++ Rows.topGridSpec.plain.varTypes Tryd.prog) (ds ++ gs)).all (· ≤ reachBytes) = true := hsz0
  have hval : ∀ (j : Nat) t v, Tryd.f4.params[j]? = some t → args[j]? = some v → Value.okWide Tryd.prog W .any base t v := hval0
  have hW' := hW
  obtain ⟨p, q, hA0, hV, rfl, hfz, hnd⟩ := hW
  have hA : DataW.TrodAll enc Tryd.prog W 0 (fun _ => true) true Tryd.f4.params.toList args.toList ds p := hA0
  rw [Tryd.params4] at hA hval hsz
  obtain ⟨v0, vs0, d0, ds0, p0, q0, hargs, rfl, rfl, h0, r0⟩ := trodAll_cons hA
  obtain ⟨v1, vs1, d1, ds1, p1, q1, rfl, rfl, rfl, h1, r1⟩ := trodAll_cons r0
  obtain ⟨rfl, rfl, rfl⟩ := trodAll_nil r1
  obtain rfl : args = #[v0, v1] := by cases args; simp_all
  obtain ⟨rfl, rfl⟩ := trodVars_none hV
  obtain ⟨a0, rfl, rfl, rfl, w0⟩ := open_int Tryd.underlying3 (hval 0 3 v0 rfl rfl) h0
  obtain ⟨a1, rfl, rfl, rfl, w1⟩ := open_int Tryd.underlying3 (hval 1 3 v1 rfl rfl) h1
  clear hA0 hval0 hsz0 hsz
  refine (P.sackbuttop_TopGrid.walk Pure.TopGrid a0 a1 W (P.tabs_of_laid hL) w0 w1).mono fun e W' ⟨he, bel⟩ => ?_
  subst he
  exact ⟨_, rfl, _, _, _, [], _, [], hW', trodAll_mk1 (shut_bool Tryd.underlying4 _), (trodAll_cons_mk (shut_int Tryd.underlying3 w0) (trodAll_cons_mk (shut_int Tryd.underlying3 w1) trodAll_mk0)), rfl, bel.frame _, fun h => by cases h⟩
theorem over : Rows.topGridRow.holds Tryd.pinned (OpenSpec.ofChange Rows.topGridSpec) :=
  OpenClaim.holds_of_wide 4 Tryd.f4 rfl rfl rfl rfl rfl rfl rfl ⟨rfl, rfl, rfl, rfl, rfl⟩ rfl rfl rfl rfl rfl (by kernel_rfl) Tryd.func4 (by kernel_rfl)
    (of_decide_eq_true (by kernel_rfl)) (by unfold Func.isWrapper; first | (rw [if_pos (by decide +kernel)]; kernel_rfl) | (rw [if_neg (by decide +kernel)]; exact ⟨rfl, rfl⟩))
    (fun os started H enc _ => lifted os started H enc)
theorem proved : Rows.TopGridSaid := over
#print axioms proved
end Go.Proofs.YtfpnojcbhbkfaaaDoor.topGrid
namespace Go.Proofs.YtfpnojcbhbkfaaaDoor
theorem topGrid_row : Rows.TopGridSaid := topGrid.proved
/-- The tied card, for the claim. -/
theorem topGrid_holds : Rows.TopGridCardSaid :=
  Claim7.holds_tied_plain_at .later [] [.data, .data] true (true, "497fa162678a0729af37f63795fa21e285c2430cc1eb41f0044b46e86bdcb108") false
    topGrid_row (fun _ h => by cases h) (by kernel_rfl) (fun _ h => by cases h) topGrid_row_tie rfl ⟨rfl, rfl⟩ (by kernel_rfl) rfl
    (fun f fn hf hfn => by
      obtain rfl : f = 4 := Option.some.inj ((show Tryd.prog.funcNamed "sackbut/sackbuttop.TopGrid" = some 4 by kernel_rfl).symm.trans hf) |>.symm
      obtain rfl : fn = Tryd.f4 := (Option.some.inj (Tryd.func4.symm.trans hfn)).symm
      exact ⟨by kernel_rfl, fun j t ht => by
        rw [Tryd.params4] at ht
        have hm : t ∈ [3, 3] := by simpa using Array.mem_of_getElem? ht
        have hall : ([3, 3].all fun u => !Tryd.prog.wantsStandIn u) = true := by kernel_rfl
        exact (show Tryd.prog.wantsStandIn t = false by simpa using List.all_eq_true.1 hall t hm)⟩)
    (by kernel_rfl)
end Go.Proofs.YtfpnojcbhbkfaaaDoor
