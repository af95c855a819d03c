/- Proved here: the Go function sackbutlaw01.ChordsCounts returns true for every input (its printed form comes to true), whatever its arguments. Conditions: none beyond the row's own reach in memory. -/
import Derived.LaidMore
import Derived.Stop.Joined
import Derived.ProofKit
import Derived.OpenShut
import Derived.Test.YtnjmiodnkjabgaaDoorRows
import Derived.WalkKit
import Derived.ShutString
import Derived.ChangeOld
import Derived.Below
import Derived.SizedLaws
import Derived.SevenTiedAt
import Derived.Test.YtnjmiodnkjabgaaDoorCards
import Derived.Test.YtnjmiodnkjabgaaDoorTie
import Derived.Test.YtnjmiodnkjabgaaDoorCChordsCounts1
import Derived.Test.YtnjmiodnkjabgaaDoorCChordsCounts2
import Derived.Test.YtnjmiodnkjabgaaDoorCChordsCounts3
namespace Go.Proofs.YtnjmiodnkjabgaaDoor.P
open Go.RowKit Go.Proofs.YtnjmiodnkjabgaaDoorW.PrintWords Go.Proofs.YtnjmiodnkjabgaaDoorW.PrintLast Go.Proofs.YtnjmiodnkjabgaaDoorW.PrintMore
attribute [local go_sem] max2_int min2_int max_two min_two max_three min_three max_four min_four   -- for this text's walks alone
set_option linter.unusedVariables false
set_option linter.unusedSimpArgs false

/-! ### sackbutlaw01_ChordsCounts: function 8 -/
mutual
def sackbutlaw01_ChordsCounts.j0 : Nat → Int → Int → List Int → Int → Bool → Option (Bool)
  | 0, _, _, _, _, _ => none
  | k + 1, x0, x1, x5, x6, x40 => if x40 = true then (if x6 = 2 then ((sackbutlaw01_awake.f).bind fun t1005 => (some t1005)) else (some false)) else ((chords_Primes.f x0 (wrap64 (x0 - x1))).bind fun bt1006 => (if bt1006.2 = 0 then (sackbutlaw01_ChordsCounts.j1 k x0 x1 x5 ((x5.length : Int) != (bt1006.1.length : Int))) else (sackbutlaw01_ChordsCounts.j1 k x0 x1 x5 true)))
def sackbutlaw01_ChordsCounts.j1 : Nat → Int → Int → List Int → Bool → Option (Bool)
  | 0, _, _, _, _ => none
  | k + 1, x0, x1, x5, x62 => if x62 = true then (some false) else (sackbutlaw01_ChordsCounts.l0 k x0 x5 1 x1 0)
def sackbutlaw01_ChordsCounts.l0 : Nat → Int → List Int → Int → Int → Int → Option (Bool)
  | 0, _, _, _, _, _ => none
  | k + 1, x0, x5, x9, x63, x64 => if x64 < x63 then (if (wrap64 (x64 + 1)) = 0 then (none) else (sackbutlaw01_ChordsCounts.l0 k x0 x5 (wrap64 (Int.tdiv (wrap64 (x9 * (wrap64 (x0 - x64)))) (wrap64 (x64 + 1)))) x63 (wrap64 (x64 + 1)))) else (sackbutlaw01_ChordsCounts.l1 k x0 x5 x9 0 (x5.length : Int) 0)
def sackbutlaw01_ChordsCounts.l1 : Nat → Int → List Int → Int → Int → Int → Int → Option (Bool)
  | 0, _, _, _, _, _, _ => none
  | k + 1, x0, x5, x9, x11, x77, x78 => if x78 < x77 then (if 0 ≤ x78 then (if x78 < (x5.length : Int) then ((chords_Class.f k x0 (rd x5 x78)).bind fun bt1011 => (if bt1011.2 = 0 then (sackbutlaw01_ChordsCounts.l1 k x0 x5 x9 (wrap64 (x11 + (bt1011.1.length : Int))) x77 (wrap64 (x78 + 1))) else (some false))) else (none)) else (none)) else (if x11 = x9 then ((sackbutlaw01_awake.f).bind fun t1015 => (some t1015)) else (some false))
end
def sackbutlaw01_ChordsCounts.f (k : Nat) (a0 : Int) (a1 : Int) : Option (Bool) := (chords_Primes.f a0 a1).bind fun bt1001 => (if bt1001.2 = 0 then (if a0 < 2 then (sackbutlaw01_ChordsCounts.j0 k a0 a1 bt1001.1 bt1001.2 true) else (if a0 > 12 then (sackbutlaw01_ChordsCounts.j0 k a0 a1 bt1001.1 bt1001.2 true) else (if a1 < 0 then (sackbutlaw01_ChordsCounts.j0 k a0 a1 bt1001.1 bt1001.2 true) else (sackbutlaw01_ChordsCounts.j0 k a0 a1 bt1001.1 bt1001.2 (decide (a1 > a0)))))) else (sackbutlaw01_ChordsCounts.j0 k a0 a1 bt1001.1 bt1001.2 true))
theorem sackbutlaw01_ChordsCounts.mono_l : ∀ k, (∀ y0 y1 y2 y3 y4, LeO (sackbutlaw01_ChordsCounts.j0 k y0 y1 y2 y3 y4) (sackbutlaw01_ChordsCounts.j0 (k + 1) y0 y1 y2 y3 y4)) ∧ (∀ y0 y1 y2 y3, LeO (sackbutlaw01_ChordsCounts.j1 k y0 y1 y2 y3) (sackbutlaw01_ChordsCounts.j1 (k + 1) y0 y1 y2 y3)) ∧ (∀ y0 y1 y2 y3 y4, LeO (sackbutlaw01_ChordsCounts.l0 k y0 y1 y2 y3 y4) (sackbutlaw01_ChordsCounts.l0 (k + 1) y0 y1 y2 y3 y4)) ∧ (∀ y0 y1 y2 y3 y4 y5, LeO (sackbutlaw01_ChordsCounts.l1 k y0 y1 y2 y3 y4 y5) (sackbutlaw01_ChordsCounts.l1 (k + 1) y0 y1 y2 y3 y4 y5))
  | 0 => ⟨fun _ _ _ _ _ r h => by simp [sackbutlaw01_ChordsCounts.j0] at h, fun _ _ _ _ r h => by simp [sackbutlaw01_ChordsCounts.j1] at h, fun _ _ _ _ _ r h => by simp [sackbutlaw01_ChordsCounts.l0] at h, fun _ _ _ _ _ _ r h => by simp [sackbutlaw01_ChordsCounts.l1] at h⟩
  | k + 1 => by
    obtain ⟨ih0, ih1, ih2, ih3⟩ := sackbutlaw01_ChordsCounts.mono_l k
    refine ⟨?_, ?_, ?_, ?_⟩
    · intro y0 y1 y2 y3 y4
      unfold sackbutlaw01_ChordsCounts.j0
      repeat' first
      | (with_reducible exact ih0 _ _ _ _ _)
      | (with_reducible exact ih1 _ _ _ _)
      | (with_reducible exact ih2 _ _ _ _ _)
      | (with_reducible exact ih3 _ _ _ _ _ _)
      | (with_reducible exact chords_Class.mono _ _ _)
      | (with_reducible exact LeO.refl _)
      | (with_reducible exact LeO.none _)
      | (with_reducible refine LeO.ite ?_ ?_)
      | (with_reducible refine LeO.bind ?_ (fun _ => ?_))
      | exact ih0 _ _ _ _ _
      | exact ih1 _ _ _ _
      | exact ih2 _ _ _ _ _
      | exact ih3 _ _ _ _ _ _
      | exact chords_Class.mono _ _ _
      | exact LeO.none _
      | refine LeO.ite ?_ ?_
      | refine LeO.bind ?_ (fun _ => ?_)
    · intro y0 y1 y2 y3
      unfold sackbutlaw01_ChordsCounts.j1
      repeat' first
      | (with_reducible exact ih0 _ _ _ _ _)
      | (with_reducible exact ih1 _ _ _ _)
      | (with_reducible exact ih2 _ _ _ _ _)
      | (with_reducible exact ih3 _ _ _ _ _ _)
      | (with_reducible exact chords_Class.mono _ _ _)
      | (with_reducible exact LeO.refl _)
      | (with_reducible exact LeO.none _)
      | (with_reducible refine LeO.ite ?_ ?_)
      | (with_reducible refine LeO.bind ?_ (fun _ => ?_))
      | exact ih0 _ _ _ _ _
      | exact ih1 _ _ _ _
      | exact ih2 _ _ _ _ _
      | exact ih3 _ _ _ _ _ _
      | exact chords_Class.mono _ _ _
      | exact LeO.none _
      | refine LeO.ite ?_ ?_
      | refine LeO.bind ?_ (fun _ => ?_)
    · intro y0 y1 y2 y3 y4
      unfold sackbutlaw01_ChordsCounts.l0
      repeat' first
      | (with_reducible exact ih0 _ _ _ _ _)
      | (with_reducible exact ih1 _ _ _ _)
      | (with_reducible exact ih2 _ _ _ _ _)
      | (with_reducible exact ih3 _ _ _ _ _ _)
      | (with_reducible exact chords_Class.mono _ _ _)
      | (with_reducible exact LeO.refl _)
      | (with_reducible exact LeO.none _)
      | (with_reducible refine LeO.ite ?_ ?_)
      | (with_reducible refine LeO.bind ?_ (fun _ => ?_))
      | exact ih0 _ _ _ _ _
      | exact ih1 _ _ _ _
      | exact ih2 _ _ _ _ _
      | exact ih3 _ _ _ _ _ _
      | exact chords_Class.mono _ _ _
      | exact LeO.none _
      | refine LeO.ite ?_ ?_
      | refine LeO.bind ?_ (fun _ => ?_)
    · intro y0 y1 y2 y3 y4 y5
      unfold sackbutlaw01_ChordsCounts.l1
      repeat' first
      | (with_reducible exact ih0 _ _ _ _ _)
      | (with_reducible exact ih1 _ _ _ _)
      | (with_reducible exact ih2 _ _ _ _ _)
      | (with_reducible exact ih3 _ _ _ _ _ _)
      | (with_reducible exact chords_Class.mono _ _ _)
      | (with_reducible exact LeO.refl _)
      | (with_reducible exact LeO.none _)
      | (with_reducible refine LeO.ite ?_ ?_)
      | (with_reducible refine LeO.bind ?_ (fun _ => ?_))
      | exact ih0 _ _ _ _ _
      | exact ih1 _ _ _ _
      | exact ih2 _ _ _ _ _
      | exact ih3 _ _ _ _ _ _
      | exact chords_Class.mono _ _ _
      | exact LeO.none _
      | refine LeO.ite ?_ ?_
      | refine LeO.bind ?_ (fun _ => ?_)
theorem sackbutlaw01_ChordsCounts.mono : ∀ a0 a1 k, LeO (sackbutlaw01_ChordsCounts.f k a0 a1) (sackbutlaw01_ChordsCounts.f (k + 1) a0 a1) := by
  intro a0 a1 k
  obtain ⟨ih0, ih1, ih2, ih3⟩ := sackbutlaw01_ChordsCounts.mono_l k
  unfold sackbutlaw01_ChordsCounts.f
  repeat' first
      | (with_reducible exact ih0 _ _ _ _ _)
      | (with_reducible exact ih1 _ _ _ _)
      | (with_reducible exact ih2 _ _ _ _ _)
      | (with_reducible exact ih3 _ _ _ _ _ _)
      | (with_reducible exact chords_Class.mono _ _ _)
      | (with_reducible exact LeO.refl _)
      | (with_reducible exact LeO.none _)
      | (with_reducible refine LeO.ite ?_ ?_)
      | (with_reducible refine LeO.bind ?_ (fun _ => ?_))
      | exact ih0 _ _ _ _ _
      | exact ih1 _ _ _ _
      | exact ih2 _ _ _ _ _
      | exact ih3 _ _ _ _ _ _
      | exact chords_Class.mono _ _ _
      | exact LeO.none _
      | refine LeO.ite ?_ ?_
      | refine LeO.bind ?_ (fun _ => ?_)
set_option maxHeartbeats 8000000 in
set_option maxRecDepth 100000 in
theorem sackbutlaw01_ChordsCounts.calls (k : Nat) (a0 : Int) (a1 : Int) (r : Bool) (w : World) (hT : Tabs w) (h : sackbutlaw01_ChordsCounts.f k a0 a1 = some r) :
    Calls Tryd.prog 8 #[.int .i64 a0, .int .i64 a1] w fun e w' => e = .returned (.bool r) ∧ Below w.heap.size w w' := by
  have HB := Aside0.mk (Below.refl w.heap.size w)
  have HT0 := Aside0.mk hT
  clear hT
  have H : ((chords_Primes.f a0 a1).bind fun bt1001 => (if bt1001.2 = 0 then (if a0 < 2 then (sackbutlaw01_ChordsCounts.j0 k a0 a1 bt1001.1 bt1001.2 true) else (if a0 > 12 then (sackbutlaw01_ChordsCounts.j0 k a0 a1 bt1001.1 bt1001.2 true) else (if a1 < 0 then (sackbutlaw01_ChordsCounts.j0 k a0 a1 bt1001.1 bt1001.2 true) else (sackbutlaw01_ChordsCounts.j0 k a0 a1 bt1001.1 bt1001.2 (decide (a1 > a0)))))) else (sackbutlaw01_ChordsCounts.j0 k a0 a1 bt1001.1 bt1001.2 true))) = some r := h
  clear h
  replace H := Option.bind_eq_some_iff.mp H
  obtain ⟨⟨t1001, t1002⟩, A30, H⟩ := H
  replace H : (if t1002 = 0 then (if a0 < 2 then (sackbutlaw01_ChordsCounts.j0 k a0 a1 t1001 t1002 true) else (if a0 > 12 then (sackbutlaw01_ChordsCounts.j0 k a0 a1 t1001 t1002 true) else (if a1 < 0 then (sackbutlaw01_ChordsCounts.j0 k a0 a1 t1001 t1002 true) else (sackbutlaw01_ChordsCounts.j0 k a0 a1 t1001 t1002 (decide (a1 > a0)))))) else (sackbutlaw01_ChordsCounts.j0 k a0 a1 t1001 t1002 true)) = some r := H
  have A3 := Aside0.mk A30
  clear A30
  have HC4 := Aside0.mk H
  clear H
  go_enter Tryd.func8, Tryd.ntmps8
  go_upto_region 2 with (first | ((with_reducible refine gate_callee (f := 33) rfl ?_); refine goesL_ (some 19) rfl rfl Tryd.func33 (by kernel_rfl) rfl #[.int .i64 a0, .int .i64 a1] rfl (by (try simp only [List.map_toArray, List.map_cons, List.map_nil]); first | done | rfl | (simp only [List.length_drop, List.length_take]; rfl)) ?_; (with_reducible refine (chords_Primes.calls a0 a1 t1001 t1002 _ ?side1 A3.out).mono ?_); (case side1 => exact Tabs.below HT0.out (by repeat (first | (with_reducible first | exact HB.out | apply below_alloc | apply pw_below_drewN | apply below_drew1) | exact HB.out))); rintro e w5 ⟨v1003, rfl, ho0, hb⟩; refine ⟨_, rfl, ?_⟩; have n0_ := Aside0.mk (Kd.R_lower ho0 (below_size (by repeat (first | (with_reducible first | exact HB.out | apply below_alloc | apply pw_below_drewN | apply below_drew1) | exact HB.out)))); have n1_ := Aside0.mk (below_step (by repeat (first | (with_reducible first | exact HB.out | apply below_alloc | apply pw_below_drewN | apply below_drew1) | exact HB.out)) hb); clear HB; have HO1004 := n0_; have HB := n1_; clear n0_ n1_; (try clear hb); (try clear hb2); (try clear hk); (try clear hi); (try clear ho0)))
  (try simp only [Act.put, List.setIfInBounds_toArray, List.set_cons_zero, List.set_cons_succ])
  go_cut [40] (fun v40 wc => ∃ (kq : Nat) (x40_3 : Bool), v40 = .bool x40_3 ∧ Aside0 (sackbutlaw01_ChordsCounts.j0 kq a0 a1 t1001 t1002 x40_3 = some r) ∧ Aside0 (kq ≤ k) ∧ Aside0 (Kd.R (Kd.int .i64) 3 wc w.heap.size (fun _ => True) v1003 t1001) ∧ Aside0 (Below w.heap.size w wc))
  case first =>
    have H := HC4.out
    clear HC4
    by_cases c6 : t1002 = 0
    · rw [if_pos c6] at H
      have c6b0 : (t1002 == 0) = true := beq_iff_eq.mpr c6
      have c6b1 : (t1002 != 0) = false := bne_eq_false_iff_eq.mpr c6
      clear c6
      (first | rw [c6b0] | (simp only [i64_w, i32_w]; rw [c6b0]) | skip)
      by_cases c7 : a0 < 2
      · rw [if_pos c7] at H
        have c7b0 : decide (a0 < 2) = true := decide_eq_true c7
        clear c7
        have H' := Aside0.mk H
        clear H
        go_wp2
        go_meet
        case rel => exact ⟨_, (true), (by first | rfl | (simp; done) | (simp [*]; done)), H', ⟨by first | omega | exact Nat.le_refl _⟩, ⟨by (with_reducible repeat (first | apply Kd.R_alloc | apply Kd.R_drewN | apply Kd.R_drew)); exact HO1004.out⟩, ⟨by repeat (first | (with_reducible first | exact HB.out | apply below_alloc | apply pw_below_drewN | apply below_drew1) | exact HB.out)⟩⟩
      · rw [if_neg c7] at H
        have c7b0 : decide (a0 < 2) = false := decide_eq_false c7
        clear c7
        by_cases c8 : a0 > 12
        · rw [if_pos c8] at H
          have c8b0 : decide (12 < a0) = true := decide_eq_true c8
          clear c8
          have H' := Aside0.mk H
          clear H
          go_wp2
          go_meet
          case rel => exact ⟨_, (true), (by first | rfl | (simp; done) | (simp [*]; done)), H', ⟨by first | omega | exact Nat.le_refl _⟩, ⟨by (with_reducible repeat (first | apply Kd.R_alloc | apply Kd.R_drewN | apply Kd.R_drew)); exact HO1004.out⟩, ⟨by repeat (first | (with_reducible first | exact HB.out | apply below_alloc | apply pw_below_drewN | apply below_drew1) | exact HB.out)⟩⟩
        · rw [if_neg c8] at H
          have c8b0 : decide (12 < a0) = false := decide_eq_false c8
          clear c8
          by_cases c9 : a1 < 0
          · rw [if_pos c9] at H
            have c9b0 : decide (a1 < 0) = true := decide_eq_true c9
            clear c9
            have H' := Aside0.mk H
            clear H
            go_wp2
            go_meet
            case rel => exact ⟨_, (true), (by first | rfl | (simp; done) | (simp [*]; done)), H', ⟨by first | omega | exact Nat.le_refl _⟩, ⟨by (with_reducible repeat (first | apply Kd.R_alloc | apply Kd.R_drewN | apply Kd.R_drew)); exact HO1004.out⟩, ⟨by repeat (first | (with_reducible first | exact HB.out | apply below_alloc | apply pw_below_drewN | apply below_drew1) | exact HB.out)⟩⟩
          · rw [if_neg c9] at H
            have c9b0 : decide (a1 < 0) = false := decide_eq_false c9
            clear c9
            have H' := Aside0.mk H
            clear H
            go_wp2
            go_meet
            case rel => exact ⟨_, (decide (a1 > a0)), (by first | rfl | (simp; done) | (simp [*]; done)), H', ⟨by first | omega | exact Nat.le_refl _⟩, ⟨by (with_reducible repeat (first | apply Kd.R_alloc | apply Kd.R_drewN | apply Kd.R_drew)); exact HO1004.out⟩, ⟨by repeat (first | (with_reducible first | exact HB.out | apply below_alloc | apply pw_below_drewN | apply below_drew1) | exact HB.out)⟩⟩
    · rw [if_neg c6] at H
      have c6b0 : (t1002 == 0) = false := beq_eq_false_iff_ne.mpr c6
      have c6b1 : (t1002 != 0) = true := bne_iff_ne.mpr c6
      (first | rw [c6b0] | (simp only [i64_w, i32_w]; rw [c6b0]) | skip)
      have H' := Aside0.mk H
      clear H
      go_wp2
      go_meet
      case rel => exact ⟨_, (true), (by first | rfl | (simp; done) | (simp [*]; done)), H', ⟨by first | omega | exact Nat.le_refl _⟩, ⟨by (with_reducible repeat (first | apply Kd.R_alloc | apply Kd.R_drewN | apply Kd.R_drew)); exact HO1004.out⟩, ⟨by repeat (first | (with_reducible first | exact HB.out | apply below_alloc | apply pw_below_drewN | apply below_drew1) | exact HB.out)⟩⟩
  case rest =>
    clear HC4
    try clear p2
    try clear c3
    try clear c6
    try clear c6b0
    try clear c6b1
    try clear c7
    try clear c7b0
    try clear c8
    try clear c8b0
    try clear c9
    try clear c9b0
    obtain ⟨kq, x40_3, rfl, HA, HJ3, HO_5, HB⟩ := hcut
    cases kq with
    | zero => exact absurd HA.out (by simp [sackbutlaw01_ChordsCounts.j0])
    | succ kj3 =>
      have H := HA.out
      clear HA
      simp only [sackbutlaw01_ChordsCounts.j0] at H
      by_cases c10 : x40_3 = true
      · subst c10
        have H1 : (if t1002 = 2 then ((sackbutlaw01_awake.f).bind fun t1005 => (some t1005)) else (some false)) = some r := by rw [if_pos rfl] at H; exact H
        clear H
        have H := H1
        clear H1
        by_cases c11 : t1002 = 2
        · rw [if_pos c11] at H
          have c11b0 : (t1002 == 2) = true := beq_iff_eq.mpr c11
          have c11b1 : (t1002 != 2) = false := bne_eq_false_iff_eq.mpr c11
          clear c11
          replace H := Option.bind_eq_some_iff.mp H
          obtain ⟨t1005, A120, H⟩ := H
          replace H : (some t1005) = some r := H
          have A12 := Aside0.mk A120
          clear A120
          obtain rfl := Option.some.inj H
          go_wp2_with (first | (go_at_call 14; (with_reducible refine (sackbutlaw01_awake.calls  t1005 _ A12.out).mono ?_); rintro e w13 ⟨rfl, hb⟩; have n0_ := Aside0.mk (Kd.R_below (by (with_reducible repeat (first | apply Kd.R_alloc | apply Kd.R_drewN | apply Kd.R_drew)); exact HO_5.out) hb); have n1_ := Aside0.mk (below_step (by repeat (first | (with_reducible first | exact HB.out | apply below_alloc | apply pw_below_drewN | apply below_drew1) | exact HB.out)) hb); clear HO_5; clear HB; have HO_5 := n0_; have HB := n1_; clear n0_ n1_; (try clear hb); (try clear hb2); (try clear hk); (try clear hi)))
          go_ret
          exact ⟨by first | rfl | (simp [errW_none, errW_some] <;> rfl) | (simp [*, errW_none, errW_some] <;> rfl), by repeat (first | (with_reducible first | exact HB.out | apply below_alloc | apply pw_below_drewN | apply below_drew1) | exact HB.out)⟩
        · rw [if_neg c11] at H
          have c11b0 : (t1002 == 2) = false := beq_eq_false_iff_ne.mpr c11
          have c11b1 : (t1002 != 2) = true := bne_iff_ne.mpr c11
          obtain rfl := Option.some.inj H
          go_wp2
          go_ret
          exact ⟨by first | rfl | (simp [errW_none, errW_some] <;> rfl) | (simp [*, errW_none, errW_some] <;> rfl), by repeat (first | (with_reducible first | exact HB.out | apply below_alloc | apply pw_below_drewN | apply below_drew1) | exact HB.out)⟩
      · replace c10 := Bool.eq_false_iff.mpr c10
        subst c10
        have H1 : ((chords_Primes.f a0 (wrap64 (a0 - a1))).bind fun bt1006 => (if bt1006.2 = 0 then (sackbutlaw01_ChordsCounts.j1 kj3 a0 a1 t1001 ((t1001.length : Int) != (bt1006.1.length : Int))) else (sackbutlaw01_ChordsCounts.j1 kj3 a0 a1 t1001 true))) = some r := by rw [if_neg (show ¬ (false = true) by decide)] at H; exact H
        clear H
        have H := H1
        clear H1
        replace H := Option.bind_eq_some_iff.mp H
        obtain ⟨⟨t1006, t1007⟩, A140, H⟩ := H
        replace H : (if t1007 = 0 then (sackbutlaw01_ChordsCounts.j1 kj3 a0 a1 t1001 ((t1001.length : Int) != (t1006.length : Int))) else (sackbutlaw01_ChordsCounts.j1 kj3 a0 a1 t1001 true)) = some r := H
        have A14 := Aside0.mk A140
        clear A140
        have HC15 := Aside0.mk H
        clear H
        go_upto_region 5 with (first | ((with_reducible refine gate_callee (f := 33) rfl ?_); refine goesL_ (some 51) rfl rfl Tryd.func33 (by kernel_rfl) rfl #[.int .i64 a0, .int .i64 (wrap64 (a0 - a1))] rfl (by (try simp only [List.map_toArray, List.map_cons, List.map_nil]); first | done | rfl | (simp only [List.length_drop, List.length_take]; rfl)) ?_; (with_reducible refine (chords_Primes.calls a0 (wrap64 (a0 - a1)) t1006 t1007 _ ?side1 A14.out).mono ?_); (case side1 => exact Tabs.below HT0.out (by repeat (first | (with_reducible first | exact HB.out | apply below_alloc | apply pw_below_drewN | apply below_drew1) | exact HB.out))); rintro e w16 ⟨v1008, rfl, ho0, hb⟩; refine ⟨_, rfl, ?_⟩; have n0_ := Aside0.mk (Kd.R_elder' (by (with_reducible repeat (first | apply Kd.R_alloc | apply Kd.R_drewN | apply Kd.R_drew)); exact HO_5.out) (Kd.R_base ho0) hb); have n1_ := Aside0.mk (Kd.R_lower (Kd.R_new' ho0 (Kd.R_lt (by (with_reducible repeat (first | apply Kd.R_alloc | apply Kd.R_drewN | apply Kd.R_drew)); exact HO_5.out))) (below_size (by repeat (first | (with_reducible first | exact HB.out | apply below_alloc | apply pw_below_drewN | apply below_drew1) | exact HB.out)))); have n2_ := Aside0.mk (below_step (by repeat (first | (with_reducible first | exact HB.out | apply below_alloc | apply pw_below_drewN | apply below_drew1) | exact HB.out)) hb); clear HO_5; clear HB; have HO_5 := n0_; have HO1009 := n1_; have HB := n2_; clear n0_ n1_ n2_; (try clear hb); (try clear hb2); (try clear hk); (try clear hi); (try clear ho0)))
        (try simp only [Act.put, List.setIfInBounds_toArray, List.set_cons_zero, List.set_cons_succ])
        go_cut [62] (fun v62 wc => ∃ (kq : Nat) (x62_14 : Bool), v62 = .bool x62_14 ∧ Aside0 (sackbutlaw01_ChordsCounts.j1 kq a0 a1 t1001 x62_14 = some r) ∧ Aside0 (kq ≤ kj3) ∧ Aside0 (Kd.R (Kd.int .i64) 3 wc w.heap.size (fun _ => True) v1003 t1001) ∧ Aside0 (Below w.heap.size w wc))
        case first =>
          have H := HC15.out
          clear HC15
          by_cases c17 : t1007 = 0
          · rw [if_pos c17] at H
            have c17b0 : (t1007 == 0) = true := beq_iff_eq.mpr c17
            have c17b1 : (t1007 != 0) = false := bne_eq_false_iff_eq.mpr c17
            clear c17
            (first | rw [c17b0] | (simp only [i64_w, i32_w]; rw [c17b0]) | skip)
            have H' := Aside0.mk H
            clear H
            obtain ⟨Ao18, co18, eo18⟩ := Kd.R_slice HO_5.out
            subst eo18
            obtain ⟨Ao19, co19, eo19⟩ := Kd.R_slice HO1009.out
            subst eo19
            go_wp2
            go_meet
            case rel => exact ⟨_, (((t1001.length : Int) != (t1006.length : Int))), (by first | rfl | (simp; done) | (simp [*]; done)), H', ⟨by have := HJ3.out; first | omega | exact Nat.le_refl _⟩, ⟨by (with_reducible repeat (first | apply Kd.R_alloc | apply Kd.R_drewN | apply Kd.R_drew)); exact Kd.R_mono HO_5.out (fun _ hk => trivial)⟩, ⟨by repeat (first | (with_reducible first | exact HB.out | apply below_alloc | apply pw_below_drewN | apply below_drew1) | exact HB.out)⟩⟩
          · rw [if_neg c17] at H
            have c17b0 : (t1007 == 0) = false := beq_eq_false_iff_ne.mpr c17
            have c17b1 : (t1007 != 0) = true := bne_iff_ne.mpr c17
            (first | rw [c17b0] | (simp only [i64_w, i32_w]; rw [c17b0]) | skip)
            have H' := Aside0.mk H
            clear H
            go_wp2
            go_meet
            case rel => exact ⟨_, (true), (by first | rfl | (simp; done) | (simp [*]; done)), H', ⟨by have := HJ3.out; first | omega | exact Nat.le_refl _⟩, ⟨by (with_reducible repeat (first | apply Kd.R_alloc | apply Kd.R_drewN | apply Kd.R_drew)); exact Kd.R_mono HO_5.out (fun _ hk => trivial)⟩, ⟨by repeat (first | (with_reducible first | exact HB.out | apply below_alloc | apply pw_below_drewN | apply below_drew1) | exact HB.out)⟩⟩
        case rest =>
          clear HC15
          try clear c1
          try clear p2
          try clear c3
          try clear c6
          try clear c6b0
          try clear c6b1
          try clear p6
          try clear c7
          try clear c7b0
          try clear c8
          try clear c8b0
          try clear c9
          try clear c9b0
          try clear c10
          try clear c11
          try clear c11b0
          try clear c11b1
          try clear c17
          try clear c17b0
          try clear c17b1
          try clear p2
          obtain ⟨kq, x62_14, rfl, HA, HJ14, HO_5, HB⟩ := hcut
          cases kq with
          | zero => exact absurd HA.out (by simp [sackbutlaw01_ChordsCounts.j1])
          | succ kj14 =>
            have H := HA.out
            clear HA
            simp only [sackbutlaw01_ChordsCounts.j1] at H
            by_cases c20 : x62_14 = true
            · subst c20
              have H1 : (some false) = some r := by rw [if_pos rfl] at H; exact H
              clear H
              have H := H1
              clear H1
              obtain rfl := Option.some.inj H
              go_wp2
              go_ret
              exact ⟨by first | rfl | (simp [errW_none, errW_some] <;> rfl) | (simp [*, errW_none, errW_some] <;> rfl), by repeat (first | (with_reducible first | exact HB.out | apply below_alloc | apply pw_below_drewN | apply below_drew1) | exact HB.out)⟩
            · replace c20 := Bool.eq_false_iff.mpr c20
              subst c20
              have H1 : (sackbutlaw01_ChordsCounts.l0 kj14 a0 t1001 1 a1 0) = some r := by rw [if_neg (show ¬ (false = true) by decide)] at H; exact H
              clear H
              have H := H1
              clear H1
              have H' := Aside0.mk H
              clear H
              go_wp2
              go_loopg [9, 64] kj14 (fun kq v9 v64 w' => ∃ (x9_3 : Int) (x64_3 : Int), v9 = .int .i64 x9_3 ∧ v64 = .int .i64 x64_3 ∧ Aside0 (sackbutlaw01_ChordsCounts.l0 kq a0 t1001 x9_3 a1 x64_3 = some r) ∧ Aside0 (kq ≤ kj14) ∧ Aside0 (Kd.R (Kd.int .i64) 3 w' w.heap.size (fun _ => True) v1003 t1001) ∧ Aside0 (Below w.heap.size w w'))
              case atStart => exact ⟨(1), (0), (by first | rfl | (simp; done) | (simp [*]; done)), (by first | rfl | (simp; done) | (simp [*]; done)), H', ⟨Nat.le_refl _⟩, ⟨by (with_reducible repeat (first | apply Kd.R_alloc | apply Kd.R_drewN | apply Kd.R_drew)); exact HO_5.out⟩, ⟨by repeat (first | (with_reducible first | exact HB.out | apply below_alloc | apply pw_below_drewN | apply below_drew1) | exact HB.out)⟩⟩
              case round =>
                clear H'
                try clear c1
                try clear c2
                try clear p2
                try clear c3
                try clear c6
                try clear c6b0
                try clear c6b1
                try clear p6
                try clear c7
                try clear c7b0
                try clear c8
                try clear c8b0
                try clear c9
                try clear c9b0
                try clear c10
                try clear c11
                try clear c11b0
                try clear c11b1
                try clear c17
                try clear c17b0
                try clear c17b1
                try clear c20
                try clear p2
                try clear p6
                obtain ⟨x9_3, x64_3, rfl, rfl, HA, HK3, HO_5, HB⟩ := hrel
                cases gk with
                | zero => exact absurd HA.out (by simp [sackbutlaw01_ChordsCounts.l0])
                | succ k3 =>
                  have H := HA.out
                  clear HA
                  simp only [sackbutlaw01_ChordsCounts.l0] at H
                  by_cases c21 : x64_3 < a1
                  · rw [if_pos c21] at H
                    have c21b0 : decide (x64_3 < a1) = true := decide_eq_true c21
                    clear c21
                    by_cases c22 : (wrap64 (x64_3 + 1)) = 0
                    · rw [if_pos c22] at H
                      exact absurd H (by simp)
                    · rw [if_neg c22] at H
                      have c22b0 : ((wrap64 (x64_3 + 1)) == 0) = false := beq_eq_false_iff_ne.mpr c22
                      have c22b1 : ((wrap64 (x64_3 + 1)) != 0) = true := bne_iff_ne.mpr c22
                      have H' := Aside0.mk H
                      clear H
                      go_wp2
                      go_roundg k3
                      case measure => have := HJ3.out; have := HJ14.out; have := HK3.out; omega
                      case rel => exact ⟨(wrap64 (Int.tdiv (wrap64 (x9_3 * (wrap64 (a0 - x64_3)))) (wrap64 (x64_3 + 1)))), (wrap64 (x64_3 + 1)), (by first | rfl | (simp; done) | (simp [*]; done)), (by first | rfl | (simp; done) | (simp [*]; done)), H', ⟨by have := HJ3.out; have := HJ14.out; have := HK3.out; omega⟩, ⟨by (with_reducible repeat (first | apply Kd.R_alloc | apply Kd.R_drewN | apply Kd.R_drew)); exact HO_5.out⟩, ⟨by repeat (first | (with_reducible first | exact HB.out | apply below_alloc | apply pw_below_drewN | apply below_drew1) | exact HB.out)⟩⟩
                  · rw [if_neg c21] at H
                    have c21b0 : decide (x64_3 < a1) = false := decide_eq_false c21
                    clear c21
                    have H' := Aside0.mk H
                    clear H
                    obtain ⟨Ao23, co23, eo23⟩ := Kd.R_slice HO_5.out
                    subst eo23
                    go_wp2
                    go_loopg [11, 78] k3 (fun kq v11 v78 w' => ∃ (x11_4 : Int) (x78_4 : Int), v11 = .int .i64 x11_4 ∧ v78 = .int .i64 x78_4 ∧ Aside0 (sackbutlaw01_ChordsCounts.l1 kq a0 t1001 x9_3 x11_4 (t1001.length : Int) x78_4 = some r) ∧ Aside0 (kq ≤ k3) ∧ Aside0 (Kd.R (Kd.int .i64) 3 w' w.heap.size (fun _ => True) (.slice Ao23 t1001.length co23) t1001) ∧ Aside0 (Below w.heap.size w w'))
                    case atStart => exact ⟨(0), (0), (by first | rfl | (simp; done) | (simp [*]; done)), (by first | rfl | (simp; done) | (simp [*]; done)), H', ⟨Nat.le_refl _⟩, ⟨by (with_reducible repeat (first | apply Kd.R_alloc | apply Kd.R_drewN | apply Kd.R_drew)); exact HO_5.out⟩, ⟨by repeat (first | (with_reducible first | exact HB.out | apply below_alloc | apply pw_below_drewN | apply below_drew1) | exact HB.out)⟩⟩
                    case round =>
                      clear H'
                      try clear c1
                      try clear c2
                      try clear p2
                      try clear c3
                      try clear c6
                      try clear c6b0
                      try clear c6b1
                      try clear p6
                      try clear c7
                      try clear c7b0
                      try clear c8
                      try clear c8b0
                      try clear c9
                      try clear c9b0
                      try clear c10
                      try clear c11
                      try clear c11b0
                      try clear c11b1
                      try clear c17
                      try clear c17b0
                      try clear c17b1
                      try clear c20
                      try clear c21
                      try clear c21b0
                      try clear c22
                      try clear c22b0
                      try clear c22b1
                      try clear p2
                      try clear p6
                      obtain ⟨x11_4, x78_4, rfl, rfl, HA, HK4, HO_5, HB⟩ := hrel
                      cases gk with
                      | zero => exact absurd HA.out (by simp [sackbutlaw01_ChordsCounts.l1])
                      | succ k4 =>
                        have H := HA.out
                        clear HA
                        simp only [sackbutlaw01_ChordsCounts.l1] at H
                        by_cases c24 : x78_4 < (t1001.length : Int)
                        · rw [if_pos c24] at H
                          have c24b0 : decide (x78_4 < (t1001.length : Int)) = true := decide_eq_true c24
                          clear c24
                          by_cases c25 : 0 ≤ x78_4
                          · rw [if_pos c25] at H
                            have c25b0 : decide (0 ≤ x78_4) = true := decide_eq_true c25
                            clear c25
                            by_cases c26 : x78_4 < (t1001.length : Int)
                            · rw [if_pos c26] at H
                              have c26b0 : decide (x78_4 < (t1001.length : Int)) = true := decide_eq_true c26
                              clear c26
                              replace H := Option.bind_eq_some_iff.mp H
                              obtain ⟨⟨t1011, t1012⟩, A270, H⟩ := H
                              replace H : (if t1012 = 0 then (sackbutlaw01_ChordsCounts.l1 k4 a0 t1001 x9_3 (wrap64 (x11_4 + (t1011.length : Int))) (t1001.length : Int) (wrap64 (x78_4 + 1))) else (some false)) = some r := H
                              have A27 := Aside0.mk A270
                              clear A270
                              by_cases c28 : t1012 = 0
                              · rw [if_pos c28] at H
                                have c28b0 : (t1012 == 0) = true := beq_iff_eq.mpr c28
                                have c28b1 : (t1012 != 0) = false := bne_eq_false_iff_eq.mpr c28
                                clear c28
                                have H' := Aside0.mk H
                                clear H
                                have p1010 : 0 ≤ (x78_4 : Int) := of_decide_eq_true (by first | (with_reducible assumption) | assumption)
                                have q1010 : x78_4 < (t1001.length : Int) := of_decide_eq_true (by first | (with_reducible assumption) | assumption)
                                obtain ⟨ad1010, e1010, hx1010_0⟩ := Kd.at_int (Kd.R_reads' HO_5.out).2.2 x78_4 p1010 q1010
                                cases e1010
                                replace p1010 := eq_true p1010
                                replace q1010 := eq_true q1010
                                go_wp2_with (first | ((with_reducible refine gate_callee (f := 30) rfl ?_); refine goesL_ (some 85) rfl rfl Tryd.func30 (by kernel_rfl) rfl #[.int .i64 a0, .int .i64 (rd t1001 x78_4)] rfl (by (try simp only [List.map_toArray, List.map_cons, List.map_nil]); first | done | rfl | (simp only [List.length_drop, List.length_take]; rfl)) ?_; (with_reducible refine (chords_Class.calls k4 a0 (rd t1001 x78_4) t1011 t1012 _ ?side1 A27.out).mono ?_); (case side1 => exact Tabs.below HT0.out (by repeat (first | (with_reducible first | exact HB.out | apply below_alloc | apply pw_below_drewN | apply below_drew1) | exact HB.out))); rintro e w29 ⟨v1013, rfl, ho0, hb⟩; refine ⟨_, rfl, ?_⟩; have n0_ := Aside0.mk (Kd.R_elder' (by (with_reducible repeat (first | apply Kd.R_alloc | apply Kd.R_drewN | apply Kd.R_drew)); exact HO_5.out) (Kd.R_base ho0) hb); have n1_ := Aside0.mk (Kd.R_lower (Kd.R_new' ho0 (Kd.R_lt (by (with_reducible repeat (first | apply Kd.R_alloc | apply Kd.R_drewN | apply Kd.R_drew)); exact HO_5.out))) (below_size (by repeat (first | (with_reducible first | exact HB.out | apply below_alloc | apply pw_below_drewN | apply below_drew1) | exact HB.out)))); have n2_ := Aside0.mk (below_step (by repeat (first | (with_reducible first | exact HB.out | apply below_alloc | apply pw_below_drewN | apply below_drew1) | exact HB.out)) hb); clear HO_5; clear HB; have HO_5 := n0_; have HO1014 := n1_; have HB := n2_; clear n0_ n1_ n2_; (try clear hb); (try clear hb2); (try clear hk); (try clear hi); (try clear ho0); obtain ⟨Ao30, co30, eo30⟩ := Kd.R_slice HO1014.out; subst eo30))
                                go_roundg k4
                                case measure => have := HJ3.out; have := HJ14.out; have := HK3.out; have := HK4.out; omega
                                case rel => exact ⟨(wrap64 (x11_4 + (t1011.length : Int))), (wrap64 (x78_4 + 1)), (by first | rfl | (simp; done) | (simp [*]; done)), (by first | rfl | (simp; done) | (simp [*]; done)), H', ⟨by have := HJ3.out; have := HJ14.out; have := HK3.out; have := HK4.out; omega⟩, ⟨by (with_reducible repeat (first | apply Kd.R_alloc | apply Kd.R_drewN | apply Kd.R_drew)); exact Kd.R_mono HO_5.out (fun _ hk => trivial)⟩, ⟨by repeat (first | (with_reducible first | exact HB.out | apply below_alloc | apply pw_below_drewN | apply below_drew1) | exact HB.out)⟩⟩
                              · rw [if_neg c28] at H
                                have c28b0 : (t1012 == 0) = false := beq_eq_false_iff_ne.mpr c28
                                have c28b1 : (t1012 != 0) = true := bne_iff_ne.mpr c28
                                obtain rfl := Option.some.inj H
                                have p1010 : 0 ≤ (x78_4 : Int) := of_decide_eq_true (by first | (with_reducible assumption) | assumption)
                                have q1010 : x78_4 < (t1001.length : Int) := of_decide_eq_true (by first | (with_reducible assumption) | assumption)
                                obtain ⟨ad1010, e1010, hx1010_0⟩ := Kd.at_int (Kd.R_reads' HO_5.out).2.2 x78_4 p1010 q1010
                                cases e1010
                                replace p1010 := eq_true p1010
                                replace q1010 := eq_true q1010
                                go_wp2_with (first | ((with_reducible refine gate_callee (f := 30) rfl ?_); refine goesL_ (some 85) rfl rfl Tryd.func30 (by kernel_rfl) rfl #[.int .i64 a0, .int .i64 (rd t1001 x78_4)] rfl (by (try simp only [List.map_toArray, List.map_cons, List.map_nil]); first | done | rfl | (simp only [List.length_drop, List.length_take]; rfl)) ?_; (with_reducible refine (chords_Class.calls k4 a0 (rd t1001 x78_4) t1011 t1012 _ ?side1 A27.out).mono ?_); (case side1 => exact Tabs.below HT0.out (by repeat (first | (with_reducible first | exact HB.out | apply below_alloc | apply pw_below_drewN | apply below_drew1) | exact HB.out))); rintro e w31 ⟨v1013, rfl, ho0, hb⟩; refine ⟨_, rfl, ?_⟩; have n0_ := Aside0.mk (Kd.R_elder' (by (with_reducible repeat (first | apply Kd.R_alloc | apply Kd.R_drewN | apply Kd.R_drew)); exact HO_5.out) (Kd.R_base ho0) hb); have n1_ := Aside0.mk (Kd.R_lower (Kd.R_new' ho0 (Kd.R_lt (by (with_reducible repeat (first | apply Kd.R_alloc | apply Kd.R_drewN | apply Kd.R_drew)); exact HO_5.out))) (below_size (by repeat (first | (with_reducible first | exact HB.out | apply below_alloc | apply pw_below_drewN | apply below_drew1) | exact HB.out)))); have n2_ := Aside0.mk (below_step (by repeat (first | (with_reducible first | exact HB.out | apply below_alloc | apply pw_below_drewN | apply below_drew1) | exact HB.out)) hb); clear HO_5; clear HB; have HO_5 := n0_; have HO1014 := n1_; have HB := n2_; clear n0_ n1_ n2_; (try clear hb); (try clear hb2); (try clear hk); (try clear hi); (try clear ho0)))
                                go_ret
                                exact ⟨by first | rfl | (simp [errW_none, errW_some] <;> rfl) | (simp [*, errW_none, errW_some] <;> rfl), by repeat (first | (with_reducible first | exact HB.out | apply below_alloc | apply pw_below_drewN | apply below_drew1) | exact HB.out)⟩
                            · rw [if_neg c26] at H
                              exact absurd H (by simp)
                          · rw [if_neg c25] at H
                            exact absurd H (by simp)
                        · rw [if_neg c24] at H
                          have c24b0 : decide (x78_4 < (t1001.length : Int)) = false := decide_eq_false c24
                          clear c24
                          by_cases c32 : x11_4 = x9_3
                          · rw [if_pos c32] at H
                            have c32b0 : (x11_4 == x9_3) = true := beq_iff_eq.mpr c32
                            have c32b1 : (x11_4 != x9_3) = false := bne_eq_false_iff_eq.mpr c32
                            clear c32
                            replace H := Option.bind_eq_some_iff.mp H
                            obtain ⟨t1015, A330, H⟩ := H
                            replace H : (some t1015) = some r := H
                            have A33 := Aside0.mk A330
                            clear A330
                            obtain rfl := Option.some.inj H
                            go_wp2_with (first | (go_at_call 14; (with_reducible refine (sackbutlaw01_awake.calls  t1015 _ A33.out).mono ?_); rintro e w34 ⟨rfl, hb⟩; have n0_ := Aside0.mk (Kd.R_below (by (with_reducible repeat (first | apply Kd.R_alloc | apply Kd.R_drewN | apply Kd.R_drew)); exact HO_5.out) hb); have n1_ := Aside0.mk (below_step (by repeat (first | (with_reducible first | exact HB.out | apply below_alloc | apply pw_below_drewN | apply below_drew1) | exact HB.out)) hb); clear HO_5; clear HB; have HO_5 := n0_; have HB := n1_; clear n0_ n1_; (try clear hb); (try clear hb2); (try clear hk); (try clear hi)))
                            go_ret
                            exact ⟨by first | rfl | (simp [errW_none, errW_some] <;> rfl) | (simp [*, errW_none, errW_some] <;> rfl), by repeat (first | (with_reducible first | exact HB.out | apply below_alloc | apply pw_below_drewN | apply below_drew1) | exact HB.out)⟩
                          · rw [if_neg c32] at H
                            have c32b0 : (x11_4 == x9_3) = false := beq_eq_false_iff_ne.mpr c32
                            have c32b1 : (x11_4 != x9_3) = true := bne_iff_ne.mpr c32
                            obtain rfl := Option.some.inj H
                            go_wp2
                            go_ret
                            exact ⟨by first | rfl | (simp [errW_none, errW_some] <;> rfl) | (simp [*, errW_none, errW_some] <;> rfl), by repeat (first | (with_reducible first | exact HB.out | apply below_alloc | apply pw_below_drewN | apply below_drew1) | exact HB.out)⟩

/-- THE ONE PURE STATEMENT of sackbutlaw01_ChordsCounts: yours. -/
def sackbutlaw01_ChordsCounts.Pure : Prop := ∀ (a0 : Int) (a1 : Int), (Lit.int .i64 a0).wf = true → (Lit.int .i64 a1).wf = true → ∃ k, sackbutlaw01_ChordsCounts.f k a0 a1 = some true
theorem sackbutlaw01_ChordsCounts.walk (P : sackbutlaw01_ChordsCounts.Pure) (a0 : Int) (a1 : Int) (w : World) (hT : Tabs w) (w0 : (Lit.int .i64 a0).wf = true) (w1 : (Lit.int .i64 a1).wf = true) :
    Calls Tryd.prog 8 #[.int .i64 a0, .int .i64 a1] w fun e w' => e = .returned (.bool true) ∧ Below w.heap.size w w' := by
  obtain ⟨k, h⟩ := P a0 a1 w0 w1
  refine (sackbutlaw01_ChordsCounts.calls k a0 a1 true w hT h).mono ?_
  rintro e w' ⟨rfl, hd⟩
  exact ⟨rfl, hd⟩

end Go.Proofs.YtnjmiodnkjabgaaDoor.P
namespace Go.Proofs.YtnjmiodnkjabgaaDoor.P
open Go.RowKit Go.Proofs.YtnjmiodnkjabgaaDoorW.PrintWords Go.Proofs.YtnjmiodnkjabgaaDoorW.PrintLast Go.Proofs.YtnjmiodnkjabgaaDoorW.PrintMore
attribute [local go_sem] max2_int min2_int max_two min_two max_three min_three max_four min_four   -- for this text's walks alone
set_option linter.unusedVariables false
set_option linter.unusedSimpArgs false

/-! awake -/
theorem awake_f : sackbutlaw01_awake.f = some true := by
  unfold sackbutlaw01_awake.f chords_Move.f
  have h : ValidC 4 3 := by decide
  rw [valid1_f]
  simp only [h, decide_true, Option.bind_some, if_true]
  have := move_f (n := 4) (c := 3) 1 (by omega) (by omega) (by decide)
  have e : moveN 4 3 ((1 : Int) % (4 : Nat)).toNat = 6 := by unfold moveN; decide
  rw [e] at this
  rw [show chords_circle_move.f 4 3 1 = some 6 from this]
  rfl

end Go.Proofs.YtnjmiodnkjabgaaDoor.P
namespace Go.Proofs.YtnjmiodnkjabgaaDoor.P
open Go.RowKit Go.Proofs.YtnjmiodnkjabgaaDoorW.PrintWords Go.Proofs.YtnjmiodnkjabgaaDoorW.PrintLast Go.Proofs.YtnjmiodnkjabgaaDoorW.PrintMore
attribute [local go_sem] max2_int min2_int max_two min_two max_three min_three max_four min_four   -- for this text's walks alone
set_option linter.unusedVariables false
set_option linter.unusedSimpArgs false

/-! what Class comes to -/
theorem Class_ev (n c : Int) : Ev (fun k => chords_Class.f k n c) (if ValidC n c then (clsI n.toNat c.toNat, 0) else ([], 2)) := by
  unfold chords_Class.f
  refine Ev.bind_some (valid1_f n c) ?_
  by_cases h : ValidC n c
  · simp only [h, decide_true, if_true]
    obtain ⟨N, C, rfl, rfl, h2, h16, hC⟩ := validC_nat h
    simp only [Int.toNat_natCast]
    refine Ev.bind (images_ev (by omega) (by omega) hC) ?_
    exact Ev.some _
  · simp only [h, decide_false, Bool.false_eq_true, if_false]
    exact Ev.some _

end Go.Proofs.YtnjmiodnkjabgaaDoor.P
namespace Go.Proofs.YtnjmiodnkjabgaaDoor.P
open Go.RowKit Go.Proofs.YtnjmiodnkjabgaaDoorW.PrintWords Go.Proofs.YtnjmiodnkjabgaaDoorW.PrintLast Go.Proofs.YtnjmiodnkjabgaaDoorW.PrintMore
attribute [local go_sem] max2_int min2_int max_two min_two max_three min_three max_four min_four   -- for this text's walks alone
set_option linter.unusedVariables false
set_option linter.unusedSimpArgs false

theorem Primes_f {n s : Nat} (hn : 2 ≤ n) (hn2 : n ≤ 12) (hs : s ≤ n) : chords_Primes.f (n : Int) (s : Int) = some ((prims n s).map Int.ofNat, 0) := by
  unfold chords_Primes.f
  rw [if_pos (by omega), Int.toNat_natCast, Int.toNat_natCast]
  rfl
theorem validC_mk {n c : Nat} (hn : 2 ≤ n) (hn2 : n ≤ 12) (hc : c < 2 ^ n) : ValidC (n : Int) (c : Int) := by
  unfold ValidC
  rw [Int.toNat_natCast]
  have : (c : Int) < ((2 ^ n : Nat) : Int) := by omega
  rw [pow_cast] at this
  exact ⟨by omega, by omega, by omega, this⟩
theorem wrap_sum {a b m : Nat} (h : a + b ≤ m) (hm : m ≤ 1000) : wrap64 ((a : Int) + (b : Int)) = ((a + b : Nat) : Int) := by rw [wrap_id (by omega) (by omega)]; omega
theorem wrap_nxt {a : Nat} (h : a ≤ 4096) : wrap64 ((a : Int) + 1) = ((a + 1 : Nat) : Int) := by rw [wrap_id (by omega) (by omega)]; omega
theorem counts_l1 {n s : Nat} (hn : 2 ≤ n) (hn2 : n ≤ 12) (hs : s ≤ n) (L : List Int) (hL : L = (prims n s).map Int.ofNat) : ∀ (xs pre : List Nat), prims n s = pre ++ xs →
    Ev (fun k => sackbutlaw01_ChordsCounts.l1 k (n : Int) L (wantN n s : Int) (((pre.map fun p => (clsI n p).length).sum : Nat) : Int) (L.length : Int) (pre.length : Int)) true := by
  have htot : ((prims n s).map fun p => (clsI n p).length).sum = wantN n s := by rw [prims_sum (by omega), allOf_len, want_pasc n (by omega) s (by omega) hs]
  have hsm := want_small n (by omega) s (by omega)
  have hLl : L.length = (prims n s).length := by rw [hL, List.length_map]
  have hPl : (prims n s).length ≤ 4096 := by
    unfold prims
    refine Nat.le_trans (List.length_filter_le _ _) ?_
    rw [List.length_range]
    exact Nat.pow_le_pow_right (n := 2) (by omega) hn2
  intro xs
  induction xs with
  | nil =>
    intro pre h
    rw [List.append_nil] at h
    rw [h] at htot hLl
    refine Ev.succ ?_
    simp only [sackbutlaw01_ChordsCounts.l1, if_neg (show ¬ ((pre.length : Nat) : Int) < (L.length : Int) by omega), htot, if_true]
    refine Ev.bind_some awake_f ?_
    exact Ev.some _
  | cons x xs ih =>
    intro pre h
    have hx : x ∈ prims n s := by rw [h]; simp
    obtain ⟨hx1, _, _⟩ := (mem_prims (by omega)).1 hx
    have hl2 : (prims n s).length = pre.length + (xs.length + 1) := by rw [h, List.length_append, List.length_cons]
    have hlt : ((pre.length : Nat) : Int) < (L.length : Int) := Int.ofNat_lt.2 (by rw [hLl, hl2]; exact Nat.lt_add_of_pos_right (Nat.succ_pos _))
    have hl0 : (0 : Int) ≤ ((pre.length : Nat) : Int) := Int.natCast_nonneg _
    have hpl : pre.length ≤ 4096 := Nat.le_trans (by rw [hl2]; exact Nat.le_add_right _ _) hPl
    have hLx : L = pre.map Int.ofNat ++ (x : Int) :: xs.map Int.ofNat := by rw [hL, h, List.map_append]; rfl
    have hrd : rd L (pre.length : Int) = (x : Int) := by
      have := mid_rd hLx
      rwa [List.length_map] at this
    have hcl := Class_ev (n : Int) (x : Int)
    rw [if_pos (validC_mk hn hn2 hx1), Int.toNat_natCast, Int.toNat_natCast] at hcl
    have hle : (pre.map fun p => (clsI n p).length).sum + (clsI n x).length ≤ wantN n s := by
      rw [← htot, h, List.map_append, List.sum_append, List.map_cons, List.sum_cons]
      omega
    have hn1 := ih (pre ++ [x]) (by rw [h, List.append_assoc]; rfl)
    rw [List.map_append, List.sum_append, List.length_append] at hn1
    simp only [List.map_cons, List.map_nil, List.sum_cons, List.sum_nil, Nat.add_zero, List.length_cons, List.length_nil, Nat.zero_add] at hn1
    generalize (pre.map fun p => (clsI n p).length).sum = S at hle hn1 ⊢
    have hw : wrap64 ((S : Int) + ((clsI n x).length : Int)) = ((S + (clsI n x).length : Nat) : Int) := wrap_sum hle hsm
    have hw2 : wrap64 ((pre.length : Int) + 1) = ((pre.length + 1 : Nat) : Int) := wrap_nxt hpl
    refine Ev.succ ?_
    simp only [sackbutlaw01_ChordsCounts.l1, if_pos hlt, if_pos hl0, hrd]
    refine Ev.bind hcl ?_
    simp only [if_true, hw, hw2]
    exact hn1
theorem counts_l0 {n s : Nat} (hn : 2 ≤ n) (hn2 : n ≤ 12) (hs : s ≤ n) (L : List Int) (hend : Ev (fun k => sackbutlaw01_ChordsCounts.l1 k (n : Int) L (wantN n s : Int) 0 (L.length : Int) 0) true) : ∀ (r i : Nat), i + r = s →
    Ev (fun k => sackbutlaw01_ChordsCounts.l0 k (n : Int) L (wantN n i : Int) (s : Int) (i : Int)) true := by
  intro r
  induction r with
  | zero =>
    intro i hi
    have e : i = s := by omega
    subst e
    refine Ev.succ ?_
    simp only [sackbutlaw01_ChordsCounts.l0, if_neg (show ¬ ((i : Nat) : Int) < (i : Int) by omega)]
    exact hend
  | succ r ih =>
    intro i hi
    have hsm := want_small n (by omega) i (by omega)
    have hn1 := ih (i + 1) (by omega)
    have e1 : wrap64 ((i : Int) + 1) = ((i + 1 : Nat) : Int) := by rw [wrap_id (by omega) (by omega)]; omega
    have e2 : wrap64 ((n : Int) - (i : Int)) = ((n - i : Nat) : Int) := by rw [wrap_id (by omega) (by omega)]; omega
    have hm : wantN n i * (n - i) ≤ 1000 * 12 := Nat.mul_le_mul hsm (by omega)
    have e3 : wrap64 ((wantN n i : Int) * ((n - i : Nat) : Int)) = ((wantN n i * (n - i) : Nat) : Int) := by
      rw [← Int.natCast_mul]
      exact wrap_id (by omega) (by omega)
    have e4 : Int.tdiv ((wantN n i * (n - i) : Nat) : Int) ((i + 1 : Nat) : Int) = ((wantN n (i + 1) : Nat) : Int) := by
      rw [wantN_succ, Int.tdiv_eq_ediv_of_nonneg (by omega)]
      rfl
    have hs2 := want_small n (by omega) (i + 1) (by omega)
    have e5 : wrap64 ((wantN n (i + 1) : Nat) : Int) = ((wantN n (i + 1) : Nat) : Int) := wrap_id (by omega) (by omega)
    refine Ev.succ ?_
    simp only [sackbutlaw01_ChordsCounts.l0, if_pos (show ((i : Nat) : Int) < (s : Int) by omega), e1, e2, e3, e4, e5, if_neg (show ¬ ((i + 1 : Nat) : Int) = 0 by omega)]
    exact hn1
theorem ChordsCounts : sackbutlaw01_ChordsCounts.Pure := by
  intro a0 a1 _ _
  refine Ev.rounds (g := fun k => sackbutlaw01_ChordsCounts.f k a0 a1) ?_
  unfold sackbutlaw01_ChordsCounts.f
  by_cases hok : 2 ≤ a0 ∧ a0 ≤ 12 ∧ 0 ≤ a1 ∧ a1 ≤ a0
  · obtain ⟨n, rfl⟩ : ∃ n : Nat, a0 = (n : Int) := ⟨a0.toNat, by omega⟩
    obtain ⟨s, rfl⟩ : ∃ s : Nat, a1 = (s : Int) := ⟨a1.toNat, by omega⟩
    refine Ev.bind_some (Primes_f (by omega) (by omega) (by omega)) ?_
    simp only [if_true, if_neg (show ¬ (n : Int) < 2 by omega), if_neg (show ¬ (n : Int) > 12 by omega), if_neg (show ¬ (s : Int) < 0 by omega), decide_eq_false (show ¬ (s : Int) > (n : Int) by omega)]
    refine Ev.succ ?_
    have e1 : wrap64 ((n : Int) - (s : Int)) = ((n - s : Nat) : Int) := by rw [wrap_id (by omega) (by omega)]; omega
    simp only [sackbutlaw01_ChordsCounts.j0, Bool.false_eq_true, if_false, e1]
    refine Ev.bind_some (Primes_f (n := n) (s := n - s) (by omega) (by omega) (by omega)) ?_
    have e2 : (((((prims n s).map Int.ofNat).length : Nat) : Int) != ((((prims n (n - s)).map Int.ofNat).length : Nat) : Int)) = false := by
      rw [List.length_map, List.length_map, prims_compl (by omega) (by omega)]
      exact bne_self_eq_false _
    simp only [if_true, e2]
    refine Ev.succ ?_
    simp only [sackbutlaw01_ChordsCounts.j1, Bool.false_eq_true, if_false]
    exact counts_l0 (by omega) (by omega) (by omega) _ (counts_l1 (by omega) (by omega) (by omega) _ rfl (prims n s) [] rfl) s 0 (by omega)
  · have hP : chords_Primes.f a0 a1 = some ([], 2) := by unfold chords_Primes.f; rw [if_neg hok]
    refine Ev.bind_some hP ?_
    simp only [if_neg (show ¬ (2 : Int) = 0 by decide)]
    refine Ev.succ ?_
    simp only [sackbutlaw01_ChordsCounts.j0, if_true]
    refine Ev.bind_some awake_f ?_
    exact Ev.some _

end Go.Proofs.YtnjmiodnkjabgaaDoor.P
namespace Go.Proofs.YtnjmiodnkjabgaaDoor.Pure
theorem ChordsCounts : Go.Proofs.YtnjmiodnkjabgaaDoor.P.sackbutlaw01_ChordsCounts.Pure := Go.Proofs.YtnjmiodnkjabgaaDoor.P.ChordsCounts
end Go.Proofs.YtnjmiodnkjabgaaDoor.Pure
namespace Go.Proofs.YtnjmiodnkjabgaaDoor.P
open Go.RowKit Go.Proofs.YtnjmiodnkjabgaaDoorW.PrintWords Go.Proofs.YtnjmiodnkjabgaaDoorW.PrintLast Go.Proofs.YtnjmiodnkjabgaaDoorW.PrintMore
attribute [local go_sem] max2_int min2_int max_two min_two max_three min_three max_four min_four   -- for this text's walks alone
set_option linter.unusedVariables false
set_option linter.unusedSimpArgs false

open Go.ChangeShapes Go.WideShapes Go.ChangeAt Go.WideElems
/-! what the row's listed tables give the walks -/
def doorLaid2 : List (String × DataW Unit) := [("math/bits.deBruijn32tab", Rows.laid_math_bits_deBruijn32tab), ("math/bits.deBruijn64tab", Rows.laid_math_bits_deBruijn64tab)]
theorem door_g64 : Tryd.prog.globalNamed "math/bits.deBruijn64tab" = some 1 := by kernel_rfl
theorem door_t64 : (Tryd.prog.globals[1]?).map (·.type) = some 105 := by kernel_rfl
theorem door_met (os : Os) (args : Array Value) : laidMetH Tryd.prog doorLaid2 ((World.doorLaid Tryd.prog 19 os).forCall (fun _ _ => 0) ⟨#[], args, []⟩).memory :=
  laidMetH_of_parts3 (fuel := 8) (laidMet_of_run' 8 (by kernel_rfl) (by kernel_rfl)) (by kernel_rfl) (by kernel_rfl)
theorem door_tab : (Rows.laid_math_bits_deBruijn64tab : DataW Unit) = .agg (tzTab.map fun (n : Nat) => .lit (.int .u8 (n : Int))) := rfl
theorem door_c8 : Tryd.prog.cellsOf 5 = 1 := by kernel_rfl
theorem tabs_of_laid {W : World} (h : laidMetH Tryd.prog doorLaid2 W) : Tabs W := by
  rw [MakeChecks.laidMetH_plain _ _ _ (by kernel_rfl)] at h
  obtain ⟨ps, ⟨g0, t0, cs0, f0, p0, q0, hg0, ht0, hv0, hd0, ⟨g1, t1, cs1, f1, p1, q1, hg1, ht1, hv1, hd1, _, _⟩, _⟩, _, _⟩ := h
  obtain rfl := Option.some.inj (door_g64.symm.trans hg1)
  obtain rfl := Option.some.inj (door_t64.symm.trans ht1)
  obtain ⟨xs, m1, rfl, hx1, hlen, hn, hel⟩ := DataW.trod_array Tryd.underlying105 hd1
  simp only [Prod.mk.injEq] at hx1
  have hl := hx1.1
  rw [door_tab] at hl
  simp only [DataW.agg.injEq] at hl
  intro i hi
  have h0 := hel i hi
  obtain ⟨x, hx⟩ : ∃ x, xs[i]? = some x := ⟨xs[i], by simp [hn, hi]⟩
  rw [hx] at h0
  obtain ⟨k, e1, e2, _⟩ := DataW.trod_int Tryd.underlying5 h0
  have hk := congrArg (fun l => l[i]?) hl
  simp only [List.getElem?_map, hx, Option.map_some, e2] at hk
  have ht : tzTab[i]? = some (tzTab.getD i 0) := by
    rw [List.getD_eq_getElem?_getD]
    have hlen : tzTab.length = 64 := by decide
    rw [List.getElem?_eq_getElem (by omega)]; rfl
  rw [ht] at hk
  simp only [Option.map_some, Option.some.injEq, DataW.lit.injEq, Lit.int.injEq, true_and] at hk
  rw [door_c8, Nat.mul_one] at e1
  have hc := World.var?_cell hg1 hv1 i
  rw [hc]
  have : cs1.toList[i]? = some (.int .u8 k) := by
    have := congrArg (fun l => l[0]?) e1
    simpa using this
  rw [← Array.getElem?_toList, this, hk]

end Go.Proofs.YtnjmiodnkjabgaaDoor.P
namespace Go.Proofs.YtnjmiodnkjabgaaDoor.chordsCounts
open Go.ChangeShapes Go.WideShapes Go.ChangeAt Go.RowKit
open Go.ChangeMaps (open_string shut_string)
set_option linter.unusedVariables false
theorem own : ownKnob Tryd.prog.godebug = none := by kernel_rfl
set_option maxRecDepth 100000 in
theorem lifted (os : Os) (started : os.Started) (H : Type) (enc : TypeId × Value → H) :
    ReturnsInHanded {} Tryd.checked os 8 .any (fun w args => (Rows.chordsCountsSpec.pre enc Tryd.prog Tryd.f8 [] false w args ∧ laidMetH Tryd.prog P.doorLaid2 w) ∧ sizedMet enc Tryd.prog Tryd.f8 (OpenSpec.ofChange Rows.chordsCountsSpec) false w args) (Rows.chordsCountsSpec.post enc Tryd.prog Tryd.f8 false true false false) := by
  refine returnsInHanded_of_change_and (C := Tryd.checked) (X := fun w _ => laidMetH Tryd.prog P.doorLaid2 w) (fun _ _ _ hh h => h.of_heap hh) own started (by kernel_rfl) Tryd.func8
    (ChangeSpec.witness_shaped (enc := enc) (C := Tryd.checked) (os := os) (X := fun w _ => laidMetH Tryd.prog P.doorLaid2 w) false (World.doorLaid Tryd.prog 19 os) #[.int .i64 0, .int .i64 0] 8 rfl (World.shaped_of_RefB (by kernel_rfl) (by kernel_rfl)) (by kernel_rfl) (by kernel_rfl) (by kernel_rfl) (P.door_met os _)) ?_
  intro W base args ds gs before hval0 hW hcnd hsz0 hL _
  have hsz : (DataW.weightsEach Tryd.prog (Tryd.f8.params.toList ++ Rows.chordsCountsSpec.plain.varTypes Tryd.prog) (ds ++ gs)).all (· ≤ reachBytes) = true := hsz0
  have hval : ∀ (j : Nat) t v, Tryd.f8.params[j]? = some t → args[j]? = some v → Value.okWide Tryd.prog W .any base t v := hval0
  have hW' := hW
  obtain ⟨p, q, hA0, hV, rfl, hfz, hnd⟩ := hW
  have hA : DataW.TrodAll enc Tryd.prog W 0 (fun _ => true) true Tryd.f8.params.toList args.toList ds p := hA0
  rw [Tryd.params8] at hA hval hsz
  obtain ⟨v0, vs0, d0, ds0, p0, q0, hargs, rfl, rfl, h0, r0⟩ := trodAll_cons hA
  obtain ⟨v1, vs1, d1, ds1, p1, q1, rfl, rfl, rfl, h1, r1⟩ := trodAll_cons r0
  obtain ⟨rfl, rfl, rfl⟩ := trodAll_nil r1
  obtain rfl : args = #[v0, v1] := by cases args; simp_all
  obtain ⟨rfl, rfl⟩ := trodVars_none hV
  obtain ⟨a0, rfl, rfl, rfl, w0⟩ := open_int Tryd.underlying3 (hval 0 3 v0 rfl rfl) h0
  obtain ⟨a1, rfl, rfl, rfl, w1⟩ := open_int Tryd.underlying3 (hval 1 3 v1 rfl rfl) h1
  clear hA0 hval0 hsz0 hsz
  refine (P.sackbutlaw01_ChordsCounts.walk Pure.ChordsCounts a0 a1 W (P.tabs_of_laid hL) w0 w1).mono fun e W' ⟨he, bel⟩ => ?_
  subst he
  exact ⟨_, rfl, _, _, _, [], _, [], hW', trodAll_mk1 (shut_bool Tryd.underlying4 _), (trodAll_cons_mk (shut_int Tryd.underlying3 w0) (trodAll_cons_mk (shut_int Tryd.underlying3 w1) trodAll_mk0)), rfl, bel.frame _, fun h => by cases h⟩
theorem over : Rows.chordsCountsRow.holds Tryd.pinned (OpenSpec.ofChange Rows.chordsCountsSpec) :=
  OpenClaim.holds_of_wide 8 Tryd.f8 rfl rfl rfl rfl rfl rfl rfl ⟨rfl, rfl, rfl, rfl, rfl⟩ rfl rfl rfl rfl rfl (by kernel_rfl) Tryd.func8 (by kernel_rfl)
    (of_decide_eq_true (by kernel_rfl)) (by unfold Func.isWrapper; first | (rw [if_pos (by decide +kernel)]; kernel_rfl) | (rw [if_neg (by decide +kernel)]; exact ⟨rfl, rfl⟩))
    (fun os started H enc _ => lifted os started H enc)
theorem proved : Rows.ChordsCountsSaid := over
#print axioms proved
end Go.Proofs.YtnjmiodnkjabgaaDoor.chordsCounts
namespace Go.Proofs.YtnjmiodnkjabgaaDoor
theorem chordsCounts_row : Rows.ChordsCountsSaid := chordsCounts.proved
/-- The tied card, for the claim. -/
theorem chordsCounts_holds : Rows.ChordsCountsCardSaid :=
  Claim7.holds_tied_plain_at .later [] [.data, .data] true (true, "ac7f7780cdb4c7dbab2161a7813cee9650f1d8372274689d9bbe8f184084de4f") false
    chordsCounts_row (fun _ h => by cases h) (by kernel_rfl) (fun _ h => by cases h) chordsCounts_row_tie rfl ⟨rfl, rfl⟩ (by kernel_rfl) rfl
    (fun f fn hf hfn => by
      obtain rfl : f = 8 := Option.some.inj ((show Tryd.prog.funcNamed "sackbut/sackbutlaw01.ChordsCounts" = some 8 by kernel_rfl).symm.trans hf) |>.symm
      obtain rfl : fn = Tryd.f8 := (Option.some.inj (Tryd.func8.symm.trans hfn)).symm
      exact ⟨by kernel_rfl, fun j t ht => by
        rw [Tryd.params8] at ht
        have hm : t ∈ [3, 3] := by simpa using Array.mem_of_getElem? ht
        have hall : ([3, 3].all fun u => !Tryd.prog.wantsStandIn u) = true := by kernel_rfl
        exact (show Tryd.prog.wantsStandIn t = false by simpa using List.all_eq_true.1 hall t hm)⟩)
    (by kernel_rfl)
end Go.Proofs.YtnjmiodnkjabgaaDoor
