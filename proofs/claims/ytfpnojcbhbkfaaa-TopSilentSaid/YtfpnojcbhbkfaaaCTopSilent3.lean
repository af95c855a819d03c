/- A part of a proof that a law's Go function returns true for every input, laid by this session's program mp.py (which drives the kit's print). Conditions: as each theorem states them. -/
import Derived.Shelf.Abstract
import Derived.Lib.SliceRun
import Derived.Test.YtfpnojcbhbkfaaaCTopSilent1
import Derived.Test.YtfpnojcbhbkfaaaCTopSilent2
namespace Go.Proofs.Ytfpnojcbhbkfaaa.P
open Go.RowKit Go.Proofs.YtfpnojcbhbkfaaaW.PrintWords Go.Proofs.YtfpnojcbhbkfaaaW.PrintLast Go.Proofs.YtfpnojcbhbkfaaaW.PrintMore
attribute [local go_sem] max2_int min2_int max_two min_two max_three min_three max_four min_four   -- for this text's walks alone
set_option linter.unusedVariables false
set_option linter.unusedSimpArgs false

/-! ### sackbutref02_Rhythm: function 4 -/
def sackbutref02_Rhythm.f (a0 : Int) (a1 : Int) : Option (Bool) := if a0 ≥ 2 then (if a0 ≤ 24 then (if a1 ≥ 0 then (if 0 ≤ a0 then (if a1 < (shl .i64 1 a0) then (some ((Go.bits .and .i64 a1 1) == 1)) else (some false)) else (none)) else (some false)) else (some false)) else (some false)
set_option maxHeartbeats 8000000 in
set_option maxRecDepth 100000 in
theorem sackbutref02_Rhythm.calls (a0 : Int) (a1 : Int) (r : Bool) (w : World) (h : sackbutref02_Rhythm.f a0 a1 = some r) :
    Calls Try.prog 4 #[.int .i64 a0, .int .i64 a1] w fun e w' => e = .returned (.bool r) ∧ Drawn0 w w' := by
  have H : (if a0 ≥ 2 then (if a0 ≤ 24 then (if a1 ≥ 0 then (if 0 ≤ a0 then (if a1 < (shl .i64 1 a0) then (some ((Go.bits .and .i64 a1 1) == 1)) else (some false)) else (none)) else (some false)) else (some false)) else (some false)) = some r := h
  clear h
  by_cases c3 : a0 ≥ 2
  · rw [if_pos c3] at H
    have c3b0 : decide (2 ≤ a0) = true := decide_eq_true c3
    clear c3
    by_cases c4 : a0 ≤ 24
    · rw [if_pos c4] at H
      have c4b0 : decide (a0 ≤ 24) = true := decide_eq_true c4
      clear c4
      by_cases c5 : a1 ≥ 0
      · rw [if_pos c5] at H
        have c5b0 : decide (0 ≤ a1) = true := decide_eq_true c5
        clear c5
        by_cases c6 : 0 ≤ a0
        · rw [if_pos c6] at H
          have c6b0 := eq_true c6
          have c6b1 : decide (0 ≤ a0) = true := decide_eq_true c6
          clear c6
          obtain ⟨ji7, hji7⟩ : ∃ j_ : Int, (shl .i64 1 a0) = j_ := ⟨_, rfl⟩
          replace H : (if a1 < (ji7) then (some ((Go.bits .and .i64 a1 1) == 1)) else (some false)) = some r := by first | (rw [hji7] at H; exact H) | (simp only [hji7] at H ⊢; exact H)
          have hji7_ : (IntKind.i64.wrap (1 * 2 ^ min a0.toNat 64)) = ji7 := hji7
          have hji7z : a0 ≤ 64 → (IntKind.i64.wrap (1 * 2 ^ a0.toNat)) = ji7 := shl_small hji7
          have hji7u : (IntKind.i64.wrap (2 ^ min a0.toNat 64)) = ji7 := by have h_ := hji7_; rw [Int.one_mul] at h_; exact h_
          have hji7v : a0 ≤ 64 → (IntKind.i64.wrap (2 ^ a0.toNat)) = ji7 := fun hle_ => by have h_ := hji7z hle_; rw [Int.one_mul] at h_; exact h_
          have hji7y : (wrap64 (1 * 2 ^ min a0.toNat 64)) = ji7 := (i64_w _).symm.trans hji7_
          have hji7x : a0 ≤ 64 → (wrap64 (1 * 2 ^ a0.toNat)) = ji7 := fun h_ => (i64_w _).symm.trans (hji7z h_)
          by_cases c8 : a1 < (ji7)
          · rw [if_pos c8] at H
            have c8b0 : decide (a1 < (ji7)) = true := decide_eq_true c8
            clear c8
            obtain rfl := Option.some.inj H
            go_enter Try.func4, Try.ntmps4
            go_wp2
            go_ret
            exact ⟨by first | rfl | (simp; done) | (simp only [← hji7] <;> (first | rfl | simp)) | (simp [*]; done), by repeat (first | exact Drawn0.refl _ | apply Drawn0.step)⟩
          · rw [if_neg c8] at H
            have c8b0 : decide (a1 < (ji7)) = false := decide_eq_false c8
            clear c8
            obtain rfl := Option.some.inj H
            go_enter Try.func4, Try.ntmps4
            go_wp2
            go_ret
            exact ⟨by first | rfl | (simp; done) | (simp only [← hji7] <;> (first | rfl | simp)) | (simp [*]; done), by repeat (first | exact Drawn0.refl _ | apply Drawn0.step)⟩
        · rw [if_neg c6] at H
          exact absurd H (by simp)
      · rw [if_neg c5] at H
        have c5b0 : decide (0 ≤ a1) = false := decide_eq_false c5
        clear c5
        obtain rfl := Option.some.inj H
        go_enter Try.func4, Try.ntmps4
        go_wp2
        go_ret
        exact ⟨by first | rfl | (simp; done) | (simp [*]; done), by repeat (first | exact Drawn0.refl _ | apply Drawn0.step)⟩
    · rw [if_neg c4] at H
      have c4b0 : decide (a0 ≤ 24) = false := decide_eq_false c4
      clear c4
      obtain rfl := Option.some.inj H
      go_enter Try.func4, Try.ntmps4
      go_wp2
      go_ret
      exact ⟨by first | rfl | (simp; done) | (simp [*]; done), by repeat (first | exact Drawn0.refl _ | apply Drawn0.step)⟩
  · rw [if_neg c3] at H
    have c3b0 : decide (2 ≤ a0) = false := decide_eq_false c3
    clear c3
    obtain rfl := Option.some.inj H
    go_enter Try.func4, Try.ntmps4
    go_wp2
    go_ret
    exact ⟨by first | rfl | (simp; done) | (simp [*]; done), by repeat (first | exact Drawn0.refl _ | apply Drawn0.step)⟩

end Go.Proofs.Ytfpnojcbhbkfaaa.P
namespace Go.Proofs.Ytfpnojcbhbkfaaa.P
open Go.RowKit Go.Proofs.YtfpnojcbhbkfaaaW.PrintWords Go.Proofs.YtfpnojcbhbkfaaaW.PrintLast Go.Proofs.YtfpnojcbhbkfaaaW.PrintMore
attribute [local go_sem] max2_int min2_int max_two min_two max_three min_three max_four min_four   -- for this text's walks alone
set_option linter.unusedVariables false
set_option linter.unusedSimpArgs false

/-! ### slices_Equal_int_int: function 11 -/
def slices_Equal_int_int.l0 : Nat → List Int → List Int → Int → Int → Option (Bool)
  | 0, _, _, _, _ => none
  | k + 1, x0, x1, x12, x13 => if x13 < x12 then (if 0 ≤ x13 then (if x13 < (x0.length : Int) then (if x13 < (x1.length : Int) then (if (rd x0 x13) = (rd x1 x13) then (slices_Equal_int_int.l0 k x0 x1 x12 (wrap64 (x13 + 1))) else (some false)) else (none)) else (none)) else (none)) else (some true)
def slices_Equal_int_int.f (k : Nat) (l0 : List Int) (l1 : List Int) : Option (Bool) := if (l0.length : Int) = (l1.length : Int) then (slices_Equal_int_int.l0 k l0 l1 (l0.length : Int) 0) else (some false)
theorem slices_Equal_int_int.mono_l : ∀ k, (∀ y0 y1 y2 y3, LeO (slices_Equal_int_int.l0 k y0 y1 y2 y3) (slices_Equal_int_int.l0 (k + 1) y0 y1 y2 y3))
  | 0 => fun _ _ _ _ r h => by simp [slices_Equal_int_int.l0] at h
  | k + 1 => by
    have ih0 := slices_Equal_int_int.mono_l k
    · intro y0 y1 y2 y3
      unfold slices_Equal_int_int.l0
      repeat' first
      | (with_reducible exact ih0 _ _ _ _)
      | (with_reducible exact LeO.refl _)
      | (with_reducible exact LeO.none _)
      | (with_reducible refine LeO.ite ?_ ?_)
      | (with_reducible refine LeO.bind ?_ (fun _ => ?_))
      | exact ih0 _ _ _ _
      | exact LeO.none _
      | refine LeO.ite ?_ ?_
      | refine LeO.bind ?_ (fun _ => ?_)
theorem slices_Equal_int_int.mono : ∀ a0 a1 k, LeO (slices_Equal_int_int.f k a0 a1) (slices_Equal_int_int.f (k + 1) a0 a1) := by
  intro a0 a1 k
  have ih0 := slices_Equal_int_int.mono_l k
  unfold slices_Equal_int_int.f
  repeat' first
      | (with_reducible exact ih0 _ _ _ _)
      | (with_reducible exact LeO.refl _)
      | (with_reducible exact LeO.none _)
      | (with_reducible refine LeO.ite ?_ ?_)
      | (with_reducible refine LeO.bind ?_ (fun _ => ?_))
      | exact ih0 _ _ _ _
      | exact LeO.none _
      | refine LeO.ite ?_ ?_
      | refine LeO.bind ?_ (fun _ => ?_)
set_option maxHeartbeats 8000000 in
set_option maxRecDepth 100000 in
theorem slices_Equal_int_int.calls (k : Nat) (A0 : Option Addr) (c0 : Nat) (l0 : List Int) (A1 : Option Addr) (c1 : Nat) (l1 : List Int) (r : Bool) (w : World) (hr0 : Kd.C (Kd.int .i64) w A0 l0.length l0) (hc0 : l0.length ≤ c0) (hr1 : Kd.C (Kd.int .i64) w A1 l1.length l1) (hc1 : l1.length ≤ c1) (h : slices_Equal_int_int.f k l0 l1 = some r) :
    Calls Try.prog 11 #[.slice A0 l0.length c0, .slice A1 l1.length c1] w fun e w' => e = .returned (.bool r) ∧ Drawn0 w w' := by
  have HR0 := Aside0.mk hr0
  have HC0 := Aside0.mk hc0
  clear hr0 hc0
  have HR1 := Aside0.mk hr1
  have HC1 := Aside0.mk hc1
  clear hr1 hc1
  have H : (if (l0.length : Int) = (l1.length : Int) then (slices_Equal_int_int.l0 k l0 l1 (l0.length : Int) 0) else (some false)) = some r := h
  clear h
  by_cases c3 : (l0.length : Int) = (l1.length : Int)
  · rw [if_pos c3] at H
    have c3b0 : ((l0.length : Int) == (l1.length : Int)) = true := beq_iff_eq.mpr c3
    have c3b1 : ((l0.length : Int) != (l1.length : Int)) = false := bne_eq_false_iff_eq.mpr c3
    have c3b2 : (l0.length == l1.length) = true := by first | simpa using c3 | (simp at c3 ⊢; omega)
    clear c3
    have H' := Aside0.mk H
    clear H
    go_enter Try.func11, Try.ntmps11
    go_wp2
    repeat (go_quiet (fail); try go_wp2)
    go_loopg [13] k (fun kq v13 w' => ∃ (x13_1 : Int), v13 = .int .i64 x13_1 ∧ Aside0 (slices_Equal_int_int.l0 kq l0 l1 (l0.length : Int) x13_1 = some r) ∧ Aside0 (kq ≤ k) ∧ Drawn0 w w')
    case atStart => exact ⟨(0), (by first | rfl | (simp; done) | (simp [*]; done)), H', ⟨Nat.le_refl _⟩, by repeat (first | exact Drawn0.refl _ | apply Drawn0.step)⟩
    case round =>
      clear H'
      try clear c1
      try clear p2
      try clear c3
      try clear c3b0
      try clear c3b1
      try clear c3b2
      obtain ⟨x13_1, rfl, HA, HK1, ⟨m1, rfl⟩⟩ := hrel
      cases gk with
      | zero => exact absurd HA.out (by simp [slices_Equal_int_int.l0])
      | succ k1 =>
        have H := HA.out
        clear HA
        simp only [slices_Equal_int_int.l0] at H
        by_cases c4 : x13_1 < (l0.length : Int)
        · rw [if_pos c4] at H
          have c4b0 : decide (x13_1 < (l0.length : Int)) = true := decide_eq_true c4
          clear c4
          by_cases c5 : 0 ≤ x13_1
          · rw [if_pos c5] at H
            have c5b0 : decide (0 ≤ x13_1) = true := decide_eq_true c5
            clear c5
            by_cases c6 : x13_1 < (l0.length : Int)
            · rw [if_pos c6] at H
              have c6b0 : decide (x13_1 < (l0.length : Int)) = true := decide_eq_true c6
              clear c6
              by_cases c7 : x13_1 < (l1.length : Int)
              · rw [if_pos c7] at H
                have c7b0 : decide (x13_1 < (l1.length : Int)) = true := decide_eq_true c7
                clear c7
                by_cases c8 : (rd l0 x13_1) = (rd l1 x13_1)
                · rw [if_pos c8] at H
                  have c8b0 : ((rd l0 x13_1) == (rd l1 x13_1)) = true := beq_iff_eq.mpr c8
                  have c8b1 : ((rd l0 x13_1) != (rd l1 x13_1)) = false := bne_eq_false_iff_eq.mpr c8
                  clear c8
                  have H' := Aside0.mk H
                  clear H
                  have p1001 : 0 ≤ (x13_1 : Int) := of_decide_eq_true (by first | (with_reducible assumption) | assumption)
                  have q1001 : x13_1 < (l0.length : Int) := of_decide_eq_true (by first | (with_reducible assumption) | assumption)
                  obtain ⟨ad1001, e1001, hx1001_0⟩ := Kd.at_int HR0.out x13_1 p1001 q1001
                  cases e1001
                  replace p1001 := eq_true p1001
                  replace q1001 := eq_true q1001
                  have p1002 : 0 ≤ (x13_1 : Int) := of_decide_eq_true (by first | (with_reducible assumption) | assumption)
                  have q1002 : x13_1 < (l1.length : Int) := of_decide_eq_true (by first | (with_reducible assumption) | assumption)
                  obtain ⟨ad1002, e1002, hx1002_0⟩ := Kd.at_int HR1.out x13_1 p1002 q1002
                  cases e1002
                  replace p1002 := eq_true p1002
                  replace q1002 := eq_true q1002
                  go_wp2
                  repeat (go_quiet (fail); try go_wp2)
                  go_roundg k1
                  case measure => have := HK1.out; omega
                  case rel => exact ⟨(wrap64 (x13_1 + 1)), (by first | rfl | (simp; done) | (simp [*]; done)), H', ⟨by have := HK1.out; omega⟩, by repeat (first | exact Drawn0.refl _ | apply Drawn0.step)⟩
                · rw [if_neg c8] at H
                  have c8b0 : ((rd l0 x13_1) == (rd l1 x13_1)) = false := beq_eq_false_iff_ne.mpr c8
                  have c8b1 : ((rd l0 x13_1) != (rd l1 x13_1)) = true := bne_iff_ne.mpr c8
                  obtain rfl := Option.some.inj H
                  have p1001 : 0 ≤ (x13_1 : Int) := of_decide_eq_true (by first | (with_reducible assumption) | assumption)
                  have q1001 : x13_1 < (l0.length : Int) := of_decide_eq_true (by first | (with_reducible assumption) | assumption)
                  obtain ⟨ad1001, e1001, hx1001_0⟩ := Kd.at_int HR0.out x13_1 p1001 q1001
                  cases e1001
                  replace p1001 := eq_true p1001
                  replace q1001 := eq_true q1001
                  have p1002 : 0 ≤ (x13_1 : Int) := of_decide_eq_true (by first | (with_reducible assumption) | assumption)
                  have q1002 : x13_1 < (l1.length : Int) := of_decide_eq_true (by first | (with_reducible assumption) | assumption)
                  obtain ⟨ad1002, e1002, hx1002_0⟩ := Kd.at_int HR1.out x13_1 p1002 q1002
                  cases e1002
                  replace p1002 := eq_true p1002
                  replace q1002 := eq_true q1002
                  go_wp2
                  repeat (go_quiet (fail); try go_wp2)
                  go_ret
                  exact ⟨by first | rfl | (simp; done) | (simp [*]; done), by repeat (first | exact Drawn0.refl _ | apply Drawn0.step)⟩
              · rw [if_neg c7] at H
                exact absurd H (by simp)
            · rw [if_neg c6] at H
              exact absurd H (by simp)
          · rw [if_neg c5] at H
            exact absurd H (by simp)
        · rw [if_neg c4] at H
          have c4b0 : decide (x13_1 < (l0.length : Int)) = false := decide_eq_false c4
          clear c4
          obtain rfl := Option.some.inj H
          go_wp2
          repeat (go_quiet (fail); try go_wp2)
          go_ret
          exact ⟨by first | rfl | (simp; done) | (simp [*]; done), by repeat (first | exact Drawn0.refl _ | apply Drawn0.step)⟩
  · rw [if_neg c3] at H
    have c3b0 : ((l0.length : Int) == (l1.length : Int)) = false := beq_eq_false_iff_ne.mpr c3
    have c3b1 : ((l0.length : Int) != (l1.length : Int)) = true := bne_iff_ne.mpr c3
    have c3b2 : (l0.length == l1.length) = false := by first | simpa using c3 | (simp at c3 ⊢; omega)
    obtain rfl := Option.some.inj H
    go_enter Try.func11, Try.ntmps11
    go_wp2
    repeat (go_quiet (fail); try go_wp2)
    go_ret
    exact ⟨by first | rfl | (simp; done) | (simp [*]; done), by repeat (first | exact Drawn0.refl _ | apply Drawn0.step)⟩

end Go.Proofs.Ytfpnojcbhbkfaaa.P
namespace Go.Proofs.Ytfpnojcbhbkfaaa.P
open Go.RowKit Go.Proofs.YtfpnojcbhbkfaaaW.PrintWords Go.Proofs.YtfpnojcbhbkfaaaW.PrintLast Go.Proofs.YtfpnojcbhbkfaaaW.PrintMore
attribute [local go_sem] max2_int min2_int max_two min_two max_three min_three max_four min_four   -- for this text's walks alone
set_option linter.unusedVariables false
set_option linter.unusedSimpArgs false

/-! ### sackbuttop_turns: function 5 -/
def sackbuttop_turns.f (k : Nat)  : Option (Bool) := (wheels_Spectrum.f 4 (([0, 1, 0, 0] : List Int))).bind fun bt1004 => (if bt1004.2 = 0 then ((slices_Equal_int_int.f k bt1004.1 (([1, 5, 12, 8] : List Int))).bind fun t1011 => (some t1011)) else (some false))
theorem sackbuttop_turns.mono : ∀ k, LeO (sackbuttop_turns.f k ) (sackbuttop_turns.f (k + 1) ) := by
  intro  k
  unfold sackbuttop_turns.f
  repeat' first
      | (with_reducible exact slices_Equal_int_int.mono _ _ _)
      | (with_reducible exact LeO.refl _)
      | (with_reducible exact LeO.none _)
      | (with_reducible refine LeO.ite ?_ ?_)
      | (with_reducible refine LeO.bind ?_ (fun _ => ?_))
      | exact slices_Equal_int_int.mono _ _ _
      | exact LeO.none _
      | refine LeO.ite ?_ ?_
      | refine LeO.bind ?_ (fun _ => ?_)
set_option maxHeartbeats 8000000 in
set_option maxRecDepth 100000 in
theorem sackbuttop_turns.calls (k : Nat)  (r : Bool) (w : World) (h : sackbuttop_turns.f k  = some r) :
    Calls Try.prog 5 #[] w fun e w' => e = .returned (.bool r) ∧ Below w.heap.size w w' := by
  have HB := Aside0.mk (Below.refl w.heap.size w)
  have H : ((wheels_Spectrum.f 4 (([0, 1, 0, 0] : List Int))).bind fun bt1004 => (if bt1004.2 = 0 then ((slices_Equal_int_int.f k bt1004.1 (([1, 5, 12, 8] : List Int))).bind fun t1011 => (some t1011)) else (some false))) = some r := h
  clear h
  obtain ⟨y1001, hy1001⟩ : ∃ y_ : List Int, y_ = (([0, 1, 0, 0] : List Int)) := ⟨_, rfl⟩
  replace H : ((wheels_Spectrum.f 4 y1001).bind fun bt1004 => (if bt1004.2 = 0 then ((slices_Equal_int_int.f k bt1004.1 (([1, 5, 12, 8] : List Int))).bind fun t1011 => (some t1011)) else (some false))) = some r := by first | (rw [hy1001]; with_reducible exact H) | (have H2_ := (Option.bind_some _ _).symm.trans H; rw [hy1001]; with_reducible exact H2_) | (have H2_ := (Option.bind_some _ _).symm.trans H; with_reducible exact H2_) | with_reducible exact H | (rw [hy1001]; exact H) | exact H
  have Ny1001 := Aside0.mk hy1001
  clear hy1001
  replace H := Option.bind_eq_some_iff.mp H
  obtain ⟨⟨t1004, t1005⟩, A10, H⟩ := H
  replace H : (if t1005 = 0 then ((slices_Equal_int_int.f k t1004 (([1, 5, 12, 8] : List Int))).bind fun t1011 => (some t1011)) else (some false)) = some r := H
  have A1 := Aside0.mk A10
  clear A10
  by_cases c2 : t1005 = 0
  · rw [if_pos c2] at H
    have c2b0 : (t1005 == 0) = true := beq_iff_eq.mpr c2
    have c2b1 : (t1005 != 0) = false := bne_eq_false_iff_eq.mpr c2
    clear c2
    obtain ⟨y1008, hy1008⟩ : ∃ y_ : List Int, y_ = (([1, 5, 12, 8] : List Int)) := ⟨_, rfl⟩
    replace H : ((slices_Equal_int_int.f k t1004 y1008).bind fun t1011 => (some t1011)) = some r := by first | (rw [hy1008]; with_reducible exact H) | (have H2_ := (Option.bind_some _ _).symm.trans H; rw [hy1008]; with_reducible exact H2_) | (have H2_ := (Option.bind_some _ _).symm.trans H; with_reducible exact H2_) | with_reducible exact H | (rw [hy1008]; exact H) | exact H
    have Ny1008 := Aside0.mk hy1008
    clear hy1008
    replace H := Option.bind_eq_some_iff.mp H
    obtain ⟨t1011, A30, H⟩ := H
    replace H : (some t1011) = some r := H
    have A3 := Aside0.mk A30
    clear A30
    obtain rfl := Option.some.inj H
    go_enter Try.func5, Try.ntmps5
    go_wp2_with (first | ((with_reducible refine gate_dst (N := 4) rfl ?_); (try (refine gate_guard (by rfl) ?_; dsimp only)); refine Kd.R_lit (Kd.int .i64) _ 3 ?hg (N := 4) ?hd (xs := ([0, 1, 0, 0] : List Int)) (inner := [.int .i64 0, .int .i64 1, .int .i64 0, .int .i64 0]) (ok := fun _ => True) (okp := fun _ => True) ?hr ?hp (fun _ hk => hk) trivial (Below.refl _ _) (Nat.le_refl _) (by simp) ?_; (case hd => rfl); (case hg => rfl); (case hr => first | (go_simp; done) | (go_simp; rfl)); (case hp => exact (Reps.one (show Kd.M (Kd.int .i64) _ _ _ 0 [.int .i64 0] from rfl) (Reps.one (show Kd.M (Kd.int .i64) _ _ _ 1 [.int .i64 1] from rfl) (Reps.one (show Kd.M (Kd.int .i64) _ _ _ 0 [.int .i64 0] from rfl) (Reps.one (show Kd.M (Kd.int .i64) _ _ _ 0 [.int .i64 0] from rfl) (Reps.none _ _)))))); intro v1002 w4 ho5 hb hg_ hnew_; clear hg_ hnew_; (first | rw [← Ny1001.out] at ho5 | (simp only [Int.reduceToNat] at ho5; rw [← Ny1001.out] at ho5)); have n0_ := Aside0.mk (Kd.R_lower ho5 (below_size (by repeat (first | (with_reducible first | exact HB.out | apply below_alloc | apply pw_below_drewN | apply below_drew1) | exact HB.out)))); have n1_ := Aside0.mk (below_step (by repeat (first | (with_reducible first | exact HB.out | apply below_alloc | apply pw_below_drewN | apply below_drew1) | exact HB.out)) hb); clear HB; have HO1003 := n0_; have HB := n1_; clear n0_ n1_; clear hb ho5; obtain ⟨Ao6, co6, eo6⟩ := Kd.R_slice HO1003.out; subst eo6) | ((with_reducible refine gate_callee (f := 10) rfl ?_); refine goesL_ (some 5) rfl rfl Try.func10 (by kernel_rfl) rfl #[.int .i64 4, .slice Ao6 y1001.length co6] rfl (by (try simp only [List.map_toArray, List.map_cons, List.map_nil]); first | done | rfl | (simp only [List.length_drop, List.length_take]; rfl)) ?_; (with_reducible refine (wheels_Spectrum.calls 4 _ _ y1001 t1004 t1005 _ ?side1 ?side2 A1.out).mono ?_); (case side1 => repeat (first | exact (Kd.R_reads' HO1003.out).2.2 | (with_reducible refine Kd.C_alloc ?_ _) | (with_reducible refine Kd.C_drewN ?_ _) | (with_reducible refine Kd.C_drew ?_))); (case side2 => exact (Kd.R_reads' HO1003.out).2.1); rintro e w7 ⟨v1006, rfl, ho0, hb⟩; refine ⟨_, rfl, ?_⟩; have n0_ := Aside0.mk (Kd.R_elder' (by (with_reducible repeat (first | apply Kd.R_alloc | apply Kd.R_drewN | apply Kd.R_drew)); exact HO1003.out) (Kd.R_base ho0) hb); have n1_ := Aside0.mk (Kd.R_lower (Kd.R_new' ho0 (Kd.R_lt (by (with_reducible repeat (first | apply Kd.R_alloc | apply Kd.R_drewN | apply Kd.R_drew)); exact HO1003.out))) (below_size (by repeat (first | (with_reducible first | exact HB.out | apply below_alloc | apply pw_below_drewN | apply below_drew1) | exact HB.out)))); have n2_ := Aside0.mk (below_step (by repeat (first | (with_reducible first | exact HB.out | apply below_alloc | apply pw_below_drewN | apply below_drew1) | exact HB.out)) hb); clear HO1003; clear HB; have HO1003 := n0_; have HO1007 := n1_; have HB := n2_; clear n0_ n1_ n2_; (try clear hb); (try clear hb2); (try clear hk); (try clear hi); (try clear ho0)) | ((with_reducible refine gate_dst (N := 12) rfl ?_); (try (refine gate_guard (by rfl) ?_; dsimp only)); refine Kd.R_lit (Kd.int .i64) _ 3 ?hg (N := 12) ?hd (xs := ([1, 5, 12, 8] : List Int)) (inner := [.int .i64 1, .int .i64 5, .int .i64 12, .int .i64 8]) (ok := fun _ => True) (okp := fun _ => True) ?hr ?hp (fun _ hk => hk) trivial (Below.refl _ _) (Nat.le_refl _) (by simp) ?_; (case hd => rfl); (case hg => rfl); (case hr => first | (go_simp; done) | (go_simp; rfl)); (case hp => exact (Reps.one (show Kd.M (Kd.int .i64) _ _ _ 1 [.int .i64 1] from rfl) (Reps.one (show Kd.M (Kd.int .i64) _ _ _ 5 [.int .i64 5] from rfl) (Reps.one (show Kd.M (Kd.int .i64) _ _ _ 12 [.int .i64 12] from rfl) (Reps.one (show Kd.M (Kd.int .i64) _ _ _ 8 [.int .i64 8] from rfl) (Reps.none _ _)))))); intro v1009 w8 ho9 hb hg_ hnew_; clear hg_ hnew_; (first | rw [← Ny1008.out] at ho9 | (simp only [Int.reduceToNat] at ho9; rw [← Ny1008.out] at ho9)); have n0_ := Aside0.mk (Kd.R_elder' (by (with_reducible repeat (first | apply Kd.R_alloc | apply Kd.R_drewN | apply Kd.R_drew)); exact HO1003.out) (Kd.R_base ho9) hb); have n1_ := Aside0.mk (Kd.R_elder' (by (with_reducible repeat (first | apply Kd.R_alloc | apply Kd.R_drewN | apply Kd.R_drew)); exact HO1007.out) (Kd.R_base ho9) hb); have n2_ := Aside0.mk (Kd.R_lower (Kd.R_new' (Kd.R_new' ho9 (Kd.R_lt (by (with_reducible repeat (first | apply Kd.R_alloc | apply Kd.R_drewN | apply Kd.R_drew)); exact HO1003.out))) (Kd.R_lt (by (with_reducible repeat (first | apply Kd.R_alloc | apply Kd.R_drewN | apply Kd.R_drew)); exact HO1007.out))) (below_size (by repeat (first | (with_reducible first | exact HB.out | apply below_alloc | apply pw_below_drewN | apply below_drew1) | exact HB.out)))); have n3_ := Aside0.mk (below_step (by repeat (first | (with_reducible first | exact HB.out | apply below_alloc | apply pw_below_drewN | apply below_drew1) | exact HB.out)) hb); clear HO1003; clear HO1007; clear HB; have HO1003 := n0_; have HO1007 := n1_; have HO1010 := n2_; have HB := n3_; clear n0_ n1_ n2_ n3_; clear hb ho9; obtain ⟨Ao10, co10, eo10⟩ := Kd.R_slice HO1007.out; subst eo10; obtain ⟨Ao11, co11, eo11⟩ := Kd.R_slice HO1010.out; subst eo11) | (go_at_call 11; (with_reducible refine (slices_Equal_int_int.calls k _ _ t1004 _ _ y1008 t1011 _ ?side1 ?side2 ?side3 ?side4 A3.out).mono ?_); (case side1 => repeat (first | exact (Kd.R_reads' HO1007.out).2.2 | (with_reducible refine Kd.C_alloc ?_ _) | (with_reducible refine Kd.C_drewN ?_ _) | (with_reducible refine Kd.C_drew ?_))); (case side2 => exact (Kd.R_reads' HO1007.out).2.1); (case side3 => repeat (first | exact (Kd.R_reads' HO1010.out).2.2 | (with_reducible refine Kd.C_alloc ?_ _) | (with_reducible refine Kd.C_drewN ?_ _) | (with_reducible refine Kd.C_drew ?_))); (case side4 => exact (Kd.R_reads' HO1010.out).2.1); rintro e w' ⟨rfl, ⟨nd, rfl⟩⟩))
    go_ret
    exact ⟨by first | rfl | (simp [errW_none, errW_some] <;> rfl) | (simp [*, errW_none, errW_some] <;> rfl), by repeat (first | (with_reducible first | exact HB.out | apply below_alloc | apply pw_below_drewN | apply below_drew1) | exact HB.out)⟩
  · rw [if_neg c2] at H
    have c2b0 : (t1005 == 0) = false := beq_eq_false_iff_ne.mpr c2
    have c2b1 : (t1005 != 0) = true := bne_iff_ne.mpr c2
    obtain rfl := Option.some.inj H
    go_enter Try.func5, Try.ntmps5
    go_wp2_with (first | ((with_reducible refine gate_dst (N := 4) rfl ?_); (try (refine gate_guard (by rfl) ?_; dsimp only)); refine Kd.R_lit (Kd.int .i64) _ 3 ?hg (N := 4) ?hd (xs := ([0, 1, 0, 0] : List Int)) (inner := [.int .i64 0, .int .i64 1, .int .i64 0, .int .i64 0]) (ok := fun _ => True) (okp := fun _ => True) ?hr ?hp (fun _ hk => hk) trivial (Below.refl _ _) (Nat.le_refl _) (by simp) ?_; (case hd => rfl); (case hg => rfl); (case hr => first | (go_simp; done) | (go_simp; rfl)); (case hp => exact (Reps.one (show Kd.M (Kd.int .i64) _ _ _ 0 [.int .i64 0] from rfl) (Reps.one (show Kd.M (Kd.int .i64) _ _ _ 1 [.int .i64 1] from rfl) (Reps.one (show Kd.M (Kd.int .i64) _ _ _ 0 [.int .i64 0] from rfl) (Reps.one (show Kd.M (Kd.int .i64) _ _ _ 0 [.int .i64 0] from rfl) (Reps.none _ _)))))); intro v1002 w12 ho13 hb hg_ hnew_; clear hg_ hnew_; (first | rw [← Ny1001.out] at ho13 | (simp only [Int.reduceToNat] at ho13; rw [← Ny1001.out] at ho13)); have n0_ := Aside0.mk (Kd.R_lower ho13 (below_size (by repeat (first | (with_reducible first | exact HB.out | apply below_alloc | apply pw_below_drewN | apply below_drew1) | exact HB.out)))); have n1_ := Aside0.mk (below_step (by repeat (first | (with_reducible first | exact HB.out | apply below_alloc | apply pw_below_drewN | apply below_drew1) | exact HB.out)) hb); clear HB; have HO1003 := n0_; have HB := n1_; clear n0_ n1_; clear hb ho13; obtain ⟨Ao14, co14, eo14⟩ := Kd.R_slice HO1003.out; subst eo14) | ((with_reducible refine gate_callee (f := 10) rfl ?_); refine goesL_ (some 5) rfl rfl Try.func10 (by kernel_rfl) rfl #[.int .i64 4, .slice Ao14 y1001.length co14] rfl (by (try simp only [List.map_toArray, List.map_cons, List.map_nil]); first | done | rfl | (simp only [List.length_drop, List.length_take]; rfl)) ?_; (with_reducible refine (wheels_Spectrum.calls 4 _ _ y1001 t1004 t1005 _ ?side1 ?side2 A1.out).mono ?_); (case side1 => repeat (first | exact (Kd.R_reads' HO1003.out).2.2 | (with_reducible refine Kd.C_alloc ?_ _) | (with_reducible refine Kd.C_drewN ?_ _) | (with_reducible refine Kd.C_drew ?_))); (case side2 => exact (Kd.R_reads' HO1003.out).2.1); rintro e w15 ⟨v1006, rfl, ho0, hb⟩; refine ⟨_, rfl, ?_⟩; have n0_ := Aside0.mk (Kd.R_elder' (by (with_reducible repeat (first | apply Kd.R_alloc | apply Kd.R_drewN | apply Kd.R_drew)); exact HO1003.out) (Kd.R_base ho0) hb); have n1_ := Aside0.mk (Kd.R_lower (Kd.R_new' ho0 (Kd.R_lt (by (with_reducible repeat (first | apply Kd.R_alloc | apply Kd.R_drewN | apply Kd.R_drew)); exact HO1003.out))) (below_size (by repeat (first | (with_reducible first | exact HB.out | apply below_alloc | apply pw_below_drewN | apply below_drew1) | exact HB.out)))); have n2_ := Aside0.mk (below_step (by repeat (first | (with_reducible first | exact HB.out | apply below_alloc | apply pw_below_drewN | apply below_drew1) | exact HB.out)) hb); clear HO1003; clear HB; have HO1003 := n0_; have HO1007 := n1_; have HB := n2_; clear n0_ n1_ n2_; (try clear hb); (try clear hb2); (try clear hk); (try clear hi); (try clear ho0)))
    go_ret
    exact ⟨by first | rfl | (simp [errW_none, errW_some] <;> rfl) | (simp [*, errW_none, errW_some] <;> rfl), by repeat (first | (with_reducible first | exact HB.out | apply below_alloc | apply pw_below_drewN | apply below_drew1) | exact HB.out)⟩

end Go.Proofs.Ytfpnojcbhbkfaaa.P
namespace Go.Proofs.Ytfpnojcbhbkfaaa.P
open Go.RowKit Go.Proofs.YtfpnojcbhbkfaaaW.PrintWords Go.Proofs.YtfpnojcbhbkfaaaW.PrintLast Go.Proofs.YtfpnojcbhbkfaaaW.PrintMore
attribute [local go_sem] max2_int min2_int max_two min_two max_three min_three max_four min_four   -- for this text's walks alone
set_option linter.unusedVariables false
set_option linter.unusedSimpArgs false

/-! slices.IndexFunc and ContainsFunc at ints, whatever the predicate -/
def idxP (p : Int → Bool) (l : List Int) : Int := if l.any p then (l.findIdx p : Int) else -1
/-- Called with a number in any later world, the function value answers as p does; it only draws. -/
def GivesBool (g : Nat) (lb : Array Value) (p : Int → Bool) (w : World) : Prop :=
  ∀ (W : World) (x : Int), Below w.heap.size w W → Calls Try.prog g (#[.int .i64 x] ++ lb) W fun e w' => e = .returned (.bool (p x)) ∧ Drawn0 W w'
set_option maxHeartbeats 2000000 in
set_option maxRecDepth 100000 in
theorem IndexFunc_calls (p : Int → Bool) (g : Nat) (lb : Array Value) (eg : ∀ args w, (callFunc g args).run Try.prog w = .ok (.enter g args) w) (A0 : Option Addr) (c0 : Nat) (l0 : List Int) (w : World)
    (hr0 : Kd.C (Kd.int .i64) w A0 l0.length l0) (hp : GivesBool g lb p w) (hm : l0.length ≤ 9223372036854775807) :
    Calls Try.prog 36 #[.slice A0 l0.length c0, .func (.func g) #[] lb] w fun e w' => e = .returned (.int .i64 (idxP p l0)) ∧ Drawn0 w w' := by
  have HR := Aside0.mk hr0
  have hpAt : ∀ (x : Int) (q : Nat), Calls Try.prog g (#[.int .i64 x] ++ lb) (w.drewN q) fun e w' => e = .returned (.bool (p x)) ∧ Drawn0 (w.drewN q) w' := fun x q => hp _ x (pw_below_drewN (Below.refl _ w) q)
  have HP := Aside0.mk hpAt
  clear hp hpAt hr0
  go_enter Try.func36, Try.ntmps36
  go_wp2
  go_loopg [8] l0.length (fun gg s8 wr => ∃ (kk q : Nat), s8 = .int .i64 kk ∧ wr = w.drewN q ∧ Aside0 (kk + gg = l0.length) ∧ Aside0 ((l0.take kk).any p = false))
  case atStart => exact ⟨0, 0, rfl, rfl, ⟨by omega⟩, ⟨by simp⟩⟩
  case round =>
    obtain ⟨kk, q, rfl, rfl, HK, HA⟩ := hrel
    by_cases hlt : kk < l0.length
    · have hltz : (kk : Int) < (l0.length : Int) := by omega
      obtain ⟨ad, ead, hcell0⟩ := Kd.at_int HR.out (kk : Int) (by omega) hltz
      rw [rd_get hlt] at hcell0
      rw [Int.toNat_natCast] at hcell0
      cases ead
      generalize hy : l0[kk] = y at hcell0
      have Hy := Aside0.mk hy
      clear hy
      have hcall := HP.out y
      have hsplit : l0 = l0.take kk ++ y :: l0.drop (kk + 1) := by
        rw [← Hy.out]
        conv => lhs; rw [← List.take_append_drop kk l0]
        rw [List.drop_eq_getElem_cons hlt]
      have HS := Aside0.mk hsplit
      clear hsplit
      cases hq : p y with
      | true =>
        have Hq := Aside0.mk hq
        rw [hq] at hcall
        clear hq
        go_wp2_with (refine (hcall _).mono ?_; rintro e w' ⟨rfl, ⟨q', rfl⟩⟩)
        go_ret
        have h1 : l0.any p = true := by rw [HS.out]; simp [Hq.out]
        have h2 : l0.findIdx p = kk := by
          rw [HS.out, List.findIdx_append]
          have h3 : (l0.take kk).findIdx p = (l0.take kk).length := List.findIdx_eq_length.2 (fun x hx => by
            have := HA.out; rw [List.any_eq_false] at this; simpa using this x hx)
          have h4 : (l0.take kk).length = kk := by rw [List.length_take]; omega
          rw [h3, if_neg (by omega), List.findIdx_cons, Hq.out, h4]
          simp
        refine ⟨?_, ⟨_, rfl⟩⟩
        unfold idxP
        rw [h1, if_pos rfl, h2]; rfl
      | false =>
        have Hq := Aside0.mk hq
        rw [hq] at hcall
        clear hq
        go_wp2_with (refine (hcall _).mono ?_; rintro e w' ⟨rfl, ⟨q', rfl⟩⟩)
        go_roundg (gk - 1)
        case measure => have := HK.out; omega
        case rel =>
          refine ⟨kk + 1, _, by go_num, rfl, ⟨by have := HK.out; omega⟩, ⟨?_⟩⟩
          rw [List.take_succ_eq_append_getElem hlt, List.any_append, HA.out, Hy.out]
          simp [Hq.out]
    · have hltz : ¬ (kk : Int) < (l0.length : Int) := by omega
      have h0 : l0.any p = false := by
        have h := HA.out
        rwa [List.take_of_length_le (by omega)] at h
      have H0 := Aside0.mk h0
      clear h0
      go_wp2
      go_ret
      refine ⟨?_, ⟨_, rfl⟩⟩
      unfold idxP
      rw [H0.out, if_neg (by simp)]; rfl
set_option maxHeartbeats 1000000 in
theorem ContainsFunc_calls (p : Int → Bool) (g : Nat) (lb : Array Value) (eg : ∀ args w, (callFunc g args).run Try.prog w = .ok (.enter g args) w) (A0 : Option Addr) (c0 : Nat) (l0 : List Int) (w : World)
    (hr0 : Kd.C (Kd.int .i64) w A0 l0.length l0) (hp : GivesBool g lb p w) (hm : l0.length ≤ 9223372036854775807) :
    Calls Try.prog 18 #[.slice A0 l0.length c0, .func (.func g) #[] lb] w fun e w' => e = .returned (.bool (l0.any p)) ∧ Drawn0 w w' := by
  have HC := Aside0.mk (IndexFunc_calls p g lb eg A0 c0 l0 w hr0 hp hm)
  clear hp hr0
  go_enter Try.func18, Try.ntmps18
  cases hq : l0.any p with
  | true =>
    have Hq := Aside0.mk hq
    have hc := HC.out
    rw [show idxP p l0 = ((l0.findIdx p : Nat) : Int) by unfold idxP; rw [hq, if_pos rfl]] at hc
    have hpos : (0 : Int) ≤ ((l0.findIdx p : Nat) : Int) := by omega
    clear hq
    go_wp2_with (go_at_call 36; refine hc.mono ?_; rintro e w' ⟨rfl, ⟨q', rfl⟩⟩)
    go_ret
    exact ⟨by simp, ⟨_, rfl⟩⟩
  | false =>
    have Hq := Aside0.mk hq
    have hc := HC.out
    rw [show idxP p l0 = -1 by unfold idxP; rw [hq, if_neg (by simp)]] at hc
    clear hq
    go_wp2_with (go_at_call 36; refine hc.mono ?_; rintro e w' ⟨rfl, ⟨q', rfl⟩⟩)
    go_ret
    exact ⟨by simp, ⟨_, rfl⟩⟩

end Go.Proofs.Ytfpnojcbhbkfaaa.P
namespace Go.Proofs.Ytfpnojcbhbkfaaa.P
/-! Counting bits, as math/bits does it, for numbers of three bytes. Plain Lean. -/
def pop1 (x : Nat) : Nat := (x / 2 &&& 6148914691236517205) + (x &&& 6148914691236517205)
def pop2 (x : Nat) : Nat := (x / 4 &&& 3689348814741910323) + (x &&& 3689348814741910323)
def pop3 (x : Nat) : Nat := (x / 16 + x) &&& 1085102592571150095
def pop4 (x : Nat) : Nat := x + x / 256
def pop5 (x : Nat) : Nat := x + x / 65536
def pop6 (x : Nat) : Nat := x + x / 4294967296
def pop64 (x : Nat) : Nat := pop6 (pop5 (pop4 (pop3 (pop2 (pop1 x))))) &&& 127
/-- how many of the numbers below n are in the set -/
def cntBits (n a : Nat) : Nat := (List.range n).countP a.testBit

theorem lane_and {q b M m : Nat} (hb : b < 256) (hm : m < 256) : (256 * q + b) &&& (256 * M + m) = 256 * (q &&& M) + (b &&& m) := by
  refine Nat.eq_of_testBit_eq fun i => ?_
  have hbm : b &&& m < 256 := Nat.lt_of_le_of_lt Nat.and_le_left hb
  rw [Nat.testBit_and]
  rw [show (256 : Nat) = 2 ^ 8 from rfl] at *
  rw [Nat.testBit_two_pow_mul_add _ hb, Nat.testBit_two_pow_mul_add _ hm, Nat.testBit_two_pow_mul_add _ hbm]
  split <;> rw [Nat.testBit_and]
theorem d1 : ∀ t, t < 2 → ∀ b, b < 256 → (128 * t + b / 2) &&& 85 = (b / 2) &&& 85 := by decide +kernel
theorem d2 : ∀ t, t < 4 → ∀ b, b < 256 → (64 * t + b / 4) &&& 51 = (b / 4) &&& 51 := by decide +kernel
def b1 (b : Nat) : Nat := (b / 2 &&& 85) + (b &&& 85)
def b2 (b : Nat) : Nat := (b / 4 &&& 51) + (b &&& 51)
theorem b1_lt : ∀ b, b < 256 → b1 b < 256 := by decide +kernel
theorem b12 : ∀ b, b < 256 → b2 (b1 b) % 16 ≤ 4 ∧ b2 (b1 b) / 16 ≤ 4 ∧ b2 (b1 b) % 16 + b2 (b1 b) / 16 = cntBits 8 b := by decide +kernel
theorem step1 {q b M : Nat} (hb : b < 256) : ((256 * q + b) / 2 &&& (256 * M + 85)) + ((256 * q + b) &&& (256 * M + 85)) = 256 * ((q / 2 &&& M) + (q &&& M)) + b1 b := by
  have e : (256 * q + b) / 2 = 256 * (q / 2) + (128 * (q % 2) + b / 2) := by omega
  rw [e, lane_and (by omega) (by omega), lane_and hb (by omega), d1 _ (by omega) _ hb]
  unfold b1; omega
theorem step2 {q b M : Nat} (hb : b < 256) : ((256 * q + b) / 4 &&& (256 * M + 51)) + ((256 * q + b) &&& (256 * M + 51)) = 256 * ((q / 4 &&& M) + (q &&& M)) + b2 b := by
  have e : (256 * q + b) / 4 = 256 * (q / 4) + (64 * (q % 4) + b / 4) := by omega
  rw [e, lane_and (by omega) (by omega), lane_and hb (by omega), d2 _ (by omega) _ hb]
  unfold b2; omega
theorem low1 {b M : Nat} (hb : b < 256) : (b / 2 &&& (256 * M + 85)) + (b &&& (256 * M + 85)) = b1 b := by
  have := step1 (q := 0) (M := M) hb
  simpa using this
theorem low2 {b M : Nat} (hb : b < 256) : (b / 4 &&& (256 * M + 51)) + (b &&& (256 * M + 51)) = b2 b := by
  have := step2 (q := 0) (M := M) hb
  simpa using this
theorem pop1_three {x y z : Nat} (hx : x < 256) (hy : y < 256) (hz : z < 256) : pop1 (256 * (256 * z + y) + x) = 256 * (256 * b1 z + b1 y) + b1 x := by
  unfold pop1
  have h1 := step1 (q := 256 * z + y) (M := 24019198012642645) hx
  have h2 := step1 (q := z) (M := 93824992236885) hy
  have h3 := low1 (M := 366503875925) hz
  simp only [Nat.reduceMul, Nat.reduceAdd] at h1 h2 h3
  rw [h1, h2, h3]
theorem pop2_three {x y z : Nat} (hx : x < 256) (hy : y < 256) (hz : z < 256) : pop2 (256 * (256 * z + y) + x) = 256 * (256 * b2 z + b2 y) + b2 x := by
  unfold pop2
  have h1 := step2 (q := 256 * z + y) (M := 14411518807585587) hx
  have h2 := step2 (q := z) (M := 56294995342131) hy
  have h3 := low2 (M := 219902325555) hz
  simp only [Nat.reduceMul, Nat.reduceAdd] at h1 h2 h3
  rw [h1, h2, h3]
theorem and15 (x : Nat) : x &&& 15 = x % 16 := by
  have := Nat.and_two_pow_sub_one_eq_mod x 4
  simpa using this
theorem pop3_three {x y z : Nat} (hx : x % 16 ≤ 4 ∧ x / 16 ≤ 4) (hy : y % 16 ≤ 4 ∧ y / 16 ≤ 4) (hz : z % 16 ≤ 4 ∧ z / 16 ≤ 4) :
    pop3 (256 * (256 * z + y) + x) = 256 * (256 * (z % 16 + z / 16) + (y % 16 + y / 16)) + (x % 16 + x / 16) := by
  unfold pop3
  have e : (256 * (256 * z + y) + x) / 16 + (256 * (256 * z + y) + x) = 256 * (256 * (z + z / 16) + (y + y / 16 + 16 * (z % 16))) + (x + x / 16 + 16 * (y % 16)) := by omega
  have m : (1085102592571150095 : Nat) = 256 * (256 * (256 * 64677154575 + 15) + 15) + 15 := by decide
  rw [e, m, lane_and (by omega) (by omega), lane_and (by omega) (by omega)]
  have m2 : z + z / 16 &&& (256 * 64677154575 + 15) = (z % 16 + z / 16) := by
    have := lane_and (q := 0) (b := z + z / 16) (M := 64677154575) (m := 15) (by omega) (by omega)
    simp only [Nat.mul_zero, Nat.zero_add, Nat.zero_and] at this
    rw [this, and15]; omega
  rw [m2, and15, and15]
  clear e m m2
  have h1 : (x + x / 16 + 16 * (y % 16)) % 16 = x % 16 + x / 16 := by omega
  have h2 : (y + y / 16 + 16 * (z % 16)) % 16 = y % 16 + y / 16 := by omega
  rw [h1, h2]
theorem pop64_three {x y z : Nat} (hx : x < 256) (hy : y < 256) (hz : z < 256) : pop64 (256 * (256 * z + y) + x) = cntBits 8 x + cntBits 8 y + cntBits 8 z := by
  unfold pop64
  have a := b12 x hx; have b := b12 y hy; have c := b12 z hz
  rw [pop1_three hx hy hz, pop2_three (b1_lt x hx) (b1_lt y hy) (b1_lt z hz), pop3_three ⟨a.1, a.2.1⟩ ⟨b.1, b.2.1⟩ ⟨c.1, c.2.1⟩, a.2.2, b.2.2, c.2.2]
  have a8 : cntBits 8 x ≤ 8 := by have := a.2.2; omega
  have b8 : cntBits 8 y ≤ 8 := by have := b.2.2; omega
  have c8 : cntBits 8 z ≤ 8 := by have := c.2.2; omega
  have m : ∀ t : Nat, t &&& 127 = t % 128 := fun t => by
    have := Nat.and_two_pow_sub_one_eq_mod t 7
    simpa using this
  rw [m]
  unfold pop6 pop5 pop4
  generalize cntBits 8 x = p at *
  generalize cntBits 8 y = q at *
  generalize cntBits 8 z = r at *
  clear a b c m hx hy hz
  have e1 : (256 * (256 * r + q) + p) / 256 = 256 * r + q := by omega
  have e2 : (256 * (256 * r + q) + p + (256 * r + q)) / 65536 = r := by omega
  have e3 : (256 * (256 * r + q) + p + (256 * r + q) + r) / 4294967296 = 0 := by omega
  rw [e1, e2, e3]
  omega
theorem cntBits_lane (n b q : Nat) (hb : b < 256) : cntBits (8 + n) (256 * q + b) = cntBits 8 b + cntBits n q := by
  unfold cntBits
  rw [List.range_add, List.countP_append, List.countP_map]
  have e1 : (List.range 8).countP (256 * q + b).testBit = (List.range 8).countP b.testBit := List.countP_congr (fun i hi => by
    rw [show (256 : Nat) = 2 ^ 8 from rfl] at *
    rw [Nat.testBit_two_pow_mul_add _ hb, if_pos (List.mem_range.1 hi)])
  have e2 : (List.range n).countP ((256 * q + b).testBit ∘ fun x => 8 + x) = (List.range n).countP q.testBit := List.countP_congr (fun i _ => by
    rw [show (256 : Nat) = 2 ^ 8 from rfl] at *
    show (2 ^ 8 * q + b).testBit (8 + i) = true ↔ _
    rw [Nat.testBit_two_pow_mul_add _ hb, if_neg (by omega), show 8 + i - 8 = i by omega])
  rw [e1, e2]
theorem cntBits_more {n m a : Nat} (h : a < 2 ^ n) (hm : n ≤ m) : cntBits m a = cntBits n a := by
  obtain ⟨d, rfl⟩ : ∃ d, m = n + d := ⟨m - n, by omega⟩
  unfold cntBits
  rw [List.range_add, List.countP_append, List.countP_map]
  have : (List.range d).countP (a.testBit ∘ fun x => n + x) = 0 := by
    rw [List.countP_eq_zero]
    intro i _
    have : a < 2 ^ (n + i) := Nat.lt_of_lt_of_le h (Nat.pow_le_pow_right (by omega) (by omega))
    simp [Nat.testBit_lt_two_pow this]
  omega
/-- for a set of at most 24 numbers math/bits counts its elements -/
theorem pop64_cnt {n a : Nat} (hn : n ≤ 24) (h : a < 2 ^ n) : pop64 a = cntBits n a := by
  have h24 : a < 2 ^ 24 := Nat.lt_of_lt_of_le h (Nat.pow_le_pow_right (by omega) hn)
  rw [← cntBits_more h hn]
  have e : a = 256 * (256 * (a / 65536) + a / 256 % 256) + a % 256 := by omega
  have h3 : a / 65536 < 256 := by have : (2 : Nat) ^ 24 = 16777216 := by decide
                                  omega
  rw [e, pop64_three (by omega) (by omega) h3, show 24 = 8 + (8 + 8) from rfl, cntBits_lane _ _ _ (by omega), cntBits_lane _ _ _ (by omega)]
  omega
end Go.Proofs.Ytfpnojcbhbkfaaa.P
namespace Go.Proofs.Ytfpnojcbhbkfaaa.P
open Go.RowKit Go.Proofs.YtfpnojcbhbkfaaaW.PrintWords Go.Proofs.YtfpnojcbhbkfaaaW.PrintLast Go.Proofs.YtfpnojcbhbkfaaaW.PrintMore
attribute [local go_sem] max2_int min2_int max_two min_two max_three min_three max_four min_four   -- for this text's walks alone
set_option linter.unusedVariables false
set_option linter.unusedSimpArgs false

def badBeat (n : Int) (c : Int) : Bool := decide (c < 0) || (decide (c ≥ shl .i64 1 n) || decide (Go.bits .and .i64 c 1 = 0))
def canon_circle_valid.f (a0 : Int) (l1 : List Int) : Option Bool := if a0 ≥ 2 then (if a0 ≤ 24 then (if l1.length < 17592186044416 then some (!(l1.any (badBeat a0))) else none) else some false) else some false
set_option maxHeartbeats 1000000 in
theorem canon_valid1 (n x : Int) (B : Nat) (W : World) (h2 : 2 ≤ n) (h24 : n ≤ 24) (hc : W.cell? ⟨B, 0, none⟩ = some (.int .i64 n)) :
    Calls Try.prog 19 #[.int .i64 x, .pointer (some ⟨B, 0, none⟩)] W fun e w' => e = .returned (.bool (badBeat n x)) ∧ Drawn0 W w' := by
  obtain ⟨j, hj⟩ : ∃ j : Int, shl .i64 1 n = j := ⟨_, rfl⟩
  have e1 : IntKind.i64.wrap (2 ^ n.toNat) = j := by rw [← hj]; unfold shl; rw [Nat.min_eq_left (by show n.toNat ≤ 64; omega), Int.one_mul]
  have e2 : wrap64 (2 ^ n.toNat) = j := by rw [← e1]; exact (i64_w _).symm
  have e3 : IntKind.i64.wrap (1 * 2 ^ n.toNat) = j := by rw [Int.one_mul]; exact e1
  have n0 : (0 : Int) ≤ n := by omega
  have n64 : n ≤ 64 := by omega
  have hn : n.toNat ≤ 64 := by omega
  by_cases c1 : x < 0
  · have c1b : decide (x < 0) = true := decide_eq_true c1
    have hf : badBeat n x = true := by unfold badBeat; rw [c1b]; rfl
    have HF := Aside0.mk hf
    clear hf hj
    go_enter Try.func19, Try.ntmps19
    go_wp2
    go_ret
    exact ⟨by rw [HF.out]; rfl, Drawn0.refl _⟩
  · have c1b : decide (x < 0) = false := decide_eq_false c1
    by_cases c2 : x ≥ j
    · have c2b : decide (x ≥ j) = true := decide_eq_true c2
      have hf : badBeat n x = true := by unfold badBeat; rw [c1b, hj, c2b]; rfl
      have HF := Aside0.mk hf
      clear hf hj
      go_enter Try.func19, Try.ntmps19
      go_wp2
      go_ret
      exact ⟨by rw [HF.out]; rfl, Drawn0.refl _⟩
    · have c2b : decide (x ≥ j) = false := decide_eq_false c2
      have hf : badBeat n x = decide (Go.bits .and .i64 x 1 = 0) := by unfold badBeat; rw [c1b, hj, c2b]; rfl
      have HF := Aside0.mk hf
      clear hf hj
      go_enter Try.func19, Try.ntmps19
      go_wp2
      go_ret
      exact ⟨by rw [HF.out]; rfl, Drawn0.refl _⟩
set_option maxHeartbeats 2000000 in
theorem canon_circle_valid.calls (a0 : Int) (A1 : Option Addr) (c1 : Nat) (l1 : List Int) (r : Bool) (w : World) (hr1 : Kd.C (Kd.int .i64) w A1 l1.length l1) (hc1 : l1.length ≤ c1) (h : canon_circle_valid.f a0 l1 = some r) :
    Calls Try.prog 12 #[.int .i64 a0, .slice A1 l1.length c1] w fun e w' => e = .returned (.bool r) ∧ Below w.heap.size w w' := by
  have HR := Aside0.mk hr1
  clear hr1
  unfold canon_circle_valid.f at h
  by_cases h2 : a0 ≥ 2
  · rw [if_pos h2] at h
    by_cases h24 : a0 ≤ 24
    · rw [if_pos h24] at h
      have hl : l1.length < 17592186044416 := by
        rcases Nat.lt_or_ge l1.length 17592186044416 with hl | hl
        · exact hl
        · rw [if_neg (by omega)] at h; cases h
      rw [if_pos hl] at h
      have hf := Option.some.inj h
      clear h
      have d2 : decide (a0 ≥ 2) = true := decide_eq_true h2
      have d2' : decide (2 ≤ a0) = true := decide_eq_true h2
      have d24 : decide (a0 ≤ 24) = true := decide_eq_true h24
      have HP : GivesBool 19 #[.pointer (some ⟨w.heap.size, 0, none⟩)] (badBeat a0) (w.alloc (.cells #[.int .i64 a0] 36)) := fun W x hb => by
        have hc : W.cell? ⟨w.heap.size, 0, none⟩ = some (.int .i64 a0) := (hb.cell (p := ⟨w.heap.size, 0, none⟩) (by simp)).trans (by simp)
        exact canon_valid1 a0 x w.heap.size W (by omega) h24 hc
      have eg : ∀ args w, (callFunc 19 args).run Try.prog w = .ok (.enter 19 args) w := enters_of Try.func19 (by kernel_rfl) rfl
      have HC := ContainsFunc_calls (badBeat a0) 19 #[.pointer (some ⟨w.heap.size, 0, none⟩)] eg A1 c1 l1 (w.alloc (.cells #[.int .i64 a0] 36)) (Kd.C_alloc HR.out _) HP (by omega)
      have HCa := Aside0.mk HC
      clear HC HP hl
      cases hq : l1.any (badBeat a0) with
      | true =>
        rw [hq] at hf
        have HCb := HCa.out
        rw [hq] at HCb
        clear hq HCa
        subst hf
        go_enter Try.func12, Try.ntmps12
        go_wp2_with (go_at_call 18; refine HCb.mono ?_; rintro e w' ⟨rfl, ⟨q', rfl⟩⟩)
        go_ret
        exact ⟨by simp, pw_below_drewN (below_alloc (Below.refl _ _) _) _⟩
      | false =>
        rw [hq] at hf
        have HCb := HCa.out
        rw [hq] at HCb
        clear hq HCa
        subst hf
        go_enter Try.func12, Try.ntmps12
        go_wp2_with (go_at_call 18; refine HCb.mono ?_; rintro e w' ⟨rfl, ⟨q', rfl⟩⟩)
        go_ret
        exact ⟨by simp, pw_below_drewN (below_alloc (Below.refl _ _) _) _⟩
    · rw [if_neg h24] at h
      have hf := Option.some.inj h
      subst hf
      have d2' : decide (2 ≤ a0) = true := decide_eq_true h2
      have d24 : decide (a0 ≤ 24) = false := decide_eq_false h24
      clear h
      go_enter Try.func12, Try.ntmps12
      go_wp2
      go_ret
      exact ⟨rfl, below_alloc (Below.refl _ _) _⟩
  · rw [if_neg h2] at h
    have hf := Option.some.inj h
    subst hf
    have d2' : decide (2 ≤ a0) = false := decide_eq_false h2
    clear h
    go_enter Try.func12, Try.ntmps12
    go_wp2
    go_ret
    exact ⟨rfl, below_alloc (Below.refl _ _) _⟩

end Go.Proofs.Ytfpnojcbhbkfaaa.P
namespace Go.Proofs.Ytfpnojcbhbkfaaa.P
open Go.RowKit Go.Proofs.YtfpnojcbhbkfaaaW.PrintWords Go.Proofs.YtfpnojcbhbkfaaaW.PrintLast Go.Proofs.YtfpnojcbhbkfaaaW.PrintMore
attribute [local go_sem] max2_int min2_int max_two min_two max_three min_three max_four min_four   -- for this text's walks alone
set_option linter.unusedVariables false
set_option linter.unusedSimpArgs false

/-! slices.IndexFunc and ContainsFunc at ints, whatever the predicate -/
def idxPY (p : Int → Bool) (l : List Int) : Int := if l.any p then (l.findIdx p : Int) else -1
/-- Called with a number in any later world, the function value answers as p does; it only draws. -/
def GivesBoolY (g : Nat) (lb : Array Value) (p : Int → Bool) (w : World) : Prop :=
  ∀ (W : World) (x : Int), Below w.heap.size w W → Calls Try.prog g (#[.int .i64 x] ++ lb) W fun e w' => e = .returned (.bool (p x)) ∧ Drawn0 W w'
set_option maxHeartbeats 2000000 in
set_option maxRecDepth 100000 in
theorem IndexFunc_callsY (p : Int → Bool) (g : Nat) (lb : Array Value) (eg : ∀ args w, (callFunc g args).run Try.prog w = .ok (.enter g args) w) (A0 : Option Addr) (c0 : Nat) (l0 : List Int) (w : World)
    (hr0 : Kd.C (Kd.int .i64) w A0 l0.length l0) (hp : GivesBoolY g lb p w) (hm : l0.length ≤ 9223372036854775807) :
    Calls Try.prog 45 #[.slice A0 l0.length c0, .func (.func g) #[] lb] w fun e w' => e = .returned (.int .i64 (idxPY p l0)) ∧ Drawn0 w w' := by
  have HR := Aside0.mk hr0
  have hpAt : ∀ (x : Int) (q : Nat), Calls Try.prog g (#[.int .i64 x] ++ lb) (w.drewN q) fun e w' => e = .returned (.bool (p x)) ∧ Drawn0 (w.drewN q) w' := fun x q => hp _ x (pw_below_drewN (Below.refl _ w) q)
  have HP := Aside0.mk hpAt
  clear hp hpAt hr0
  go_enter Try.func45, Try.ntmps45
  go_wp2
  go_loopg [8] l0.length (fun gg s8 wr => ∃ (kk q : Nat), s8 = .int .i64 kk ∧ wr = w.drewN q ∧ Aside0 (kk + gg = l0.length) ∧ Aside0 ((l0.take kk).any p = false))
  case atStart => exact ⟨0, 0, rfl, rfl, ⟨by omega⟩, ⟨by simp⟩⟩
  case round =>
    obtain ⟨kk, q, rfl, rfl, HK, HA⟩ := hrel
    by_cases hlt : kk < l0.length
    · have hltz : (kk : Int) < (l0.length : Int) := by omega
      obtain ⟨ad, ead, hcell0⟩ := Kd.at_int HR.out (kk : Int) (by omega) hltz
      rw [rd_get hlt] at hcell0
      rw [Int.toNat_natCast] at hcell0
      cases ead
      generalize hy : l0[kk] = y at hcell0
      have Hy := Aside0.mk hy
      clear hy
      have hcall := HP.out y
      have hsplit : l0 = l0.take kk ++ y :: l0.drop (kk + 1) := by
        rw [← Hy.out]
        conv => lhs; rw [← List.take_append_drop kk l0]
        rw [List.drop_eq_getElem_cons hlt]
      have HS := Aside0.mk hsplit
      clear hsplit
      cases hq : p y with
      | true =>
        have Hq := Aside0.mk hq
        rw [hq] at hcall
        clear hq
        go_wp2_with (refine (hcall _).mono ?_; rintro e w' ⟨rfl, ⟨q', rfl⟩⟩)
        go_ret
        have h1 : l0.any p = true := by rw [HS.out]; simp [Hq.out]
        have h2 : l0.findIdx p = kk := by
          rw [HS.out, List.findIdx_append]
          have h3 : (l0.take kk).findIdx p = (l0.take kk).length := List.findIdx_eq_length.2 (fun x hx => by
            have := HA.out; rw [List.any_eq_false] at this; simpa using this x hx)
          have h4 : (l0.take kk).length = kk := by rw [List.length_take]; omega
          rw [h3, if_neg (by omega), List.findIdx_cons, Hq.out, h4]
          simp
        refine ⟨?_, ⟨_, rfl⟩⟩
        unfold idxPY
        rw [h1, if_pos rfl, h2]; rfl
      | false =>
        have Hq := Aside0.mk hq
        rw [hq] at hcall
        clear hq
        go_wp2_with (refine (hcall _).mono ?_; rintro e w' ⟨rfl, ⟨q', rfl⟩⟩)
        go_roundg (gk - 1)
        case measure => have := HK.out; omega
        case rel =>
          refine ⟨kk + 1, _, by go_num, rfl, ⟨by have := HK.out; omega⟩, ⟨?_⟩⟩
          rw [List.take_succ_eq_append_getElem hlt, List.any_append, HA.out, Hy.out]
          simp [Hq.out]
    · have hltz : ¬ (kk : Int) < (l0.length : Int) := by omega
      have h0 : l0.any p = false := by
        have h := HA.out
        rwa [List.take_of_length_le (by omega)] at h
      have H0 := Aside0.mk h0
      clear h0
      go_wp2
      go_ret
      refine ⟨?_, ⟨_, rfl⟩⟩
      unfold idxPY
      rw [H0.out, if_neg (by simp)]; rfl
set_option maxHeartbeats 1000000 in
theorem ContainsFunc_callsY (p : Int → Bool) (g : Nat) (lb : Array Value) (eg : ∀ args w, (callFunc g args).run Try.prog w = .ok (.enter g args) w) (A0 : Option Addr) (c0 : Nat) (l0 : List Int) (w : World)
    (hr0 : Kd.C (Kd.int .i64) w A0 l0.length l0) (hp : GivesBoolY g lb p w) (hm : l0.length ≤ 9223372036854775807) :
    Calls Try.prog 39 #[.slice A0 l0.length c0, .func (.func g) #[] lb] w fun e w' => e = .returned (.bool (l0.any p)) ∧ Drawn0 w w' := by
  have HC := Aside0.mk (IndexFunc_callsY p g lb eg A0 c0 l0 w hr0 hp hm)
  clear hp hr0
  go_enter Try.func39, Try.ntmps39
  cases hq : l0.any p with
  | true =>
    have Hq := Aside0.mk hq
    have hc := HC.out
    rw [show idxPY p l0 = ((l0.findIdx p : Nat) : Int) by unfold idxPY; rw [hq, if_pos rfl]] at hc
    have hpos : (0 : Int) ≤ ((l0.findIdx p : Nat) : Int) := by omega
    clear hq
    go_wp2_with (go_at_call 45; refine hc.mono ?_; rintro e w' ⟨rfl, ⟨q', rfl⟩⟩)
    go_ret
    exact ⟨by simp, ⟨_, rfl⟩⟩
  | false =>
    have Hq := Aside0.mk hq
    have hc := HC.out
    rw [show idxPY p l0 = -1 by unfold idxPY; rw [hq, if_neg (by simp)]] at hc
    clear hq
    go_wp2_with (go_at_call 45; refine hc.mono ?_; rintro e w' ⟨rfl, ⟨q', rfl⟩⟩)
    go_ret
    exact ⟨by simp, ⟨_, rfl⟩⟩

end Go.Proofs.Ytfpnojcbhbkfaaa.P
namespace Go.Proofs.Ytfpnojcbhbkfaaa.P
open Go.RowKit Go.Proofs.YtfpnojcbhbkfaaaW.PrintWords Go.Proofs.YtfpnojcbhbkfaaaW.PrintLast Go.Proofs.YtfpnojcbhbkfaaaW.PrintMore
attribute [local go_sem] max2_int min2_int max_two min_two max_three min_three max_four min_four   -- for this text's walks alone
set_option linter.unusedVariables false
set_option linter.unusedSimpArgs false

/-! polynomial.zero -/
def notZ (c : Int) : Bool := decide (c ≠ 0)
def canon_polynomial_zero.f (l0 : List Int) : Option Bool := some (!(l0.any notZ))
theorem notZ_gives (w : World) : GivesBoolY 40 #[] notZ w := by
  intro W x hb
  show Calls Try.prog 40 #[.int .i64 x] W _
  by_cases h : x = 0
  · have hz : (x != 0) = false := by simp [h]
    have hf : notZ x = false := decide_eq_false (fun e => e h)
    have HF := Aside0.mk hf
    clear h hf
    go_enter Try.func40, Try.ntmps40
    go_wp2
    go_ret
    exact ⟨by rw [HF.out]; first | rfl | simp [hz], Drawn0.refl _⟩
  · have hz : (x != 0) = true := by simp [h]
    have hf : notZ x = true := decide_eq_true h
    have HF := Aside0.mk hf
    clear h hf
    go_enter Try.func40, Try.ntmps40
    go_wp2
    go_ret
    exact ⟨by rw [HF.out]; first | rfl | simp [hz], Drawn0.refl _⟩
theorem canon_polynomial_zero.calls (A0 : Option Addr) (c0 : Nat) (l0 : List Int) (r : Bool) (w : World) (hr0 : Kd.C (Kd.int .i64) w A0 l0.length l0) (hc0 : l0.length ≤ c0) (h : canon_polynomial_zero.f l0 = some r) :
    Calls Try.prog 23 #[.slice A0 l0.length c0] w fun e w' => e = .returned (.bool r) ∧ Below w.heap.size w w' := by
  unfold canon_polynomial_zero.f at h
  injection h with h
  have HC := Aside0.mk (ContainsFunc_callsY notZ 40 #[] (enters_of Try.func40 (by kernel_rfl) rfl) A0 c0 l0 w hr0 (notZ_gives w) hr0.2.1)
  have H := Aside0.mk h
  clear hr0 h
  cases hq : l0.any notZ with
  | true =>
    rw [hq] at HC H
    clear hq
    go_enter Try.func23, Try.ntmps23
    go_wp2_with (go_at_call 39; refine HC.out.mono ?_; rintro e w' ⟨rfl, ⟨q', rfl⟩⟩)
    go_ret
    exact ⟨by rw [← H.out]; rfl, pw_below_drewN (Below.refl _ _) q'⟩
  | false =>
    rw [hq] at HC H
    clear hq
    go_enter Try.func23, Try.ntmps23
    go_wp2_with (go_at_call 39; refine HC.out.mono ?_; rintro e w' ⟨rfl, ⟨q', rfl⟩⟩)
    go_ret
    exact ⟨by rw [← H.out]; rfl, pw_below_drewN (Below.refl _ _) q'⟩

end Go.Proofs.Ytfpnojcbhbkfaaa.P
namespace Go.Proofs.Ytfpnojcbhbkfaaa.P
open Go.RowKit Go.Proofs.YtfpnojcbhbkfaaaW.PrintWords Go.Proofs.YtfpnojcbhbkfaaaW.PrintLast Go.Proofs.YtfpnojcbhbkfaaaW.PrintMore
attribute [local go_sem] max2_int min2_int max_two min_two max_three min_three max_four min_four   -- for this text's walks alone
set_option linter.unusedVariables false
set_option linter.unusedSimpArgs false

/-! ### canon_circle_of: function 20 -/
def canon_circle_of.l0 : Nat → Int → List Int → Int → Int → Option (List Int)
  | 0, _, _, _, _ => none
  | k + 1, x1, x5, x10, x11 => if x11 < x10 then (if 0 ≤ x11 then (if x11 < (x5.length : Int) then (canon_circle_of.l0 k x1 (x5.set (x11 : Int).toNat (Go.bits .and .i64 (shr .i64 x1 x11) 1)) x10 (wrap64 (x11 + 1))) else (none)) else (none)) else (some x5)
def canon_circle_of.f (k : Nat) (a0 : Int) (a1 : Int) : Option (List Int) := if 0 ≤ a0 then (if (a0 : Int).toNat ≤ 35184372088832 then ((some (List.replicate (a0 : Int).toNat 0 : List Int)).bind fun y1001 => (canon_circle_of.l0 k a1 y1001 (y1001.length : Int) 0)) else (none)) else (none)
theorem canon_circle_of.mono_l : ∀ k, (∀ y0 y1 y2 y3, LeO (canon_circle_of.l0 k y0 y1 y2 y3) (canon_circle_of.l0 (k + 1) y0 y1 y2 y3))
  | 0 => fun _ _ _ _ r h => by simp [canon_circle_of.l0] at h
  | k + 1 => by
    have ih0 := canon_circle_of.mono_l k
    · intro y0 y1 y2 y3
      unfold canon_circle_of.l0
      repeat' first
      | (with_reducible exact ih0 _ _ _ _)
      | (with_reducible exact LeO.refl _)
      | (with_reducible exact LeO.none _)
      | (with_reducible refine LeO.ite ?_ ?_)
      | (with_reducible refine LeO.bind ?_ (fun _ => ?_))
      | exact ih0 _ _ _ _
      | exact LeO.none _
      | refine LeO.ite ?_ ?_
      | refine LeO.bind ?_ (fun _ => ?_)
theorem canon_circle_of.mono : ∀ a0 a1 k, LeO (canon_circle_of.f k a0 a1) (canon_circle_of.f (k + 1) a0 a1) := by
  intro a0 a1 k
  have ih0 := canon_circle_of.mono_l k
  unfold canon_circle_of.f
  repeat' first
      | (with_reducible exact ih0 _ _ _ _)
      | (with_reducible exact LeO.refl _)
      | (with_reducible exact LeO.none _)
      | (with_reducible refine LeO.ite ?_ ?_)
      | (with_reducible refine LeO.bind ?_ (fun _ => ?_))
      | exact ih0 _ _ _ _
      | exact LeO.none _
      | refine LeO.ite ?_ ?_
      | refine LeO.bind ?_ (fun _ => ?_)
set_option maxHeartbeats 8000000 in
set_option maxRecDepth 100000 in
theorem canon_circle_of.calls (k : Nat) (a0 : Int) (a1 : Int) (r : List Int) (w : World) (h : canon_circle_of.f k a0 a1 = some r) :
    Calls Try.prog 20 #[.int .i64 a0, .int .i64 a1] w fun e w' => ∃ v0_ : Value, e = .returned (v0_) ∧ Kd.R (Kd.int .i64) 3 w' w.heap.size (fun _ => True) v0_ r ∧ Below w.heap.size w w' := by
  have HB := Aside0.mk (Below.refl w.heap.size w)
  have H : (if 0 ≤ a0 then (if (a0 : Int).toNat ≤ 35184372088832 then ((some (List.replicate (a0 : Int).toNat 0 : List Int)).bind fun y1001 => (canon_circle_of.l0 k a1 y1001 (y1001.length : Int) 0)) else (none)) else (none)) = some r := h
  clear h
  by_cases c3 : 0 ≤ a0
  · rw [if_pos c3] at H
    have c3b0 := eq_true c3
    have c3b1 : decide (0 ≤ a0) = true := decide_eq_true c3
    clear c3
    by_cases c4 : (a0 : Int).toNat ≤ 35184372088832
    · rw [if_pos c4] at H
      have c4b0 := eq_true c4
      have c4b1 : decide ((a0 : Int).toNat ≤ 35184372088832) = true := decide_eq_true c4
      clear c4
      obtain ⟨y1001, hy1001⟩ : ∃ y_ : List Int, y_ = (List.replicate (a0 : Int).toNat 0) := ⟨_, rfl⟩
      replace H : (canon_circle_of.l0 k a1 y1001 (y1001.length : Int) 0) = some r := by first | (rw [hy1001]; with_reducible exact H) | (have H2_ := (Option.bind_some _ _).symm.trans H; rw [hy1001]; with_reducible exact H2_) | (have H2_ := (Option.bind_some _ _).symm.trans H; with_reducible exact H2_) | with_reducible exact H | (rw [hy1001]; exact H) | exact H
      have Ny1001 := Aside0.mk hy1001
      clear hy1001
      have H' := Aside0.mk H
      clear H
      go_enter Try.func20, Try.ntmps20
      go_wp2_with (first | ((with_reducible refine gate_dst (N := 8) rfl ?_); refine Kd.R_make (Kd.int .i64) _ 3 rfl (N := 8) rfl 49 _ _ rfl a0 rfl rfl Try.underlying49 (.int .i64 0) 8 info3 rfl (by decide) (by omega) 0 (ok := fun _ => True) (okp := fun _ => True) rfl (fun _ hk => hk) trivial (of_decide_eq_true (by first | (with_reducible assumption) | assumption)) (Nat.le_trans (Nat.mul_le_mul_right _ (of_decide_eq_true (by first | (with_reducible assumption) | assumption) : a0.toNat ≤ 35184372088832)) (by omega)) (Below.refl _ _) (Nat.le_refl _) ?_; intro v1002 w5 ho6 hb hg_ hnew_; clear hg_ hnew_; (first | rw [← Ny1001.out] at ho6 | (simp only [Int.reduceToNat] at ho6; rw [← Ny1001.out] at ho6)); have n0_ := Aside0.mk (Kd.R_lower ho6 (below_size (by repeat (first | (with_reducible first | exact HB.out | apply below_alloc | apply pw_below_drewN | apply below_drew1) | exact HB.out)))); have n1_ := Aside0.mk (below_step (by repeat (first | (with_reducible first | exact HB.out | apply below_alloc | apply pw_below_drewN | apply below_drew1) | exact HB.out)) hb); clear HB; have HO1003 := n0_; have HB := n1_; clear n0_ n1_; clear hb ho6; obtain ⟨Ao7, co7, eo7⟩ := Kd.R_slice HO1003.out; subst eo7))
      go_loopg [11] k (fun kq v11 w' => ∃ (x5_1 : List Int) (x11_1 : Int), v11 = .int .i64 x11_1 ∧ Aside0 (canon_circle_of.l0 kq a1 x5_1 (y1001.length : Int) x11_1 = some r) ∧ Aside0 (kq ≤ k) ∧ Aside0 (Kd.R (Kd.int .i64) 3 w' w.heap.size (fun _ => True) (.slice Ao7 y1001.length co7) x5_1) ∧ Aside0 (Below w.heap.size w w'))
      case atStart => exact ⟨(y1001), (0), (by first | rfl | (simp; done) | (simp [*]; done)), H', ⟨Nat.le_refl _⟩, ⟨by (with_reducible repeat (first | apply Kd.R_alloc | apply Kd.R_drewN | apply Kd.R_drew)); exact HO1003.out⟩, ⟨by repeat (first | (with_reducible first | exact HB.out | apply below_alloc | apply pw_below_drewN | apply below_drew1) | exact HB.out)⟩⟩
      case round =>
        clear H'
        try clear c2
        try clear p2
        try clear c3
        try clear c3b0
        try clear c3b1
        try clear c4
        try clear c4b0
        try clear c4b1
        obtain ⟨x5_1, x11_1, rfl, HA, HK1, HO_5, HB⟩ := hrel
        have hl5_1 := (Kd.R_reads' HO_5.out).1
        rw [hl5_1] at HO_5
        (try simp only [hl5_1])
        cases gk with
        | zero => exact absurd HA.out (by simp [canon_circle_of.l0])
        | succ k1 =>
          have H := HA.out
          clear HA
          simp only [canon_circle_of.l0] at H
          by_cases c8 : x11_1 < (y1001.length : Int)
          · rw [if_pos c8] at H
            have c8b0 : decide (x11_1 < (y1001.length : Int)) = true := decide_eq_true c8
            have c8b0z := c8b0
            (try simp only [hl5_1] at c8b0z)
            clear c8
            by_cases c9 : 0 ≤ x11_1
            · rw [if_pos c9] at H
              have c9b0 := eq_true c9
              have c9b1 : decide (0 ≤ x11_1) = true := decide_eq_true c9
              clear c9
              obtain ⟨ji10, hji10⟩ : ∃ j_ : Int, (shr .i64 a1 x11_1) = j_ := ⟨_, rfl⟩
              replace H : (if x11_1 < (x5_1.length : Int) then (canon_circle_of.l0 k1 a1 (x5_1.set (x11_1 : Int).toNat (Go.bits .and .i64 (ji10) 1)) (y1001.length : Int) (wrap64 (x11_1 + 1))) else (none)) = some r := by first | (rw [hji10] at H; exact H) | (simp only [hji10] at H ⊢; exact H)
              have hji10_ : (a1 / 2 ^ min x11_1.toNat 64) = ji10 := hji10
              have hji10z : x11_1 ≤ 64 → (a1 / 2 ^ x11_1.toNat) = ji10 := shr_small hji10
              by_cases c11 : x11_1 < (x5_1.length : Int)
              · rw [if_pos c11] at H
                have c11b0 : decide (x11_1 < (x5_1.length : Int)) = true := decide_eq_true c11
                have c11b0z := c11b0
                (try simp only [hl5_1] at c11b0z)
                clear c11
                obtain ⟨y1004, hy1004⟩ : ∃ y_ : List Int, y_ = (x5_1.set (x11_1 : Int).toNat (Go.bits .and .i64 (ji10) 1)) := ⟨_, rfl⟩
                replace H : (canon_circle_of.l0 k1 a1 y1004 (y1001.length : Int) (wrap64 (x11_1 + 1))) = some r := by first | (rw [hy1004]; with_reducible exact H) | (have H2_ := (Option.bind_some _ _).symm.trans H; rw [hy1004]; with_reducible exact H2_) | (have H2_ := (Option.bind_some _ _).symm.trans H; with_reducible exact H2_) | with_reducible exact H | (rw [hy1004]; exact H) | exact H
                have Ny1004 := Aside0.mk hy1004
                clear hy1004
                have H' := Aside0.mk H
                clear H
                have p12 : 0 ≤ (x11_1 : Int) := of_decide_eq_true (by first | (with_reducible assumption) | assumption)
                have q12 : (x11_1 : Int) < ((x5_1.length : Int) : Int) := of_decide_eq_true (by first | (with_reducible assumption) | assumption)
                obtain ⟨go12, co12, eo12, gb12, gl12, cl12, HG12⟩ := Kd.R_form HO_5.out (by omega)
                (first | cases eo12 | (injection eo12 with ea_ en_ ec_; (first | subst ea_ | (injection ea_ with ea_; subst ea_)); subst ec_; clear en_))
                have GB12 := Aside0.mk gb12
                have GG12 := Aside0.mk HG12
                clear gb12 gl12 HG12
                obtain ⟨hx12_0, hf12_0⟩ := Kd.R_celln 0 HO_5.out (x11_1 : Int) p12 q12
                replace p12 := eq_true p12
                replace q12 := eq_true q12
                have HP13 := Kd.R_putg HO_5.out (x11_1 : Int) (Go.bits .and .i64 (ji10) 1)
                go_wp2_with (first | ((with_reducible refine gate_store (t := 3) (p := 20) rfl ?_); refine store_event (t := 3) (p := 20) (v := ?vo_w14) (w1 := (wr.setCell ⟨go12, (x11_1 : Int).toNat, none⟩ (.int .i64 (Go.bits .and .i64 (ji10) 1)))) ?hg ?ho ?hn ?hr ?_; (case ho => rfl); (case hg => rfl); (case hn => rfl); (case hr => first | (go_simp; done) | (go_simp; rfl)); intro w14 hw; have hg : wr.grownBy w14 (some go12) := (by rw [hw]; exact HP13.2); have hp_ : Kd.R (Kd.int .i64) 3 w14 w.heap.size (fun _ => True) (.slice (some ⟨go12, 0, none⟩) x5_1.length co7) y1004 := (by rw [hw, Ny1004.out]; exact HP13.1); clear HP13; have n0_ := Aside0.mk (hp_); have n1_ := Aside0.mk ((by rw [hw]; exact below_set (HB.out) GB12.out : Below w.heap.size w w14)); clear HO_5; clear HB; have HO_5 := n0_; have HB := n1_; clear n0_ n1_; clear hg hw hp_))
                (try simp only [← hl5_1])
                go_roundg k1
                case measure => have := HK1.out; omega
                case rel => exact ⟨(y1004), (wrap64 (x11_1 + 1)), (by first | rfl | (simp; done) | (simp [*]; done)), H', ⟨by have := HK1.out; omega⟩, ⟨by (try simp only [hl5_1]); (with_reducible repeat (first | apply Kd.R_alloc | apply Kd.R_drewN | apply Kd.R_drew)); exact HO_5.out⟩, ⟨by repeat (first | (with_reducible first | exact HB.out | apply below_alloc | apply pw_below_drewN | apply below_drew1) | exact HB.out)⟩⟩
              · rw [if_neg c11] at H
                exact absurd H (by simp)
            · rw [if_neg c9] at H
              exact absurd H (by simp)
          · rw [if_neg c8] at H
            have c8b0 : decide (x11_1 < (y1001.length : Int)) = false := decide_eq_false c8
            have c8b0z := c8b0
            (try simp only [hl5_1] at c8b0z)
            clear c8
            obtain rfl := Option.some.inj H
            go_wp2
            go_ret
            exact ⟨_, by first | rfl | (simp [errW_none, errW_some] <;> rfl) | (simp [*, errW_none, errW_some] <;> rfl), by (with_reducible repeat (first | apply Kd.R_alloc | apply Kd.R_drewN | apply Kd.R_drew)); exact HO_5.out, by repeat (first | (with_reducible first | exact HB.out | apply below_alloc | apply pw_below_drewN | apply below_drew1) | exact HB.out)⟩
    · rw [if_neg c4] at H
      exact absurd H (by simp)
  · rw [if_neg c3] at H
    exact absurd H (by simp)

end Go.Proofs.Ytfpnojcbhbkfaaa.P
namespace Go.Proofs.Ytfpnojcbhbkfaaa.P
open Go.RowKit Go.Proofs.YtfpnojcbhbkfaaaW.PrintWords Go.Proofs.YtfpnojcbhbkfaaaW.PrintLast Go.Proofs.YtfpnojcbhbkfaaaW.PrintMore
attribute [local go_sem] max2_int min2_int max_two min_two max_three min_three max_four min_four   -- for this text's walks alone
set_option linter.unusedVariables false
set_option linter.unusedSimpArgs false

def canon_polynomial_int_37.f (l0 : List Int) : Option (List Int) := if l0.length < 17592186044416 then some l0 else none
set_option maxHeartbeats 2000000 in
set_option maxRecDepth 100000 in
theorem canon_polynomial_int_37.calls (A0 : Option Addr) (c0 : Nat) (l0 : List Int) (r : List Int) (w : World) (hr0 : Kd.C (Kd.int .i64) w A0 l0.length l0) (hc0 : l0.length ≤ c0) (h : canon_polynomial_int_37.f l0 = some r) :
    Calls Try.prog 37 #[.slice A0 l0.length c0] w fun e w' => ∃ v0_ : Value, e = .returned (v0_) ∧ Kd.R (Kd.int .i64) 3 w' w.heap.size (fun _ => True) v0_ r ∧ Below w.heap.size w w' := by
  unfold canon_polynomial_int_37.f at h
  have hl : l0.length < 17592186044416 := by
    rcases Nat.lt_or_ge l0.length 17592186044416 with hl | hl
    · exact hl
    · rw [if_neg (by omega)] at h; cases h
  rw [if_pos hl] at h
  obtain rfl := Option.some.inj h
  have HR0 := Aside0.mk hr0
  clear hr0 h
  have q22 : ∀ (w : World) (a : Option Addr) (n c n' c' : Nat), (binOp .eql 49 (.slice a n c) (.slice none n' c')).run Try.prog w = .ok (.bool a.isNone) w := fun w a n c n' c' => Lib.run_eql_slice_nil w _ _ a n c n' c' Try.underlying49
  cases A0 with
  | none =>
    have hz : l0 = [] := by
      cases l0 with
      | nil => rfl
      | cons x xs =>
        obtain ⟨ad, e1, _⟩ := Kd.at_int HR0.out 0 (by omega) (by simp only [List.length_cons]; omega)
        cases e1
    subst hz
    go_enter Try.func37, Try.ntmps37
    go_wp2
    go_ret
    exact ⟨_, rfl, Kd.R_nil _ _ _ _ _, Below.refl _ _⟩
  | some a0 =>
    go_enter Try.func37, Try.ntmps37
    have HN : Kd.R (Kd.int .i64) 3 (w.alloc (.cells #[] 3)) w.heap.size (fun _ => True) (.slice (some ⟨w.heap.size, 0, none⟩) 0 0) [] :=
      Kd.R_of_own (h1 := fun _ => rfl) (World.ownsRow_lit (base := w.heap.size) (e := 3) (size := 1) w #[] 0 (Nat.le_refl _) (by simp [maxLen]) (by simp)) (fun _ _ => trivial)
    have HNa := Aside0.mk HN
    clear HN
    go_wp2_with (at_builtin; refine Kd.R_append_rows (Kd.int .i64) (w0 := w) w.heap.size rfl (.tmp 5) (.tmp 6) 49 3 (.int .i64 0) 8 rfl Try.underlying49 info3 rfl (by decide) (by omega) (.slice (some ⟨w.heap.size, 0, none⟩) 0 0) [] l0 _ _ _ (fun _ => True) (fun _ => False) rfl rfl ?aO ?aR (fun _ _ h => h) (fun _ h => h.elim) ?aF ?aB ?aS ?aL ?_; (case aR => exact Kd.C_below HR0.out (below_alloc (Below.refl _ _) _)); (case aB => exact below_alloc (Below.refl _ _) _); (case aF => exact (fun _ _ => trivial)); (case aO => exact HNa.out); (case aS => simp); (case aL => simp; omega); intro v1 w2 ho hb hg hat; have HO := Aside0.mk ho; have HB := Aside0.mk hb; clear ho hb hg hat; obtain ⟨A9, c9, e9⟩ := Kd.R_slice HO.out; subst e9)
    go_wp2
    go_ret
    exact ⟨_, rfl, HO.out, HB.out⟩

end Go.Proofs.Ytfpnojcbhbkfaaa.P
namespace Go.Proofs.Ytfpnojcbhbkfaaa.P
open Go.RowKit Go.Proofs.YtfpnojcbhbkfaaaW.PrintWords Go.Proofs.YtfpnojcbhbkfaaaW.PrintLast Go.Proofs.YtfpnojcbhbkfaaaW.PrintMore
attribute [local go_sem] max2_int min2_int max_two min_two max_three min_three max_four min_four   -- for this text's walks alone
set_option linter.unusedVariables false
set_option linter.unusedSimpArgs false

/-! ### canon_polynomial_int_38: function 38 -/
def canon_polynomial_int_38.l0 : Nat → List Int → Int → Int → Option (List Int)
  | 0, _, _, _ => none
  | k + 1, x0, x2, x3 => if x2 < x3 then (if 0 ≤ x3 then (if x3 < (x0.length : Int) then (if 0 ≤ x2 then (if x2 < (x0.length : Int) then (canon_polynomial_int_38.l0 k ((x0.set (x2 : Int).toNat (rd x0 x3)).set (x3 : Int).toNat (rd x0 x2)) (wrap64 (x2 + 1)) (wrap64 (x3 - 1))) else (none)) else (none)) else (none)) else (none)) else (some x0)
def canon_polynomial_int_38.f (k : Nat) (l0 : List Int) : Option (List Int) := canon_polynomial_int_38.l0 k l0 0 (wrap64 ((l0.length : Int) - 1))
theorem canon_polynomial_int_38.mono_l : ∀ k, (∀ y0 y1 y2, LeO (canon_polynomial_int_38.l0 k y0 y1 y2) (canon_polynomial_int_38.l0 (k + 1) y0 y1 y2))
  | 0 => fun _ _ _ r h => by simp [canon_polynomial_int_38.l0] at h
  | k + 1 => by
    have ih0 := canon_polynomial_int_38.mono_l k
    · intro y0 y1 y2
      unfold canon_polynomial_int_38.l0
      repeat' first
      | (with_reducible exact ih0 _ _ _)
      | (with_reducible exact LeO.refl _)
      | (with_reducible exact LeO.none _)
      | (with_reducible refine LeO.ite ?_ ?_)
      | (with_reducible refine LeO.bind ?_ (fun _ => ?_))
      | exact ih0 _ _ _
      | exact LeO.none _
      | refine LeO.ite ?_ ?_
      | refine LeO.bind ?_ (fun _ => ?_)
theorem canon_polynomial_int_38.mono : ∀ a0 k, LeO (canon_polynomial_int_38.f k a0) (canon_polynomial_int_38.f (k + 1) a0) := by
  intro a0 k
  have ih0 := canon_polynomial_int_38.mono_l k
  unfold canon_polynomial_int_38.f
  repeat' first
      | (with_reducible exact ih0 _ _ _)
      | (with_reducible exact LeO.refl _)
      | (with_reducible exact LeO.none _)
      | (with_reducible refine LeO.ite ?_ ?_)
      | (with_reducible refine LeO.bind ?_ (fun _ => ?_))
      | exact ih0 _ _ _
      | exact LeO.none _
      | refine LeO.ite ?_ ?_
      | refine LeO.bind ?_ (fun _ => ?_)
def canon_polynomial_int_38.T3 : Bool × List (List Nat × List Nat) := (true, [([], []), ([], []), ([], []), ([], []), ([], []), ([], []), ([4, 5], [4, 5]), ([6], [6]), ([], []), ([], []), ([8, 9], [8, 9]), ([10], [10]), ([0, 1, 0, 1, 4, 5, 6, 7, 11], [0, 1]), ([12, 7, 0, 1, 4, 5, 6, 7, 11], [7, 12]), ([2, 3, 0, 1, 2, 3, 4, 5, 6, 7, 8, 9, 10, 11, 12, 13], [2, 3]), ([14, 11, 13, 0, 1, 2, 3, 4, 5, 6, 7, 8, 9, 10, 11, 12, 13], [11, 14])])
def canon_polynomial_int_38.B3 : List Nat := [0, 0, 0, 0, 0, 0, 48, 112, 0, 0, 768, 1792, 4083, 8179, 16383, 32767]
theorem canon_polynomial_int_38.tab3 : rtab .any (opsOf Try.f38 3) = canon_polynomial_int_38.T3 := by kernel_rfl
theorem canon_polynomial_int_38.bits3 : waitsOk canon_polynomial_int_38.T3.2 canon_polynomial_int_38.B3 = true := by kernel_rfl
set_option maxHeartbeats 8000000 in
set_option maxRecDepth 100000 in
theorem canon_polynomial_int_38.calls (k : Nat) (P0_ : Nat → Prop) (u9000_ : Value) (l0 : List Int) (r : List Int) (w0 w : World) (hB : Below w0.heap.size w0 w) (ho0 : Kd.R (Kd.int .i64) 3 w w0.heap.size P0_ u9000_ l0) (h : canon_polynomial_int_38.f k l0 = some r) :
    Calls Try.prog 38 #[u9000_] w fun e w' => e = .returned (.tuple #[]) ∧ Kd.R (Kd.int .i64) 3 w' w0.heap.size (fun k_ => (P0_ k_ ∨ w.heap.size ≤ k_)) u9000_ r ∧ Below w0.heap.size w0 w' ∧ Kept w w' (fun k_ => P0_ k_) := by
  have HO0 := Aside0.mk (show Kd.R (Kd.int .i64) 3 w w0.heap.size (fun k_ => (P0_ k_ ∨ w.heap.size ≤ k_)) u9000_ l0 from Kd.R_mono ho0 (fun k_ hk => (.inl hk)))
  have HK := Aside0.mk (Kept.refl w (fun k_ => P0_ k_))
  have HW0 := Aside0.mk hB.size
  have HB := Aside0.mk hB
  clear hB
  have H : (canon_polynomial_int_38.l0 k l0 0 (wrap64 ((l0.length : Int) - 1))) = some r := h
  clear h
  have H' := Aside0.mk H
  clear H
  obtain ⟨Ao2, co2, eo2⟩ := Kd.R_slice HO0.out
  subst eo2
  go_enter Try.func38, Try.ntmps38
  go_wp2
  go_loopg [2, 3] k (fun kq v2 v3 w' => ∃ (x0_1 : List Int) (x2_1 : Int) (x3_1 : Int), v2 = .int .i64 x2_1 ∧ v3 = .int .i64 x3_1 ∧ Aside0 (canon_polynomial_int_38.l0 kq x0_1 x2_1 x3_1 = some r) ∧ Aside0 (kq ≤ k) ∧ Aside0 (Kd.R (Kd.int .i64) 3 w' w0.heap.size (fun k_ => (P0_ k_ ∨ w.heap.size ≤ k_)) (.slice Ao2 l0.length co2) x0_1) ∧ Aside0 (Kept w w' (fun k_ => P0_ k_)) ∧ Aside0 (Below w0.heap.size w0 w'))
  case atStart => exact ⟨(l0), (0), (wrap64 ((l0.length : Int) - 1)), (by first | rfl | (simp; done) | (simp [*]; done)), (by first | rfl | (simp; done) | (simp [*]; done)), H', ⟨Nat.le_refl _⟩, ⟨by (with_reducible repeat (first | apply Kd.R_alloc | apply Kd.R_drewN | apply Kd.R_drew)); exact HO0.out⟩, ⟨by repeat (first | (with_reducible first | exact HK.out | apply Kept.alloc | apply Kept.drewN | apply Kept.drew) | exact HK.out)⟩, ⟨by repeat (first | (with_reducible first | exact HB.out | apply below_alloc | apply pw_below_drewN | apply below_drew1) | exact HB.out)⟩⟩
  case round =>
    clear H'
    try clear p2
    obtain ⟨x0_1, x2_1, x3_1, rfl, rfl, HA, HK1, HO_0, HK, HB⟩ := hrel
    have hl0_1 := (Kd.R_reads' HO_0.out).1
    rw [hl0_1] at HO_0
    (try simp only [hl0_1])
    cases gk with
    | zero => exact absurd HA.out (by simp [canon_polynomial_int_38.l0])
    | succ k1 =>
      have H := HA.out
      clear HA
      simp only [canon_polynomial_int_38.l0] at H
      by_cases c3 : x2_1 < x3_1
      · rw [if_pos c3] at H
        have c3b0 : decide (x2_1 < x3_1) = true := decide_eq_true c3
        clear c3
        by_cases c4 : 0 ≤ x3_1
        · rw [if_pos c4] at H
          have c4b0 : decide (0 ≤ x3_1) = true := decide_eq_true c4
          clear c4
          by_cases c5 : x3_1 < (x0_1.length : Int)
          · rw [if_pos c5] at H
            have c5b0 : decide (x3_1 < (x0_1.length : Int)) = true := decide_eq_true c5
            have c5b0z := c5b0
            (try simp only [hl0_1] at c5b0z)
            clear c5
            by_cases c6 : 0 ≤ x2_1
            · rw [if_pos c6] at H
              have c6b0 : decide (0 ≤ x2_1) = true := decide_eq_true c6
              clear c6
              by_cases c7 : x2_1 < (x0_1.length : Int)
              · rw [if_pos c7] at H
                have c7b0 : decide (x2_1 < (x0_1.length : Int)) = true := decide_eq_true c7
                have c7b0z := c7b0
                (try simp only [hl0_1] at c7b0z)
                clear c7
                obtain ⟨y1003, hy1003⟩ : ∃ y_ : List Int, y_ = (x0_1.set (x2_1 : Int).toNat (rd x0_1 x3_1)) := ⟨_, rfl⟩
                replace H : (canon_polynomial_int_38.l0 k1 (y1003.set (x3_1 : Int).toNat (rd x0_1 x2_1)) (wrap64 (x2_1 + 1)) (wrap64 (x3_1 - 1))) = some r := by first | (rw [hy1003]; with_reducible exact H) | (have H2_ := (Option.bind_some _ _).symm.trans H; rw [hy1003]; with_reducible exact H2_) | (have H2_ := (Option.bind_some _ _).symm.trans H; with_reducible exact H2_) | with_reducible exact H | (rw [hy1003]; exact H) | exact H
                have Ny1003 := Aside0.mk hy1003
                clear hy1003
                obtain ⟨y1004, hy1004⟩ : ∃ y_ : List Int, y_ = (y1003.set (x3_1 : Int).toNat (rd x0_1 x2_1)) := ⟨_, rfl⟩
                replace H : (canon_polynomial_int_38.l0 k1 y1004 (wrap64 (x2_1 + 1)) (wrap64 (x3_1 - 1))) = some r := by first | (rw [hy1004]; with_reducible exact H) | (have H2_ := (Option.bind_some _ _).symm.trans H; rw [hy1004]; with_reducible exact H2_) | (have H2_ := (Option.bind_some _ _).symm.trans H; with_reducible exact H2_) | with_reducible exact H | (rw [hy1004]; exact H) | exact H
                have Ny1004 := Aside0.mk hy1004
                clear hy1004
                have H' := Aside0.mk H
                clear H
                try go_wp2
                have n0_ := Aside0.mk (Kd.R_drew HO_0.out)
                have n1_ := Aside0.mk (Kept.drew HK.out)
                have n2_ := Aside0.mk (below_drew1 HB.out)
                clear HO_0
                clear HK
                clear HB
                have HO_0 := n0_
                have HK := n1_
                have HB := n2_
                clear n0_ n1_ n2_
                have p1001 : 0 ≤ (x3_1 : Int) := of_decide_eq_true (by first | (with_reducible assumption) | assumption)
                have q1001 : x3_1 < (x0_1.length : Int) := of_decide_eq_true (by first | (with_reducible assumption) | assumption)
                obtain ⟨ad1001, e1001, hx1001_0⟩ := Kd.at_int (Kd.R_reads' HO_0.out).2.2 x3_1 p1001 q1001
                cases e1001
                replace p1001 := eq_true p1001
                replace q1001 := eq_true q1001
                have p1002 : 0 ≤ (x2_1 : Int) := of_decide_eq_true (by first | (with_reducible assumption) | assumption)
                have q1002 : x2_1 < (x0_1.length : Int) := of_decide_eq_true (by first | (with_reducible assumption) | assumption)
                obtain ⟨ad1002, e1002, hx1002_0⟩ := Kd.at_int (Kd.R_reads' HO_0.out).2.2 x2_1 p1002 q1002
                obtain rfl : ad1001 = ad1002 := (by injection e1002)
                replace p1002 := eq_true p1002
                replace q1002 := eq_true q1002
                have p8 : 0 ≤ (x2_1 : Int) := of_decide_eq_true (by first | (with_reducible assumption) | assumption)
                have q8 : (x2_1 : Int) < ((x0_1.length : Int) : Int) := of_decide_eq_true (by first | (with_reducible assumption) | assumption)
                obtain ⟨go8, co8, eo8, gb8, gl8, cl8, HG8⟩ := Kd.R_form HO_0.out (by omega)
                (first | cases eo8 | (injection eo8 with ea_ en_ ec_; (first | subst ea_ | (injection ea_ with ea_; subst ea_)); subst ec_; clear en_))
                have GB8 := Aside0.mk gb8
                have GG8 := Aside0.mk HG8
                clear gb8 gl8 HG8
                have HMgo8 := Aside0.mk (show (P0_ go8 ∨ w.heap.size ≤ go8) from (HO_0.out.1 _ rfl))
                (first | simp only [add_plain] at hx1001_0 | skip)
                (first | simp only [add_plain] at hx1002_0 | skip)
                obtain ⟨hx8_0, hf8_0⟩ := Kd.R_celln 0 HO_0.out (x2_1 : Int) p8 q8
                replace p8 := eq_true p8
                replace q8 := eq_true q8
                have HP11 := Kd.R_putn HO_0.out (x2_1 : Int) (rd x0_1 x3_1)
                rw [← Ny1003.out] at HP11
                have HQ11 := Aside0.mk HP11
                clear HP11
                have p9 : 0 ≤ (x3_1 : Int) := of_decide_eq_true (by first | (with_reducible assumption) | assumption)
                have q9 : (x3_1 : Int) < ((x0_1.length : Int) : Int) := of_decide_eq_true (by first | (with_reducible assumption) | assumption)
                obtain ⟨hx9_0, hf9_0⟩ := Kd.R_celln 0 HQ11.out (x3_1 : Int) p9 q9
                replace p9 := eq_true p9
                replace q9 := eq_true q9
                have HP12 := Kd.R_putn HQ11.out (x3_1 : Int) (rd x0_1 x2_1)
                rw [← Ny1004.out] at HP12
                have HQ12 := Aside0.mk HP12
                clear HP12
                refine start_ (n := 16) (S := fun w' => w'.cell? ⟨go8, (x3_1).toNat, none⟩ = some (.int .i64 (rd x0_1 x3_1)) ∧ w'.cell? ⟨go8, (x2_1).toNat, none⟩ = some (.int .i64 (rd x0_1 x2_1))) (ds := [13, 15]) #[false, false, false, false, false, false, false, false, false, false, false, false, false, false, false, false] (by kernel_rfl) rfl rfl ⟨hx1001_0, hx1002_0⟩ (fun hHeld => ?_); refine with_tabW canon_polynomial_int_38.tab3 canon_polynomial_int_38.bits3 (fun HT_ HW_ => ?_)
                generalize wr.drew = w10 at HO_0 HK HB GG8 HQ11 HQ12 hf8_0 hf9_0 hx1001_0 hx1002_0 hx8_0 hx9_0 hHeld ⊢
                refine pure_ (i := 0) (N := some 14) (v := ?_) (a' := ?_) #[true, false, false, false, false, false, false, false, false, false, false, false, false, false, false, false] rfl rfl (any_of HT_.out (by kernel_rfl)) (fun _ _ _ h => h) (Or.inl ⟨by rfl, ?_⟩) ?_ ?_
                rotate_left
                · intro w'
                  go_simp
                  with_reducible rfl
                rotate_left
                · simp only [Act.put, List.setIfInBounds_toArray, List.set_cons_zero, List.set_cons_succ, i64_w, i32_w]
                  rfl
                refine pure_ (i := 1) (N := some 15) (v := ?_) (a' := ?_) #[true, true, false, false, false, false, false, false, false, false, false, false, false, false, false, false] rfl rfl (any_of HT_.out (by kernel_rfl)) (fun _ _ _ h => h) (Or.inl ⟨by rfl, ?_⟩) ?_ ?_
                rotate_left
                · intro w'
                  go_simp
                  with_reducible rfl
                rotate_left
                · simp only [Act.put, List.setIfInBounds_toArray, List.set_cons_zero, List.set_cons_succ, i64_w, i32_w]
                  rfl
                refine pure_ (i := 2) (N := some 16) (v := ?_) (a' := ?_) #[true, true, true, false, false, false, false, false, false, false, false, false, false, false, false, false] rfl rfl (any_of HT_.out (by kernel_rfl)) (fun _ _ _ h => h) (Or.inl ⟨by rfl, ?_⟩) ?_ ?_
                rotate_left
                · intro w'
                  go_simp
                  with_reducible rfl
                rotate_left
                · simp only [Act.put, List.setIfInBounds_toArray, List.set_cons_zero, List.set_cons_succ, i64_w, i32_w]
                  rfl
                refine pure_ (i := 3) (N := some 17) (v := ?_) (a' := ?_) #[true, true, true, true, false, false, false, false, false, false, false, false, false, false, false, false] rfl rfl (any_of HT_.out (by kernel_rfl)) (fun _ _ _ h => h) (Or.inl ⟨by rfl, ?_⟩) ?_ ?_
                rotate_left
                · intro w'
                  go_simp
                  with_reducible rfl
                rotate_left
                · simp only [Act.put, List.setIfInBounds_toArray, List.set_cons_zero, List.set_cons_succ, i64_w, i32_w]
                  rfl
                refine pure_ (i := 4) (N := some 18) (v := ?_) (a' := ?_) #[true, true, true, true, true, false, false, false, false, false, false, false, false, false, false, false] rfl rfl (any_of HT_.out (by kernel_rfl)) (fun _ _ _ h => h) (Or.inl ⟨by rfl, ?_⟩) ?_ ?_
                rotate_left
                · intro w'
                  go_simp
                  with_reducible rfl
                rotate_left
                · simp only [Act.put, List.setIfInBounds_toArray, List.set_cons_zero, List.set_cons_succ, i64_w, i32_w]
                  rfl
                refine pure_ (i := 5) (N := some 19) (v := ?_) (a' := ?_) #[true, true, true, true, true, true, false, false, false, false, false, false, false, false, false, false] rfl rfl (any_of HT_.out (by kernel_rfl)) (fun _ _ _ h => h) (Or.inl ⟨by rfl, ?_⟩) ?_ ?_
                rotate_left
                · intro w'
                  go_simp
                  with_reducible rfl
                rotate_left
                · simp only [Act.put, List.setIfInBounds_toArray, List.set_cons_zero, List.set_cons_succ, i64_w, i32_w]
                  rfl
                refine pure_ (i := 6) (N := some 20) (v := ?_) (a' := ?_) #[true, true, true, true, true, true, true, false, false, false, false, false, false, false, false, false] rfl rfl (any_of HT_.out (by kernel_rfl)) (fun _ _ _ h => h) (Or.inl ⟨by rfl, ?_⟩) ?_ ?_
                rotate_left
                · intro w'
                  go_simp
                  with_reducible rfl
                rotate_left
                · simp only [Act.put, List.setIfInBounds_toArray, List.set_cons_zero, List.set_cons_succ, i64_w, i32_w]
                  rfl
                refine pure_ (i := 8) (N := some 22) (v := ?_) (a' := ?_) #[true, true, true, true, true, true, true, false, true, false, false, false, false, false, false, false] rfl rfl (any_of HT_.out (by kernel_rfl)) (fun _ _ _ h => h) (Or.inl ⟨by rfl, ?_⟩) ?_ ?_
                rotate_left
                · intro w'
                  go_simp
                  with_reducible rfl
                rotate_left
                · simp only [Act.put, List.setIfInBounds_toArray, List.set_cons_zero, List.set_cons_succ, i64_w, i32_w]
                  rfl
                refine pure_ (i := 9) (N := some 23) (v := ?_) (a' := ?_) #[true, true, true, true, true, true, true, false, true, true, false, false, false, false, false, false] rfl rfl (any_of HT_.out (by kernel_rfl)) (fun _ _ _ h => h) (Or.inl ⟨by rfl, ?_⟩) ?_ ?_
                rotate_left
                · intro w'
                  go_simp
                  with_reducible rfl
                rotate_left
                · simp only [Act.put, List.setIfInBounds_toArray, List.set_cons_zero, List.set_cons_succ, i64_w, i32_w]
                  rfl
                refine pure_ (i := 10) (N := some 24) (v := ?_) (a' := ?_) #[true, true, true, true, true, true, true, false, true, true, true, false, false, false, false, false] rfl rfl (any_of HT_.out (by kernel_rfl)) (fun _ _ _ h => h) (Or.inl ⟨by rfl, ?_⟩) ?_ ?_
                rotate_left
                · intro w'
                  go_simp
                  with_reducible rfl
                rotate_left
                · simp only [Act.put, List.setIfInBounds_toArray, List.set_cons_zero, List.set_cons_succ, i64_w, i32_w]
                  rfl
                refine take_ (i := 7) (N := some 21) (v := ?_) (a' := ?_) #[true, true, true, true, true, true, true, true, true, true, true, false, false, false, false, false] rfl rfl (take_ofW HT_.out HW_.out (by kernel_rfl)) (fun _ _ _ h => h) (Or.inl ⟨by rfl, ?_⟩) hHeld ?_ ?_
                rotate_left
                · rintro w' ⟨s0, s1⟩
                  go_simp
                  with_reducible rfl
                rotate_left
                · simp only [Act.put, List.setIfInBounds_toArray, List.set_cons_zero, List.set_cons_succ, i64_w, i32_w]
                  rfl
                refine take_ (i := 11) (N := some 25) (v := ?_) (a' := ?_) #[true, true, true, true, true, true, true, true, true, true, true, true, false, false, false, false] rfl rfl (take_ofW HT_.out HW_.out (by kernel_rfl)) (fun _ _ _ h => h) (Or.inl ⟨by rfl, ?_⟩) hHeld ?_ ?_
                rotate_left
                · rintro w' ⟨s0, s1⟩
                  go_simp
                  with_reducible rfl
                rotate_left
                · simp only [Act.put, List.setIfInBounds_toArray, List.set_cons_zero, List.set_cons_succ, i64_w, i32_w]
                  rfl
                refine pure_ (i := 12) (N := some 26) (v := ?_) (a' := ?_) #[true, true, true, true, true, true, true, true, true, true, true, true, true, false, false, false] rfl rfl (any_of HT_.out (by kernel_rfl)) (fun _ _ _ h => h) (Or.inl ⟨by rfl, ?_⟩) ?_ ?_
                rotate_left
                · intro w'
                  go_simp
                  with_reducible rfl
                rotate_left
                · simp only [Act.put, List.setIfInBounds_toArray, List.set_cons_zero, List.set_cons_succ, i64_w, i32_w]
                  rfl
                refine last_ (i := 13) (N := none) #[true, true, true, true, true, true, true, true, true, true, true, true, true, true, false, false] rfl rfl (one_of HT_.out (by kernel_rfl)) (by decide) (fun K hK => ?_)
                refine skip_ (w1 := ?_) (by rfl) rfl ?_ ?_
                rotate_left
                · go_simp
                  rfl
                refine hK.out _ _ ?_
                clear hK K
                refine pure_ (i := 14) (N := some 27) (v := ?_) (a' := ?_) #[true, true, true, true, true, true, true, true, true, true, true, true, true, true, true, false] rfl rfl (any_of HT_.out (by kernel_rfl)) (fun _ _ _ h => h) (Or.inl ⟨by rfl, ?_⟩) ?_ ?_
                rotate_left
                · intro w'
                  go_simp
                  with_reducible rfl
                rotate_left
                · simp only [Act.put, List.setIfInBounds_toArray, List.set_cons_zero, List.set_cons_succ, i64_w, i32_w]
                  rfl
                refine last_ (i := 15) (N := none) #[true, true, true, true, true, true, true, true, true, true, true, true, true, true, true, true] rfl rfl (one_of HT_.out (by kernel_rfl)) (by decide) (fun K hK => ?_)
                refine skip_ (w1 := ?_) (by rfl) rfl ?_ ?_
                rotate_left
                · go_simp
                  rfl
                refine hK.out _ _ ?_
                clear hK K
                refine done_ (done_of HT_.out (by kernel_rfl)) ?_
                try go_wp2
                (try simp only [← hl0_1])
                go_roundg k1
                case measure => have := HK1.out; omega
                case rel => exact ⟨(y1004), (wrap64 (x2_1 + 1)), (wrap64 (x3_1 - 1)), (by first | rfl | (simp; done) | (simp [*]; done)), (by first | rfl | (simp; done) | (simp [*]; done)), H', ⟨by have := HK1.out; omega⟩, ⟨by (try simp only [hl0_1]); (with_reducible repeat (first | apply Kd.R_alloc | apply Kd.R_drewN | apply Kd.R_drew)); exact HQ12.out⟩, ⟨by repeat (first | (with_reducible first | exact HK.out | apply Kept.alloc | apply Kept.drewN | apply Kept.drew | refine Kept.setCell ?_ HMgo8.out _ | refine Kept.setCell ?_ HMgo8.out _) | exact HK.out)⟩, ⟨by repeat (first | (with_reducible first | exact HB.out | apply below_alloc | apply pw_below_drewN | apply below_drew1 | refine below_set ?_ GB8.out | refine below_set ?_ GB8.out) | exact HB.out)⟩⟩
              · rw [if_neg c7] at H
                exact absurd H (by simp)
            · rw [if_neg c6] at H
              exact absurd H (by simp)
          · rw [if_neg c5] at H
            exact absurd H (by simp)
        · rw [if_neg c4] at H
          exact absurd H (by simp)
      · rw [if_neg c3] at H
        have c3b0 : decide (x2_1 < x3_1) = false := decide_eq_false c3
        clear c3
        obtain rfl := Option.some.inj H
        go_wp2
        first | go_end0 | ((try simp only [Exit.inBlock, Exit.then]); refine bodyPost_ret (results_none rfl _ _ _) rfl ?_)
        exact ⟨by first | rfl | (simp [errW_none, errW_some] <;> rfl) | (simp [*, errW_none, errW_some] <;> rfl), (by first | exact (by (with_reducible repeat (first | apply Kd.R_alloc | apply Kd.R_drewN | apply Kd.R_drew)); exact HO_0.out) | (simp only [hl0_1]; exact (by (with_reducible repeat (first | apply Kd.R_alloc | apply Kd.R_drewN | apply Kd.R_drew)); exact HO_0.out))), by repeat (first | (with_reducible first | exact HB.out | apply below_alloc | apply pw_below_drewN | apply below_drew1) | exact HB.out), by repeat (first | (with_reducible first | exact HK.out | apply Kept.alloc | apply Kept.drewN | apply Kept.drew) | exact HK.out)⟩

end Go.Proofs.Ytfpnojcbhbkfaaa.P
