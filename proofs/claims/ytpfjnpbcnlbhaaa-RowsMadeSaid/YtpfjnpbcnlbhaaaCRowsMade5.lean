/- Proved here: the Go function sackbutlaw05.RowsMade returns true for every input (its printed form comes to true), whatever its arguments. Conditions: none beyond the row's own reach in memory. -/
import Derived.Test.YtpfjnpbcnlbhaaaRows
import Derived.WalkKit
import Derived.ProofKit
import Derived.OpenShut
import Derived.ShutString
import Derived.ChangeOld
import Derived.Below
import Derived.SizedLaws
import Derived.Test.YtpfjnpbcnlbhaaaWSized
import Derived.Test.YtpfjnpbcnlbhaaaCRowsMade1
import Derived.Test.YtpfjnpbcnlbhaaaCRowsMade2
import Derived.Test.YtpfjnpbcnlbhaaaCRowsMade3
import Derived.Test.YtpfjnpbcnlbhaaaCRowsMade4
namespace Go.Proofs.Ytpfjnpbcnlbhaaa.P
open Go.RowKit Go.Proofs.YtpfjnpbcnlbhaaaW.PrintWords Go.Proofs.YtpfjnpbcnlbhaaaW.PrintLast Go.Proofs.YtpfjnpbcnlbhaaaW.PrintMore
attribute [local go_sem] max2_int min2_int max_two min_two max_three min_three max_four min_four   -- for this text's walks alone
set_option linter.unusedVariables false
set_option linter.unusedSimpArgs false

/-! ### sackbutref05_Made: function 39 -/
mutual
def sackbutref05_Made.l0 : Nat → List Int → Int → Int → Int → Option (Bool)
  | 0, _, _, _, _ => none
  | k + 1, x0, x1, x5, x6 => if x6 < x5 then (sackbutref05_Made.l1 k x0 x1 x5 x6 false 0) else (some true)
def sackbutref05_Made.l1 : Nat → List Int → Int → Int → Int → Bool → Int → Option (Bool)
  | 0, _, _, _, _, _, _ => none
  | k + 1, x0, x1, x5, x6, x7, x18 => if x18 < 4 then (sackbutref05_Made.l2 k x0 x1 x5 x6 x7 x18 x18 x5 0) else (if x7 = true then (sackbutref05_Made.l0 k x0 x1 x5 (wrap64 (x6 + x1))) else (some false))
def sackbutref05_Made.l2 : Nat → List Int → Int → Int → Int → Bool → Int → Int → Int → Int → Option (Bool)
  | 0, _, _, _, _, _, _, _, _, _ => none
  | k + 1, x0, x1, x5, x6, x7, x8, x18, x21, x22 => if x22 < x21 then (if x7 = true then (sackbutref05_Made.l2 k x0 x1 x5 x6 true x8 x18 x21 (wrap64 (x22 + 1))) else (if 0 ≤ x1 then (if x1 ≤ (x0.length : Int) then ((sackbutref05_Form.f k (x0.take (x1 : Int).toNat) x5 x8 x22).bind fun t1003 => (if 0 ≤ x6 then (if x6 ≤ (wrap64 (x6 + x1)) then (if (wrap64 (x6 + x1)) ≤ (x0.length : Int) then ((sackbutref05_same.f k t1003 ((x0.take ((wrap64 (x6 + x1)) : Int).toNat).drop (x6 : Int).toNat)).bind fun t1008 => (sackbutref05_Made.l2 k x0 x1 x5 x6 t1008 x8 x18 x21 (wrap64 (x22 + 1)))) else (none)) else (none)) else (none))) else (none)) else (none))) else (sackbutref05_Made.l1 k x0 x1 x5 x6 x7 (wrap64 (x18 + 1)))
end
def sackbutref05_Made.f (k : Nat) (l0 : List Int) (a1 : Int) : Option (Bool) := sackbutref05_Made.l0 k l0 a1 (l0.length : Int) 0
theorem sackbutref05_Made.mono_l : ∀ k, (∀ y0 y1 y2 y3, LeO (sackbutref05_Made.l0 k y0 y1 y2 y3) (sackbutref05_Made.l0 (k + 1) y0 y1 y2 y3)) ∧ (∀ y0 y1 y2 y3 y4 y5, LeO (sackbutref05_Made.l1 k y0 y1 y2 y3 y4 y5) (sackbutref05_Made.l1 (k + 1) y0 y1 y2 y3 y4 y5)) ∧ (∀ y0 y1 y2 y3 y4 y5 y6 y7 y8, LeO (sackbutref05_Made.l2 k y0 y1 y2 y3 y4 y5 y6 y7 y8) (sackbutref05_Made.l2 (k + 1) y0 y1 y2 y3 y4 y5 y6 y7 y8))
  | 0 => ⟨fun _ _ _ _ r h => by simp [sackbutref05_Made.l0] at h, fun _ _ _ _ _ _ r h => by simp [sackbutref05_Made.l1] at h, fun _ _ _ _ _ _ _ _ _ r h => by simp [sackbutref05_Made.l2] at h⟩
  | k + 1 => by
    obtain ⟨ih0, ih1, ih2⟩ := sackbutref05_Made.mono_l k
    refine ⟨?_, ?_, ?_⟩
    · intro y0 y1 y2 y3
      unfold sackbutref05_Made.l0
      repeat' first
      | (with_reducible exact ih0 _ _ _ _)
      | (with_reducible exact ih1 _ _ _ _ _ _)
      | (with_reducible exact ih2 _ _ _ _ _ _ _ _ _)
      | (with_reducible exact sackbutref05_Form.mono _ _ _ _ _)
      | (with_reducible exact sackbutref05_same.mono _ _ _)
      | (with_reducible exact LeO.refl _)
      | (with_reducible exact LeO.none _)
      | (with_reducible refine LeO.ite ?_ ?_)
      | (with_reducible refine LeO.bind ?_ (fun _ => ?_))
      | exact ih0 _ _ _ _
      | exact ih1 _ _ _ _ _ _
      | exact ih2 _ _ _ _ _ _ _ _ _
      | exact sackbutref05_Form.mono _ _ _ _ _
      | exact sackbutref05_same.mono _ _ _
      | exact LeO.none _
      | refine LeO.ite ?_ ?_
      | refine LeO.bind ?_ (fun _ => ?_)
    · intro y0 y1 y2 y3 y4 y5
      unfold sackbutref05_Made.l1
      repeat' first
      | (with_reducible exact ih0 _ _ _ _)
      | (with_reducible exact ih1 _ _ _ _ _ _)
      | (with_reducible exact ih2 _ _ _ _ _ _ _ _ _)
      | (with_reducible exact sackbutref05_Form.mono _ _ _ _ _)
      | (with_reducible exact sackbutref05_same.mono _ _ _)
      | (with_reducible exact LeO.refl _)
      | (with_reducible exact LeO.none _)
      | (with_reducible refine LeO.ite ?_ ?_)
      | (with_reducible refine LeO.bind ?_ (fun _ => ?_))
      | exact ih0 _ _ _ _
      | exact ih1 _ _ _ _ _ _
      | exact ih2 _ _ _ _ _ _ _ _ _
      | exact sackbutref05_Form.mono _ _ _ _ _
      | exact sackbutref05_same.mono _ _ _
      | exact LeO.none _
      | refine LeO.ite ?_ ?_
      | refine LeO.bind ?_ (fun _ => ?_)
    · intro y0 y1 y2 y3 y4 y5 y6 y7 y8
      unfold sackbutref05_Made.l2
      repeat' first
      | (with_reducible exact ih0 _ _ _ _)
      | (with_reducible exact ih1 _ _ _ _ _ _)
      | (with_reducible exact ih2 _ _ _ _ _ _ _ _ _)
      | (with_reducible exact sackbutref05_Form.mono _ _ _ _ _)
      | (with_reducible exact sackbutref05_same.mono _ _ _)
      | (with_reducible exact LeO.refl _)
      | (with_reducible exact LeO.none _)
      | (with_reducible refine LeO.ite ?_ ?_)
      | (with_reducible refine LeO.bind ?_ (fun _ => ?_))
      | exact ih0 _ _ _ _
      | exact ih1 _ _ _ _ _ _
      | exact ih2 _ _ _ _ _ _ _ _ _
      | exact sackbutref05_Form.mono _ _ _ _ _
      | exact sackbutref05_same.mono _ _ _
      | exact LeO.none _
      | refine LeO.ite ?_ ?_
      | refine LeO.bind ?_ (fun _ => ?_)
theorem sackbutref05_Made.mono : ∀ a0 a1 k, LeO (sackbutref05_Made.f k a0 a1) (sackbutref05_Made.f (k + 1) a0 a1) := by
  intro a0 a1 k
  obtain ⟨ih0, ih1, ih2⟩ := sackbutref05_Made.mono_l k
  unfold sackbutref05_Made.f
  repeat' first
      | (with_reducible exact ih0 _ _ _ _)
      | (with_reducible exact ih1 _ _ _ _ _ _)
      | (with_reducible exact ih2 _ _ _ _ _ _ _ _ _)
      | (with_reducible exact sackbutref05_Form.mono _ _ _ _ _)
      | (with_reducible exact sackbutref05_same.mono _ _ _)
      | (with_reducible exact LeO.refl _)
      | (with_reducible exact LeO.none _)
      | (with_reducible refine LeO.ite ?_ ?_)
      | (with_reducible refine LeO.bind ?_ (fun _ => ?_))
      | exact ih0 _ _ _ _
      | exact ih1 _ _ _ _ _ _
      | exact ih2 _ _ _ _ _ _ _ _ _
      | exact sackbutref05_Form.mono _ _ _ _ _
      | exact sackbutref05_same.mono _ _ _
      | exact LeO.none _
      | refine LeO.ite ?_ ?_
      | refine LeO.bind ?_ (fun _ => ?_)
def sackbutref05_Made.T12 : Bool × List (List Nat × List Nat) := (true, [([], []), ([0], [0]), ([1], [1]), ([1], [1]), ([2, 3, 1], [1, 2, 3]), ([1], [1]), ([1], [1]), ([1], [1]), ([4, 5, 6, 7, 1, 1], [1, 4, 5, 6, 7]), ([1], [1]), ([1], [1]), ([1], [1]), ([1], [1]), ([11, 12, 1], [1, 11, 12]), ([9, 10, 13, 1], [1, 9, 10, 13]), ([8, 14, 8, 1], [1, 8, 14]), ([1, 15], [1, 15]), ([16, 15, 0, 1, 2, 3, 4, 5, 6, 7, 8, 9, 10, 11, 12, 13, 14, 15, 16], [0, 16])])
def sackbutref05_Made.B12 : List Nat := [0, 1, 3, 3, 15, 3, 3, 3, 255, 3, 3, 3, 3, 6147, 15875, 32767, 65535, 131071]
theorem sackbutref05_Made.tab12 : rtab .any (opsOf Try.f39 12) = sackbutref05_Made.T12 := by kernel_rfl
theorem sackbutref05_Made.bits12 : waitsOk sackbutref05_Made.T12.2 sackbutref05_Made.B12 = true := by kernel_rfl
set_option maxHeartbeats 8000000 in
set_option maxRecDepth 100000 in
theorem sackbutref05_Made.calls (k : Nat) (A0 : Option Addr) (c0 : Nat) (l0 : List Int) (a1 : Int) (r : Bool) (w : World) (hr0 : Kd.C (Kd.int .i64) w A0 l0.length l0) (hc0 : l0.length ≤ c0) (h : sackbutref05_Made.f k l0 a1 = some r) :
    Calls Try.prog 39 #[.slice A0 l0.length c0, .int .i64 a1] w fun e w' => e = .returned (.bool r) ∧ Below w.heap.size w w' := by
  have HR0 := Aside0.mk hr0
  have HC0 := Aside0.mk hc0
  clear hr0 hc0
  have HB := Aside0.mk (Below.refl w.heap.size w)
  have H : (sackbutref05_Made.l0 k l0 a1 (l0.length : Int) 0) = some r := h
  clear h
  have H' := Aside0.mk H
  clear H
  go_enter Try.func39, Try.ntmps39
  go_wp2
  go_loopg [6] k (fun kq v6 w' => ∃ (x6_1 : Int), v6 = .int .i64 x6_1 ∧ Aside0 (sackbutref05_Made.l0 kq l0 a1 (l0.length : Int) x6_1 = some r) ∧ Aside0 (kq ≤ k) ∧ Aside0 (Below w.heap.size w w'))
  case atStart => exact ⟨(0), (by first | rfl | (simp; done) | (simp [*]; done)), H', ⟨Nat.le_refl _⟩, ⟨by repeat (first | (with_reducible first | exact HB.out | apply below_alloc | apply pw_below_drewN | apply below_drew1) | exact HB.out)⟩⟩
  case round =>
    clear H'
    try clear p2
    obtain ⟨x6_1, rfl, HA, HK1, HB⟩ := hrel
    cases gk with
    | zero => exact absurd HA.out (by simp [sackbutref05_Made.l0])
    | succ k1 =>
      have H := HA.out
      clear HA
      simp only [sackbutref05_Made.l0] at H
      by_cases c3 : x6_1 < (l0.length : Int)
      · rw [if_pos c3] at H
        have c3b0 : decide (x6_1 < (l0.length : Int)) = true := decide_eq_true c3
        clear c3
        have H' := Aside0.mk H
        clear H
        go_wp2
        go_loopg [7, 18] k1 (fun kq v7 v18 w' => ∃ (x7_2 : Bool) (x18_2 : Int), v7 = .bool x7_2 ∧ v18 = .int .i64 x18_2 ∧ Aside0 (sackbutref05_Made.l1 kq l0 a1 (l0.length : Int) x6_1 x7_2 x18_2 = some r) ∧ Aside0 (kq ≤ k1) ∧ Aside0 (Below w.heap.size w w'))
        case atStart => exact ⟨(false), (0), (by first | rfl | (simp; done) | (simp [*]; done)), (by first | rfl | (simp; done) | (simp [*]; done)), H', ⟨Nat.le_refl _⟩, ⟨by repeat (first | (with_reducible first | exact HB.out | apply below_alloc | apply pw_below_drewN | apply below_drew1) | exact HB.out)⟩⟩
        case round =>
          clear H'
          try clear p2
          try clear c3
          try clear c3b0
          try clear p2
          obtain ⟨x7_2, x18_2, rfl, rfl, HA, HK2, HB⟩ := hrel
          cases gk with
          | zero => exact absurd HA.out (by simp [sackbutref05_Made.l1])
          | succ k2 =>
            have H := HA.out
            clear HA
            simp only [sackbutref05_Made.l1] at H
            by_cases c4 : x18_2 < 4
            · rw [if_pos c4] at H
              have c4b0 : decide (x18_2 < 4) = true := decide_eq_true c4
              clear c4
              have H' := Aside0.mk H
              clear H
              go_wp2
              go_loopg [7, 22] k2 (fun kq v7 v22 w' => ∃ (x7_3 : Bool) (x22_3 : Int), v7 = .bool x7_3 ∧ v22 = .int .i64 x22_3 ∧ Aside0 (sackbutref05_Made.l2 kq l0 a1 (l0.length : Int) x6_1 x7_3 x18_2 x18_2 (l0.length : Int) x22_3 = some r) ∧ Aside0 (kq ≤ k2) ∧ Aside0 (Below w.heap.size w w'))
              case atStart => exact ⟨(x7_2), (0), (by first | rfl | (simp; done) | (simp [*]; done)), (by first | rfl | (simp; done) | (simp [*]; done)), H', ⟨Nat.le_refl _⟩, ⟨by repeat (first | (with_reducible first | exact HB.out | apply below_alloc | apply pw_below_drewN | apply below_drew1) | exact HB.out)⟩⟩
              case round =>
                clear H'
                try clear p2
                try clear c3
                try clear c3b0
                try clear c4
                try clear c4b0
                try clear p2
                obtain ⟨x7_3, x22_3, rfl, rfl, HA, HK3, HB⟩ := hrel
                cases gk with
                | zero => exact absurd HA.out (by simp [sackbutref05_Made.l2])
                | succ k3 =>
                  have H := HA.out
                  clear HA
                  simp only [sackbutref05_Made.l2] at H
                  by_cases c5 : x22_3 < (l0.length : Int)
                  · rw [if_pos c5] at H
                    have c5b0 : decide (x22_3 < (l0.length : Int)) = true := decide_eq_true c5
                    clear c5
                    by_cases c6 : x7_3 = true
                    · subst c6
                      have H1 : (sackbutref05_Made.l2 k3 l0 a1 (l0.length : Int) x6_1 true x18_2 x18_2 (l0.length : Int) (wrap64 (x22_3 + 1))) = some r := by rw [if_pos rfl] at H; exact H
                      clear H
                      have H := H1
                      clear H1
                      have H' := Aside0.mk H
                      clear H
                      try go_wp2
                      have n0_ := Aside0.mk (below_drew1 HB.out)
                      clear HB
                      have HB := n0_
                      clear n0_
                      refine start_ (n := 18) (S := fun w' => True) (ds := []) #[false, false, false, false, false, false, false, false, false, false, false, false, false, false, false, false, false, false] (by kernel_rfl) rfl rfl trivial (fun hHeld => ?_); refine with_tabW sackbutref05_Made.tab12 sackbutref05_Made.bits12 (fun HT_ HW_ => ?_)
                      generalize wr.drew = w7 at HB hHeld ⊢
                      refine pure_ (i := 0) (N := some 25) (v := ?_) (a' := ?_) #[true, false, false, false, false, false, false, false, false, false, false, false, false, false, false, false, false, false] rfl rfl (any_of HT_.out (by kernel_rfl)) (fun _ _ _ h => h) (Or.inl ⟨by rfl, ?_⟩) ?_ ?_
                      rotate_left
                      · intro w'
                        go_simp
                        with_reducible rfl
                      rotate_left
                      · simp only [Act.put, List.setIfInBounds_toArray, List.set_cons_zero, List.set_cons_succ, i64_w, i32_w]
                        rfl
                      refine pure_ (i := 1) (N := some 26) (v := ?_) (a' := ?_) #[true, true, false, false, false, false, false, false, false, false, false, false, false, false, false, false, false, false] rfl rfl (any_of HT_.out (by kernel_rfl)) (fun _ _ _ h => h) (Or.inl ⟨by rfl, ?_⟩) ?_ ?_
                      rotate_left
                      · intro w'
                        go_simp
                        with_reducible rfl
                      rotate_left
                      · simp only [Act.put, List.setIfInBounds_toArray, List.set_cons_zero, List.set_cons_succ, i64_w, i32_w]
                        rfl
                      refine pure_ (i := 2) (N := some 27) (v := undef) (a' := ?_) #[true, true, true, false, false, false, false, false, false, false, false, false, false, false, false, false, false, false] rfl rfl (any_of HT_.out (by kernel_rfl)) (fun _ _ _ h => h) (Or.inr ⟨by rfl, rfl⟩) ?_ ?_
                      rotate_left
                      · simp only [Act.put, List.setIfInBounds_toArray, List.set_cons_zero, List.set_cons_succ, i64_w, i32_w]
                        rfl
                      refine pure_ (i := 3) (N := some 28) (v := undef) (a' := ?_) #[true, true, true, true, false, false, false, false, false, false, false, false, false, false, false, false, false, false] rfl rfl (any_of HT_.out (by kernel_rfl)) (fun _ _ _ h => h) (Or.inr ⟨by rfl, rfl⟩) ?_ ?_
                      rotate_left
                      · simp only [Act.put, List.setIfInBounds_toArray, List.set_cons_zero, List.set_cons_succ, i64_w, i32_w]
                        rfl
                      refine pure_ (i := 4) (N := some 29) (v := undef) (a' := ?_) #[true, true, true, true, true, false, false, false, false, false, false, false, false, false, false, false, false, false] rfl rfl (any_of HT_.out (by kernel_rfl)) (fun _ _ _ h => h) (Or.inr ⟨by rfl, rfl⟩) ?_ ?_
                      rotate_left
                      · simp only [Act.put, List.setIfInBounds_toArray, List.set_cons_zero, List.set_cons_succ, i64_w, i32_w]
                        rfl
                      refine pure_ (i := 5) (N := some 30) (v := undef) (a' := ?_) #[true, true, true, true, true, true, false, false, false, false, false, false, false, false, false, false, false, false] rfl rfl (any_of HT_.out (by kernel_rfl)) (fun _ _ _ h => h) (Or.inr ⟨by rfl, rfl⟩) ?_ ?_
                      rotate_left
                      · simp only [Act.put, List.setIfInBounds_toArray, List.set_cons_zero, List.set_cons_succ, i64_w, i32_w]
                        rfl
                      refine pure_ (i := 6) (N := some 31) (v := undef) (a' := ?_) #[true, true, true, true, true, true, true, false, false, false, false, false, false, false, false, false, false, false] rfl rfl (any_of HT_.out (by kernel_rfl)) (fun _ _ _ h => h) (Or.inr ⟨by rfl, rfl⟩) ?_ ?_
                      rotate_left
                      · simp only [Act.put, List.setIfInBounds_toArray, List.set_cons_zero, List.set_cons_succ, i64_w, i32_w]
                        rfl
                      refine pure_ (i := 7) (N := some 32) (v := undef) (a' := ?_) #[true, true, true, true, true, true, true, true, false, false, false, false, false, false, false, false, false, false] rfl rfl (any_of HT_.out (by kernel_rfl)) (fun _ _ _ h => h) (Or.inr ⟨by rfl, rfl⟩) ?_ ?_
                      rotate_left
                      · simp only [Act.put, List.setIfInBounds_toArray, List.set_cons_zero, List.set_cons_succ, i64_w, i32_w]
                        rfl
                      refine pure_ (i := 8) (N := some 33) (v := undef) (a' := ?_) #[true, true, true, true, true, true, true, true, true, false, false, false, false, false, false, false, false, false] rfl rfl (any_of HT_.out (by kernel_rfl)) (fun _ _ _ h => h) (Or.inr ⟨by rfl, rfl⟩) ?_ ?_
                      rotate_left
                      · simp only [Act.put, List.setIfInBounds_toArray, List.set_cons_zero, List.set_cons_succ, i64_w, i32_w]
                        rfl
                      refine pure_ (i := 9) (N := some 34) (v := undef) (a' := ?_) #[true, true, true, true, true, true, true, true, true, true, false, false, false, false, false, false, false, false] rfl rfl (any_of HT_.out (by kernel_rfl)) (fun _ _ _ h => h) (Or.inr ⟨by rfl, rfl⟩) ?_ ?_
                      rotate_left
                      · simp only [Act.put, List.setIfInBounds_toArray, List.set_cons_zero, List.set_cons_succ, i64_w, i32_w]
                        rfl
                      refine pure_ (i := 10) (N := some 35) (v := undef) (a' := ?_) #[true, true, true, true, true, true, true, true, true, true, true, false, false, false, false, false, false, false] rfl rfl (any_of HT_.out (by kernel_rfl)) (fun _ _ _ h => h) (Or.inr ⟨by rfl, rfl⟩) ?_ ?_
                      rotate_left
                      · simp only [Act.put, List.setIfInBounds_toArray, List.set_cons_zero, List.set_cons_succ, i64_w, i32_w]
                        rfl
                      refine pure_ (i := 11) (N := some 36) (v := undef) (a' := ?_) #[true, true, true, true, true, true, true, true, true, true, true, true, false, false, false, false, false, false] rfl rfl (any_of HT_.out (by kernel_rfl)) (fun _ _ _ h => h) (Or.inr ⟨by rfl, rfl⟩) ?_ ?_
                      rotate_left
                      · simp only [Act.put, List.setIfInBounds_toArray, List.set_cons_zero, List.set_cons_succ, i64_w, i32_w]
                        rfl
                      refine pure_ (i := 12) (N := some 37) (v := undef) (a' := ?_) #[true, true, true, true, true, true, true, true, true, true, true, true, true, false, false, false, false, false] rfl rfl (any_of HT_.out (by kernel_rfl)) (fun _ _ _ h => h) (Or.inr ⟨by rfl, rfl⟩) ?_ ?_
                      rotate_left
                      · simp only [Act.put, List.setIfInBounds_toArray, List.set_cons_zero, List.set_cons_succ, i64_w, i32_w]
                        rfl
                      refine pure_ (i := 13) (N := some 38) (v := undef) (a' := ?_) #[true, true, true, true, true, true, true, true, true, true, true, true, true, true, false, false, false, false] rfl rfl (any_of HT_.out (by kernel_rfl)) (fun _ _ _ h => h) (Or.inr ⟨by rfl, rfl⟩) ?_ ?_
                      rotate_left
                      · simp only [Act.put, List.setIfInBounds_toArray, List.set_cons_zero, List.set_cons_succ, i64_w, i32_w]
                        rfl
                      refine pure_ (i := 14) (N := some 39) (v := undef) (a' := ?_) #[true, true, true, true, true, true, true, true, true, true, true, true, true, true, true, false, false, false] rfl rfl (any_of HT_.out (by kernel_rfl)) (fun _ _ _ h => h) (Or.inr ⟨by rfl, rfl⟩) ?_ ?_
                      rotate_left
                      · simp only [Act.put, List.setIfInBounds_toArray, List.set_cons_zero, List.set_cons_succ, i64_w, i32_w]
                        rfl
                      refine pure_ (i := 15) (N := some 40) (v := undef) (a' := ?_) #[true, true, true, true, true, true, true, true, true, true, true, true, true, true, true, true, false, false] rfl rfl (any_of HT_.out (by kernel_rfl)) (fun _ _ _ h => h) (Or.inr ⟨by rfl, rfl⟩) ?_ ?_
                      rotate_left
                      · simp only [Act.put, List.setIfInBounds_toArray, List.set_cons_zero, List.set_cons_succ, i64_w, i32_w]
                        rfl
                      refine pure_ (i := 16) (N := some 41) (v := ?_) (a' := ?_) #[true, true, true, true, true, true, true, true, true, true, true, true, true, true, true, true, true, false] rfl rfl (any_of HT_.out (by kernel_rfl)) (fun _ _ _ h => h) (Or.inl ⟨by rfl, ?_⟩) ?_ ?_
                      rotate_left
                      · intro w'
                        go_simp
                        with_reducible rfl
                      rotate_left
                      · simp only [Act.put, List.setIfInBounds_toArray, List.set_cons_zero, List.set_cons_succ, i64_w, i32_w]
                        rfl
                      refine pure_ (i := 17) (N := some 7) (v := ?_) (a' := ?_) #[true, true, true, true, true, true, true, true, true, true, true, true, true, true, true, true, true, true] rfl rfl (any_of HT_.out (by kernel_rfl)) (fun _ _ _ h => h) (Or.inl ⟨by rfl, ?_⟩) ?_ ?_
                      rotate_left
                      · intro w'
                        go_simp
                        with_reducible rfl
                      rotate_left
                      · simp only [Act.put, List.setIfInBounds_toArray, List.set_cons_zero, List.set_cons_succ, i64_w, i32_w]
                        rfl
                      refine done_ (done_of HT_.out (by kernel_rfl)) ?_
                      try go_wp2
                      go_roundg k3
                      case measure => have := HK1.out; have := HK2.out; have := HK3.out; omega
                      case rel => exact ⟨(true), (wrap64 (x22_3 + 1)), (by first | rfl | (simp; done) | (simp [*]; done)), (by first | rfl | (simp; done) | (simp [*]; done)), H', ⟨by have := HK1.out; have := HK2.out; have := HK3.out; omega⟩, ⟨by repeat (first | (with_reducible first | exact HB.out | apply below_alloc | apply pw_below_drewN | apply below_drew1) | exact HB.out)⟩⟩
                    · replace c6 := Bool.eq_false_iff.mpr c6
                      subst c6
                      have H1 : (if 0 ≤ a1 then (if a1 ≤ (l0.length : Int) then ((sackbutref05_Form.f k3 (l0.take (a1 : Int).toNat) (l0.length : Int) x18_2 x22_3).bind fun t1003 => (if 0 ≤ x6_1 then (if x6_1 ≤ (wrap64 (x6_1 + a1)) then (if (wrap64 (x6_1 + a1)) ≤ (l0.length : Int) then ((sackbutref05_same.f k3 t1003 ((l0.take ((wrap64 (x6_1 + a1)) : Int).toNat).drop (x6_1 : Int).toNat)).bind fun t1008 => (sackbutref05_Made.l2 k3 l0 a1 (l0.length : Int) x6_1 t1008 x18_2 x18_2 (l0.length : Int) (wrap64 (x22_3 + 1)))) else (none)) else (none)) else (none))) else (none)) else (none)) = some r := by rw [if_neg (show ¬ (false = true) by decide)] at H; exact H
                      clear H
                      have H := H1
                      clear H1
                      by_cases c8 : 0 ≤ a1
                      · rw [if_pos c8] at H
                        have c8b0 := eq_true c8
                        have c8b1 : decide (0 ≤ a1) = true := decide_eq_true c8
                        clear c8
                        by_cases c9 : a1 ≤ (l0.length : Int)
                        · rw [if_pos c9] at H
                          have c9b0 := eq_true c9
                          have c9b1 : decide (a1 ≤ (l0.length : Int)) = true := decide_eq_true c9
                          clear c9
                          obtain ⟨y1001, hy1001⟩ : ∃ y_ : List Int, y_ = (l0.take (a1 : Int).toNat) := ⟨_, rfl⟩
                          replace H : ((sackbutref05_Form.f k3 y1001 (l0.length : Int) x18_2 x22_3).bind fun t1003 => (if 0 ≤ x6_1 then (if x6_1 ≤ (wrap64 (x6_1 + a1)) then (if (wrap64 (x6_1 + a1)) ≤ (l0.length : Int) then ((sackbutref05_same.f k3 t1003 ((l0.take ((wrap64 (x6_1 + a1)) : Int).toNat).drop (x6_1 : Int).toNat)).bind fun t1008 => (sackbutref05_Made.l2 k3 l0 a1 (l0.length : Int) x6_1 t1008 x18_2 x18_2 (l0.length : Int) (wrap64 (x22_3 + 1)))) else (none)) else (none)) else (none))) = some r := by first | (rw [hy1001]; with_reducible exact H) | (have H2_ := (Option.bind_some _ _).symm.trans H; rw [hy1001]; with_reducible exact H2_) | (have H2_ := (Option.bind_some _ _).symm.trans H; with_reducible exact H2_) | with_reducible exact H | (rw [hy1001]; exact H) | exact H
                          have Ny1001 := Aside0.mk hy1001
                          clear hy1001
                          replace H := Option.bind_eq_some_iff.mp H
                          obtain ⟨t1003, A100, H⟩ := H
                          replace H : (if 0 ≤ x6_1 then (if x6_1 ≤ (wrap64 (x6_1 + a1)) then (if (wrap64 (x6_1 + a1)) ≤ (l0.length : Int) then ((sackbutref05_same.f k3 t1003 ((l0.take ((wrap64 (x6_1 + a1)) : Int).toNat).drop (x6_1 : Int).toNat)).bind fun t1008 => (sackbutref05_Made.l2 k3 l0 a1 (l0.length : Int) x6_1 t1008 x18_2 x18_2 (l0.length : Int) (wrap64 (x22_3 + 1)))) else (none)) else (none)) else (none)) = some r := H
                          have A10 := Aside0.mk A100
                          clear A100
                          by_cases c11 : 0 ≤ x6_1
                          · rw [if_pos c11] at H
                            have c11b0 := eq_true c11
                            have c11b1 : decide (0 ≤ x6_1) = true := decide_eq_true c11
                            clear c11
                            by_cases c12 : x6_1 ≤ (wrap64 (x6_1 + a1))
                            · rw [if_pos c12] at H
                              have c12b0 := eq_true c12
                              have c12b1 : decide (x6_1 ≤ (wrap64 (x6_1 + a1))) = true := decide_eq_true c12
                              by_cases c13 : (wrap64 (x6_1 + a1)) ≤ (l0.length : Int)
                              · rw [if_pos c13] at H
                                have c13b0 := eq_true c13
                                have c13b1 : decide ((wrap64 (x6_1 + a1)) ≤ (l0.length : Int)) = true := decide_eq_true c13
                                obtain ⟨y1006, hy1006⟩ : ∃ y_ : List Int, y_ = ((l0.take ((wrap64 (x6_1 + a1)) : Int).toNat).drop (x6_1 : Int).toNat) := ⟨_, rfl⟩
                                replace H : ((sackbutref05_same.f k3 t1003 y1006).bind fun t1008 => (sackbutref05_Made.l2 k3 l0 a1 (l0.length : Int) x6_1 t1008 x18_2 x18_2 (l0.length : Int) (wrap64 (x22_3 + 1)))) = some r := by first | (rw [hy1006]; with_reducible exact H) | (have H2_ := (Option.bind_some _ _).symm.trans H; rw [hy1006]; with_reducible exact H2_) | (have H2_ := (Option.bind_some _ _).symm.trans H; with_reducible exact H2_) | with_reducible exact H | (rw [hy1006]; exact H) | exact H
                                have Ny1006 := Aside0.mk hy1006
                                clear hy1006
                                replace H := Option.bind_eq_some_iff.mp H
                                obtain ⟨t1008, A140, H⟩ := H
                                replace H : (sackbutref05_Made.l2 k3 l0 a1 (l0.length : Int) x6_1 t1008 x18_2 x18_2 (l0.length : Int) (wrap64 (x22_3 + 1))) = some r := H
                                have A14 := Aside0.mk A140
                                clear A140
                                have H' := Aside0.mk H
                                clear H
                                try go_wp2
                                have n0_ := Aside0.mk (below_drew1 HB.out)
                                clear HB
                                have HB := n0_
                                clear n0_
                                obtain ⟨i016, hi016, _, hsz16, _⟩ := info_parts info3
                                obtain ⟨hcut16, hA16, hC16⟩ := print_take_of (P := Try.prog) (Value.int .i64) 0 22 3 .i64 Try.underlying22 hi016 hsz16 A0 c0 l0 a1 (of_decide_eq_true (by first | (with_reducible assumption) | assumption)) (of_decide_eq_true (by first | (with_reducible assumption) | assumption)) HC0.out
                                (first | rw [← Ny1001.out] at hcut16 hA16 hC16 | (simp only [Int.reduceToNat] at hcut16 hA16 hC16; rw [← Ny1001.out] at hcut16 hA16 hC16))
                                have HR1002 := Aside0.mk (Kd.C_of_reads (h1 := fun _ => rfl) (hA16 _ (Kd.reads_of_C HR0.out)))
                                have HC1002 := Aside0.mk hC16
                                clear hA16 hC16 hi016 hsz16
                                obtain ⟨i017, hi017, _, hsz17, _⟩ := info_parts info3
                                obtain ⟨A17, hcut17, hA17, hC17⟩ := print_mid_of (P := Try.prog) (Value.int .i64) 0 22 3 .i64 .i64 Try.underlying22 hi017 hsz17 A0 c0 l0 x6_1 (wrap64 (x6_1 + a1)) (of_decide_eq_true (by first | (with_reducible assumption) | assumption)) (by first | omega | exact of_decide_eq_true (by first | (with_reducible assumption) | assumption)) (of_decide_eq_true (by first | (with_reducible assumption) | assumption)) HC0.out
                                (first | rw [← Ny1006.out] at hcut17 hA17 hC17 | (simp only [Int.reduceToNat] at hcut17 hA17 hC17; rw [← Ny1006.out] at hcut17 hA17 hC17))
                                have HR1007 := Aside0.mk (Kd.C_of_reads (h1 := fun _ => rfl) (hA17 _ (Kd.reads_of_C HR0.out)))
                                have HC1007 := Aside0.mk hC17
                                clear hA17 hC17 hi017 hsz17
                                refine start_ (n := 18) (S := fun w' => True) (ds := []) #[false, false, false, false, false, false, false, false, false, false, false, false, false, false, false, false, false, false] (by kernel_rfl) rfl rfl trivial (fun hHeld => ?_); refine with_tabW sackbutref05_Made.tab12 sackbutref05_Made.bits12 (fun HT_ HW_ => ?_)
                                generalize wr.drew = w15 at HB HR1002 HR1007 hHeld ⊢
                                refine pure_ (i := 0) (N := some 25) (v := ?_) (a' := ?_) #[true, false, false, false, false, false, false, false, false, false, false, false, false, false, false, false, false, false] rfl rfl (any_of HT_.out (by kernel_rfl)) (fun _ _ _ h => h) (Or.inl ⟨by rfl, ?_⟩) ?_ ?_
                                rotate_left
                                · intro w'
                                  go_simp
                                  with_reducible rfl
                                rotate_left
                                · simp only [Act.put, List.setIfInBounds_toArray, List.set_cons_zero, List.set_cons_succ, i64_w, i32_w]
                                  rfl
                                refine pure_ (i := 1) (N := some 26) (v := ?_) (a' := ?_) #[true, true, false, false, false, false, false, false, false, false, false, false, false, false, false, false, false, false] rfl rfl (any_of HT_.out (by kernel_rfl)) (fun _ _ _ h => h) (Or.inl ⟨by rfl, ?_⟩) ?_ ?_
                                rotate_left
                                · intro w'
                                  go_simp
                                  with_reducible rfl
                                rotate_left
                                · simp only [Act.put, List.setIfInBounds_toArray, List.set_cons_zero, List.set_cons_succ, i64_w, i32_w]
                                  rfl
                                refine pure_ (i := 2) (N := some 27) (v := ?_) (a' := ?_) #[true, true, true, false, false, false, false, false, false, false, false, false, false, false, false, false, false, false] rfl rfl (any_of HT_.out (by kernel_rfl)) (fun _ _ _ h => h) (Or.inl ⟨by rfl, ?_⟩) ?_ ?_
                                rotate_left
                                · intro w'
                                  go_simp
                                  with_reducible rfl
                                rotate_left
                                · simp only [Act.put, List.setIfInBounds_toArray, List.set_cons_zero, List.set_cons_succ, i64_w, i32_w]
                                  rfl
                                refine pure_ (i := 3) (N := some 28) (v := ?_) (a' := ?_) #[true, true, true, true, false, false, false, false, false, false, false, false, false, false, false, false, false, false] rfl rfl (any_of HT_.out (by kernel_rfl)) (fun _ _ _ h => h) (Or.inl ⟨by rfl, ?_⟩) ?_ ?_
                                rotate_left
                                · intro w'
                                  go_simp
                                  with_reducible rfl
                                rotate_left
                                · simp only [Act.put, List.setIfInBounds_toArray, List.set_cons_zero, List.set_cons_succ, i64_w, i32_w]
                                  rfl
                                refine pure_ (i := 4) (N := some 29) (v := ?_) (a' := ?_) #[true, true, true, true, true, false, false, false, false, false, false, false, false, false, false, false, false, false] rfl rfl (any_of HT_.out (by kernel_rfl)) (fun _ _ _ h => h) (Or.inl ⟨by rfl, ?_⟩) ?_ ?_
                                rotate_left
                                · intro w'
                                  go_simp
                                  with_reducible rfl
                                rotate_left
                                · simp only [Act.put, List.setIfInBounds_toArray, List.set_cons_zero, List.set_cons_succ, i64_w, i32_w]
                                  rfl
                                refine pure_ (i := 5) (N := some 30) (v := ?_) (a' := ?_) #[true, true, true, true, true, true, false, false, false, false, false, false, false, false, false, false, false, false] rfl rfl (any_of HT_.out (by kernel_rfl)) (fun _ _ _ h => h) (Or.inl ⟨by rfl, ?_⟩) ?_ ?_
                                rotate_left
                                · intro w'
                                  go_simp
                                  with_reducible rfl
                                rotate_left
                                · simp only [Act.put, List.setIfInBounds_toArray, List.set_cons_zero, List.set_cons_succ, i64_w, i32_w]
                                  rfl
                                refine pure_ (i := 6) (N := some 31) (v := ?_) (a' := ?_) #[true, true, true, true, true, true, true, false, false, false, false, false, false, false, false, false, false, false] rfl rfl (any_of HT_.out (by kernel_rfl)) (fun _ _ _ h => h) (Or.inl ⟨by rfl, ?_⟩) ?_ ?_
                                rotate_left
                                · intro w'
                                  go_simp
                                  with_reducible rfl
                                rotate_left
                                · simp only [Act.put, List.setIfInBounds_toArray, List.set_cons_zero, List.set_cons_succ, i64_w, i32_w]
                                  rfl
                                refine pure_ (i := 7) (N := some 32) (v := ?_) (a' := ?_) #[true, true, true, true, true, true, true, true, false, false, false, false, false, false, false, false, false, false] rfl rfl (any_of HT_.out (by kernel_rfl)) (fun _ _ _ h => h) (Or.inl ⟨by rfl, ?_⟩) ?_ ?_
                                rotate_left
                                · intro w'
                                  go_simp
                                  with_reducible rfl
                                rotate_left
                                · simp only [Act.put, List.setIfInBounds_toArray, List.set_cons_zero, List.set_cons_succ, i64_w, i32_w]
                                  rfl
                                refine pure_ (i := 9) (N := some 34) (v := ?_) (a' := ?_) #[true, true, true, true, true, true, true, true, false, true, false, false, false, false, false, false, false, false] rfl rfl (any_of HT_.out (by kernel_rfl)) (fun _ _ _ h => h) (Or.inl ⟨by rfl, ?_⟩) ?_ ?_
                                rotate_left
                                · intro w'
                                  go_simp
                                  with_reducible rfl
                                rotate_left
                                · simp only [Act.put, List.setIfInBounds_toArray, List.set_cons_zero, List.set_cons_succ, i64_w, i32_w]
                                  rfl
                                refine pure_ (i := 10) (N := some 35) (v := ?_) (a' := ?_) #[true, true, true, true, true, true, true, true, false, true, true, false, false, false, false, false, false, false] rfl rfl (any_of HT_.out (by kernel_rfl)) (fun _ _ _ h => h) (Or.inl ⟨by rfl, ?_⟩) ?_ ?_
                                rotate_left
                                · intro w'
                                  go_simp
                                  with_reducible rfl
                                rotate_left
                                · simp only [Act.put, List.setIfInBounds_toArray, List.set_cons_zero, List.set_cons_succ, i64_w, i32_w]
                                  rfl
                                refine pure_ (i := 11) (N := some 36) (v := ?_) (a' := ?_) #[true, true, true, true, true, true, true, true, false, true, true, true, false, false, false, false, false, false] rfl rfl (any_of HT_.out (by kernel_rfl)) (fun _ _ _ h => h) (Or.inl ⟨by rfl, ?_⟩) ?_ ?_
                                rotate_left
                                · intro w'
                                  go_simp
                                  with_reducible rfl
                                rotate_left
                                · simp only [Act.put, List.setIfInBounds_toArray, List.set_cons_zero, List.set_cons_succ, i64_w, i32_w]
                                  rfl
                                refine pure_ (i := 12) (N := some 37) (v := ?_) (a' := ?_) #[true, true, true, true, true, true, true, true, false, true, true, true, true, false, false, false, false, false] rfl rfl (any_of HT_.out (by kernel_rfl)) (fun _ _ _ h => h) (Or.inl ⟨by rfl, ?_⟩) ?_ ?_
                                rotate_left
                                · intro w'
                                  go_simp
                                  with_reducible rfl
                                rotate_left
                                · simp only [Act.put, List.setIfInBounds_toArray, List.set_cons_zero, List.set_cons_succ, i64_w, i32_w]
                                  rfl
                                refine pure_ (i := 13) (N := some 38) (v := ?_) (a' := ?_) #[true, true, true, true, true, true, true, true, false, true, true, true, true, true, false, false, false, false] rfl rfl (any_of HT_.out (by kernel_rfl)) (fun _ _ _ h => h) (Or.inl ⟨by rfl, ?_⟩) ?_ ?_
                                rotate_left
                                · intro w'
                                  go_simp
                                  with_reducible rfl
                                rotate_left
                                · simp only [Act.put, List.setIfInBounds_toArray, List.set_cons_zero, List.set_cons_succ, i64_w, i32_w]
                                  rfl
                                refine pure_ (i := 14) (N := some 39) (v := ?_) (a' := ?_) #[true, true, true, true, true, true, true, true, false, true, true, true, true, true, true, false, false, false] rfl rfl (any_of HT_.out (by kernel_rfl)) (fun _ _ _ h => h) (Or.inl ⟨by rfl, ?_⟩) ?_ ?_
                                rotate_left
                                · intro w'
                                  go_simp
                                  with_reducible rfl
                                rotate_left
                                · simp only [Act.put, List.setIfInBounds_toArray, List.set_cons_zero, List.set_cons_succ, i64_w, i32_w]
                                  rfl
                                refine one_ (i := 8) (N := some 33) #[true, true, true, true, true, true, true, true, true, true, true, true, true, true, true, false, false, false] rfl rfl (one_of HT_.out (by kernel_rfl)) (by decide) (fun K hK => ?_)
                                refine goes_ Try.func55 (by kernel_rfl) rfl #[.slice A0 y1001.length c0, .int .i64 (l0.length : Int), .int .i64 x18_2, .int .i64 x22_3] (by rfl) rfl rfl (by (try simp only [List.map_toArray, List.map_cons, List.map_nil]); first | done | rfl | (simp only [List.length_drop, List.length_take]; rfl)) ?_
                                with_reducible refine (sackbutref05_Form.calls k3 _ _ y1001 (l0.length : Int) x18_2 x22_3 t1003 _ ?side1 ?side2 A10.out).mono ?_
                                (case side1 => repeat (first | exact (Kd.C_below HR1002.out HB.out) | (with_reducible refine Kd.C_alloc ?_ _) | (with_reducible refine Kd.C_drewN ?_ _) | (with_reducible refine Kd.C_drew ?_)))
                                (case side2 => exact HC1002.out)
                                rintro e w18 ⟨v1004, rfl, ho0, hb⟩
                                refine ⟨_, rfl, ?_⟩
                                have n0_ := Aside0.mk (Kd.R_lower ho0 (below_size (by repeat (first | (with_reducible first | exact HB.out | apply below_alloc | apply pw_below_drewN | apply below_drew1) | exact HB.out))))
                                have n1_ := Aside0.mk (below_step (by repeat (first | (with_reducible first | exact HB.out | apply below_alloc | apply pw_below_drewN | apply below_drew1) | exact HB.out)) hb)
                                clear HB
                                have HO1005 := n0_
                                have HB := n1_
                                clear n0_ n1_
                                (try clear hb)
                                (try clear hb2)
                                (try clear hk)
                                (try clear hi)
                                (try clear ho0)
                                obtain ⟨Ao19, co19, eo19⟩ := Kd.R_slice HO1005.out
                                (first | subst eo19 | (injection eo19 with f1_ f2_ f3_; have f4_ := f1_.symm; have f5_ := f3_.symm; clear f1_ f2_ f3_; subst f4_; subst f5_))
                                refine hK.out _ _ trivial (fun hHeld => ?_)
                                clear hK K
                                refine norm_ (a' := ?_) ?_ ?_
                                rotate_left
                                · show Act.put _ (some 33) _ = _
                                  simp only [Act.put, List.setIfInBounds_toArray, List.set_cons_zero, List.set_cons_succ, i64_w, i32_w]
                                  rfl
                                refine one_ (i := 15) (N := some 40) #[true, true, true, true, true, true, true, true, true, true, true, true, true, true, true, true, false, false] rfl rfl (one_of HT_.out (by kernel_rfl)) (by decide) (fun K hK => ?_)
                                refine goes_ Try.func54 (by kernel_rfl) rfl #[.slice Ao19 t1003.length co19, .slice A17 y1006.length (c0 - x6_1.toNat)] (by rfl) rfl rfl (by (try simp only [List.map_toArray, List.map_cons, List.map_nil]); first | done | rfl | (simp only [List.length_drop, List.length_take]; rfl)) ?_
                                with_reducible refine (sackbutref05_same.calls k3 _ _ t1003 _ _ y1006 t1008 _ ?side1 ?side2 ?side3 ?side4 A14.out).mono ?_
                                (case side1 => repeat (first | exact (Kd.R_reads' HO1005.out).2.2 | (with_reducible refine Kd.C_alloc ?_ _) | (with_reducible refine Kd.C_drewN ?_ _) | (with_reducible refine Kd.C_drew ?_)))
                                (case side2 => exact (Kd.R_reads' HO1005.out).2.1)
                                (case side3 => repeat (first | exact (Kd.C_below HR1007.out HB.out) | (with_reducible refine Kd.C_alloc ?_ _) | (with_reducible refine Kd.C_drewN ?_ _) | (with_reducible refine Kd.C_drew ?_)))
                                (case side4 => exact HC1007.out)
                                rintro e w' ⟨rfl, ⟨nd, rfl⟩⟩
                                refine ⟨_, rfl, ?_⟩
                                refine hK.out _ _ trivial (fun hHeld => ?_)
                                clear hK K
                                refine norm_ (a' := ?_) ?_ ?_
                                rotate_left
                                · show Act.put _ (some 40) _ = _
                                  simp only [Act.put, List.setIfInBounds_toArray, List.set_cons_zero, List.set_cons_succ, i64_w, i32_w]
                                  rfl
                                refine pure_ (i := 16) (N := some 41) (v := ?_) (a' := ?_) #[true, true, true, true, true, true, true, true, true, true, true, true, true, true, true, true, true, false] rfl rfl (any_of HT_.out (by kernel_rfl)) (fun _ _ _ h => h) (Or.inl ⟨by rfl, ?_⟩) ?_ ?_
                                rotate_left
                                · intro w'
                                  go_simp
                                  with_reducible rfl
                                rotate_left
                                · simp only [Act.put, List.setIfInBounds_toArray, List.set_cons_zero, List.set_cons_succ, i64_w, i32_w]
                                  rfl
                                refine pure_ (i := 17) (N := some 7) (v := ?_) (a' := ?_) #[true, true, true, true, true, true, true, true, true, true, true, true, true, true, true, true, true, true] rfl rfl (any_of HT_.out (by kernel_rfl)) (fun _ _ _ h => h) (Or.inl ⟨by rfl, ?_⟩) ?_ ?_
                                rotate_left
                                · intro w'
                                  go_simp
                                  with_reducible rfl
                                rotate_left
                                · simp only [Act.put, List.setIfInBounds_toArray, List.set_cons_zero, List.set_cons_succ, i64_w, i32_w]
                                  rfl
                                refine done_ (done_of HT_.out (by kernel_rfl)) ?_
                                try go_wp2
                                go_roundg k3
                                case measure => have := HK1.out; have := HK2.out; have := HK3.out; omega
                                case rel => exact ⟨(t1008), (wrap64 (x22_3 + 1)), (by first | rfl | (simp; done) | (simp [*]; done)), (by first | rfl | (simp; done) | (simp [*]; done)), H', ⟨by have := HK1.out; have := HK2.out; have := HK3.out; omega⟩, ⟨by repeat (first | (with_reducible first | exact HB.out | apply below_alloc | apply pw_below_drewN | apply below_drew1) | exact HB.out)⟩⟩
                              · rw [if_neg c13] at H
                                exact absurd H (by simp)
                            · rw [if_neg c12] at H
                              exact absurd H (by simp)
                          · rw [if_neg c11] at H
                            exact absurd H (by simp)
                        · rw [if_neg c9] at H
                          exact absurd H (by simp)
                      · rw [if_neg c8] at H
                        exact absurd H (by simp)
                  · rw [if_neg c5] at H
                    have c5b0 : decide (x22_3 < (l0.length : Int)) = false := decide_eq_false c5
                    clear c5
                    have H' := Aside0.mk H
                    clear H
                    go_wp2
                    go_roundg k3
                    case measure => have := HK1.out; have := HK2.out; have := HK3.out; omega
                    case rel => exact ⟨(x7_3), (wrap64 (x18_2 + 1)), (by first | rfl | (simp; done) | (simp [*]; done)), (by first | rfl | (simp; done) | (simp [*]; done)), H', ⟨by have := HK1.out; have := HK2.out; have := HK3.out; omega⟩, ⟨by repeat (first | (with_reducible first | exact HB.out | apply below_alloc | apply pw_below_drewN | apply below_drew1) | exact HB.out)⟩⟩
            · rw [if_neg c4] at H
              have c4b0 : decide (x18_2 < 4) = false := decide_eq_false c4
              clear c4
              by_cases c20 : x7_2 = true
              · subst c20
                have H1 : (sackbutref05_Made.l0 k2 l0 a1 (l0.length : Int) (wrap64 (x6_1 + a1))) = some r := by rw [if_pos rfl] at H; exact H
                clear H
                have H := H1
                clear H1
                have H' := Aside0.mk H
                clear H
                go_wp2
                go_roundg k2
                case measure => have := HK1.out; have := HK2.out; omega
                case rel => exact ⟨(wrap64 (x6_1 + a1)), (by first | rfl | (simp; done) | (simp [*]; done)), H', ⟨by have := HK1.out; have := HK2.out; omega⟩, ⟨by repeat (first | (with_reducible first | exact HB.out | apply below_alloc | apply pw_below_drewN | apply below_drew1) | exact HB.out)⟩⟩
              · replace c20 := Bool.eq_false_iff.mpr c20
                subst c20
                have H1 : (some false) = some r := by rw [if_neg (show ¬ (false = true) by decide)] at H; exact H
                clear H
                have H := H1
                clear H1
                obtain rfl := Option.some.inj H
                go_wp2
                go_ret
                exact ⟨by first | rfl | (simp [errW_none, errW_some] <;> rfl) | (simp [*, errW_none, errW_some] <;> rfl), by repeat (first | (with_reducible first | exact HB.out | apply below_alloc | apply pw_below_drewN | apply below_drew1) | exact HB.out)⟩
      · rw [if_neg c3] at H
        have c3b0 : decide (x6_1 < (l0.length : Int)) = false := decide_eq_false c3
        clear c3
        obtain rfl := Option.some.inj H
        go_wp2
        go_ret
        exact ⟨by first | rfl | (simp [errW_none, errW_some] <;> rfl) | (simp [*, errW_none, errW_some] <;> rfl), by repeat (first | (with_reducible first | exact HB.out | apply below_alloc | apply pw_below_drewN | apply below_drew1) | exact HB.out)⟩

end Go.Proofs.Ytpfjnpbcnlbhaaa.P
namespace Go.Proofs.Ytpfjnpbcnlbhaaa.P
open Go.RowKit Go.Proofs.YtpfjnpbcnlbhaaaW.PrintWords Go.Proofs.YtpfjnpbcnlbhaaaW.PrintLast Go.Proofs.YtpfjnpbcnlbhaaaW.PrintMore
attribute [local go_sem] max2_int min2_int max_two min_two max_three min_three max_four min_four   -- for this text's walks alone
set_option linter.unusedVariables false
set_option linter.unusedSimpArgs false

/-! ### sackbutlaw05_RowsMade: function 11 -/
def sackbutlaw05_RowsMade.j0 : Nat → List Int → Int → Bool → Int → Bool → Option (Bool)
  | 0, _, _, _, _, _ => none
  | k + 1, x0, x1, x5, x6, x23 => if x23 = true then (if x5 = true then (some false) else (if x6 = 2 then ((sackbutlaw05_awake.f k).bind fun t1008 => (some t1008)) else (some false))) else ((sackbutref05_Made.f k x0 x1).bind fun t1009 => (if (x5 == t1009) = true then (if x6 = 0 then ((sackbutlaw05_awake.f k).bind fun t1010 => (some t1010)) else (some false)) else (some false)))
def sackbutlaw05_RowsMade.f (k : Nat) (l0 : List Int) (a1 : Int) : Option (Bool) := (sackbutlaw05_list.f l0).bind fun t1001 => ((rows_Made.f t1001 a1).bind fun bt1004 => ((sackbutref05_Row.f k l0).bind fun t1006 => (if t1006 = true then ((sackbutref05_Length.f (l0.length : Int) a1).bind fun t1007 => (sackbutlaw05_RowsMade.j0 k l0 a1 bt1004.1 bt1004.2 (!t1007))) else (sackbutlaw05_RowsMade.j0 k l0 a1 bt1004.1 bt1004.2 true))))
theorem sackbutlaw05_RowsMade.mono_l : ∀ k, (∀ y0 y1 y2 y3 y4, LeO (sackbutlaw05_RowsMade.j0 k y0 y1 y2 y3 y4) (sackbutlaw05_RowsMade.j0 (k + 1) y0 y1 y2 y3 y4))
  | 0 => fun _ _ _ _ _ r h => by simp [sackbutlaw05_RowsMade.j0] at h
  | k + 1 => by
    have ih0 := sackbutlaw05_RowsMade.mono_l k
    · intro y0 y1 y2 y3 y4
      unfold sackbutlaw05_RowsMade.j0
      repeat' first
      | (with_reducible exact ih0 _ _ _ _ _)
      | (with_reducible exact sackbutlaw05_awake.mono _)
      | (with_reducible exact sackbutref05_Made.mono _ _ _)
      | (with_reducible exact sackbutref05_Row.mono _ _)
      | (with_reducible exact LeO.refl _)
      | (with_reducible exact LeO.none _)
      | (with_reducible refine LeO.ite ?_ ?_)
      | (with_reducible refine LeO.bind ?_ (fun _ => ?_))
      | exact ih0 _ _ _ _ _
      | exact sackbutlaw05_awake.mono _
      | exact sackbutref05_Made.mono _ _ _
      | exact sackbutref05_Row.mono _ _
      | exact LeO.none _
      | refine LeO.ite ?_ ?_
      | refine LeO.bind ?_ (fun _ => ?_)
theorem sackbutlaw05_RowsMade.mono : ∀ a0 a1 k, LeO (sackbutlaw05_RowsMade.f k a0 a1) (sackbutlaw05_RowsMade.f (k + 1) a0 a1) := by
  intro a0 a1 k
  have ih0 := sackbutlaw05_RowsMade.mono_l k
  unfold sackbutlaw05_RowsMade.f
  repeat' first
      | (with_reducible exact ih0 _ _ _ _ _)
      | (with_reducible exact sackbutlaw05_awake.mono _)
      | (with_reducible exact sackbutref05_Made.mono _ _ _)
      | (with_reducible exact sackbutref05_Row.mono _ _)
      | (with_reducible exact LeO.refl _)
      | (with_reducible exact LeO.none _)
      | (with_reducible refine LeO.ite ?_ ?_)
      | (with_reducible refine LeO.bind ?_ (fun _ => ?_))
      | exact ih0 _ _ _ _ _
      | exact sackbutlaw05_awake.mono _
      | exact sackbutref05_Made.mono _ _ _
      | exact sackbutref05_Row.mono _ _
      | exact LeO.none _
      | refine LeO.ite ?_ ?_
      | refine LeO.bind ?_ (fun _ => ?_)
set_option maxHeartbeats 8000000 in
set_option maxRecDepth 100000 in
theorem sackbutlaw05_RowsMade.calls (k : Nat) (A0 : Option Addr) (c0 : Nat) (l0 : List Int) (a1 : Int) (r : Bool) (w : World) (hr0 : Kd.C (Kd.int .i64) w A0 l0.length l0) (hc0 : l0.length ≤ c0) (h : sackbutlaw05_RowsMade.f k l0 a1 = some r) :
    Calls Try.prog 11 #[.slice A0 l0.length c0, .int .i64 a1] w fun e w' => e = .returned (.bool r) ∧ Below w.heap.size w w' := by
  have HR0 := Aside0.mk hr0
  have HC0 := Aside0.mk hc0
  clear hr0 hc0
  have HB := Aside0.mk (Below.refl w.heap.size w)
  have H : ((sackbutlaw05_list.f l0).bind fun t1001 => ((rows_Made.f t1001 a1).bind fun bt1004 => ((sackbutref05_Row.f k l0).bind fun t1006 => (if t1006 = true then ((sackbutref05_Length.f (l0.length : Int) a1).bind fun t1007 => (sackbutlaw05_RowsMade.j0 k l0 a1 bt1004.1 bt1004.2 (!t1007))) else (sackbutlaw05_RowsMade.j0 k l0 a1 bt1004.1 bt1004.2 true))))) = some r := h
  clear h
  replace H := Option.bind_eq_some_iff.mp H
  obtain ⟨t1001, A30, H⟩ := H
  replace H : ((rows_Made.f t1001 a1).bind fun bt1004 => ((sackbutref05_Row.f k l0).bind fun t1006 => (if t1006 = true then ((sackbutref05_Length.f (l0.length : Int) a1).bind fun t1007 => (sackbutlaw05_RowsMade.j0 k l0 a1 bt1004.1 bt1004.2 (!t1007))) else (sackbutlaw05_RowsMade.j0 k l0 a1 bt1004.1 bt1004.2 true)))) = some r := H
  have A3 := Aside0.mk A30
  clear A30
  replace H := Option.bind_eq_some_iff.mp H
  obtain ⟨⟨t1004, t1005⟩, A40, H⟩ := H
  replace H : ((sackbutref05_Row.f k l0).bind fun t1006 => (if t1006 = true then ((sackbutref05_Length.f (l0.length : Int) a1).bind fun t1007 => (sackbutlaw05_RowsMade.j0 k l0 a1 t1004 t1005 (!t1007))) else (sackbutlaw05_RowsMade.j0 k l0 a1 t1004 t1005 true))) = some r := H
  have A4 := Aside0.mk A40
  clear A40
  have HC5 := Aside0.mk H
  clear H
  go_enter Try.func11, Try.ntmps11
  go_upto_region 2 with (first | ((with_reducible refine gate_callee (f := 16) rfl ?_); refine goesL_ (some 9) rfl rfl Try.func16 (by kernel_rfl) rfl #[.slice A0 l0.length c0] rfl (by (try simp only [List.map_toArray, List.map_cons, List.map_nil]); first | done | rfl | (simp only [List.length_drop, List.length_take]; rfl)) ?_; (with_reducible refine (sackbutlaw05_list.calls _ _ l0 t1001 _ ?side1 ?side2 A3.out).mono ?_); (case side1 => repeat (first | exact HR0.out | (with_reducible refine Kd.C_alloc ?_ _) | (with_reducible refine Kd.C_drewN ?_ _) | (with_reducible refine Kd.C_drew ?_))); (case side2 => exact HC0.out); rintro e w6 ⟨v1002, rfl, ho0, hb⟩; refine ⟨_, rfl, ?_⟩; have n0_ := Aside0.mk (Kd.R_lower ho0 (below_size (by repeat (first | (with_reducible first | exact HB.out | apply below_alloc | apply pw_below_drewN | apply below_drew1) | exact HB.out)))); have n1_ := Aside0.mk (below_step (by repeat (first | (with_reducible first | exact HB.out | apply below_alloc | apply pw_below_drewN | apply below_drew1) | exact HB.out)) hb); clear HB; have HO1003 := n0_; have HB := n1_; clear n0_ n1_; (try clear hb); (try clear hb2); (try clear hk); (try clear hi); (try clear ho0); obtain ⟨Ao7, co7, eo7⟩ := Kd.R_slice HO1003.out; subst eo7) | ((with_reducible refine gate_callee (f := 37) rfl ?_); refine goesL_ (some 11) rfl rfl Try.func37 (by kernel_rfl) rfl #[.slice Ao7 t1001.length co7, .int .i64 a1] rfl (by (try simp only [List.map_toArray, List.map_cons, List.map_nil]); first | done | rfl | (simp only [List.length_drop, List.length_take]; rfl)) ?_; (with_reducible refine (rows_Made.calls _ _ t1001 a1 t1004 t1005 _ ?side1 ?side2 A4.out).mono ?_); (case side1 => repeat (first | exact (Kd.R_reads' HO1003.out).2.2 | (with_reducible refine Kd.C_alloc ?_ _) | (with_reducible refine Kd.C_drewN ?_ _) | (with_reducible refine Kd.C_drew ?_))); (case side2 => exact (Kd.R_reads' HO1003.out).2.1); rintro e w8 ⟨rfl, hb⟩; refine ⟨_, rfl, ?_⟩; have n0_ := Aside0.mk (Kd.R_below (by (with_reducible repeat (first | apply Kd.R_alloc | apply Kd.R_drewN | apply Kd.R_drew)); exact HO1003.out) hb); have n1_ := Aside0.mk (below_step (by repeat (first | (with_reducible first | exact HB.out | apply below_alloc | apply pw_below_drewN | apply below_drew1) | exact HB.out)) hb); clear HO1003; clear HB; have HO1003 := n0_; have HB := n1_; clear n0_ n1_; (try clear hb); (try clear hb2); (try clear hk); (try clear hi)))
  (try simp only [Act.put, List.setIfInBounds_toArray, List.set_cons_zero, List.set_cons_succ])
  go_cut [23] (fun v23 wc => ∃ (kq : Nat) (x23_4 : Bool), v23 = .bool x23_4 ∧ Aside0 (sackbutlaw05_RowsMade.j0 kq l0 a1 t1004 t1005 x23_4 = some r) ∧ Aside0 (kq ≤ k) ∧ Aside0 (Below w.heap.size w wc))
  case first =>
    have H := HC5.out
    clear HC5
    replace H := Option.bind_eq_some_iff.mp H
    obtain ⟨t1006, A90, H⟩ := H
    replace H : (if t1006 = true then ((sackbutref05_Length.f (l0.length : Int) a1).bind fun t1007 => (sackbutlaw05_RowsMade.j0 k l0 a1 t1004 t1005 (!t1007))) else (sackbutlaw05_RowsMade.j0 k l0 a1 t1004 t1005 true)) = some r := H
    have A9 := Aside0.mk A90
    clear A90
    by_cases c10 : t1006 = true
    · subst c10
      have H1 : ((sackbutref05_Length.f (l0.length : Int) a1).bind fun t1007 => (sackbutlaw05_RowsMade.j0 k l0 a1 t1004 t1005 (!t1007))) = some r := by rw [if_pos rfl] at H; exact H
      clear H
      have H := H1
      clear H1
      replace H := Option.bind_eq_some_iff.mp H
      obtain ⟨t1007, A110, H⟩ := H
      replace H : (sackbutlaw05_RowsMade.j0 k l0 a1 t1004 t1005 (!t1007)) = some r := H
      have A11 := Aside0.mk A110
      clear A110
      have H' := Aside0.mk H
      clear H
      go_wp2_with (first | ((with_reducible refine gate_callee (f := 18) rfl ?_); refine goesL_ (some 15) rfl rfl Try.func18 (by kernel_rfl) rfl #[.slice A0 l0.length c0] rfl (by (try simp only [List.map_toArray, List.map_cons, List.map_nil]); first | done | rfl | (simp only [List.length_drop, List.length_take]; rfl)) ?_; (with_reducible refine (sackbutref05_Row.calls k _ _ l0 true _ ?side1 ?side2 A9.out).mono ?_); (case side1 => repeat (first | exact (Kd.C_below HR0.out HB.out) | (with_reducible refine Kd.C_alloc ?_ _) | (with_reducible refine Kd.C_drewN ?_ _) | (with_reducible refine Kd.C_drew ?_))); (case side2 => exact HC0.out); rintro e w' ⟨rfl, ⟨nd, rfl⟩⟩; refine ⟨_, rfl, ?_⟩) | (go_at_call 38; (with_reducible refine (sackbutref05_Length.calls (l0.length : Int) a1 t1007 _ A11.out).mono ?_); rintro e w' ⟨rfl, ⟨nd, rfl⟩⟩))
      go_meet
      case rel => exact ⟨_, (!t1007), (by first | rfl | (simp; done) | (simp [*]; done)), H', ⟨by first | omega | exact Nat.le_refl _⟩, ⟨by repeat (first | (with_reducible first | exact HB.out | apply below_alloc | apply pw_below_drewN | apply below_drew1) | exact HB.out)⟩⟩
    · replace c10 := Bool.eq_false_iff.mpr c10
      subst c10
      have H1 : (sackbutlaw05_RowsMade.j0 k l0 a1 t1004 t1005 true) = some r := by rw [if_neg (show ¬ (false = true) by decide)] at H; exact H
      clear H
      have H := H1
      clear H1
      have H' := Aside0.mk H
      clear H
      go_wp2_with (first | ((with_reducible refine gate_callee (f := 18) rfl ?_); refine goesL_ (some 15) rfl rfl Try.func18 (by kernel_rfl) rfl #[.slice A0 l0.length c0] rfl (by (try simp only [List.map_toArray, List.map_cons, List.map_nil]); first | done | rfl | (simp only [List.length_drop, List.length_take]; rfl)) ?_; (with_reducible refine (sackbutref05_Row.calls k _ _ l0 false _ ?side1 ?side2 A9.out).mono ?_); (case side1 => repeat (first | exact (Kd.C_below HR0.out HB.out) | (with_reducible refine Kd.C_alloc ?_ _) | (with_reducible refine Kd.C_drewN ?_ _) | (with_reducible refine Kd.C_drew ?_))); (case side2 => exact HC0.out); rintro e w' ⟨rfl, ⟨nd, rfl⟩⟩; refine ⟨_, rfl, ?_⟩))
      go_meet
      case rel => exact ⟨_, (true), (by first | rfl | (simp; done) | (simp [*]; done)), H', ⟨by first | omega | exact Nat.le_refl _⟩, ⟨by repeat (first | (with_reducible first | exact HB.out | apply below_alloc | apply pw_below_drewN | apply below_drew1) | exact HB.out)⟩⟩
  case rest =>
    clear HC5
    try clear c1
    try clear p2
    try clear c3
    try clear c10
    try clear c11
    obtain ⟨kq, x23_4, rfl, HA, HJ4, HB⟩ := hcut
    cases kq with
    | zero => exact absurd HA.out (by simp [sackbutlaw05_RowsMade.j0])
    | succ kj4 =>
      have H := HA.out
      clear HA
      simp only [sackbutlaw05_RowsMade.j0] at H
      by_cases c12 : x23_4 = true
      · subst c12
        have H1 : (if t1004 = true then (some false) else (if t1005 = 2 then ((sackbutlaw05_awake.f kj4).bind fun t1008 => (some t1008)) else (some false))) = some r := by rw [if_pos rfl] at H; exact H
        clear H
        have H := H1
        clear H1
        by_cases c13 : t1004 = true
        · subst c13
          have H1 : (some false) = some r := by rw [if_pos rfl] at H; exact H
          clear H
          have H := H1
          clear H1
          obtain rfl := Option.some.inj H
          go_wp2
          go_ret
          exact ⟨by first | rfl | (simp [errW_none, errW_some] <;> rfl) | (simp [*, errW_none, errW_some] <;> rfl), by repeat (first | (with_reducible first | exact HB.out | apply below_alloc | apply pw_below_drewN | apply below_drew1) | exact HB.out)⟩
        · replace c13 := Bool.eq_false_iff.mpr c13
          subst c13
          have H1 : (if t1005 = 2 then ((sackbutlaw05_awake.f kj4).bind fun t1008 => (some t1008)) else (some false)) = some r := by rw [if_neg (show ¬ (false = true) by decide)] at H; exact H
          clear H
          have H := H1
          clear H1
          by_cases c14 : t1005 = 2
          · rw [if_pos c14] at H
            have c14b0 : (t1005 == 2) = true := beq_iff_eq.mpr c14
            have c14b1 : (t1005 != 2) = false := bne_eq_false_iff_eq.mpr c14
            clear c14
            replace H := Option.bind_eq_some_iff.mp H
            obtain ⟨t1008, A150, H⟩ := H
            replace H : (some t1008) = some r := H
            have A15 := Aside0.mk A150
            clear A150
            obtain rfl := Option.some.inj H
            go_wp2_with (first | (go_at_call 19; (with_reducible refine (sackbutlaw05_awake.calls kj4  t1008 _ A15.out).mono ?_); rintro e w16 ⟨rfl, hb⟩; have n0_ := Aside0.mk (below_step (by repeat (first | (with_reducible first | exact HB.out | apply below_alloc | apply pw_below_drewN | apply below_drew1) | exact HB.out)) hb); clear HB; have HB := n0_; clear n0_; (try clear hb); (try clear hb2); (try clear hk); (try clear hi)))
            go_ret
            exact ⟨by first | rfl | (simp [errW_none, errW_some] <;> rfl) | (simp [*, errW_none, errW_some] <;> rfl), by repeat (first | (with_reducible first | exact HB.out | apply below_alloc | apply pw_below_drewN | apply below_drew1) | exact HB.out)⟩
          · rw [if_neg c14] at H
            have c14b0 : (t1005 == 2) = false := beq_eq_false_iff_ne.mpr c14
            have c14b1 : (t1005 != 2) = true := bne_iff_ne.mpr c14
            obtain rfl := Option.some.inj H
            go_wp2
            go_ret
            exact ⟨by first | rfl | (simp [errW_none, errW_some] <;> rfl) | (simp [*, errW_none, errW_some] <;> rfl), by repeat (first | (with_reducible first | exact HB.out | apply below_alloc | apply pw_below_drewN | apply below_drew1) | exact HB.out)⟩
      · replace c12 := Bool.eq_false_iff.mpr c12
        subst c12
        have H1 : ((sackbutref05_Made.f kj4 l0 a1).bind fun t1009 => (if (t1004 == t1009) = true then (if t1005 = 0 then ((sackbutlaw05_awake.f kj4).bind fun t1010 => (some t1010)) else (some false)) else (some false))) = some r := by rw [if_neg (show ¬ (false = true) by decide)] at H; exact H
        clear H
        have H := H1
        clear H1
        replace H := Option.bind_eq_some_iff.mp H
        obtain ⟨t1009, A170, H⟩ := H
        replace H : (if (t1004 == t1009) = true then (if t1005 = 0 then ((sackbutlaw05_awake.f kj4).bind fun t1010 => (some t1010)) else (some false)) else (some false)) = some r := H
        have A17 := Aside0.mk A170
        clear A170
        by_cases c18 : (t1004 == t1009) = true
        · rw [if_pos c18] at H
          have c18b0 : (t1004 == t1009) = true := c18
          (try (have c18b1 : decide (t1004 = t1009) = true := by simpa using c18))
          (try (have c18b2 : (t1004 == t1009) = true := by simpa using c18))
          clear c18
          by_cases c19 : t1005 = 0
          · rw [if_pos c19] at H
            have c19b0 : (t1005 == 0) = true := beq_iff_eq.mpr c19
            have c19b1 : (t1005 != 0) = false := bne_eq_false_iff_eq.mpr c19
            clear c19
            replace H := Option.bind_eq_some_iff.mp H
            obtain ⟨t1010, A200, H⟩ := H
            replace H : (some t1010) = some r := H
            have A20 := Aside0.mk A200
            clear A200
            obtain rfl := Option.some.inj H
            go_wp2_with (first | ((with_reducible refine gate_callee (f := 39) rfl ?_); refine goesL_ (some 36) rfl rfl Try.func39 (by kernel_rfl) rfl #[.slice A0 l0.length c0, .int .i64 a1] rfl (by (try simp only [List.map_toArray, List.map_cons, List.map_nil]); first | done | rfl | (simp only [List.length_drop, List.length_take]; rfl)) ?_; (with_reducible refine (sackbutref05_Made.calls kj4 _ _ l0 a1 t1009 _ ?side1 ?side2 A17.out).mono ?_); (case side1 => repeat (first | exact (Kd.C_below HR0.out HB.out) | (with_reducible refine Kd.C_alloc ?_ _) | (with_reducible refine Kd.C_drewN ?_ _) | (with_reducible refine Kd.C_drew ?_))); (case side2 => exact HC0.out); rintro e w21 ⟨rfl, hb⟩; refine ⟨_, rfl, ?_⟩; have n0_ := Aside0.mk (below_step (by repeat (first | (with_reducible first | exact HB.out | apply below_alloc | apply pw_below_drewN | apply below_drew1) | exact HB.out)) hb); clear HB; have HB := n0_; clear n0_; (try clear hb); (try clear hb2); (try clear hk); (try clear hi)) | (go_at_call 19; (with_reducible refine (sackbutlaw05_awake.calls kj4  t1010 _ A20.out).mono ?_); rintro e w22 ⟨rfl, hb⟩; have n0_ := Aside0.mk (below_step (by repeat (first | (with_reducible first | exact HB.out | apply below_alloc | apply pw_below_drewN | apply below_drew1) | exact HB.out)) hb); clear HB; have HB := n0_; clear n0_; (try clear hb); (try clear hb2); (try clear hk); (try clear hi)))
            go_ret
            exact ⟨by first | rfl | (simp [errW_none, errW_some] <;> rfl) | (simp [*, errW_none, errW_some] <;> rfl), by repeat (first | (with_reducible first | exact HB.out | apply below_alloc | apply pw_below_drewN | apply below_drew1) | exact HB.out)⟩
          · rw [if_neg c19] at H
            have c19b0 : (t1005 == 0) = false := beq_eq_false_iff_ne.mpr c19
            have c19b1 : (t1005 != 0) = true := bne_iff_ne.mpr c19
            obtain rfl := Option.some.inj H
            go_wp2_with (first | ((with_reducible refine gate_callee (f := 39) rfl ?_); refine goesL_ (some 36) rfl rfl Try.func39 (by kernel_rfl) rfl #[.slice A0 l0.length c0, .int .i64 a1] rfl (by (try simp only [List.map_toArray, List.map_cons, List.map_nil]); first | done | rfl | (simp only [List.length_drop, List.length_take]; rfl)) ?_; (with_reducible refine (sackbutref05_Made.calls kj4 _ _ l0 a1 t1009 _ ?side1 ?side2 A17.out).mono ?_); (case side1 => repeat (first | exact (Kd.C_below HR0.out HB.out) | (with_reducible refine Kd.C_alloc ?_ _) | (with_reducible refine Kd.C_drewN ?_ _) | (with_reducible refine Kd.C_drew ?_))); (case side2 => exact HC0.out); rintro e w23 ⟨rfl, hb⟩; refine ⟨_, rfl, ?_⟩; have n0_ := Aside0.mk (below_step (by repeat (first | (with_reducible first | exact HB.out | apply below_alloc | apply pw_below_drewN | apply below_drew1) | exact HB.out)) hb); clear HB; have HB := n0_; clear n0_; (try clear hb); (try clear hb2); (try clear hk); (try clear hi)))
            go_ret
            exact ⟨by first | rfl | (simp [errW_none, errW_some] <;> rfl) | (simp [*, errW_none, errW_some] <;> rfl), by repeat (first | (with_reducible first | exact HB.out | apply below_alloc | apply pw_below_drewN | apply below_drew1) | exact HB.out)⟩
        · rw [if_neg c18] at H
          have c18b0 : (t1004 == t1009) = false := by simpa using c18
          (try (have c18b1 : decide (t1004 = t1009) = false := by simpa using c18))
          (try (have c18b2 : (t1004 == t1009) = false := by simpa using c18))
          (try (have c18b3 : ¬ (t1004 = t1009) := by simpa using c18))
          clear c18
          obtain rfl := Option.some.inj H
          go_wp2_with (first | ((with_reducible refine gate_callee (f := 39) rfl ?_); refine goesL_ (some 36) rfl rfl Try.func39 (by kernel_rfl) rfl #[.slice A0 l0.length c0, .int .i64 a1] rfl (by (try simp only [List.map_toArray, List.map_cons, List.map_nil]); first | done | rfl | (simp only [List.length_drop, List.length_take]; rfl)) ?_; (with_reducible refine (sackbutref05_Made.calls kj4 _ _ l0 a1 t1009 _ ?side1 ?side2 A17.out).mono ?_); (case side1 => repeat (first | exact (Kd.C_below HR0.out HB.out) | (with_reducible refine Kd.C_alloc ?_ _) | (with_reducible refine Kd.C_drewN ?_ _) | (with_reducible refine Kd.C_drew ?_))); (case side2 => exact HC0.out); rintro e w24 ⟨rfl, hb⟩; refine ⟨_, rfl, ?_⟩; have n0_ := Aside0.mk (below_step (by repeat (first | (with_reducible first | exact HB.out | apply below_alloc | apply pw_below_drewN | apply below_drew1) | exact HB.out)) hb); clear HB; have HB := n0_; clear n0_; (try clear hb); (try clear hb2); (try clear hk); (try clear hi)))
          go_ret
          exact ⟨by first | rfl | (simp [errW_none, errW_some] <;> rfl) | (simp [*, errW_none, errW_some] <;> rfl), by repeat (first | (with_reducible first | exact HB.out | apply below_alloc | apply pw_below_drewN | apply below_drew1) | exact HB.out)⟩

/-- THE ONE PURE STATEMENT of sackbutlaw05_RowsMade: yours. -/
def sackbutlaw05_RowsMade.Pure : Prop := ∀ (l0 : List Int) (a1 : Int), l0.length ≤ maxLen → l0.length * 8 ≤ 140737488351232 → (∀ x ∈ l0, (Lit.int .i64 x).wf = true) → (Lit.int .i64 a1).wf = true → ∃ k, sackbutlaw05_RowsMade.f k l0 a1 = some true
theorem sackbutlaw05_RowsMade.walk (P : sackbutlaw05_RowsMade.Pure) (a0 : Option Addr) (len0 cap0 : Nat) (z0 : List Int) (a1 : Int) (w : World) (w0 : (a0 = none ∧ len0 = 0 ∧ cap0 = 0 ∧ z0 = []) ∨ ∃ x, a0 = some x ∧ len0 ≤ cap0 ∧ cap0 ≤ maxLen ∧ z0.length = cap0 ∧ (∀ i, i < z0.length → w.cell? (x.add i) = some (.int .i64 (z0.getD i 0))) ∧ ∀ n ∈ z0, (Lit.int .i64 n).wf = true) (y0 : len0 * 8 ≤ 140737488351232) (w1 : (Lit.int .i64 a1).wf = true) :
    Calls Try.prog 11 #[.slice a0 len0 cap0, .int .i64 a1] w fun e w' => e = .returned (.bool true) ∧ Below w.heap.size w w' := by
  obtain ⟨l0, rfl, hr0, hm0, hw0, hc0⟩ := ReadsInt.ofRowC w0
  obtain ⟨k, h⟩ := P l0 a1 hm0 y0 hw0 w1
  refine (sackbutlaw05_RowsMade.calls k _ _ l0 a1 true w (Kd.C_of_reads (d := (0 : Int)) (h1 := fun _ => rfl) hr0) hc0 h).mono ?_
  rintro e w' ⟨rfl, hd⟩
  exact ⟨rfl, hd⟩

end Go.Proofs.Ytpfjnpbcnlbhaaa.P
namespace Go.Proofs.Ytpfjnpbcnlbhaaa.P
open Go.RowKit Go.Proofs.YtpfjnpbcnlbhaaaW.PrintWords Go.Proofs.YtpfjnpbcnlbhaaaW.PrintLast Go.Proofs.YtpfjnpbcnlbhaaaW.PrintMore
attribute [local go_sem] max2_int min2_int max_two min_two max_three min_three max_four min_four   -- for this text's walks alone
set_option linter.unusedVariables false
set_option linter.unusedSimpArgs false

/-! the reference's Form, less, same -/
theorem set_mid {α : Type} (A B : List α) (x v : α) : (A ++ x :: B).set A.length v = A ++ v :: B := by
  rw [List.set_append_right _ _ (Nat.le_refl _)]; simp
theorem refmod_f {a n : Int} (hn : 0 < n) (hb : n < 4611686018427387904) : sackbutref05_mod.f a n = some (a % n) := by
  unfold sackbutref05_mod.f
  rw [if_neg (by omega), tmod_mod hn hb]
theorem tone_w {n kind k x : Int} (hk : 0 ≤ k % n ∧ k % n < 62) (hx : 0 ≤ x ∧ x < 62) (b : Bool) : wrap64 ((if b = true then wrap64 (-x) else x) + k % n) = (if b = true then -x else x) + k % n := by
  cases b
  · simp only [Bool.false_eq_true, if_false]; exact wrap_id (by omega) (by omega)
  · simp only [if_true]; rw [wrap_id (n := -x) (by omega) (by omega)]; exact wrap_id (by omega) (by omega)
def formOut (n kind k : Int) (pre : List Int) (m : Nat) : List Int := if kind / 2 % 2 = 1 then List.replicate m 0 ++ (pre.map (toneOf n kind k)).reverse else pre.map (toneOf n kind k) ++ List.replicate m 0
theorem refForm_loop (n : Nat) (hn : 1 ≤ n) (hn2 : n ≤ 62) (kind k : Int) (hk0 : 0 ≤ kind) (hk3 : kind < 4) (l : List Int) (hl : l.length < 1000) (hr : ∀ x ∈ l, 0 ≤ x ∧ x < 62) : ∀ (xs pre : List Int), l = pre ++ xs →
    Ev (fun q => sackbutref05_Form.l0 q l (n : Int) kind (k % (n : Int)) (formOut n kind k pre xs.length) l (l.length : Int) (pre.length : Int)) (formOf n kind k l) := by
  have hkr : 0 ≤ k % (n : Int) ∧ k % (n : Int) < 62 := ⟨Int.emod_nonneg _ (by omega), by have := Int.emod_lt_of_pos k (show (0 : Int) < n by omega); omega⟩
  intro xs
  induction xs with
  | nil =>
    intro pre h0
    refine Ev.succ ?_
    simp only [sackbutref05_Form.l0, if_neg (mid_end h0)]
    have e : formOut n kind k pre 0 = formOf n kind k l := by
      have : pre = l := by rw [h0]; simp
      subst this
      unfold formOut formOf
      simp
    rw [List.length_nil, e]
    exact Ev.some _
  | cons x xs ih =>
    intro pre h0
    have hx := hr x (by rw [h0]; simp)
    have hlen : l.length = pre.length + (xs.length + 1) := by rw [h0]; simp
    have hw1 : wrap64 (wrap64 ((l.length : Int) - 1) - (pre.length : Int)) = (xs.length : Int) := by
      rw [wrap_id (n := (l.length : Int) - 1) (by omega) (by omega), wrap_id (by omega) (by omega)]; omega
    have hw2 : wrap64 (-x) = -x := wrap_id (by omega) (by omega)
    have hw3 : wrap64 (-x + k % (n : Int)) = -x + k % (n : Int) := wrap_id (by omega) (by omega)
    have hw4 : wrap64 (x + k % (n : Int)) = x + k % (n : Int) := wrap_id (by omega) (by omega)
    have hol : (formOut n kind k pre (xs.length + 1)).length = l.length := by unfold formOut; split <;> (simp; omega)
    have go := ih (pre ++ [x]) (mid_mv h0)
    have hm : ∀ a : Int, sackbutref05_mod.f a (n : Int) = some (a % (n : Int)) := fun a => refmod_f (by omega) (by omega)
    have hk2 : kind / 2 % 2 = 1 ↔ kind ≥ 2 := by omega
    have ht : Int.tmod kind 2 = kind % 2 := Int.tmod_eq_emod_of_nonneg hk0
    refine Ev.succ ?_
    simp only [sackbutref05_Form.l0, List.length_cons, if_pos (mid_lt h0), if_pos (show (0 : Int) ≤ (pre.length : Int) by omega), mid_rd h0, mid_next h0 (by omega), ht, hw1, hw2, hw3, hw4, hm, Option.bind_some, hol, if_pos (show (0 : Int) ≤ (xs.length : Int) by omega), if_pos (show (xs.length : Int) < (l.length : Int) by omega), Int.toNat_natCast]
    have s2 : kind ≥ 2 → ∀ v, v = toneOf n kind k x → (formOut n kind k pre (xs.length + 1)).set xs.length v = formOut n kind k (pre ++ [x]) xs.length := by
      rintro h2 v rfl
      unfold formOut
      rw [if_pos (hk2.2 h2), if_pos (hk2.2 h2), List.replicate_succ', List.append_assoc]
      have := set_mid (List.replicate xs.length (0 : Int)) (pre.map (toneOf n kind k)).reverse 0 (toneOf n kind k x)
      rw [List.length_replicate] at this
      simp [this]
    have s1 : ¬ kind ≥ 2 → ∀ v, v = toneOf n kind k x → (formOut n kind k pre (xs.length + 1)).set pre.length v = formOut n kind k (pre ++ [x]) xs.length := by
      rintro h2 v rfl
      unfold formOut
      rw [if_neg (fun h => h2 (hk2.1 h)), if_neg (fun h => h2 (hk2.1 h)), List.replicate_succ]
      have := set_mid (pre.map (toneOf n kind k)) (List.replicate xs.length (0 : Int)) 0 (toneOf n kind k x)
      rw [List.length_map] at this
      simp [this]
    have t1 : kind % 2 = 1 → (-x + k % (n : Int)) % (n : Int) = toneOf n kind k x := fun h => by unfold toneOf; rw [if_pos h]
    have t0 : ¬ kind % 2 = 1 → (x + k % (n : Int)) % (n : Int) = toneOf n kind k x := fun h => by unfold toneOf; rw [if_neg h]
    refine Ev.ite (fun e1 => ?_) (fun e1 => ?_)
    · refine Ev.ite (fun e2 => ?_) (fun e2 => ?_)
      · rw [s2 e2 _ (t1 e1)]; exact go
      · rw [s1 e2 _ (t1 e1)]; exact go
    · refine Ev.ite (fun e2 => ?_) (fun e2 => ?_)
      · rw [s2 e2 _ (t0 e1)]; exact go
      · rw [s1 e2 _ (t0 e1)]; exact go
theorem refForm_ev (n : Nat) (hn : 1 ≤ n) (hn2 : n ≤ 62) (kind k : Int) (hk0 : 0 ≤ kind) (hk3 : kind < 4) (l : List Int) (hl : l.length < 1000) (hr : ∀ x ∈ l, 0 ≤ x ∧ x < 62) :
    Ev (fun q => sackbutref05_Form.f q l (n : Int) kind k) (formOf n kind k l) := by
  unfold sackbutref05_Form.f
  refine Ev.bind_some (refmod_f (by omega) (by omega)) ?_
  simp only [if_pos (show (0 : Int) ≤ (l.length : Int) by omega), Int.toNat_natCast, if_pos (show l.length ≤ 35184372088832 by omega)]
  have := refForm_loop n hn hn2 kind k hk0 hk3 l hl hr l [] rfl
  have e : formOut n kind k [] l.length = List.replicate l.length 0 := by unfold formOut; split <;> simp
  rw [e] at this
  exact this
def lessL : List Int → List Int → Bool
  | x :: a, y :: b => if x = y then lessL a b else decide (x < y)
  | _, _ => false
theorem less_loop (l1 l0 : List Int) (hlen : l0.length = l1.length) (hb : l0.length < 9223372036854775807) : ∀ (xs ys pre pre1 : List Int), l0 = pre ++ xs → l1 = pre1 ++ ys → pre.length = pre1.length →
    Ev (fun k => sackbutref05_less.l0 k l1 l0 (l0.length : Int) (pre.length : Int)) (lessL xs ys) := by
  intro xs
  induction xs with
  | nil =>
    intro ys pre pre1 h0 h1 hp
    refine Ev.succ ?_
    simp only [sackbutref05_less.l0, if_neg (mid_end h0)]
    cases ys <;> exact Ev.some _
  | cons x xs ih =>
    intro ys pre pre1 h0 h1 hp
    match ys, h1 with
    | [], h1 => exfalso; rw [h0, h1] at hlen; simp at hlen; omega
    | y :: ys, h1 =>
      have hrd : rd l1 (pre.length : Int) = y := by rw [hp]; exact mid_rd h1
      refine Ev.succ ?_
      simp only [sackbutref05_less.l0, if_pos (mid_lt h0), if_pos (show (0 : Int) ≤ (pre.length : Int) by omega), mid_rd h0, hrd, mid_next h0 hb, if_pos (show (pre.length : Int) < (l1.length : Int) by rw [← hlen]; exact mid_lt h0), lessL]
      refine Ev.ite (fun e => ?_) (fun e => ?_)
      · rw [if_pos e]; exact ih ys (pre ++ [x]) (pre1 ++ [y]) (mid_mv h0) (mid_mv h1) (by simp [hp])
      · rw [if_neg e]; exact Ev.some _
theorem less_ev (l0 l1 : List Int) (hlen : l0.length = l1.length) (hb : l0.length < 9223372036854775807) : Ev (fun k => sackbutref05_less.f k l0 l1) (lessL l0 l1) := less_loop l1 l0 hlen hb l0 l1 [] [] rfl rfl rfl
theorem lessL_same : ∀ (a b : List Int), a.length = b.length → ((lessL a b = false ∧ lessL b a = false) ↔ a = b)
  | [], [], _ => by simp [lessL]
  | x :: a, y :: b, h => by
    have ih := lessL_same a b (by simpa using h)
    simp only [lessL, List.cons.injEq]
    by_cases e : x = y
    · subst e; simpa using ih
    · rw [if_neg e, if_neg (fun h => e h.symm)]
      simp only [decide_eq_false_iff_not]
      constructor
      · rintro ⟨h1, h2⟩; exact absurd (by omega) e
      · rintro ⟨h1, _⟩; exact absurd h1 e
  | [], _ :: _, h => by simp at h
  | _ :: _, [], h => by simp at h
theorem same_ev (l0 l1 : List Int) (hlen : l0.length = l1.length) (hb : l0.length < 9223372036854775807) : Ev (fun k => sackbutref05_same.f k l0 l1) (decide (l0 = l1)) := by
  unfold sackbutref05_same.f
  have hs := lessL_same l0 l1 hlen
  refine Ev.bind (less_ev l0 l1 hlen hb) ?_
  cases h1 : lessL l0 l1 with
  | true =>
    have : ¬ l0 = l1 := fun e => by have := (hs.2 e).1; rw [h1] at this; cases this
    simp only [if_true, this, decide_false]
    exact Ev.some _
  | false =>
    simp only [Bool.false_eq_true, if_false]
    refine Ev.bind (less_ev l1 l0 hlen.symm (by omega)) ?_
    cases h2 : lessL l1 l0 with
    | true =>
      have : ¬ l0 = l1 := fun e => by have := (hs.2 e).2; rw [h2] at this; cases this
      simp only [this, decide_false, Bool.not_true]
      exact Ev.some _
    | false =>
      simp only [hs.1 ⟨h1, h2⟩, decide_true, Bool.not_false]
      exact Ev.some _

end Go.Proofs.Ytpfjnpbcnlbhaaa.P
namespace Go.Proofs.Ytpfjnpbcnlbhaaa.P
open Go.RowKit Go.Proofs.YtpfjnpbcnlbhaaaW.PrintWords Go.Proofs.YtpfjnpbcnlbhaaaW.PrintLast Go.Proofs.YtpfjnpbcnlbhaaaW.PrintMore
attribute [local go_sem] max2_int min2_int max_two min_two max_three min_three max_four min_four   -- for this text's walks alone
set_option linter.unusedVariables false
set_option linter.unusedSimpArgs false

/-! the reference's Made and Length -/
theorem Length_f {n : Nat} (hn1 : 1 ≤ n) (hn : n ≤ 1000) (d : Int) : sackbutref05_Length.f (n : Int) d = some (decide (LenOk n d)) := by
  unfold sackbutref05_Length.f
  by_cases h2 : d ≥ 2
  · have ht : Int.tmod (n : Int) d = (n : Int) % d := Int.tmod_eq_emod_of_nonneg (by omega)
    have h0 : ¬ d = 0 := by omega
    simp only [if_pos h2, ht, if_neg h0]
    by_cases hb : d ≤ (n : Int)
    · have hw : wrap64 (2 * d) = 2 * d := wrap_id (by omega) (by omega)
      rw [hw]
      by_cases h3 : 2 * d ≤ (n : Int)
      · rw [if_pos h3]
        by_cases h4 : (n : Int) % d = 0
        · rw [decide_eq_true (show LenOk n d from ⟨by omega, h3, h4⟩), h4]; rfl
        · rw [decide_eq_false (fun h : LenOk n d => h4 h.2.2), beq_eq_false_iff_ne.2 h4]
      · rw [if_neg h3, decide_eq_false (fun h : LenOk n d => h3 h.2.1)]
    · rw [decide_eq_false (fun h : LenOk n d => hb (by have := h.2.1; omega))]
      have h4 : ¬ (n : Int) % d = 0 := by
        rw [Int.emod_eq_of_lt (by omega) (by omega)]
        omega
      rw [beq_eq_false_iff_ne.2 h4]
      split <;> rfl
  · rw [if_neg h2, decide_eq_false (fun h : LenOk n d => h2 h.1)]
def okTo (l : List Int) (d i kind k : Nat) : Bool := (pairsTo l.length kind k).any fun p => decide (formOf l.length p.1 p.2 (l.take d) = chunkAt l d i)
theorem okTo_next (l : List Int) (d i kind k : Nat) : okTo l d i kind (k + 1) = (okTo l d i kind k || decide (formOf l.length kind k (l.take d) = chunkAt l d i)) := by
  unfold okTo; rw [← pairsTo_next, List.any_append]; simp
theorem okTo_kind (l : List Int) (d i kind : Nat) : okTo l d i kind l.length = okTo l d i (kind + 1) 0 := by unfold okTo; rw [pairsTo_kind]
theorem chunk_cut (l : List Int) (d i : Nat) : (l.take (i * d + d)).drop (i * d) = chunkAt l d i := by
  unfold chunkAt; rw [List.drop_take]; congr 1; omega
theorem refMade_l2 (l : List Int) (hr : IsRow l) (d i : Nat) (hd : 1 ≤ d) (hi : i * d + d ≤ l.length) (kind : Nat) (hk : kind < 4) (r : Bool)
    (hend : Ev (fun q => sackbutref05_Made.l1 q l (d : Int) (l.length : Int) ((i * d : Nat) : Int) (okTo l d i (kind + 1) 0) (wrap64 ((kind : Int) + 1))) r) : ∀ (m k : Nat), k + m = l.length →
    Ev (fun q => sackbutref05_Made.l2 q l (d : Int) (l.length : Int) ((i * d : Nat) : Int) (okTo l d i kind k) (kind : Int) (kind : Int) (l.length : Int) (k : Int)) r := by
  have h1 := hr.1; have h2 := hr.2.1
  intro m
  induction m with
  | zero =>
    intro k hkm
    have hkn : k = l.length := by omega
    refine Ev.succ ?_
    simp only [sackbutref05_Made.l2, if_neg (show ¬ (k : Int) < (l.length : Int) by omega)]
    rw [hkn, okTo_kind]
    exact hend
  | succ m ih =>
    intro k hkm
    have hw : wrap64 ((k : Int) + 1) = ((k + 1 : Nat) : Int) := by rw [wrap_id (by omega) (by omega)]; omega
    have hw2 : wrap64 (((i * d : Nat) : Int) + (d : Int)) = ((i * d + d : Nat) : Int) := by rw [wrap_id (by omega) (by omega)]; omega
    have go := ih (k + 1) (by omega)
    rw [okTo_next] at go
    refine Ev.succ ?_
    simp only [sackbutref05_Made.l2, if_pos (show (k : Int) < (l.length : Int) by omega), hw]
    cases hok : okTo l d i kind k with
    | true =>
      rw [hok, Bool.true_or] at go
      simp only [if_true]
      exact go
    | false =>
      rw [hok, Bool.false_or] at go
      simp only [Bool.false_eq_true, if_false, if_pos (show (0 : Int) ≤ (d : Int) by omega), if_pos (show (d : Int) ≤ (l.length : Int) by omega), Int.toNat_natCast]
      have hxl : (l.take d).length = d := by rw [List.length_take]; omega
      have hcl : (chunkAt l d i).length = d := by unfold chunkAt; rw [List.length_take, List.length_drop]; omega
      refine Ev.bind (refForm_ev l.length (by omega) (by omega) kind k (by omega) (by omega) (l.take d) (by omega) (fun x hx => row_small hr x (List.mem_of_mem_take hx))) ?_
      simp only [hw2, if_pos (show (0 : Int) ≤ ((i * d : Nat) : Int) by omega), if_pos (show ((i * d : Nat) : Int) ≤ ((i * d + d : Nat) : Int) by omega), if_pos (show ((i * d + d : Nat) : Int) ≤ (l.length : Int) by omega), Int.toNat_natCast, chunk_cut]
      refine Ev.bind (same_ev _ _ (by rw [formOf_length, hxl, hcl]) (by rw [formOf_length]; omega)) ?_
      exact go
theorem refMade_l1 (l : List Int) (hr : IsRow l) (d i : Nat) (hd : 1 ≤ d) (hi : i * d + d ≤ l.length) (r : Bool) (hgood : partOk l d i = true → Ev (fun q => sackbutref05_Made.l0 q l (d : Int) (l.length : Int) ((i * d + d : Nat) : Int)) r) (hbad : partOk l d i = false → r = false) : ∀ (m kind : Nat), kind + m = 4 →
    Ev (fun q => sackbutref05_Made.l1 q l (d : Int) (l.length : Int) ((i * d : Nat) : Int) (okTo l d i kind 0) (kind : Int)) r := by
  have h1 := hr.1; have h2 := hr.2.1
  intro m
  induction m with
  | zero =>
    intro kind hk
    have : kind = 4 := by omega
    subst this
    have hw2 : wrap64 (((i * d : Nat) : Int) + (d : Int)) = ((i * d + d : Nat) : Int) := by rw [wrap_id (by omega) (by omega)]; omega
    refine Ev.succ ?_
    simp only [sackbutref05_Made.l1, if_neg (show ¬ ((4 : Nat) : Int) < 4 by decide), hw2]
    have e : okTo l d i 4 0 = partOk l d i := rfl
    rw [e]
    cases hp : partOk l d i with
    | true => simp only [if_true]; exact hgood hp
    | false => simp only [Bool.false_eq_true, if_false]; rw [hbad hp]; exact Ev.some _
  | succ m ih =>
    intro kind hk
    have hw : wrap64 ((kind : Int) + 1) = ((kind + 1 : Nat) : Int) := by rw [wrap_id (by omega) (by omega)]; omega
    refine Ev.succ ?_
    simp only [sackbutref05_Made.l1, if_pos (show (kind : Int) < 4 by omega)]
    refine refMade_l2 l hr d i hd hi kind (by omega) r ?_ l.length 0 (by omega)
    rw [hw]
    exact ih (kind + 1) (by omega)
theorem refMade_l0 (l : List Int) (hr : IsRow l) (d : Nat) (hd : 1 ≤ d) (M : Nat) (hM : M * d = l.length) : ∀ (m i : Nat), i + m = M →
    Ev (fun q => sackbutref05_Made.l0 q l (d : Int) (l.length : Int) ((i * d : Nat) : Int)) ((List.range' i m).all (partOk l d)) := by
  have h1 := hr.1; have h2 := hr.2.1
  intro m
  induction m with
  | zero =>
    intro i hi
    have : i = M := by omega
    subst this
    refine Ev.succ ?_
    simp only [sackbutref05_Made.l0, if_neg (show ¬ ((i * d : Nat) : Int) < (l.length : Int) by omega)]
    exact Ev.some _
  | succ m ih =>
    intro i hi
    have hle : i * d + d ≤ l.length := by
      have : (i + 1) * d ≤ M * d := Nat.mul_le_mul_right d (by omega)
      rw [Nat.add_mul, Nat.one_mul] at this; omega
    refine Ev.succ ?_
    simp only [sackbutref05_Made.l0, if_pos (show ((i * d : Nat) : Int) < (l.length : Int) by omega)]
    have e : okTo l d i 0 0 = false := by simp [okTo, pairsTo]
    rw [List.range'_succ, List.all_cons]
    have := refMade_l1 l hr d i hd hle (partOk l d i && (List.range' (i + 1) m).all (partOk l d)) (fun hp => by
      rw [hp, Bool.true_and]
      have := ih (i + 1) (by omega)
      rw [Nat.add_mul, Nat.one_mul] at this
      exact this) (fun hp => by rw [hp, Bool.false_and]) 4 0 (by omega)
    rw [e] at this
    exact this
theorem refMade_ev (l : List Int) (hr : IsRow l) (d : Nat) (hd : LenOk l.length d) : Ev (fun q => sackbutref05_Made.f q l (d : Int)) (madeL l d) := by
  unfold sackbutref05_Made.f madeL
  obtain ⟨h2, h3, h4⟩ := hd
  have hM : l.length / d * d = l.length := Nat.div_mul_cancel (Nat.dvd_of_mod_eq_zero (by omega))
  have := refMade_l0 l hr d (by omega) (l.length / d) hM (l.length / d) 0 (by omega)
  rw [List.range_eq_range']
  simpa using this
theorem Made_f (l : List Int) (d : Int) : rows_Made.f l d = some (if IsRow l ∧ LenOk l.length d then (madeL l d.toNat, 0) else (false, 2)) := by
  unfold rows_Made.f; split <;> rfl

end Go.Proofs.Ytpfjnpbcnlbhaaa.P
namespace Go.Proofs.Ytpfjnpbcnlbhaaa.P
open Go.RowKit Go.Proofs.YtpfjnpbcnlbhaaaW.PrintWords Go.Proofs.YtpfjnpbcnlbhaaaW.PrintLast Go.Proofs.YtpfjnpbcnlbhaaaW.PrintMore
attribute [local go_sem] max2_int min2_int max_two min_two max_three min_three max_four min_four   -- for this text's walks alone
set_option linter.unusedVariables false
set_option linter.unusedSimpArgs false

/-! steps -/
def stepsOf (n : Int) : List Int → List Int
  | x :: y :: r => (y - x) % n :: stepsOf n (y :: r)
  | _ => []
theorem row_bounds {l : List Int} (h : IsRow l) : ∀ x ∈ l, 0 ≤ x ∧ x < 4611686018427387904 := fun x hx => by have := h.2.2.1 x hx; have := h.2.1; omega
theorem steps_loop (l : List Int) (n : Nat) (hn : n = l.length) (h1 : 1 ≤ n) (hb : n ≤ 62) (hr : ∀ x ∈ l, 0 ≤ x ∧ x < 4611686018427387904) : ∀ (xs pre : List Int) (p : Int) (acc : List Int), l = pre ++ p :: xs → acc.length = pre.length →
    Ev (fun k => rows_row_steps.l0 k l acc ((pre.length : Int) + 1)) (acc ++ stepsOf n (p :: xs)) := by
  intro xs
  induction xs with
  | nil =>
    intro pre p acc h0 ha
    refine Ev.succ ?_
    have : ¬ ((pre.length : Int) + 1 < (l.length : Int)) := by subst h0; simp
    simp only [rows_row_steps.l0, if_neg this, stepsOf, List.append_nil]
    exact Ev.some _
  | cons x xs ih =>
    intro pre p acc h0 ha
    have hm : l = (pre ++ [p]) ++ x :: xs := mid_mv h0
    have hi : ((pre.length : Int) + 1) = ((pre ++ [p]).length : Int) := by simp
    have hlen : pre.length + 1 < l.length := by rw [h0]; simp
    have hw : wrap64 ((pre.length : Int) + 1 - 1) = (pre.length : Int) := by rw [wrap_id (by omega) (by omega)]; omega
    have hx := hr x (by rw [hm]; simp)
    have hp := hr p (by rw [h0]; simp)
    have hs : wrap64 (x - p) = x - p := wrap_id (by omega) (by omega)
    have hlt : ((pre.length : Int) + 1 < (l.length : Int)) := by omega
    refine Ev.succ ?_
    simp only [rows_row_steps.l0, if_pos hlt, if_pos (show (0 : Int) ≤ (pre.length : Int) + 1 by omega), hw, if_pos (show (0 : Int) ≤ (pre.length : Int) by omega), if_pos (mid_lt h0), mid_rd h0]
    rw [hi]
    simp only [mid_rd hm, hs, rows_mod_f (show (0 : Int) < (l.length : Int) by omega) (show (l.length : Int) < 4611686018427387904 by omega), Option.bind_some, if_pos (show acc.length < 17592186044416 by omega), mid_next hm (by omega)]
    have := ih (pre ++ [p]) x (acc ++ [(x - p) % (l.length : Int)]) hm (by simp [ha])
    have e : ((pre ++ [p] ++ [x]).length : Int) = ((pre ++ [p]).length : Int) + 1 := by simp; omega
    rw [e]
    simpa [stepsOf, hn] using this
theorem steps_ev (l : List Int) (h1 : 1 ≤ l.length) (hb : l.length ≤ 62) (hr : ∀ x ∈ l, 0 ≤ x ∧ x < 4611686018427387904) : Ev (fun k => rows_row_steps.f k l) (stepsOf l.length l) := by
  cases l with
  | nil => simp at h1
  | cons p xs => exact steps_loop (p :: xs) _ rfl h1 hb hr xs [] p [] rfl rfl
theorem Steps_ev (l : List Int) : Ev (fun k => rows_Steps.f k l) (if IsRow l then (stepsOf l.length l, 0) else ([], 2)) := by
  unfold rows_Steps.f
  refine Ev.bind (valid_ev l) ?_
  by_cases h : IsRow l
  · simp only [h, decide_true, if_true]
    have h1 := h.1; have h2 := h.2.1
    exact Ev.bind (steps_ev l (by omega) (by omega) (row_bounds h)) (Ev.some _)
  · simp only [h, decide_false, if_false]
    exact Ev.some _

end Go.Proofs.Ytpfjnpbcnlbhaaa.P
namespace Go.Proofs.Ytpfjnpbcnlbhaaa.P
open Go.RowKit Go.Proofs.YtpfjnpbcnlbhaaaW.PrintWords Go.Proofs.YtpfjnpbcnlbhaaaW.PrintLast Go.Proofs.YtpfjnpbcnlbhaaaW.PrintMore
attribute [local go_sem] max2_int min2_int max_two min_two max_three min_three max_four min_four   -- for this text's walks alone
set_option linter.unusedVariables false
set_option linter.unusedSimpArgs false

/-! list -/
theorem list_f (l : List Int) : sackbutlaw05_list.f l = some (l.take 13) := by
  unfold sackbutlaw05_list.f
  rw [mn_eq, if_pos (by omega), if_pos (by omega)]
  have e : (min (l.length : Int) 13).toNat = min l.length 13 := by omega
  have e2 : l.take (min l.length 13) = l.take 13 := by
    rw [Nat.min_comm]; exact (List.take_eq_take_min ..).symm
  rw [e, e2]
  unfold slices_Clone_int_int.f
  rw [if_pos (by rw [List.length_take]; omega)]
  rfl
theorem isRow_take (l : List Int) : IsRow (l.take 13) ↔ IsRow l := by
  rcases Nat.lt_or_ge 13 l.length with h | h
  · constructor
    · intro hr; have := hr.2.1; rw [List.length_take] at this; omega
    · intro hr; have := hr.2.1; omega
  · rw [List.take_of_length_le h]
theorem row_take {l : List Int} (h : IsRow l) : l.take 13 = l := List.take_of_length_le (by have := h.2.1; omega)

theorem awake_ev : Ev (fun k => sackbutlaw05_awake.f k) true := by
  unfold sackbutlaw05_awake.f
  refine Ev.bind (Steps_ev [0, 1, 3, 2]) ?_
  have h : IsRow [0, 1, 3, 2] := by decide
  have e : stepsOf ([0, 1, 3, 2] : List Int).length [0, 1, 3, 2] = [1, 2, 3] := by decide
  simp only [h, if_true, e]
  exact Ev.bind (Equal_ev [1, 2, 3] [1, 2, 3] (by decide)) (Ev.some _)

end Go.Proofs.Ytpfjnpbcnlbhaaa.P
namespace Go.Proofs.Ytpfjnpbcnlbhaaa.P
open Go.RowKit Go.Proofs.YtpfjnpbcnlbhaaaW.PrintWords Go.Proofs.YtpfjnpbcnlbhaaaW.PrintLast Go.Proofs.YtpfjnpbcnlbhaaaW.PrintMore
attribute [local go_sem] max2_int min2_int max_two min_two max_three min_three max_four min_four   -- for this text's walks alone
set_option linter.unusedVariables false
set_option linter.unusedSimpArgs false

theorem RowsMade : sackbutlaw05_RowsMade.Pure := by
  intro l d _ _ _ _
  refine Ev.rounds (g := fun q => sackbutlaw05_RowsMade.f q l d) ?_
  unfold sackbutlaw05_RowsMade.f
  refine Ev.bind_some (list_f l) ?_
  refine Ev.bind_some (Made_f _ _) ?_
  refine Ev.bind (Row_ev l) ?_
  have bad : Ev (fun q => sackbutlaw05_RowsMade.j0 q l d false 2 true) true := by
    refine Ev.succ ?_
    simp only [sackbutlaw05_RowsMade.j0, if_true, Bool.false_eq_true, if_false]
    exact Ev.bind awake_ev (Ev.some _)
  by_cases hr : IsRow l
  · have h10 := hr.2.1
    simp only [isRow_take, hr, row_take hr, true_and, decide_true, if_true]
    refine Ev.bind_some (Length_f (by have := hr.1; omega) (by omega) d) ?_
    by_cases hl : LenOk l.length d
    · simp only [hl, decide_true, if_true, Bool.not_true]
      refine Ev.succ ?_
      simp only [sackbutlaw05_RowsMade.j0, Bool.false_eq_true, if_false]
      obtain ⟨e, rfl⟩ : ∃ e : Nat, d = (e : Int) := ⟨d.toNat, by have := hl.1; omega⟩
      refine Ev.bind (refMade_ev l hr e hl) ?_
      simp only [Int.toNat_natCast, beq_self_eq_true, if_true]
      exact Ev.bind awake_ev (Ev.some _)
    · simp only [hl, decide_false, if_false, Bool.not_false]
      exact bad
  · simp only [isRow_take, hr, false_and, decide_false, if_false, Bool.false_eq_true]
    exact bad

end Go.Proofs.Ytpfjnpbcnlbhaaa.P
namespace Go.Proofs.Ytpfjnpbcnlbhaaa.Pure
theorem RowsMade : Go.Proofs.Ytpfjnpbcnlbhaaa.P.sackbutlaw05_RowsMade.Pure := Go.Proofs.Ytpfjnpbcnlbhaaa.P.RowsMade
end Go.Proofs.Ytpfjnpbcnlbhaaa.Pure
namespace Go.Proofs.Ytpfjnpbcnlbhaaa.rowsMade
open Go.ChangeShapes Go.WideShapes Go.ChangeAt Go.RowKit
open Go.ChangeMaps (open_string shut_string)
set_option linter.unusedVariables false
theorem own : ownKnob Try.prog.godebug = none := by kernel_rfl
theorem laidOut : laidOutB Try.prog = true := by kernel_rfl
def IsRow (k : IntKind) (w : World) (a : Option Addr) (len cap : Nat) (zs : List Int) : Prop :=
  (a = none ∧ len = 0 ∧ cap = 0 ∧ zs = []) ∨
  ∃ x, a = some x ∧ len ≤ cap ∧ cap ≤ maxLen ∧ zs.length = cap ∧ (∀ i, i < zs.length → w.cell? (x.add i) = some (.int k (zs.getD i 0))) ∧ ∀ n ∈ zs, (Lit.int k n).wf = true
set_option maxRecDepth 100000 in
theorem lifted (os : Os) (started : os.Started) (H : Type) (enc : TypeId × Value → H) :
    ReturnsInHanded {} Try.checked os 11 .any (Rows.rowsMadeSpec.pre6 enc Try.prog Try.f11 Rows.rowsMadeRow.domain false) (Rows.rowsMadeSpec.post enc Try.prog Try.f11 false true false false) := by
  refine returnsInHanded_of_change_sized (C := Try.checked) own started (by kernel_rfl) Try.func11
    (ChangeSpec.witness6 (enc := enc) (C := Try.checked) false ⟨#[], #[.slice none 0 0, .int .i64 0], []⟩ 8 (by kernel_rfl) (by kernel_rfl) (by kernel_rfl) (by kernel_rfl)) ?_
  intro W base args ds gs before hval0 hW hcnd hsz0 _
  have hsz : (DataW.weightsEach Try.prog (Try.f11.params.toList ++ Rows.rowsMadeSpec.plain.varTypes Try.prog) (ds ++ gs)).all (· ≤ reachBytes) = true := hsz0
  have hval : ∀ (j : Nat) t v, Try.f11.params[j]? = some t → args[j]? = some v → Value.okWide Try.prog W .any base t v := hval0
  have hW' := hW
  obtain ⟨p, q, hA0, hV, rfl, hfz, hnd⟩ := hW
  have hA : DataW.TrodAll enc Try.prog W 0 (fun _ => true) true Try.f11.params.toList args.toList ds p := hA0
  rw [Try.params11] at hA hval hsz
  obtain ⟨v0, vs0, d0, ds0, p0, q0, hargs, rfl, rfl, h0, r0⟩ := trodAll_cons hA
  obtain ⟨v1, vs1, d1, ds1, p1, q1, rfl, rfl, rfl, h1, r1⟩ := trodAll_cons r0
  obtain ⟨rfl, rfl, rfl⟩ := trodAll_nil r1
  obtain rfl : args = #[v0, v1] := by cases args; simp_all
  obtain ⟨rfl, rfl⟩ := trodVars_none hV
  obtain ⟨a0, len0, cap0, rfl⟩ := okWide_slice Try.underlying22 (hval 0 22 v0 rfl rfl)
  have k0 := h0
  have lt0 : ∀ x ∈ p0, x.block < W.heap.size := by obtain ⟨m, hm⟩ := k0; exact DataW.trod_lt m _ _ _ hm
  obtain ⟨z0, w0⟩ : ∃ zs, IsRow .i64 W a0 len0 cap0 zs := by
    obtain ⟨fuel, hf⟩ := h0
    rcases open_ints Try.underlying22 Try.underlying3 (by kernel_rfl) hf with ⟨hcs, _⟩ | ⟨x, l, c, zs, hcs, _, hl, hm, hz, _, hcell, hwz⟩
    · simp [Value.cells] at hcs
      obtain ⟨rfl, rfl, rfl⟩ := hcs
      exact ⟨[], .inl ⟨rfl, rfl, rfl, rfl⟩⟩
    · simp [Value.cells] at hcs
      obtain ⟨rfl, rfl, rfl⟩ := hcs
      exact ⟨zs, .inr ⟨_, rfl, hl, hm, by simpa using hz, hcell, hwz⟩⟩
  have y0 : len0 * 8 ≤ 140737488351232 := Go.Proofs.YtpfjnpbcnlbhaaaW.PrintWords.sized_ints hsz (j := 0) (t := 22) rfl rfl Try.underlying22 Try.underlying3 (by kernel_rfl) (by kernel_rfl) h0
  obtain ⟨a1, rfl, rfl, rfl, w1⟩ := open_int Try.underlying3 (hval 1 3 v1 rfl rfl) h1
  clear hA0 hval0 hsz0 hsz
  refine (P.sackbutlaw05_RowsMade.walk Pure.RowsMade a0 len0 cap0 z0 a1 W w0 y0 w1).mono fun e W' ⟨he, bel⟩ => ?_
  subst he
  exact ⟨_, rfl, _, _, _, [], _, [], hW', trodAll_mk1 (shut_bool Try.underlying4 _), (trodAll_cons_mk (Below.trod laidOut (by kernel_rfl) (of_decide_eq_true (by kernel_rfl)) k0 bel lt0) (trodAll_cons_mk (shut_int Try.underlying3 w1) trodAll_mk0)), rfl, bel.frame _, fun h => by cases h⟩
theorem over : Rows.rowsMadeRow.holds Try.pinned (OpenSpec.ofChange Rows.rowsMadeSpec) :=
  OpenClaim.holds_of_wide 11 Try.f11 rfl rfl rfl rfl rfl rfl rfl ⟨rfl, rfl, rfl, rfl, rfl⟩ rfl rfl rfl rfl rfl (by kernel_rfl) Try.func11 (by kernel_rfl)
    (of_decide_eq_true (by kernel_rfl)) (by unfold Func.isWrapper; first | (rw [if_pos (by decide +kernel)]; kernel_rfl) | (rw [if_neg (by decide +kernel)]; exact ⟨rfl, rfl⟩))
    (fun os started H enc _ => lifted os started H enc)
theorem proved : Rows.RowsMadeSaid := over
#print axioms proved
end Go.Proofs.Ytpfjnpbcnlbhaaa.rowsMade
namespace Go.Proofs.Ytpfjnpbcnlbhaaa
/-- The row, under a short name, for the claim. -/
theorem rowsMade_holds : Rows.RowsMadeSaid := rowsMade.proved
end Go.Proofs.Ytpfjnpbcnlbhaaa
