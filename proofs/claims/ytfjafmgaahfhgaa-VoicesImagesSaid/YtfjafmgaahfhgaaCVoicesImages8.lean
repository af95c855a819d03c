/- A part of a proof that a law's Go function returns true for every input, laid by this session's program mp.py (which drives the kit's print). Conditions: as each theorem states them. -/
import Derived.ArgAppend
import Derived.Laws.EntriesVeiled
import Derived.Test.YtfjafmgaahfhgaaCVoicesImages1
import Derived.Test.YtfjafmgaahfhgaaCVoicesImages2
import Derived.Test.YtfjafmgaahfhgaaCVoicesImages3
import Derived.Test.YtfjafmgaahfhgaaCVoicesImages5
import Derived.Test.YtfjafmgaahfhgaaCVoicesImages6
import Derived.Test.YtfjafmgaahfhgaaCVoicesImages7
namespace Go.Proofs.Ytfjafmgaahfhgaa.P
open Go.RowKit Go.Proofs.YtfjafmgaahfhgaaW.PrintWords Go.Proofs.YtfjafmgaahfhgaaW.PrintLast Go.Proofs.YtfjafmgaahfhgaaW.PrintMore
attribute [local go_sem] max2_int min2_int max_two min_two max_three min_three max_four min_four   -- for this text's walks alone
set_option linter.unusedVariables false
set_option linter.unusedSimpArgs false

/-! ### sackbutref06_Price: function 50 -/
def sackbutref06_Price.l0 : Nat → Int → List Int → List Int → Int → List Int → Int → Int → Option (Int)
  | 0, _, _, _, _, _, _, _ => none
  | k + 1, x0, x1, x2, x9, x12, x13, x14 => if x14 < x13 then (if 0 ≤ x14 then (if x14 < (x12.length : Int) then (if x14 < (x1.length : Int) then (if 0 ≤ (rd x12 x14) then (if (rd x12 x14) < (x2.length : Int) then ((sackbutref06_Distance.f x0 (rd x1 x14) (rd x2 (rd x12 x14))).bind fun t1004 => (sackbutref06_Price.l0 k x0 x1 x2 (wrap64 (x9 + t1004)) x12 x13 (wrap64 (x14 + 1)))) else (none)) else (none)) else (none)) else (none)) else (none)) else (some x9)
def sackbutref06_Price.f (k : Nat) (a0 : Int) (l1 : List Int) (l2 : List Int) (l3 : List Int) : Option (Int) := sackbutref06_Price.l0 k a0 l1 l2 0 l3 (l3.length : Int) 0
theorem sackbutref06_Price.mono_l : ∀ k, (∀ y0 y1 y2 y3 y4 y5 y6, LeO (sackbutref06_Price.l0 k y0 y1 y2 y3 y4 y5 y6) (sackbutref06_Price.l0 (k + 1) y0 y1 y2 y3 y4 y5 y6))
  | 0 => fun _ _ _ _ _ _ _ r h => by simp [sackbutref06_Price.l0] at h
  | k + 1 => by
    have ih0 := sackbutref06_Price.mono_l k
    · intro y0 y1 y2 y3 y4 y5 y6
      unfold sackbutref06_Price.l0
      repeat' first
      | (with_reducible exact ih0 _ _ _ _ _ _ _)
      | (with_reducible exact LeO.refl _)
      | (with_reducible exact LeO.none _)
      | (with_reducible refine LeO.ite ?_ ?_)
      | (with_reducible refine LeO.bind ?_ (fun _ => ?_))
      | exact ih0 _ _ _ _ _ _ _
      | exact LeO.none _
      | refine LeO.ite ?_ ?_
      | refine LeO.bind ?_ (fun _ => ?_)
theorem sackbutref06_Price.mono : ∀ a0 a1 a2 a3 k, LeO (sackbutref06_Price.f k a0 a1 a2 a3) (sackbutref06_Price.f (k + 1) a0 a1 a2 a3) := by
  intro a0 a1 a2 a3 k
  have ih0 := sackbutref06_Price.mono_l k
  unfold sackbutref06_Price.f
  repeat' first
      | (with_reducible exact ih0 _ _ _ _ _ _ _)
      | (with_reducible exact LeO.refl _)
      | (with_reducible exact LeO.none _)
      | (with_reducible refine LeO.ite ?_ ?_)
      | (with_reducible refine LeO.bind ?_ (fun _ => ?_))
      | exact ih0 _ _ _ _ _ _ _
      | exact LeO.none _
      | refine LeO.ite ?_ ?_
      | refine LeO.bind ?_ (fun _ => ?_)
def sackbutref06_Price.T5 : Bool × List (List Nat × List Nat) := (true, [([], []), ([], []), ([], []), ([], []), ([2, 3], [2, 3]), ([4], [4]), ([], []), ([], []), ([6, 7], [6, 7]), ([8], [8]), ([1, 5, 9], [1, 5, 9]), ([0, 10], [0, 10]), ([11, 10, 0, 1, 2, 3, 4, 5, 6, 7, 8, 9, 10, 11], [0, 11])])
def sackbutref06_Price.B5 : List Nat := [0, 0, 0, 0, 12, 28, 0, 0, 192, 448, 1022, 2047, 4095]
theorem sackbutref06_Price.tab5 : rtab .any (opsOf Try.f50 5) = sackbutref06_Price.T5 := by kernel_rfl
theorem sackbutref06_Price.bits5 : waitsOk sackbutref06_Price.T5.2 sackbutref06_Price.B5 = true := by kernel_rfl
set_option maxHeartbeats 8000000 in
set_option maxRecDepth 100000 in
theorem sackbutref06_Price.calls (k : Nat) (a0 : Int) (A1 : Option Addr) (c1 : Nat) (l1 : List Int) (A2 : Option Addr) (c2 : Nat) (l2 : List Int) (A3 : Option Addr) (c3 : Nat) (l3 : List Int) (r : Int) (w : World) (hr1 : Kd.C (Kd.int .i64) w A1 l1.length l1) (hc1 : l1.length ≤ c1) (hr2 : Kd.C (Kd.int .i64) w A2 l2.length l2) (hc2 : l2.length ≤ c2) (hr3 : Kd.C (Kd.int .i64) w A3 l3.length l3) (hc3 : l3.length ≤ c3) (h : sackbutref06_Price.f k a0 l1 l2 l3 = some r) :
    Calls Try.prog 50 #[.int .i64 a0, .slice A1 l1.length c1, .slice A2 l2.length c2, .slice A3 l3.length c3] w fun e w' => e = .returned (.int .i64 r) ∧ Below w.heap.size w w' := by
  have HR1 := Aside0.mk hr1
  have HC1 := Aside0.mk hc1
  clear hr1 hc1
  have HR2 := Aside0.mk hr2
  have HC2 := Aside0.mk hc2
  clear hr2 hc2
  have HR3 := Aside0.mk hr3
  have HC3 := Aside0.mk hc3
  clear hr3 hc3
  have HB := Aside0.mk (Below.refl w.heap.size w)
  have H : (sackbutref06_Price.l0 k a0 l1 l2 0 l3 (l3.length : Int) 0) = some r := h
  clear h
  have H' := Aside0.mk H
  clear H
  go_enter Try.func50, Try.ntmps50
  go_wp2
  go_loopg [9, 14] k (fun kq v9 v14 w' => ∃ (x9_1 : Int) (x14_1 : Int), v9 = .int .i64 x9_1 ∧ v14 = .int .i64 x14_1 ∧ Aside0 (sackbutref06_Price.l0 kq a0 l1 l2 x9_1 l3 (l3.length : Int) x14_1 = some r) ∧ Aside0 (kq ≤ k) ∧ Aside0 (Below w.heap.size w w'))
  case atStart => exact ⟨(0), (0), (by first | rfl | (simp; done) | (simp [*]; done)), (by first | rfl | (simp; done) | (simp [*]; done)), H', ⟨Nat.le_refl _⟩, ⟨by repeat (first | (with_reducible first | exact HB.out | apply below_alloc | apply pw_below_drewN | apply below_drew1) | exact HB.out)⟩⟩
  case round =>
    clear H'
    try clear c1
    try clear c2
    try clear p2
    try clear c3
    obtain ⟨x9_1, x14_1, rfl, rfl, HA, HK1, HB⟩ := hrel
    cases gk with
    | zero => exact absurd HA.out (by simp [sackbutref06_Price.l0])
    | succ k1 =>
      have H := HA.out
      clear HA
      simp only [sackbutref06_Price.l0] at H
      by_cases c5 : x14_1 < (l3.length : Int)
      · rw [if_pos c5] at H
        have c5b0 : decide (x14_1 < (l3.length : Int)) = true := decide_eq_true c5
        clear c5
        by_cases c6 : 0 ≤ x14_1
        · rw [if_pos c6] at H
          have c6b0 : decide (0 ≤ x14_1) = true := decide_eq_true c6
          clear c6
          by_cases c7 : x14_1 < (l3.length : Int)
          · rw [if_pos c7] at H
            have c7b0 : decide (x14_1 < (l3.length : Int)) = true := decide_eq_true c7
            clear c7
            by_cases c8 : x14_1 < (l1.length : Int)
            · rw [if_pos c8] at H
              have c8b0 : decide (x14_1 < (l1.length : Int)) = true := decide_eq_true c8
              clear c8
              by_cases c9 : 0 ≤ (rd l3 x14_1)
              · rw [if_pos c9] at H
                have c9b0 : decide (0 ≤ (rd l3 x14_1)) = true := decide_eq_true c9
                clear c9
                by_cases c10 : (rd l3 x14_1) < (l2.length : Int)
                · rw [if_pos c10] at H
                  have c10b0 : decide ((rd l3 x14_1) < (l2.length : Int)) = true := decide_eq_true c10
                  clear c10
                  replace H := Option.bind_eq_some_iff.mp H
                  obtain ⟨t1004, A110, H⟩ := H
                  replace H : (sackbutref06_Price.l0 k1 a0 l1 l2 (wrap64 (x9_1 + t1004)) l3 (l3.length : Int) (wrap64 (x14_1 + 1))) = some r := H
                  have A11 := Aside0.mk A110
                  clear A110
                  have H' := Aside0.mk H
                  clear H
                  have p1001 : 0 ≤ (x14_1 : Int) := of_decide_eq_true (by first | (with_reducible assumption) | assumption)
                  have q1001 : x14_1 < (l3.length : Int) := of_decide_eq_true (by first | (with_reducible assumption) | assumption)
                  obtain ⟨ad1001, e1001, hx1001_0⟩ := Kd.at_int HR3.out x14_1 p1001 q1001
                  cases e1001
                  replace hx1001_0 := (HB.out.cell (World.block_lt_of_cell? w _ hx1001_0)).trans hx1001_0
                  replace p1001 := eq_true p1001
                  replace q1001 := eq_true q1001
                  try go_wp2
                  have n0_ := Aside0.mk (below_drew1 HB.out)
                  clear HB
                  have HB := n0_
                  clear n0_
                  have p1002 : 0 ≤ (x14_1 : Int) := of_decide_eq_true (by first | (with_reducible assumption) | assumption)
                  have q1002 : x14_1 < (l1.length : Int) := of_decide_eq_true (by first | (with_reducible assumption) | assumption)
                  obtain ⟨ad1002, e1002, hx1002_0⟩ := Kd.at_int HR1.out x14_1 p1002 q1002
                  have hw1002_0 := hx1002_0
                  cases e1002
                  replace hx1002_0 := (HB.out.cell (World.block_lt_of_cell? w _ hx1002_0)).trans hx1002_0
                  replace p1002 := eq_true p1002
                  replace q1002 := eq_true q1002
                  have p1003 : 0 ≤ ((rd l3 x14_1) : Int) := of_decide_eq_true (by first | (with_reducible assumption) | assumption)
                  have q1003 : (rd l3 x14_1) < (l2.length : Int) := of_decide_eq_true (by first | (with_reducible assumption) | assumption)
                  obtain ⟨ad1003, e1003, hx1003_0⟩ := Kd.at_int HR2.out (rd l3 x14_1) p1003 q1003
                  have hw1003_0 := hx1003_0
                  cases e1003
                  replace hx1003_0 := (HB.out.cell (World.block_lt_of_cell? w _ hx1003_0)).trans hx1003_0
                  replace p1003 := eq_true p1003
                  replace q1003 := eq_true q1003
                  refine start_ (n := 13) (S := fun w' => w'.cell? (ad1002.add (x14_1).toNat) = some (.int .i64 (rd l1 x14_1)) ∧ w'.cell? (ad1003.add ((rd l3 x14_1)).toNat) = some (.int .i64 (rd l2 (rd l3 x14_1)))) (ds := []) #[false, false, false, false, false, false, false, false, false, false, false, false, false] (by kernel_rfl) rfl rfl ⟨((HB.out.cell (World.block_lt_of_cell? w _ hw1002_0)).trans hw1002_0), ((HB.out.cell (World.block_lt_of_cell? w _ hw1003_0)).trans hw1003_0)⟩ (fun hHeld => ?_); refine with_tabW sackbutref06_Price.tab5 sackbutref06_Price.bits5 (fun HT_ HW_ => ?_)
                  generalize wr.drew = w12 at HB hx1002_0 hx1003_0 hHeld ⊢
                  refine pure_ (i := 0) (N := some 19) (v := ?_) (a' := ?_) #[true, false, false, false, false, false, false, false, false, false, false, false, false] rfl rfl (any_of HT_.out (by kernel_rfl)) (fun _ _ _ h => h) (Or.inl ⟨by rfl, ?_⟩) ?_ ?_
                  rotate_left
                  · intro w'
                    go_simp
                    with_reducible rfl
                  rotate_left
                  · simp only [Act.put, List.setIfInBounds_toArray, List.set_cons_zero, List.set_cons_succ, i64_w, i32_w]
                    rfl
                  refine pure_ (i := 1) (N := some 20) (v := ?_) (a' := ?_) #[true, true, false, false, false, false, false, false, false, false, false, false, false] rfl rfl (any_of HT_.out (by kernel_rfl)) (fun _ _ _ h => h) (Or.inl ⟨by rfl, ?_⟩) ?_ ?_
                  rotate_left
                  · intro w'
                    go_simp
                    with_reducible rfl
                  rotate_left
                  · simp only [Act.put, List.setIfInBounds_toArray, List.set_cons_zero, List.set_cons_succ, i64_w, i32_w]
                    rfl
                  refine pure_ (i := 2) (N := some 21) (v := ?_) (a' := ?_) #[true, true, true, false, false, false, false, false, false, false, false, false, false] rfl rfl (any_of HT_.out (by kernel_rfl)) (fun _ _ _ h => h) (Or.inl ⟨by rfl, ?_⟩) ?_ ?_
                  rotate_left
                  · intro w'
                    go_simp
                    with_reducible rfl
                  rotate_left
                  · simp only [Act.put, List.setIfInBounds_toArray, List.set_cons_zero, List.set_cons_succ, i64_w, i32_w]
                    rfl
                  refine pure_ (i := 3) (N := some 22) (v := ?_) (a' := ?_) #[true, true, true, true, false, false, false, false, false, false, false, false, false] rfl rfl (any_of HT_.out (by kernel_rfl)) (fun _ _ _ h => h) (Or.inl ⟨by rfl, ?_⟩) ?_ ?_
                  rotate_left
                  · intro w'
                    go_simp
                    with_reducible rfl
                  rotate_left
                  · simp only [Act.put, List.setIfInBounds_toArray, List.set_cons_zero, List.set_cons_succ, i64_w, i32_w]
                    rfl
                  refine pure_ (i := 4) (N := some 23) (v := ?_) (a' := ?_) #[true, true, true, true, true, false, false, false, false, false, false, false, false] rfl rfl (any_of HT_.out (by kernel_rfl)) (fun _ _ _ h => h) (Or.inl ⟨by rfl, ?_⟩) ?_ ?_
                  rotate_left
                  · intro w'
                    go_simp
                    with_reducible rfl
                  rotate_left
                  · simp only [Act.put, List.setIfInBounds_toArray, List.set_cons_zero, List.set_cons_succ, i64_w, i32_w]
                    rfl
                  refine pure_ (i := 6) (N := some 25) (v := ?_) (a' := ?_) #[true, true, true, true, true, false, true, false, false, false, false, false, false] rfl rfl (any_of HT_.out (by kernel_rfl)) (fun _ _ _ h => h) (Or.inl ⟨by rfl, ?_⟩) ?_ ?_
                  rotate_left
                  · intro w'
                    go_simp
                    with_reducible rfl
                  rotate_left
                  · simp only [Act.put, List.setIfInBounds_toArray, List.set_cons_zero, List.set_cons_succ, i64_w, i32_w]
                    rfl
                  refine pure_ (i := 7) (N := some 26) (v := ?_) (a' := ?_) #[true, true, true, true, true, false, true, true, false, false, false, false, false] rfl rfl (any_of HT_.out (by kernel_rfl)) (fun _ _ _ h => h) (Or.inl ⟨by rfl, ?_⟩) ?_ ?_
                  rotate_left
                  · intro w'
                    go_simp
                    with_reducible rfl
                  rotate_left
                  · simp only [Act.put, List.setIfInBounds_toArray, List.set_cons_zero, List.set_cons_succ, i64_w, i32_w]
                    rfl
                  refine pure_ (i := 8) (N := some 27) (v := ?_) (a' := ?_) #[true, true, true, true, true, false, true, true, true, false, false, false, false] rfl rfl (any_of HT_.out (by kernel_rfl)) (fun _ _ _ h => h) (Or.inl ⟨by rfl, ?_⟩) ?_ ?_
                  rotate_left
                  · intro w'
                    go_simp
                    with_reducible rfl
                  rotate_left
                  · simp only [Act.put, List.setIfInBounds_toArray, List.set_cons_zero, List.set_cons_succ, i64_w, i32_w]
                    rfl
                  refine take_ (i := 5) (N := some 24) (v := ?_) (a' := ?_) #[true, true, true, true, true, true, true, true, true, false, false, false, false] rfl rfl (take_ofW HT_.out HW_.out (by kernel_rfl)) (fun _ _ _ h => h) (Or.inl ⟨by rfl, ?_⟩) hHeld ?_ ?_
                  rotate_left
                  · rintro w' ⟨s0, s1⟩
                    go_simp
                    with_reducible rfl
                  rotate_left
                  · simp only [Act.put, List.setIfInBounds_toArray, List.set_cons_zero, List.set_cons_succ, i64_w, i32_w]
                    rfl
                  refine take_ (i := 9) (N := some 28) (v := ?_) (a' := ?_) #[true, true, true, true, true, true, true, true, true, true, false, false, false] rfl rfl (take_ofW HT_.out HW_.out (by kernel_rfl)) (fun _ _ _ h => h) (Or.inl ⟨by rfl, ?_⟩) hHeld ?_ ?_
                  rotate_left
                  · rintro w' ⟨s0, s1⟩
                    go_simp
                    with_reducible rfl
                  rotate_left
                  · simp only [Act.put, List.setIfInBounds_toArray, List.set_cons_zero, List.set_cons_succ, i64_w, i32_w]
                    rfl
                  refine one_ (i := 10) (N := some 29) #[true, true, true, true, true, true, true, true, true, true, true, false, false] rfl rfl (one_of HT_.out (by kernel_rfl)) (by decide) (fun K hK => ?_)
                  refine goes_ Try.func49 (by kernel_rfl) rfl #[.int .i64 a0, .int .i64 (rd l1 x14_1), .int .i64 (rd l2 (rd l3 x14_1))] (by rfl) rfl rfl (by (try simp only [List.map_toArray, List.map_cons, List.map_nil]); first | done | rfl | (simp only [List.length_drop, List.length_take]; rfl)) ?_
                  with_reducible refine (sackbutref06_Distance.calls a0 (rd l1 x14_1) (rd l2 (rd l3 x14_1)) t1004 _ A11.out).mono ?_
                  rintro e w13 ⟨rfl, hb⟩
                  refine ⟨_, rfl, ?_⟩
                  have n0_ := Aside0.mk (below_step (by repeat (first | (with_reducible first | exact HB.out | apply below_alloc | apply pw_below_drewN | apply below_drew1) | exact HB.out)) hb)
                  clear HB
                  have HB := n0_
                  clear n0_
                  (try clear hb)
                  (try clear hb2)
                  (try clear hk)
                  (try clear hi)
                  refine hK.out _ _ ⟨((HB.out.cell (World.block_lt_of_cell? w _ hw1002_0)).trans hw1002_0), ((HB.out.cell (World.block_lt_of_cell? w _ hw1003_0)).trans hw1003_0)⟩ (fun hHeld => ?_)
                  clear hK K
                  refine norm_ (a' := ?_) ?_ ?_
                  rotate_left
                  · show Act.put _ (some 29) _ = _
                    simp only [Act.put, List.setIfInBounds_toArray, List.set_cons_zero, List.set_cons_succ, i64_w, i32_w]
                    rfl
                  refine pure_ (i := 11) (N := some 30) (v := ?_) (a' := ?_) #[true, true, true, true, true, true, true, true, true, true, true, true, false] rfl rfl (any_of HT_.out (by kernel_rfl)) (fun _ _ _ h => h) (Or.inl ⟨by rfl, ?_⟩) ?_ ?_
                  rotate_left
                  · intro w'
                    go_simp
                    with_reducible rfl
                  rotate_left
                  · simp only [Act.put, List.setIfInBounds_toArray, List.set_cons_zero, List.set_cons_succ, i64_w, i32_w]
                    rfl
                  refine pure_ (i := 12) (N := some 9) (v := ?_) (a' := ?_) #[true, true, true, true, true, true, true, true, true, true, true, true, true] rfl rfl (any_of HT_.out (by kernel_rfl)) (fun _ _ _ h => h) (Or.inl ⟨by rfl, ?_⟩) ?_ ?_
                  rotate_left
                  · intro w'
                    go_simp
                    with_reducible rfl
                  rotate_left
                  · simp only [Act.put, List.setIfInBounds_toArray, List.set_cons_zero, List.set_cons_succ, i64_w, i32_w]
                    rfl
                  refine done_ (done_of HT_.out (by kernel_rfl)) ?_
                  try go_wp2
                  go_roundg k1
                  case measure => have := HK1.out; omega
                  case rel => exact ⟨(wrap64 (x9_1 + t1004)), (wrap64 (x14_1 + 1)), (by first | rfl | (simp; done) | (simp [*]; done)), (by first | rfl | (simp; done) | (simp [*]; done)), H', ⟨by have := HK1.out; omega⟩, ⟨by repeat (first | (with_reducible first | exact HB.out | apply below_alloc | apply pw_below_drewN | apply below_drew1) | exact HB.out)⟩⟩
                · rw [if_neg c10] at H
                  exact absurd H (by simp)
              · rw [if_neg c9] at H
                exact absurd H (by simp)
            · rw [if_neg c8] at H
              exact absurd H (by simp)
          · rw [if_neg c7] at H
            exact absurd H (by simp)
        · rw [if_neg c6] at H
          exact absurd H (by simp)
      · rw [if_neg c5] at H
        have c5b0 : decide (x14_1 < (l3.length : Int)) = false := decide_eq_false c5
        clear c5
        obtain rfl := Option.some.inj H
        go_wp2
        go_ret
        exact ⟨by first | rfl | (simp [errW_none, errW_some] <;> rfl) | (simp [*, errW_none, errW_some] <;> rfl), by repeat (first | (with_reducible first | exact HB.out | apply below_alloc | apply pw_below_drewN | apply below_drew1) | exact HB.out)⟩

end Go.Proofs.Ytfjafmgaahfhgaa.P
namespace Go.Proofs.Ytfjafmgaahfhgaa.P
open Go.RowKit Go.Proofs.YtfjafmgaahfhgaaW.PrintWords Go.Proofs.YtfjafmgaahfhgaaW.PrintLast Go.Proofs.YtfjafmgaahfhgaaW.PrintMore
attribute [local go_sem] max2_int min2_int max_two min_two max_three min_three max_four min_four   -- for this text's walks alone
set_option linter.unusedVariables false
set_option linter.unusedSimpArgs false

/-! runs over a list that gather a set -/
def validRun (n : Nat) : Nat → List Int → Bool
  | s, [] => decide (s = 2 ^ n - 1)
  | s, x :: xs => if x < 0 then false else if x ≥ n then false else validRun n (s ||| 2 ^ x.toNat) xs
theorem validRun_iff (n : Nat) : ∀ (xs : List Int) (s : Nat), validRun n s xs = decide ((∀ x ∈ xs, 0 ≤ x ∧ x < n) ∧ orAll s (xs.map Int.toNat) = 2 ^ n - 1) := by
  intro xs
  induction xs with
  | nil => intro s; simp [validRun, orAll]
  | cons x xs ih =>
    intro s
    simp only [validRun, List.map_cons, orAll_cons, ih, List.forall_mem_cons]
    by_cases h1 : x < 0
    · simp [h1]; intro h; omega
    · by_cases h2 : x ≥ n
      · simp [h1, h2]; intro _ h; omega
      · simp only [h1, h2, if_false]
        congr 1
        rw [eq_iff_iff]
        constructor
        · rintro ⟨a, b⟩; exact ⟨⟨⟨by omega, by omega⟩, a⟩, b⟩
        · rintro ⟨⟨_, a⟩, b⟩; exact ⟨a, b⟩
theorem nodup_toNat {xs : List Int} (h : ∀ x ∈ xs, 0 ≤ x) : (xs.map Int.toNat).Nodup ↔ xs.Nodup := by
  induction xs with
  | nil => simp
  | cons x xs ih =>
    have h' := ih (fun y hy => h y (List.mem_cons_of_mem _ hy))
    simp only [List.map_cons, List.nodup_cons, h']
    have : x.toNat ∈ xs.map Int.toNat ↔ x ∈ xs := by
      simp only [List.mem_map]
      constructor
      · rintro ⟨y, hy, e⟩
        have := h y (List.mem_cons_of_mem _ hy); have := h x List.mem_cons_self
        obtain rfl : y = x := by omega
        exact hy
      · intro hx; exact ⟨x, hx, rfl⟩
    rw [this]
def partRun (n : Nat) : Nat → List Int → Bool
  | _, [] => true
  | s, x :: xs => if x < 0 then false else if x ≥ n then false else if s.testBit x.toNat then false else partRun n (s ||| 2 ^ x.toNat) xs
theorem partRun_iff (n : Nat) : ∀ (xs : List Int) (s : Nat), partRun n s xs = decide ((∀ x ∈ xs, 0 ≤ x ∧ x < n ∧ s.testBit x.toNat = false) ∧ xs.Nodup) := by
  intro xs
  induction xs with
  | nil => intro s; simp [partRun]
  | cons x xs ih =>
    intro s
    simp only [partRun, ih, List.forall_mem_cons, List.nodup_cons]
    by_cases h1 : x < 0
    · simp [h1]; intro h; omega
    · by_cases h2 : x ≥ n
      · simp [h1, h2]; intro _ h; omega
      · by_cases h3 : s.testBit x.toNat = true
        · simp [h1, h2, h3]
        · rw [if_neg h1, if_neg h2, if_neg h3, decide_eq_decide]
          simp only [testBit_or_two_pow, Bool.or_eq_false_iff, decide_eq_false_iff_not]
          constructor
          · rintro ⟨a, b⟩
            refine ⟨⟨⟨by omega, by omega, by simpa using h3⟩, fun y hy => ⟨(a y hy).1, (a y hy).2.1, (a y hy).2.2.1⟩⟩, fun hx => (a x hx).2.2.2 rfl, b⟩
          · rintro ⟨⟨_, a⟩, b, c⟩
            refine ⟨fun y hy => ⟨(a y hy).1, (a y hy).2.1, (a y hy).2.2, fun e => b ?_⟩, c⟩
            have := (a y hy).1
            obtain rfl : x = y := by omega
            exact hy

end Go.Proofs.Ytfjafmgaahfhgaa.P
namespace Go.Proofs.Ytfjafmgaahfhgaa.P
open Go.RowKit Go.Proofs.YtfjafmgaahfhgaaW.PrintWords Go.Proofs.YtfjafmgaahfhgaaW.PrintLast Go.Proofs.YtfjafmgaahfhgaaW.PrintMore
attribute [local go_sem] max2_int min2_int max_two min_two max_three min_three max_four min_four   -- for this text's walks alone
set_option linter.unusedVariables false
set_option linter.unusedSimpArgs false

/-! leadings and their prices, of the program and of the document -/
def LeadOf (k : Nat) (l : List Int) : Prop := l.length = k ∧ (∀ x ∈ l, 0 ≤ x ∧ x < k) ∧ l.Nodup
instance (k : Nat) (l : List Int) : Decidable (LeadOf k l) := by unfold LeadOf; infer_instance
theorem lead_full {l : List Int} {k : Nat} (hl : l.length = k) (hr : ∀ x ∈ l, 0 ≤ x ∧ x < k) : orAll 0 (l.map Int.toNat) = 2 ^ k - 1 ↔ l.Nodup := by
  have hr' : ∀ x ∈ l.map Int.toNat, x < k := by
    intro x hx
    obtain ⟨y, hy, rfl⟩ := List.mem_map.1 hx
    have := hr y hy
    omega
  rw [orAll_full _ hr', ← nodup_toNat (fun x hx => (hr x hx).1)]
  exact ⟨fun h => nodup_of_full (by simp [hl]) h, fun h => full_of_nodup (by simp [hl]) hr' h⟩
/-! voicings, in the document's words -/
theorem mid_next8 {l pre xs : List Int} {x : Int} (hl : l = pre ++ x :: xs) (hb : l.length < 9223372036854775808) : wrap64 ((pre.length : Int) + 1) = ((pre ++ [x]).length : Int) := by
  have : l.length = pre.length + (xs.length + 1) := by rw [hl]; simp
  rw [wrap_id (by omega) (by omega)]; simp
theorem refVoicing_loop (n : Int) (l : List Int) (hl : l.length < 9223372036854775808) : ∀ (xs pre : List Int), l = pre ++ xs →
    Ev (fun q => sackbutref06_Voicing.l0 q n l l (l.length : Int) (pre.length : Int)) (decide ((∀ x ∈ xs, 0 ≤ x ∧ x < n) ∧ 2 ≤ n ∧ n ≤ 16 ∧ 1 ≤ l.length ∧ l.length ≤ 6)) := by
  intro xs
  induction xs with
  | nil =>
    intro pre h0
    refine Ev.succ ?_
    simp only [sackbutref06_Voicing.l0, if_neg (mid_end h0)]
    refine Ev.ite (fun e1 => ?_) (fun e1 => by rw [decide_eq_false (fun h => e1 h.2.1)]; exact Ev.some _)
    refine Ev.ite (fun e2 => ?_) (fun e2 => by rw [decide_eq_false (fun h => e2 h.2.2.1)]; exact Ev.some _)
    refine Ev.ite (fun e3 => ?_) (fun e3 => by rw [decide_eq_false (fun h => e3 (by have := h.2.2.2.1; omega))]; exact Ev.some _)
    have e : decide ((l.length : Int) ≤ 6) = decide ((∀ x ∈ ([] : List Int), 0 ≤ x ∧ x < n) ∧ 2 ≤ n ∧ n ≤ 16 ∧ 1 ≤ l.length ∧ l.length ≤ 6) := by
      rw [decide_eq_decide]
      exact ⟨fun h => ⟨by simp, e1, e2, by omega, by omega⟩, fun h => by have := h.2.2.2.2; omega⟩
    rw [e]
    exact Ev.some _
  | cons x xs ih =>
    intro pre h0
    refine Ev.succ ?_
    simp only [sackbutref06_Voicing.l0, if_pos (mid_lt h0), if_pos (show (0 : Int) ≤ (pre.length : Int) by omega), mid_rd h0, mid_next8 h0 hl]
    refine Ev.ite (fun e => by rw [decide_eq_false (fun h => by have := h.1 x (by simp); omega)]; exact Ev.some _) (fun e => ?_)
    refine Ev.ite (fun e2 => by rw [decide_eq_false (fun h => by have := h.1 x (by simp); omega)]; exact Ev.some _) (fun e2 => ?_)
    have e3 : decide ((∀ y ∈ x :: xs, 0 ≤ y ∧ y < n) ∧ 2 ≤ n ∧ n ≤ 16 ∧ 1 ≤ l.length ∧ l.length ≤ 6) = decide ((∀ y ∈ xs, 0 ≤ y ∧ y < n) ∧ 2 ≤ n ∧ n ≤ 16 ∧ 1 ≤ l.length ∧ l.length ≤ 6) := by
      rw [decide_eq_decide]
      constructor
      · rintro ⟨h, r⟩; exact ⟨fun y hy => h y (by simp [hy]), r⟩
      · rintro ⟨h, r⟩
        refine ⟨fun y hy => ?_, r⟩
        rcases List.mem_cons.1 hy with rfl | hy
        · omega
        · exact h y hy
    rw [e3]
    exact ih (pre ++ [x]) (mid_mv h0)
theorem refVoicing_ev (n : Int) (l : List Int) (hl : l.length < 9223372036854775808) : Ev (fun q => sackbutref06_Voicing.f q n l) (decide (VoiN n l)) := by
  have h := refVoicing_loop n l hl l [] rfl
  have e : decide ((∀ x ∈ l, 0 ≤ x ∧ x < n) ∧ 2 ≤ n ∧ n ≤ 16 ∧ 1 ≤ l.length ∧ l.length ≤ 6) = decide (VoiN n l) := by
    rw [decide_eq_decide]; unfold VoiN
    exact ⟨fun h => ⟨h.2.1, h.2.2.1, h.2.2.2.1, h.2.2.2.2, h.1⟩, fun h => ⟨h.2.2.2.2, h.1, h.2.1, h.2.2.1, h.2.2.2.1⟩⟩
  rw [e] at h
  exact h
theorem refTwo_ev (n : Int) (a b : List Int) (ha : a.length < 9223372036854775808) (hb : b.length < 9223372036854775808) : Ev (fun q => sackbutref06_Two.f q n a b) (decide (TwoN n a b)) := by
  unfold sackbutref06_Two.f
  refine Ev.bind (refVoicing_ev n a ha) ?_
  by_cases h1 : VoiN n a
  · simp only [h1, decide_true, if_true]
    refine Ev.bind (refVoicing_ev n b hb) ?_
    by_cases h2 : VoiN n b
    · simp only [h2, decide_true, if_true]
      have e : ((a.length : Int) == (b.length : Int)) = decide (TwoN n a b) := by
        rw [Bool.eq_iff_iff, beq_iff_eq, decide_eq_true_eq]; unfold TwoN
        exact ⟨fun h => ⟨h1, h2, by omega⟩, fun h => by have := h.2.2; omega⟩
      rw [e]; exact Ev.some _
    · simp only [h2, decide_false, Bool.false_eq_true, if_false]
      rw [decide_eq_false (fun h => h2 h.2.1)]; exact Ev.some _
  · simp only [h1, decide_false, Bool.false_eq_true, if_false]
    rw [decide_eq_false (fun h => h1 h.1)]; exact Ev.some _
theorem list9_f (l : List Int) : sackbutlaw06_list.f l = some (l.take 9) := by
  unfold sackbutlaw06_list.f
  rw [mn_eq, if_pos (by omega), if_pos (by omega)]
  have e : (min (l.length : Int) 9).toNat = min l.length 9 := by omega
  have e2 : l.take (min l.length 9) = l.take 9 := by
    rw [Nat.min_comm]; exact (List.take_eq_take_min ..).symm
  rw [e, e2]
  unfold slices_Clone_int_int.f
  rw [if_pos (by rw [List.length_take]; omega)]
  rfl
theorem voi_take (n : Int) (l : List Int) : VoiN n (l.take 9) ↔ VoiN n l := by
  rcases Nat.lt_or_ge 9 l.length with h | h
  · constructor
    · intro hr; have := hr.2.2.2.1; rw [List.length_take] at this; omega
    · intro hr; have := hr.2.2.2.1; omega
  · rw [List.take_of_length_le h]
theorem two_take (n : Int) (a b : List Int) : TwoN n (a.take 9) (b.take 9) ↔ TwoN n a b := by
  unfold TwoN
  rw [voi_take, voi_take]
  constructor
  · rintro ⟨h1, h2, h3⟩
    have := h1.2.2.2.1; have := h2.2.2.2.1
    rw [List.take_of_length_le (by omega), List.take_of_length_le (by omega)] at h3
    exact ⟨h1, h2, h3⟩
  · rintro ⟨h1, h2, h3⟩
    have := h1.2.2.2.1; have := h2.2.2.2.1
    rw [List.take_of_length_le (by omega), List.take_of_length_le (by omega)]
    exact ⟨h1, h2, h3⟩
theorem voi_take9 {n : Int} {l : List Int} (h : VoiN n l) : l.take 9 = l := List.take_of_length_le (by have := h.2.2.2.1; omega)
theorem lead_take {k : Nat} (hk : k ≤ 6) (l : List Int) : LeadOf k (l.take 9) ↔ LeadOf k l := by
  rcases Nat.lt_or_ge 9 l.length with h | h
  · constructor
    · intro hr; have := hr.1; rw [List.length_take] at this; omega
    · intro hr; have := hr.1; omega
  · rw [List.take_of_length_le h]
theorem awake_f : sackbutlaw06_awake.f = some true := by
  have h : TwoN 12 [0] [11] := by decide
  have e : voices_Cost.f 12 [0] [11] = some (1, 0) := by
    unfold voices_Cost.f
    rw [if_pos h]
    have : bestV 12 [0] [11] = (some [0], 1) := by decide
    rw [this]
  unfold sackbutlaw06_awake.f
  rw [e]
  rfl
theorem refMod_f {n x : Int} (hn : 2 ≤ n) (hn2 : n ≤ 16) : sackbutref06_mod.f x n = some (x % n) := by
  unfold sackbutref06_mod.f
  rw [if_neg (by omega), tmod_mod (by omega) (by omega)]
theorem refMove_f {n x y : Int} (hn : 2 ≤ n) (hn2 : n ≤ 16) (hx : 0 ≤ x ∧ x < n) (hy : 0 ≤ y ∧ y < n) : sackbutref06_Move.f n x y = some (mvN n x y) := by
  have h1 := Int.emod_nonneg (y - x) (show n ≠ 0 by omega)
  have h2 := Int.emod_lt_of_pos (y - x) (show 0 < n by omega)
  unfold sackbutref06_Move.f
  rw [wrap_id (n := y - x) (by omega) (by omega), refMod_f hn hn2, Option.bind_some, wrap_id (n := 2 * ((y - x) % n)) (by omega) (by omega)]
  unfold mvN
  by_cases h : 2 * ((y - x) % n) > n
  · rw [if_neg (by omega), if_pos h, wrap_id (by omega) (by omega)]
  · rw [if_pos (by omega), if_neg h]
theorem refDistance_f {n x y : Int} (hn : 2 ≤ n) (hn2 : n ≤ 16) (hx : 0 ≤ x ∧ x < n) (hy : 0 ≤ y ∧ y < n) : sackbutref06_Distance.f n x y = some (dsN n x y) := by
  have := mvN_bd (x := x) (y := y) hn
  unfold sackbutref06_Distance.f
  rw [refMove_f hn hn2 hx hy, Option.bind_some, Option.bind_some, wrap_id (by omega) (by omega), mx_eq]
  rfl
theorem refPrice_ev {n : Int} {a b : List Int} (ha : VoiN n a) (hb : VoiN n b) (full : List Int) (hf : full.length ≤ a.length) (hk : ∀ k ∈ full, 0 ≤ k ∧ k < b.length) : Ev (fun k => sackbutref06_Price.f k n a b full) (prI n a b full 0) := by
  obtain ⟨hn, hn2, ha1, ha2, hax⟩ := ha
  obtain ⟨_, _, hb1, hb2, hbx⟩ := hb
  have loop : ∀ (rest pre : List Int) (acc : Int), full = pre ++ rest → 0 ≤ acc → acc ≤ 16 * pre.length →
      Ev (fun k => sackbutref06_Price.l0 k n a b acc full (full.length : Int) (pre.length : Int)) (acc + prI n a b rest pre.length) := by
    intro rest
    induction rest with
    | nil =>
      intro pre acc hp h0 h1
      have p1 : ¬ (pre.length : Int) < (full.length : Int) := by rw [hp]; simp
      refine Ev.succ ?_
      simp only [sackbutref06_Price.l0, if_neg p1, prI, Int.add_zero]
      exact Ev.some _
    | cons x rest ih =>
      intro pre acc hp h0 h1
      have hlen : full.length = pre.length + (rest.length + 1) := by rw [hp]; simp
      have p1 : (pre.length : Int) < (full.length : Int) := by omega
      have p0 : (0 : Int) ≤ (pre.length : Int) := by omega
      have pa : (pre.length : Int) < (a.length : Int) := by omega
      have hrd : rd full (pre.length : Int) = x := mid_rd hp
      have hx := hk x (by rw [hp]; simp)
      have hda := getD_mem (l := a) (i := pre.length) (by omega)
      have hdb := getD_mem (l := b) (i := x.toNat) (by omega)
      have e1 : rd a (pre.length : Int) = a.getD pre.length 0 := rd_nat _ _
      have e2 : rd b x = b.getD x.toNat 0 := rfl
      have hd := dsN_bd (n := n) (x := a.getD pre.length 0) (y := b.getD x.toNat 0) hn
      have hdf := refDistance_f hn hn2 (hax _ hda) (hbx _ hdb)
      have hw : wrap64 ((pre.length : Int) + 1) = ((pre ++ [x]).length : Int) := by rw [wrap_id (by omega) (by omega)]; simp
      have hw2 : wrap64 (acc + dsN n (a.getD pre.length 0) (b.getD x.toNat 0)) = acc + dsN n (a.getD pre.length 0) (b.getD x.toNat 0) := wrap_id (by omega) (by omega)
      have hl1 : (pre ++ [x]).length = pre.length + 1 := by simp
      have go := ih (pre ++ [x]) (acc + dsN n (a.getD pre.length 0) (b.getD x.toNat 0)) (by rw [hp]; simp) (by omega) (by rw [hl1]; omega)
      rw [hl1] at go
      refine Ev.succ ?_
      simp only [sackbutref06_Price.l0, if_pos p1, if_pos p0, if_pos pa, hrd, if_pos hx.1, if_pos hx.2, e1, e2]
      refine Ev.bind_some hdf ?_
      rw [hw, hw2, hl1]
      simp only [prI]
      rw [← Int.add_assoc]
      exact go
  have h := loop full [] 0 rfl (Int.le_refl _) (by simp)
  rw [Int.zero_add] at h
  exact h

end Go.Proofs.Ytfjafmgaahfhgaa.P
namespace Go.Proofs.Ytfjafmgaahfhgaa.P
open Go.RowKit Go.Proofs.YtfjafmgaahfhgaaW.PrintWords Go.Proofs.YtfjafmgaahfhgaaW.PrintLast Go.Proofs.YtfjafmgaahfhgaaW.PrintMore
attribute [local go_sem] max2_int min2_int max_two min_two max_three min_three max_four min_four   -- for this text's walks alone
set_option linter.unusedVariables false
set_option linter.unusedSimpArgs false

/-! the document's list of all leadings -/
def rlead (k : Nat) : Nat → List Nat → List (List Nat)
  | 0, cur => [cur]
  | r + 1, cur => (List.range k).flatMap fun x => if x ∈ cur then [] else rlead k r (cur ++ [x])
def rleadTo (k r : Nat) (cur : List Nat) (m : Nat) : List (List Nat) := (List.range m).flatMap fun x => if x ∈ cur then [] else rlead k r (cur ++ [x])
theorem rleadTo_succ (k r : Nat) (cur : List Nat) (m : Nat) : rleadTo k r cur (m + 1) = rleadTo k r cur m ++ (if m ∈ cur then [] else rlead k r (cur ++ [m])) := by
  unfold rleadTo; rw [List.range_succ]; simp
theorem len_le_of_sub : ∀ (l l' : List Nat), l.Nodup → (∀ c, c ∈ l → c ∈ l') → l.length ≤ l'.length
  | [], _, _, _ => Nat.zero_le _
  | c :: l, l', hd, hs => by
    have h1 := hs c (by simp)
    have hd' := List.nodup_cons.1 hd
    have := len_le_of_sub l (l'.erase c) hd'.2 (fun x hx => by
      have hx' := hs x (by simp [hx])
      have hne : x ≠ c := fun e => hd'.1 (e ▸ hx)
      exact (List.mem_erase_of_ne hne).2 hx')
    rw [List.length_erase_of_mem h1] at this
    have hp : 0 < l'.length := List.length_pos_of_mem h1
    simp only [List.length_cons]; omega
theorem rlead_ne {k : Nat} : ∀ (r : Nat) (cur : List Nat), cur.length + r = k → rlead k r cur ≠ []
  | 0, _, _ => by simp [rlead]
  | r + 1, cur, h => by
    have : ∃ x, x < k ∧ x ∉ cur := by
      refine Classical.byContradiction fun hn => ?_
      have h1 := len_le_of_sub (List.range k) cur List.nodup_range (fun x hx => Classical.byContradiction fun h2 => hn ⟨x, List.mem_range.1 hx, h2⟩)
      rw [List.length_range] at h1; omega
    obtain ⟨x, hx, hc⟩ := this
    obtain ⟨l, hl⟩ := List.exists_mem_of_ne_nil _ (rlead_ne (k := k) r (cur ++ [x]) (by rw [List.length_append, List.length_singleton]; omega))
    refine List.ne_nil_of_mem (a := l) ?_
    simp only [rlead]
    rw [List.mem_flatMap]
    exact ⟨x, List.mem_range.2 hx, by rw [if_neg hc]; exact hl⟩
theorem flat_congr {l : List Nat} {f g : Nat → List (List Nat)} (h : ∀ x ∈ l, f x = g x) : l.flatMap f = l.flatMap g := by
  rw [List.flatMap_def, List.flatMap_def, List.map_congr_left h]
theorem ldg_rlead {k : Nat} : ∀ (r used : Nat) (cur : List Nat), (∀ x, x < k → used.testBit x = decide (x ∈ cur)) → ldg k r used cur = rlead k r cur
  | 0, _, _, _ => rfl
  | r + 1, used, cur, h => by
    simp only [ldg, rlead]
    refine flat_congr (fun x hx => ?_)
    have hx' := List.mem_range.1 hx
    rw [h x hx']
    by_cases hc : x ∈ cur
    · simp [hc]
    · simp only [hc, decide_false, Bool.false_eq_true, if_false]
      exact ldg_rlead r (used ||| 2 ^ x) (cur ++ [x]) (fun y hy => by
        rw [Nat.testBit_or, Nat.testBit_two_pow, h y hy]
        by_cases h1 : y ∈ cur <;> by_cases h2 : x = y <;> simp [h1, h2, eq_comm]
        all_goals (first | (intro h3; exact absurd h3.symm h2) | skip))
theorem ldg_all (k : Nat) : ldg k k 0 [] = rlead k k [] := ldg_rlead k 0 [] (fun x _ => by simp)
/-- rows of numbers of the call's own -/
def RowOf (W : World) (base : Nat) (v : Value) (l : List Nat) : Prop := ∃ A c, v = .slice A (nums l).length c ∧ Kd.R (Kd.int .i64) 3 W base (fun _ => True) v (nums l)
def All2 (W : World) (base : Nat) : List Value → List (List Nat) → Prop
  | [], [] => True
  | v :: vs, l :: ls => RowOf W base v l ∧ All2 W base vs ls
  | _, _ => False
theorem RowOf.below {W W' : World} {base : Nat} {v : Value} {l : List Nat} (h : RowOf W base v l) (hb : Below W.heap.size W W') : RowOf W' base v l := by
  obtain ⟨A, c, e, hR⟩ := h
  exact ⟨A, c, e, Kd.R_below hR hb⟩
theorem All2.below {W W' : World} {base : Nat} (hb : Below W.heap.size W W') : ∀ {vs : List Value} {ls : List (List Nat)}, All2 W base vs ls → All2 W' base vs ls
  | [], [], _ => trivial
  | _ :: _, _ :: _, h => ⟨h.1.below hb, All2.below hb h.2⟩
theorem All2.append {W : World} {base : Nat} : ∀ {vs us : List Value} {ls ms : List (List Nat)}, All2 W base vs ls → All2 W base us ms → All2 W base (vs ++ us) (ls ++ ms)
  | [], _, [], _, _, h => h
  | _ :: _, _, _ :: _, _, h, h2 => ⟨h.1, All2.append h.2 h2⟩
theorem All2.length {W : World} {base : Nat} : ∀ {vs : List Value} {ls : List (List Nat)}, All2 W base vs ls → vs.length = ls.length
  | [], [], _ => rfl
  | _ :: _, _ :: _, h => by rw [List.length_cons, List.length_cons, All2.length h.2]
theorem RowOf.over {W w1 : World} {base : Nat} {u v : Value} {l : List Nat} (h : RowOf W base u l) (hty : ∀ k, v.ownBlock = some k → ∃ cells, W.heap[k]? = some (.cells cells 23 (0, 0))) (hg : W.grownBy w1 v.ownBlock) : RowOf w1 base u l := by
  obtain ⟨A, c, e, hR⟩ := h
  exact ⟨A, c, e, Kd.R_over' hR hty (by intro q hq; simp [Kd.int, Kd.scalar] at hq; subst hq; decide) hg⟩
theorem All2.over {W w1 : World} {base : Nat} {v : Value} (hty : ∀ k, v.ownBlock = some k → ∃ cells, W.heap[k]? = some (.cells cells 23 (0, 0))) (hg : W.grownBy w1 v.ownBlock) : ∀ {vs : List Value} {ls : List (List Nat)}, All2 W base vs ls → All2 w1 base vs ls
  | [], [], _ => trivial
  | _ :: _, _ :: _, h => ⟨h.1.over hty hg, All2.over hty hg h.2⟩
theorem flat_len {l : List Nat} {f : Nat → List (List Nat)} {m : Nat} (h : ∀ x ∈ l, (f x).length ≤ m) : (l.flatMap f).length ≤ l.length * m := by
  induction l with
  | nil => simp
  | cons x l ih =>
    have h1 := h x (by simp)
    have h2 := ih (fun y hy => h y (by simp [hy]))
    rw [List.flatMap_cons, List.length_append, List.length_cons, Nat.add_mul]; omega
theorem rlead_len {k : Nat} : ∀ (r : Nat) (cur : List Nat), (rlead k r cur).length ≤ k ^ r
  | 0, _ => by simp [rlead]
  | r + 1, cur => by
    have : ∀ x ∈ List.range k, (if x ∈ cur then ([] : List (List Nat)) else rlead k r (cur ++ [x])).length ≤ k ^ r := fun x _ => by
      split
      · simp
      · exact rlead_len r _
    have h := flat_len this
    rw [List.length_range] at h
    simp only [rlead]
    rw [Nat.pow_succ, Nat.mul_comm]; exact h
theorem rleadTo_len {k r m : Nat} {cur : List Nat} (hm : m ≤ k) (hk : k ≤ 6) (hr : r + 1 ≤ 6) : (rleadTo k r cur m).length ≤ 46656 := by
  have : ∀ x ∈ List.range m, (if x ∈ cur then ([] : List (List Nat)) else rlead k r (cur ++ [x])).length ≤ 6 ^ 5 := fun x _ => by
    split
    · simp
    · refine Nat.le_trans (rlead_len r _) (Nat.le_trans (Nat.pow_le_pow_left hk r) (Nat.pow_le_pow_right (by omega) (by omega)))
  have h := flat_len this
  rw [List.length_range] at h
  unfold rleadTo
  have : m * 6 ^ 5 ≤ 6 * 6 ^ 5 := Nat.mul_le_mul_right _ (by omega)
  omega
theorem RowOf.one {W : World} {base : Nat} {v : Value} {l : List Nat} (h : RowOf W base v l) : v.oneCell' = true := by
  obtain ⟨A, c, e, _⟩ := h; rw [e]; rfl
theorem All2.one {W : World} {base : Nat} : ∀ {vs : List Value} {ls : List (List Nat)}, All2 W base vs ls → ∀ u ∈ vs, u.oneCell' = true
  | [], [], _, u, hu => by cases hu
  | _ :: _, _ :: _, h, u, hu => by
    rcases List.mem_cons.1 hu with rfl | hu
    · exact h.1.one
    · exact All2.one h.2 u hu
theorem All2.get {W : World} {base : Nat} : ∀ {vs : List Value} {ls : List (List Nat)}, All2 W base vs ls → ∀ (i : Nat) (l : List Nat), ls[i]? = some l → ∃ v, vs[i]? = some v ∧ RowOf W base v l
  | [], [], _, i, l, h => by simp at h
  | v :: vs, l' :: ls, h, 0, l, hl => by
    simp only [List.getElem?_cons_zero, Option.some.injEq] at hl
    subst hl
    exact ⟨v, rfl, h.1⟩
  | v :: vs, l' :: ls, h, i + 1, l, hl => by
    simp only [List.getElem?_cons_succ] at hl ⊢
    exact All2.get h.2 i l hl
def LeadsPost (base : Nat) (W : World) (L : List (List Nat)) (e : Ending) (w' : World) : Prop := ∃ v vs, e = .returned v ∧ w'.ownsRow W.heap.size 23 1 v vs.length vs ∧ All2 w' base vs L ∧ Below W.heap.size W w'
/-- a row of the call's own has its cells somewhere, where it has any -/
theorem own_some {w : World} {base : Nat} {e : TypeId} {v : Value} {vs : List Value} (h : w.ownsRow base e 1 v vs.length vs) (hne : 0 < vs.length) : ∃ g c, v = .slice (some ⟨g, 0, none⟩) vs.length c ∧ ∀ j u, vs[j]? = some u → w.cell? ((⟨g, 0, none⟩ : Addr).add j) = some u := by
  have hc : ∀ g, v.ownBlock = some g → ∀ j u, vs[j]? = some u → w.cell? ((⟨g, 0, none⟩ : Addr).add j) = some u := fun g hg => h.cells hg
  obtain ⟨_, h2⟩ := h
  rcases h2 with ⟨_, h0⟩ | ⟨g, cap, cur, e1, _⟩
  · omega
  · exact ⟨g, cap, e1, hc g (by rw [e1]; rfl)⟩
theorem infoS : (Try.prog.info? 23).map (fun i => (i.zero, i.size, i.bytes)) = some (some (.slice none 0 0), 1, 24) := by kernel_rfl
theorem R_fresh {w : World} {base : Nat} {v : Value} {xs : List Int} (h : w.ownsRow base 3 1 v xs.length (xs.map (Value.int .i64))) : Kd.R (Kd.int .i64) 3 w base (fun _ => True) v xs := Kd.R_of_own (h1 := fun _ => rfl) h (fun _ _ => trivial)
set_option maxHeartbeats 4000000 in
set_option maxRecDepth 100000 in
theorem leads_end (k : Nat) (base : Nat) (A : Option Addr) (c : Nat) (cur : List Nat) (W : World) (hc : cur.length = k) (hR : Kd.R (Kd.int .i64) 3 W base (fun _ => True) (.slice A (nums cur).length c) (nums cur)) :
    Calls Try.prog 69 #[.int .i64 (k : Int), .slice A (nums cur).length c] W (LeadsPost base W [cur]) := by
  have hlen : (nums cur).length = k := by rw [nums_length, hc]
  have HR := Aside0.mk hR
  have HL := Aside0.mk hlen
  rw [hlen]
  clear hR hc hlen
  go_enter Try.func69, Try.ntmps69
  go_wp2
  go_ret
  refine ⟨_, [.slice A k c], rfl, World.ownsRow_lit (base := W.heap.size) (e := 23) (size := 1) W #[.slice A k c] 1 (Nat.le_refl _) (by simp [maxLen]) (by simp), ⟨?_, trivial⟩, below_alloc (Below.refl _ _) _⟩
  refine ⟨A, c, by rw [HL.out], ?_⟩
  rw [← HL.out]
  exact Kd.R_alloc HR.out _
theorem nums_get {cur : List Nat} {j : Nat} (h : j < cur.length) : rd (nums cur) (j : Int) = (cur[j] : Int) := by
  rw [rd_get (by rw [nums_length]; exact h)]; simp [nums]
theorem any_take {cur : List Nat} {j x : Nat} (h : j < cur.length) : (decide (x ∈ cur.take (j + 1))) = (decide (x ∈ cur.take j) || decide (x = cur[j])) := by
  rw [List.take_succ_eq_append_getElem h, ← Bool.decide_or, decide_eq_decide, List.mem_append, List.mem_singleton]
theorem nums_cells {W : World} {A : Option Addr} {cur : List Nat} (h : Kd.C (Kd.int .i64) W A (nums cur).length (nums cur)) : ∀ b, A = some b → ∀ j u, ((nums cur).map (Value.int .i64))[j]? = some u → W.cell? (b.add j) = some u := by
  intro b hb j u hu
  rw [List.getElem?_map, Option.map_eq_some_iff] at hu
  obtain ⟨x, hx, rfl⟩ := hu
  have hj := (List.getElem?_eq_some_iff.1 hx).1
  obtain ⟨ad, e, hc⟩ := Kd.at_int h (j : Int) (by omega) (by omega)
  rw [hb] at e
  injection e with e
  subst e
  rw [Int.toNat_natCast, rd_get hj] at hc
  rw [hc, (List.getElem?_eq_some_iff.1 hx).2]
set_option maxHeartbeats 8000000 in
set_option maxRecDepth 100000 in
theorem leads_more (k : Nat) (hk : k ≤ 6) (r : Nat) (base : Nat) (A : Option Addr) (c : Nat) (cur : List Nat) (W : World) (hc : cur.length + (r + 1) = k) (hb : base ≤ W.heap.size) (hR : Kd.R (Kd.int .i64) 3 W base (fun _ => True) (.slice A (nums cur).length c) (nums cur))
    (ih : ∀ (x : Nat) (A : Option Addr) (c : Nat) (W : World), x < k → x ∉ cur → base ≤ W.heap.size → Kd.R (Kd.int .i64) 3 W base (fun _ => True) (.slice A (nums (cur ++ [x])).length c) (nums (cur ++ [x])) →
      Calls Try.prog 69 #[.int .i64 (k : Int), .slice A (nums (cur ++ [x])).length c] W (LeadsPost base W (rlead k r (cur ++ [x])))) :
    Calls Try.prog 69 #[.int .i64 (k : Int), .slice A (nums cur).length c] W (LeadsPost base W (rleadTo k r cur k)) := by
  obtain ⟨L, hlen⟩ : ∃ L, (nums cur).length = L := ⟨_, rfl⟩
  have hLk : L < k := by rw [nums_length] at hlen; omega
  have hcl : cur.length = L := by rw [← nums_length]; exact hlen
  have HR := Aside0.mk hR
  have HRC := Aside0.mk (Kd.R_reads' hR).2.2
  have hcc := (Kd.R_reads' hR).2.1
  rw [hlen] at hcc HR ⊢
  have HL := Aside0.mk hlen
  have HCL := Aside0.mk hcl
  have HIH := Aside0.mk ih
  have HB := Aside0.mk hb
  have HCK := Aside0.mk hc
  have hne : ((L : Int) == (k : Int)) = false := beq_eq_false_iff_ne.2 (by omega)
  obtain ⟨i0, hi, hz0, hz1, hz2⟩ := info_parts info3
  obtain ⟨i1, hi1, hy0, hy1, hy2⟩ := info_parts infoS
  have HI0 := Aside0.mk hi
  have HI1 := Aside0.mk hi1
  have HZ := Aside0.mk (show i0.zero = some (.int .i64 0) ∧ i0.size = 1 ∧ i0.bytes = 8 ∧ i1.zero = some (.slice none 0 0) ∧ i1.size = 1 ∧ i1.bytes = 24 from ⟨hz0, hz1, hz2, hy0, hy1, hy2⟩)
  have HNONE := Aside0.mk (show A = none → L = 0 ∧ L = 0 from fun e => by
    rcases Nat.eq_zero_or_pos L with h | h
    · exact ⟨h, h⟩
    · obtain ⟨ad, e2, _⟩ := Kd.at_int HRC.out 0 (by omega) (by omega)
      rw [e] at e2; cases e2)
  clear hR hlen hcl ih hb hc hi hz0 hz1 hz2 hi1 hy0 hy1 hy2
  go_enter Try.func69, Try.ntmps69
  go_wp2
  go_loopg [5, 17] k (fun gg s5 s17 wr => ∃ (x : Nat) (v : Value) (vs : List Value), s17 = .int .i64 x ∧ s5 = v ∧ Aside0 (x + gg = k) ∧ Aside0 (wr.ownsRow W.heap.size 23 1 v vs.length vs) ∧ Aside0 (All2 wr base vs (rleadTo k r cur x)) ∧ Aside0 (Below W.heap.size W wr))
  case atStart => exact ⟨0, _, [], rfl, rfl, ⟨by omega⟩, ⟨World.ownsRow_nil _ _ _ _⟩, ⟨trivial⟩, ⟨Below.refl _ _⟩⟩
  case round =>
    obtain ⟨x, v, vs, rfl, rfl, HX, HO, HA, HBW⟩ := hrel
    have HS := Aside0.mk (rleadTo_succ k r cur x)
    obtain ⟨G, rfl⟩ : ∃ G, G = gk := ⟨gk, rfl⟩
    obtain ⟨wo, rfl⟩ : ∃ wo : World, wo = wr := ⟨wr, rfl⟩
    by_cases hlt : x < k
    · have hltz : (x : Int) < (k : Int) := by omega
      clear hne
      go_wp2
      go_loopg [7, 22] L (fun gg s7 s22 w2 => ∃ (j q : Nat), s22 = .int .i64 j ∧ s7 = .bool (decide (x ∈ cur.take j)) ∧ w2 = wo.drewN q ∧ Aside0 (j + gg = L))
      case atStart => exact ⟨0, 0, rfl, by simp, rfl, ⟨by omega⟩⟩
      case round =>
        obtain ⟨j, q, rfl, rfl, rfl, HJ⟩ := hrel
        by_cases hj : j < L
        · have hjz : (j : Int) < (L : Int) := by omega
          obtain ⟨ad, e, hcell⟩ := Kd.at_int (Kd.C_below HRC.out HBW.out) (j : Int) (by omega) (by rw [HL.out]; exact hjz)
          rw [nums_get (by rw [HCL.out]; exact hj), Int.toNat_natCast] at hcell
          cases e
          have HT := Aside0.mk (any_take (x := x) (show j < cur.length by rw [HCL.out]; exact hj))
          generalize hy : cur[j]'(by rw [HCL.out]; exact hj) = y at hcell HT
          clear hy
          cases ho : decide (x ∈ cur.take j) with
          | true =>
            rw [ho, Bool.true_or] at HT
            clear ho
            go_wp2
            go_roundg (gk - 1)
            case measure => have := HJ.out; omega
            case rel => exact ⟨j + 1, q, by go_num, by rw [HT.out], rfl, ⟨by have := HJ.out; omega⟩⟩
          | false =>
            rw [ho, Bool.false_or] at HT
            clear ho
            by_cases hxy : x = y
            · rw [decide_eq_true hxy] at HT
              have e6 : ((x : Int) == (y : Int)) = true := by rw [hxy]; exact beq_self_eq_true _
              clear hxy
              go_wp2
              go_roundg (gk - 1)
              case measure => have := HJ.out; omega
              case rel => exact ⟨j + 1, q, by go_num, by rw [HT.out], rfl, ⟨by have := HJ.out; omega⟩⟩
            · rw [decide_eq_false hxy] at HT
              have e6 : ((x : Int) == (y : Int)) = false := beq_eq_false_iff_ne.2 (by omega)
              clear hxy
              go_wp2
              go_roundg (gk - 1)
              case measure => have := HJ.out; omega
              case rel => exact ⟨j + 1, q, by go_num, by rw [HT.out], rfl, ⟨by have := HJ.out; omega⟩⟩
        · have hjL : j = L := by have := HJ.out; omega
          have hjz : ¬ (j : Int) < (L : Int) := by omega
          have HALL := Aside0.mk (show decide (x ∈ cur.take j) = decide (x ∈ cur) by rw [List.take_of_length_le (by rw [HCL.out]; omega)])
          have HX5 := Aside0.mk hjL
          clear hjL
          cases ho : decide (x ∈ cur.take j) with
          | true =>
            rw [ho] at HALL
            have HM := Aside0.mk (of_decide_eq_true HALL.out.symm)
            rw [if_pos HM.out, List.append_nil] at HS
            clear ho
            go_wp2
            go_roundg (G - 1)
            case measure => have := HX.out; omega
            case rel => exact ⟨x + 1, _, vs, by go_num, rfl, ⟨by have := HX.out; omega⟩, ⟨own_move HO.out (fun _ _ => rfl)⟩, ⟨by rw [HS.out]; exact HA.out.below (pw_below_drewN (Below.refl _ _) q)⟩, ⟨pw_below_drewN HBW.out q⟩⟩
          | false =>
            rw [ho] at HALL
            have HM := Aside0.mk (of_decide_eq_false HALL.out.symm)
            rw [if_neg HM.out] at HS
            clear ho
            have hLc : (L : Int) ≤ (c : Int) := by omega
            have hsz := HBW.out.size
            have HCB := Aside0.mk (nums_cells (W := (wo.drewN q).alloc (.cells #[.int .i64 (x : Int)] 3)) (A := A) (cur := cur) (Kd.C_alloc (Kd.C_drewN (Kd.C_below HRC.out HBW.out) q) _))
            have HNL := Aside0.mk (show ((nums cur).map (Value.int .i64)).length = L * 1 by rw [List.length_map, HL.out, Nat.mul_one])
            have HNC := Aside0.mk (new_cell (wo.drewN q) (.int .i64 (x : Int)) 3)
            go_wp2_with (((with_reducible refine gate_builtin (b := .append) (xs := #[.tmp 42, .tmp 44]) rfl ?_); at_builtin; refine wpList_append_grows _ rfl _ _ 23 rfl 3 i0 (.int .i64 0) 1 8 Try.underlying23 HI0.out HZ.out.1 HZ.out.2.1 HZ.out.2.2.1 rfl (by decide) A L L ((nums cur).map (Value.int .i64)) rfl HNONE.out HNL.out HCB.out ⟨wo.heap.size, 0, none⟩ 1 1 [.int .i64 (x : Int)] rfl rfl ?c1 ?c2 (by omega) ?c3 ?c4 ?_; (case c1 => intro j u hu; cases j with
              | zero => simp only [List.getElem?_cons_zero, Option.some.injEq] at hu; subst hu; exact HNC.out.1
              | succ j => simp at hu); (case c2 => intro u hu; rw [List.mem_singleton] at hu; subst hu; rfl); (case c3 => simp only [maxLen]; omega); (case c4 => omega); intro v5 w5 ho5 hg5))
            have hrow : (((nums cur).map (Value.int .i64)) ++ [Value.int .i64 (x : Int)]) = (nums (cur ++ [x])).map (Value.int .i64) := by rw [nums_snoc]; simp
            have hlen2 : L + 1 = (nums (cur ++ [x])).length := by rw [nums_snoc, List.length_append, HL.out]; rfl
            rw [hrow] at ho5
            have ho6 := ho5
            rw [hlen2] at ho6
            have hR5 := R_fresh ho6
            obtain ⟨A5, c5, e5⟩ := Kd.R_slice hR5
            subst e5
            have hb5 : Below wo.heap.size wo w5 := ((below_alloc (pw_below_drewN (Below.refl wo.heap.size wo) q) _).grown hg5 (by simp) (fun k e => by cases e))
            have HB5 := Aside0.mk hb5
            have hrun := HIH.out x A5 c5 w5 hlt HM.out (Nat.le_trans HB.out (Nat.le_trans HBW.out.size hb5.size)) (Kd.R_lower hR5 (by simp only [World.size_alloc]; have := HB.out; have := HBW.out.size; show base ≤ wo.heap.size + 1; omega))
            rw [← hlen2] at hrun ⊢
            have HRUN := Aside0.mk hrun
            clear hrow hlen2 ho5 ho6 hR5 hb5 hg5 hrun hsz
            go_wp2_with fail
            refine HRUN.out.mono ?_
            rintro e w6 ⟨v6, vs6, rfl, ho6, ha6, hb6⟩
            have hne6 : 0 < vs6.length := by
              rw [ha6.length]
              exact List.length_pos_iff.2 (rlead_ne r _ (by rw [List.length_append, List.length_singleton]; have := HCK.out; omega))
            obtain ⟨g6, c6, e6, hc6⟩ := own_some ho6 hne6
            subst e6
            have HA6 := Aside0.mk ha6
            have HC6 := Aside0.mk hc6
            have HBL := Aside0.mk (HB5.out.trans (hb6.mono HB5.out.size))
            have HO6 := Aside0.mk (own_move HO.out (fun k hk => HBL.out.block k (own_lt HO.out k hk)))
            have HN1 := Aside0.mk (rleadTo_len (k := k) (r := r) (m := x + 1) (cur := cur) (by omega) hk (by have := HCK.out; omega))
            have HN2 : Aside0 (vs.length + vs6.length ≤ 46656) := ⟨by
              have h1 := HN1.out
              rw [HS.out, List.length_append] at h1
              rw [HA.out.length, ha6.length]; exact h1⟩
            clear ho6 ha6 hb6 hc6 hne6 HN1
            go_wp2_with (((with_reducible refine gate_builtin (b := .append) (xs := #[.tmp 35, .tmp 46]) rfl ?_); at_builtin; refine wpList_append_own _ rfl _ _ 22 rfl W.heap.size 23 i1 (.slice none 0 0) 1 24 Try.underlying22 HI1.out HZ.out.2.2.2.1 HZ.out.2.2.2.2.1 HZ.out.2.2.2.2.2 rfl (by decide) _ vs.length vs rfl HO6.out ⟨g6, 0, none⟩ vs6.length c6 vs6 rfl (Nat.mul_one _).symm HC6.out HA6.out.one ?c5 ?c6 ?c7 ?_; (case c5 => simp only [maxLen]; have := HN2.out; omega); (case c6 => have := HN2.out; omega); (case c7 => exact Nat.le_trans HBW.out.size HBL.out.size); intro v7 w7 ho7 hg7 _))
            go_roundg (G - 1)
            case measure => have := HX.out; omega
            case rel =>
              refine ⟨x + 1, v7, vs ++ vs6, by go_num, rfl, ⟨by have := HX.out; omega⟩, ⟨by rw [List.length_append]; exact ho7⟩, ⟨?_⟩, ⟨((HBW.out.trans (HBL.out.mono HBW.out.size))).grown hg7 (Nat.le_trans HBW.out.size HBL.out.size) (fun k hk => own_base HO6.out k hk)⟩⟩
              rw [HS.out]
              exact ((HA.out.below HBL.out).append HA6.out).over (fun k hk => own_typed HO6.out k hk) hg7
    · have hxk : x = k := by have := HX.out; omega
      have HXK := Aside0.mk hxk
      clear hxk
      have hltz : ¬ (x : Int) < (k : Int) := by omega
      go_wp2
      go_ret
      have ha := HA.out
      rw [HXK.out] at ha
      exact ⟨_, vs, rfl, HO.out, ha, HBW.out⟩
theorem refLeads_calls (k : Nat) (hk : k ≤ 6) (base : Nat) : ∀ (r : Nat) (A : Option Addr) (c : Nat) (cur : List Nat) (W : World), cur.length + r = k → base ≤ W.heap.size → Kd.R (Kd.int .i64) 3 W base (fun _ => True) (.slice A (nums cur).length c) (nums cur) →
    Calls Try.prog 69 #[.int .i64 (k : Int), .slice A (nums cur).length c] W (LeadsPost base W (rlead k r cur)) := by
  intro r
  induction r with
  | zero => intro A c cur W hc _ hR; exact leads_end k base A c cur W (by omega) hR
  | succ r ih =>
    intro A c cur W hc hb hR
    exact leads_more k hk r base A c cur W hc hb hR (fun x A c W _ _ hb hR => ih A c (cur ++ [x]) W (by rw [List.length_append, List.length_singleton]; omega) hb hR)

end Go.Proofs.Ytfjafmgaahfhgaa.P
namespace Go.Proofs.Ytfjafmgaahfhgaa.P
open Go.RowKit Go.Proofs.YtfjafmgaahfhgaaW.PrintWords Go.Proofs.YtfjafmgaahfhgaaW.PrintLast Go.Proofs.YtfjafmgaahfhgaaW.PrintMore
attribute [local go_sem] max2_int min2_int max_two min_two max_three min_three max_four min_four   -- for this text's walks alone
set_option linter.unusedVariables false
set_option linter.unusedSimpArgs false

/-! crossing voices, in numbers -/
def stB (n lo hi j : Int) : Bool := decide (lo < j * n ∧ j * n < hi)
def meetB (n a am b bm : Int) : Bool := decide (a ≠ b) && (stB n (min ((b - a) % n) ((b - a) % n + bm - am)) (max ((b - a) % n) ((b - a) % n + bm - am)) (-1) || (stB n (min ((b - a) % n) ((b - a) % n + bm - am)) (max ((b - a) % n) ((b - a) % n + bm - am)) 0 || (stB n (min ((b - a) % n) ((b - a) % n + bm - am)) (max ((b - a) % n) ((b - a) % n + bm - am)) 1 || (stB n (min ((b - a) % n) ((b - a) % n + bm - am)) (max ((b - a) % n) ((b - a) % n + bm - am)) 2 || false))))
def rtB (n ap gr j : Int) : Bool := decide ((0 < j * n - ap ∧ j * n - ap < gr) ∨ (j * n - ap < 0 ∧ gr < j * n - ap))
def crB (n a am b bm : Int) : Bool := decide (a ≠ b) && (rtB n (a - b) (am - bm) (-2) || (rtB n (a - b) (am - bm) (-1) || (rtB n (a - b) (am - bm) 0 || (rtB n (a - b) (am - bm) 1 || (rtB n (a - b) (am - bm) 2 || false)))))
theorem diff_mod {n a b : Int} (ha : 0 ≤ a ∧ a < n) (hb : 0 ≤ b ∧ b < n) : (a ≤ b ∧ (b - a) % n = b - a) ∨ (b < a ∧ (b - a) % n = b - a + n) := by
  rcases Int.lt_or_le b a with h | h
  · right; refine ⟨h, ?_⟩
    rw [← Int.add_emod_right, Int.emod_eq_of_lt (by omega) (by omega)]
  · left; exact ⟨h, Int.emod_eq_of_lt (by omega) (by omega)⟩
theorem rtB_neg (n ap gr j : Int) : rtB n ap gr j = rtB n (-ap) (-gr) (-j) := by
  unfold rtB
  rw [decide_eq_decide, Int.neg_mul]
  generalize j * n = v
  omega
theorem crB_symm {n a am b bm : Int} : crB n a am b bm = crB n b bm a am := by
  unfold crB
  have e1 : b - a = -(a - b) := by omega
  have e2 : bm - am = -(am - bm) := by omega
  have e3 : decide (a ≠ b) = decide (b ≠ a) := by rw [decide_eq_decide]; exact ⟨fun h e => h e.symm, fun h e => h e.symm⟩
  rw [e1, e2, e3]
  generalize a - b = ap
  generalize am - bm = gr
  rw [rtB_neg n ap gr (-2), rtB_neg n ap gr (-1), rtB_neg n ap gr 0, rtB_neg n ap gr 1, rtB_neg n ap gr 2]
  simp only [Int.neg_neg, Int.neg_zero]
  generalize rtB n (-ap) (-gr) 2 = b2
  generalize rtB n (-ap) (-gr) 1 = b1
  generalize rtB n (-ap) (-gr) 0 = b0
  generalize rtB n (-ap) (-gr) (-1) = c1
  generalize rtB n (-ap) (-gr) (-2) = c2
  cases b2 <;> cases b1 <;> cases b0 <;> cases c1 <;> cases c2 <;> rfl
theorem nextI {j : Nat} (h : j ≤ 100000) : wrap64 ((j : Int) + 1) = ((j + 1 : Nat) : Int) := by rw [wrap_id (by omega) (by omega)]; omega
theorem nextJ {j : Nat} (h : j ≤ 100000) : wrap64 ((j : Int) + 1) = (j : Int) + 1 := wrap_id (by omega) (by omega)
theorem meet_cr {n a am b bm : Int} (ha : 0 ≤ a ∧ a < n) (hb : 0 ≤ b ∧ b < n) (h1 : -n ≤ 2 * am ∧ 2 * am ≤ n) (h2 : -n ≤ 2 * bm ∧ 2 * bm ≤ n) : meetB n a am b bm = crB n a am b bm := by
  rw [Bool.eq_iff_iff]
  unfold meetB crB rtB stB
  rcases diff_mod ha hb with ⟨h, e⟩ | ⟨h, e⟩
  all_goals
    rw [e]
    simp only [Bool.and_eq_true, Bool.or_eq_true, decide_eq_true_eq, Bool.false_eq_true, or_false]
    omega
/-- what two voices need of each other -/
def toneI (a : List Int) (i : Nat) : Int := a.getD i 0
def mvAt (n : Int) (a b l : List Int) (i : Nat) : Int := mvN n (toneI a i) (toneI b (toneI l i).toNat)
theorem rd_toneI (a : List Int) (i : Nat) : rd a (i : Int) = toneI a i := rd_nat a i
theorem mv_all {n : Int} {a b l : List Int} (h : TwoN n a b) (hl : l.length = a.length) (hk : ∀ k ∈ l, 0 ≤ k ∧ k < (a.length : Int)) {i : Nat} (hi : i < a.length) :
    (0 ≤ toneI a i ∧ toneI a i < n) ∧ (0 ≤ toneI l i ∧ toneI l i < (b.length : Int)) ∧ (0 ≤ toneI b (toneI l i).toNat ∧ toneI b (toneI l i).toNat < n) ∧ (-n ≤ 2 * mvAt n a b l i ∧ 2 * mvAt n a b l i ≤ n) := by
  have h1 := h.1.2.2.2.2 _ (getD_mem (l := a) (i := i) hi)
  have h2 := hk _ (getD_mem (l := l) (i := i) (by omega))
  have hab := h.2.2
  have h3 := h.2.1.2.2.2.2 _ (getD_mem (l := b) (i := (l.getD i 0).toNat) (by omega))
  exact ⟨h1, ⟨h2.1, by show l.getD i 0 < _; omega⟩, h3, mvN_bd h.1.1⟩
def meetF (n : Int) (a b l : List Int) (i j : Nat) : Bool := meetB n (toneI a i) (mvAt n a b l i) (toneI a j) (mvAt n a b l j)
def crF (n : Int) (a b l : List Int) (i j : Nat) : Bool := crB n (toneI a i) (mvAt n a b l i) (toneI a j) (mvAt n a b l j)
def CrossP (n : Int) (a b l : List Int) : Prop := ∃ i, i < a.length ∧ ∃ j, j < a.length ∧ crF n a b l i j = true
noncomputable instance (n : Int) (a b l : List Int) : Decidable (CrossP n a b l) := Classical.propDecidable _
theorem crF_self (n : Int) (a b l : List Int) (i : Nat) : crF n a b l i i = false := by unfold crF crB; simp
theorem cross_iff {n : Int} {a b l : List Int} (h : TwoN n a b) (hl : l.length = a.length) (hk : ∀ k ∈ l, 0 ≤ k ∧ k < (a.length : Int)) : (∃ i, i < a.length ∧ ∃ j, j < i ∧ meetF n a b l i j = true) ↔ CrossP n a b l := by
  have hm : ∀ i j, i < a.length → j < a.length → meetF n a b l i j = crF n a b l i j := fun i j hi hj => by
    obtain ⟨x1, _, _, x4⟩ := mv_all h hl hk hi
    obtain ⟨y1, _, _, y4⟩ := mv_all h hl hk hj
    exact meet_cr x1 y1 x4 y4
  constructor
  · rintro ⟨i, h1, j, h2, h3⟩
    exact ⟨i, h1, j, by omega, by rw [← hm i j h1 (by omega)]; exact h3⟩
  · rintro ⟨i, h1, j, h2, h3⟩
    rcases Nat.lt_trichotomy i j with h4 | h4 | h4
    · refine ⟨j, h2, i, h4, ?_⟩
      rw [hm j i h2 h1]
      unfold crF at h3 ⊢
      rw [crB_symm]; exact h3
    · subst h4; rw [crF_self] at h3; cases h3
    · exact ⟨i, h1, j, h4, by rw [hm i j h1 h2]; exact h3⟩

end Go.Proofs.Ytfjafmgaahfhgaa.P
namespace Go.Proofs.Ytfjafmgaahfhgaa.P
open Go.RowKit Go.Proofs.YtfjafmgaahfhgaaW.PrintWords Go.Proofs.YtfjafmgaahfhgaaW.PrintLast Go.Proofs.YtfjafmgaahfhgaaW.PrintMore
attribute [local go_sem] max2_int min2_int max_two min_two max_three min_three max_four min_four   -- for this text's walks alone
set_option linter.unusedVariables false
set_option linter.unusedSimpArgs false

/-! the document's first cheapest leading -/
def rstep (pr : List Nat → Int) (s : Option (List Nat)) (l : List Nat) : Option (List Nat) := match s with
  | none => some l
  | some b => if pr l < pr b then some l else some b
def rfold (pr : List Nat → Int) (L : List (List Nat)) : Option (List Nat) := L.foldl (rstep pr) none
theorem rfold_snoc (pr : List Nat → Int) (L : List (List Nat)) (l : List Nat) : rfold pr (L ++ [l]) = rstep pr (rfold pr L) l := by unfold rfold; rw [List.foldl_append]; rfl
theorem fold_same (pr : List Nat → Int) : ∀ (L : List (List Nat)) (s : Option (List Nat) × Int), (∀ b, s.1 = some b → s.2 = pr b) → (L.foldl (bstep pr (fun _ => true)) s).1 = L.foldl (rstep pr) s.1 ∧ ∀ b, (L.foldl (bstep pr (fun _ => true)) s).1 = some b → (L.foldl (bstep pr (fun _ => true)) s).2 = pr b
  | [], s, h => ⟨rfl, h⟩
  | l :: L, s, h => by
    rw [List.foldl_cons, List.foldl_cons]
    have h1 : (bstep pr (fun _ => true) s l).1 = rstep pr s.1 l ∧ ∀ b, (bstep pr (fun _ => true) s l).1 = some b → (bstep pr (fun _ => true) s l).2 = pr b := by
      obtain ⟨s1, s2⟩ := s
      cases s1 with
      | none =>
        unfold bstep rstep
        rw [if_pos ⟨.inl rfl, rfl⟩]
        exact ⟨rfl, fun b hb => by cases hb; rfl⟩
      | some b =>
        have hb := h b rfl
        simp only at hb
        unfold bstep rstep
        by_cases hlt : pr l < pr b
        · rw [if_pos ⟨.inr (by rw [hb]; exact hlt), rfl⟩]
          exact ⟨by simp only; rw [if_pos hlt], fun c hc => by cases hc; rfl⟩
        · rw [if_neg (fun h => h.1.elim (fun h => by cases h) (fun h => hlt (by rw [← hb]; exact h)))]
          exact ⟨by simp only; rw [if_neg hlt], fun c hc => by cases hc; exact hb⟩
    have := fold_same pr L (bstep pr (fun _ => true) s l) h1.2
    rw [h1.1] at this
    exact this
theorem best_ref (n : Int) (a b : List Int) : rfold (prV n a b) (rlead a.length a.length []) = (bestV n a b).1 ∧ ∀ l, (bestV n a b).1 = some l → (bestV n a b).2 = prV n a b l := by
  have h := fold_same (prV n a b) (ldg a.length a.length 0 []) (none, 0) (fun b hb => by cases hb)
  unfold bestV bfold rfold
  rw [← ldg_all]
  exact ⟨h.1.symm, h.2⟩
theorem add_block_ (a : Addr) (n : Nat) : (a.add n).block = a.block := by unfold Addr.add; split <;> rfl
theorem own_some_ {w : World} {base : Nat} {e : TypeId} {v : Value} {vs : List Value} (h : w.ownsRow base e 1 v vs.length vs) (hne : 0 < vs.length) : ∃ ad c, v = .slice (some ad) vs.length c ∧ (∀ j u, vs[j]? = some u → w.cell? (ad.add j) = some u) ∧ ad.block < w.heap.size := by
  obtain ⟨g, c, e1, hc⟩ := own_some h hne
  refine ⟨⟨g, 0, none⟩, c, e1, hc, own_lt h g (by rw [e1]; rfl)⟩
theorem rfold_mem (pr : List Nat → Int) : ∀ (L : List (List Nat)) (s : Option (List Nat)) (b : List Nat), L.foldl (rstep pr) s = some b → b ∈ L ∨ s = some b
  | [], s, b, h => .inr h
  | l :: L, s, b, h => by
    rw [List.foldl_cons] at h
    rcases rfold_mem pr L _ b h with h1 | h1
    · exact .inl (by simp [h1])
    · unfold rstep at h1
      split at h1
      · cases h1; exact .inl (by simp)
      · split at h1
        · cases h1; exact .inl (by simp)
        · exact .inr h1
def sackbutref06_Lead.f (a0 : Int) (l1 l2 : List Int) : Option (List Int) := if TwoN a0 l1 l2 then some (optL (bestV a0 l1 l2).1) else none
theorem rlead_all {k : Nat} : ∀ (r : Nat) (cur : List Nat), cur.length + r = k → (∀ y ∈ cur, y < k) → ∀ l ∈ rlead k r cur, l.length = k ∧ ∀ y ∈ l, y < k
  | 0, cur, h, hc, l, hl => by
    simp only [rlead, List.mem_singleton] at hl
    subst hl; exact ⟨by omega, hc⟩
  | r + 1, cur, h, hc, l, hl => by
    simp only [rlead, List.mem_flatMap, List.mem_range] at hl
    obtain ⟨x, hx, hl⟩ := hl
    split at hl
    · cases hl
    · exact rlead_all r (cur ++ [x]) (by rw [List.length_append, List.length_singleton]; omega) (fun y hy => by
        rcases List.mem_append.1 hy with h | h
        · exact hc y h
        · rw [List.mem_singleton] at h; omega) l hl
theorem refPrice_nums {n : Int} {a b : List Int} (h : TwoN n a b) (x : List Nat) (hx : x.length = a.length) (hl : ∀ y ∈ x, y < a.length) : ∃ kk, sackbutref06_Price.f kk n a b (nums x) = some (prV n a b x) :=
  Ev.rounds (g := fun k => sackbutref06_Price.f k n a b (nums x)) (refPrice_ev h.1 h.2.1 (nums x) (by rw [nums_length]; omega) (fun k hk => by
    unfold nums at hk
    rw [List.mem_map] at hk
    obtain ⟨y, hy, rfl⟩ := hk
    have := hl y hy
    have := h.2.2
    show (0 : Int) ≤ (y : Int) ∧ (y : Int) < _
    omega))
set_option maxHeartbeats 8000000 in
set_option maxRecDepth 100000 in
theorem sackbutref06_Lead.calls (a0 : Int) (A1 : Option Addr) (c1 : Nat) (l1 : List Int) (A2 : Option Addr) (c2 : Nat) (l2 : List Int) (r : List Int) (w : World) (hr1 : Kd.C (Kd.int .i64) w A1 l1.length l1) (hc1 : l1.length ≤ c1) (hr2 : Kd.C (Kd.int .i64) w A2 l2.length l2) (hc2 : l2.length ≤ c2) (h : sackbutref06_Lead.f a0 l1 l2 = some r) :
    Calls Try.prog 51 #[.int .i64 a0, .slice A1 l1.length c1, .slice A2 l2.length c2] w fun e w' => ∃ v0_ : Value, e = .returned v0_ ∧ Kd.R (Kd.int .i64) 3 w' w.heap.size (fun _ => True) v0_ r ∧ Below w.heap.size w w' := by
  unfold sackbutref06_Lead.f at h
  by_cases hc : TwoN a0 l1 l2
  · rw [if_pos hc] at h
    have hres := Option.some.inj h
    have HRES := Aside0.mk hres
    have HT := Aside0.mk hc
    have HR1 := Aside0.mk hr1
    have HR2 := Aside0.mk hr2
    have HC1 := Aside0.mk hc1
    have HC2 := Aside0.mk hc2
    have hn1 := hc.1.2.2.1
    have hn6 := hc.1.2.2.2.1
    obtain ⟨LL, hLL⟩ : ∃ LL, rlead l1.length l1.length [] = LL := ⟨_, rfl⟩
    have HLL := Aside0.mk hLL
    have hrun := refLeads_calls l1.length hn6 w.heap.size l1.length none 0 [] w (by simp) (Nat.le_refl _) (Kd.R_nil _ _ _ _ _)
    rw [hLL] at hrun
    have HRUN := Aside0.mk hrun
    have HALL := Aside0.mk (show ∀ l ∈ LL, l.length = l1.length ∧ ∀ y ∈ l, y < l1.length from fun l hl => by
      rw [← hLL] at hl
      exact rlead_all l1.length [] (by simp) (by simp) l hl)
    have hlenLL : LL.length ≤ 46656 := by
      rw [← hLL]
      exact Nat.le_trans (rlead_len _ _) (Nat.le_trans (Nat.pow_le_pow_left hn6 _) (Nat.pow_le_pow_right (by omega) hn6))
    have hposLL : 0 < LL.length := by rw [← hLL]; exact List.length_pos_iff.2 (rlead_ne _ _ (by simp))
    have HPR := Aside0.mk (fun l hl => refPrice_nums hc l (HALL.out l hl).1 (HALL.out l hl).2)
    have q22 : ∀ (w : World) (a : Option Addr) (n c n' c' : Nat), (binOp .eql 23 (.slice a n c) (.slice none n' c')).run Try.prog w = .ok (.bool a.isNone) w := fun w a n c n' c' => Lib.run_eql_slice_nil w _ _ a n c n' c' Try.underlying23
    clear hr1 hr2 hc1 hc2 hc h hres hrun hLL
    go_enter Try.func51, Try.ntmps51
    go_wp2_with fail
    refine HRUN.out.mono ?_
    rintro e w1 ⟨v1, vs, rfl, ho1, ha1, hb1⟩
    have hvl := ha1.length
    obtain ⟨ad, c9, e1, hcell, hg1⟩ := own_some_ ho1 (by omega)
    subst e1
    rw [hvl] at ho1 ⊢
    have HA1 := Aside0.mk ha1
    have HC := Aside0.mk hcell
    have HB1 := Aside0.mk hb1
    have HG1 := Aside0.mk hg1
    clear ho1 ha1 hcell hb1 hvl HRUN hg1
    go_wp2
    go_loopg [7, 14] LL.length (fun gg s7 s14 wr => ∃ (i : Nat) (Ab : Option Addr) (cb : Nat), s14 = .int .i64 i ∧ s7 = .slice Ab (optL (rfold (prV a0 l1 l2) (LL.take i))).length cb ∧ Aside0 (i + gg = LL.length) ∧ Aside0 (Kd.R (Kd.int .i64) 3 wr w.heap.size (fun _ => True) (.slice Ab (optL (rfold (prV a0 l1 l2) (LL.take i))).length cb) (optL (rfold (prV a0 l1 l2) (LL.take i)))) ∧ Aside0 (Ab.isNone = (rfold (prV a0 l1 l2) (LL.take i)).isNone) ∧ Aside0 (Below w1.heap.size w1 wr))
    case atStart => exact ⟨0, none, 0, rfl, by simp [rfold, optL, nums], ⟨by omega⟩, ⟨Kd.R_nil _ _ _ _ _⟩, ⟨rfl⟩, ⟨Below.refl _ _⟩⟩
    case round =>
      obtain ⟨i, Ab, cb, rfl, rfl, HI, HR, HN, HB⟩ := hrel
      obtain ⟨wo, rfl⟩ : ∃ wo : World, wo = wr := ⟨wr, rfl⟩
      by_cases hlt : i < LL.length
      · have hltz : (i : Int) < (LL.length : Int) := by omega
        obtain ⟨l, hl⟩ : ∃ l, LL[i]? = some l := ⟨LL[i], List.getElem?_eq_getElem hlt⟩
        have hlm : l ∈ LL := List.mem_of_getElem? hl
        obtain ⟨vl, hvl, A, c, e, hRl⟩ := HA1.out.get i l hl
        subst e
        have hcell : wo.cell? (ad.add i) = some (.slice A (nums l).length c) := (HB.out.cell (p := ad.add i) (by rw [add_block_]; exact HG1.out)).trans (HC.out i _ hvl)
        have hRw := Kd.R_below hRl HB.out
        have HRL := Aside0.mk hRw
        have HRLC := Aside0.mk (Kd.R_reads' hRw)
        have HTK := Aside0.mk (show LL.take (i + 1) = LL.take i ++ [l] by rw [List.take_add_one, hl]; rfl)
        obtain ⟨kk, hkk⟩ := HPR.out l hlm
        have HP1 := Aside0.mk (fun (w2 : World) (hb : Below wo.heap.size wo w2) => sackbutref06_Price.calls kk a0 A1 c1 l1 A2 c2 l2 A c (nums l) (prV a0 l1 l2 l) w2 (Kd.C_below (Kd.C_below (Kd.C_below HR1.out HB1.out) (HB.out.mono HB1.out.size |> fun h => HB.out)) hb) HC1.out (Kd.C_below (Kd.C_below (Kd.C_below HR2.out HB1.out) HB.out) hb) HC2.out (Kd.C_below HRLC.out.2.2 hb) HRLC.out.2.1 hkk)
        have HAS := Aside0.mk (show A.isNone = false from by
          obtain ⟨ad5, e5, _⟩ := Kd.at_int HRLC.out.2.2 0 (by omega) (by rw [nums_length, (HALL.out l hlm).1]; omega)
          rw [e5]; rfl)
        clear hl hlm hvl hRl hRw hkk
        have HRF := Aside0.mk (show rfold (prV a0 l1 l2) (LL.take (i + 1)) = rstep (prV a0 l1 l2) (rfold (prV a0 l1 l2) (LL.take i)) l by rw [HTK.out, rfold_snoc])
        have HMEM := Aside0.mk (fun b (hb : rfold (prV a0 l1 l2) (LL.take i) = some b) => HPR.out b (List.mem_of_mem_take ((rfold_mem _ _ _ b hb).elim id (fun h => by cases h))))
        generalize rfold (prV a0 l1 l2) (LL.take i) = bo at HR HN HRF HMEM ⊢
        have HRLB := HRL
        cases bo with
        | none =>
          have hAb : Ab = none := by
            have := HN.out
            cases Ab with
            | none => rfl
            | some _ => cases this
          subst hAb
          have HF := Aside0.mk (show rfold (prV a0 l1 l2) (LL.take (i + 1)) = some l from HRF.out)
          clear HMEM HRF
          generalize hoz : (optL (none : Option (List Nat))).length = oz
          clear hoz
          go_wp2
          go_roundg (gk - 1)
          case measure => have := HI.out; omega
          case rel => exact ⟨i + 1, A, c, by go_num, by rw [HF.out]; rfl, ⟨by have := HI.out; omega⟩, ⟨by rw [HF.out]; exact HRL.out⟩, ⟨by rw [HF.out]; exact HAS.out⟩, HB⟩
        | some b =>
          obtain ⟨ab, hAb⟩ : ∃ ab, Ab = some ab := by
            have := HN.out
            cases Ab with
            | none => cases this
            | some ab => exact ⟨ab, rfl⟩
          subst hAb
          obtain ⟨kk2, hkk2⟩ := HMEM.out b rfl
          have HF := Aside0.mk (show rfold (prV a0 l1 l2) (LL.take (i + 1)) = if prV a0 l1 l2 l < prV a0 l1 l2 b then some l else some b from HRF.out)
          have HRB := Aside0.mk (show Kd.R (Kd.int .i64) 3 wo w.heap.size (fun _ => True) (.slice (some ab) (nums b).length cb) (nums b) from HR.out)
          have HRBC := Aside0.mk (Kd.R_reads' HRB.out)
          have HP2 := Aside0.mk (fun (w2 : World) (hb : Below wo.heap.size wo w2) => sackbutref06_Price.calls kk2 a0 A1 c1 l1 A2 c2 l2 (some ab) cb (nums b) (prV a0 l1 l2 b) w2 (Kd.C_below (Kd.C_below (Kd.C_below HR1.out HB1.out) HB.out) hb) HC1.out (Kd.C_below (Kd.C_below (Kd.C_below HR2.out HB1.out) HB.out) hb) HC2.out (Kd.C_below HRBC.out.2.2 hb) HRBC.out.2.1 hkk2)
          clear HMEM HRF hkk2
          rw [show optL (some b) = nums b from rfl]
          generalize hlb : (nums b).length = lb at *
          have HLB := Aside0.mk hlb
          clear hlb
          generalize hp1 : prV a0 l1 l2 l = p1 at *
          have HP1E := Aside0.mk hp1
          clear hp1
          generalize hp2 : prV a0 l1 l2 b = p2 at *
          have HP2E := Aside0.mk hp2
          clear hp2
          by_cases hlt2 : p1 < p2
          · have q1 : decide (p1 < p2) = true := decide_eq_true hlt2
            rw [if_pos hlt2] at HF
            clear hlt2
            go_wp2_with fail
            refine (HP1.out _ (Below.refl _ _)).mono ?_
            rintro e w2 ⟨rfl, hb2⟩
            have HB2 := Aside0.mk hb2
            clear hb2
            go_wp2_with fail
            refine (HP2.out _ HB2.out).mono ?_
            rintro e w3 ⟨rfl, hb3⟩
            have HB3 := Aside0.mk (HB2.out.trans (hb3.mono HB2.out.size))
            clear hb3
            go_wp2
            go_roundg (gk - 1)
            case measure => have := HI.out; omega
            case rel => exact ⟨i + 1, A, c, by go_num, by rw [HF.out]; rfl, ⟨by have := HI.out; omega⟩, ⟨by rw [HF.out]; exact Kd.R_below HRL.out HB3.out⟩, ⟨by rw [HF.out]; exact HAS.out⟩, ⟨HB.out.trans (HB3.out.mono HB.out.size)⟩⟩
          · have q1 : decide (p1 < p2) = false := decide_eq_false hlt2
            rw [if_neg hlt2] at HF
            clear hlt2
            go_wp2_with fail
            refine (HP1.out _ (Below.refl _ _)).mono ?_
            rintro e w2 ⟨rfl, hb2⟩
            have HB2 := Aside0.mk hb2
            clear hb2
            go_wp2_with fail
            refine (HP2.out _ HB2.out).mono ?_
            rintro e w3 ⟨rfl, hb3⟩
            have HB3 := Aside0.mk (HB2.out.trans (hb3.mono HB2.out.size))
            clear hb3
            go_wp2
            go_roundg (gk - 1)
            case measure => have := HI.out; omega
            case rel => exact ⟨i + 1, some ab, cb, by go_num, by rw [HF.out, ← HLB.out]; rfl, ⟨by have := HI.out; omega⟩, ⟨by rw [HF.out]; have h5 := Kd.R_below HRB.out HB3.out; rw [← HLB.out] at h5; exact h5⟩, ⟨by rw [HF.out]; rfl⟩, ⟨HB.out.trans (HB3.out.mono HB.out.size)⟩⟩
      · have hil : i = LL.length := by have := HI.out; omega
        have HIL := Aside0.mk hil
        clear hil
        have hltz : ¬ (i : Int) < (LL.length : Int) := by omega
        have HFIN := Aside0.mk (show rfold (prV a0 l1 l2) (LL.take i) = (bestV a0 l1 l2).1 by
          rw [HIL.out, List.take_length, ← HLL.out]; exact (best_ref a0 l1 l2).1)
        go_wp2
        go_ret
        refine ⟨_, rfl, ?_, HB1.out.trans (HB.out.mono HB1.out.size)⟩
        have h1 := HR.out
        rw [HFIN.out] at h1
        rw [← HRES.out, ← HFIN.out]
        rw [← HFIN.out] at h1
        exact h1
  · rw [if_neg hc] at h; cases h

end Go.Proofs.Ytfjafmgaahfhgaa.P
namespace Go.Proofs.Ytfjafmgaahfhgaa.P
open Go.RowKit Go.Proofs.YtfjafmgaahfhgaaW.PrintWords Go.Proofs.YtfjafmgaahfhgaaW.PrintLast Go.Proofs.YtfjafmgaahfhgaaW.PrintMore
attribute [local go_sem] max2_int min2_int max_two min_two max_three min_three max_four min_four   -- for this text's walks alone
set_option linter.unusedVariables false
set_option linter.unusedSimpArgs false

/-! ### sackbutref06_Cost: function 25 -/
def sackbutref06_Cost.f (k : Nat) (a0 : Int) (l1 : List Int) (l2 : List Int) : Option (Int) := (sackbutref06_Lead.f a0 l1 l2).bind fun t1001 => ((sackbutref06_Price.f k a0 l1 l2 t1001).bind fun t1004 => (some t1004))
theorem sackbutref06_Cost.mono : ∀ a0 a1 a2 k, LeO (sackbutref06_Cost.f k a0 a1 a2) (sackbutref06_Cost.f (k + 1) a0 a1 a2) := by
  intro a0 a1 a2 k
  unfold sackbutref06_Cost.f
  repeat' first
      | (with_reducible exact sackbutref06_Price.mono _ _ _ _ _)
      | (with_reducible exact LeO.refl _)
      | (with_reducible exact LeO.none _)
      | (with_reducible refine LeO.ite ?_ ?_)
      | (with_reducible refine LeO.bind ?_ (fun _ => ?_))
      | exact sackbutref06_Price.mono _ _ _ _ _
      | exact LeO.none _
      | refine LeO.ite ?_ ?_
      | refine LeO.bind ?_ (fun _ => ?_)
set_option maxHeartbeats 8000000 in
set_option maxRecDepth 100000 in
theorem sackbutref06_Cost.calls (k : Nat) (a0 : Int) (A1 : Option Addr) (c1 : Nat) (l1 : List Int) (A2 : Option Addr) (c2 : Nat) (l2 : List Int) (r : Int) (w : World) (hr1 : Kd.C (Kd.int .i64) w A1 l1.length l1) (hc1 : l1.length ≤ c1) (hr2 : Kd.C (Kd.int .i64) w A2 l2.length l2) (hc2 : l2.length ≤ c2) (h : sackbutref06_Cost.f k a0 l1 l2 = some r) :
    Calls Try.prog 25 #[.int .i64 a0, .slice A1 l1.length c1, .slice A2 l2.length c2] w fun e w' => e = .returned (.int .i64 r) ∧ Below w.heap.size w w' := by
  have HR1 := Aside0.mk hr1
  have HC1 := Aside0.mk hc1
  clear hr1 hc1
  have HR2 := Aside0.mk hr2
  have HC2 := Aside0.mk hc2
  clear hr2 hc2
  have HB := Aside0.mk (Below.refl w.heap.size w)
  have H : ((sackbutref06_Lead.f a0 l1 l2).bind fun t1001 => ((sackbutref06_Price.f k a0 l1 l2 t1001).bind fun t1004 => (some t1004))) = some r := h
  clear h
  replace H := Option.bind_eq_some_iff.mp H
  obtain ⟨t1001, A40, H⟩ := H
  replace H : ((sackbutref06_Price.f k a0 l1 l2 t1001).bind fun t1004 => (some t1004)) = some r := H
  have A4 := Aside0.mk A40
  clear A40
  replace H := Option.bind_eq_some_iff.mp H
  obtain ⟨t1004, A50, H⟩ := H
  replace H : (some t1004) = some r := H
  have A5 := Aside0.mk A50
  clear A50
  obtain rfl := Option.some.inj H
  go_enter Try.func25, Try.ntmps25
  go_wp2_with (first | ((with_reducible refine gate_callee (f := 51) rfl ?_); refine goesL_ (some 13) rfl rfl Try.func51 (by kernel_rfl) rfl #[.int .i64 a0, .slice A1 l1.length c1, .slice A2 l2.length c2] rfl (by (try simp only [List.map_toArray, List.map_cons, List.map_nil]); first | done | rfl | (simp only [List.length_drop, List.length_take]; rfl)) ?_; (with_reducible refine (sackbutref06_Lead.calls a0 _ _ l1 _ _ l2 t1001 _ ?side1 ?side2 ?side3 ?side4 A4.out).mono ?_); (case side1 => repeat (first | exact HR1.out | (with_reducible refine Kd.C_alloc ?_ _) | (with_reducible refine Kd.C_drewN ?_ _) | (with_reducible refine Kd.C_drew ?_))); (case side2 => exact HC1.out); (case side3 => repeat (first | exact HR2.out | (with_reducible refine Kd.C_alloc ?_ _) | (with_reducible refine Kd.C_drewN ?_ _) | (with_reducible refine Kd.C_drew ?_))); (case side4 => exact HC2.out); rintro e w6 ⟨v1002, rfl, ho0, hb⟩; refine ⟨_, rfl, ?_⟩; have n0_ := Aside0.mk (Kd.R_lower ho0 (below_size (by repeat (first | (with_reducible first | exact HB.out | apply below_alloc | apply pw_below_drewN | apply below_drew1) | exact HB.out)))); have n1_ := Aside0.mk (below_step (by repeat (first | (with_reducible first | exact HB.out | apply below_alloc | apply pw_below_drewN | apply below_drew1) | exact HB.out)) hb); clear HB; have HO1003 := n0_; have HB := n1_; clear n0_ n1_; (try clear hb); (try clear hb2); (try clear hk); (try clear hi); (try clear ho0); obtain ⟨Ao7, co7, eo7⟩ := Kd.R_slice HO1003.out; subst eo7) | ((with_reducible refine gate_callee (f := 50) rfl ?_); refine goesL_ (some 14) rfl rfl Try.func50 (by kernel_rfl) rfl #[.int .i64 a0, .slice A1 l1.length c1, .slice A2 l2.length c2, .slice Ao7 t1001.length co7] rfl (by (try simp only [List.map_toArray, List.map_cons, List.map_nil]); first | done | rfl | (simp only [List.length_drop, List.length_take]; rfl)) ?_; (with_reducible refine (sackbutref06_Price.calls k a0 _ _ l1 _ _ l2 _ _ t1001 t1004 _ ?side1 ?side2 ?side3 ?side4 ?side5 ?side6 A5.out).mono ?_); (case side1 => repeat (first | exact (Kd.C_below HR1.out HB.out) | (with_reducible refine Kd.C_alloc ?_ _) | (with_reducible refine Kd.C_drewN ?_ _) | (with_reducible refine Kd.C_drew ?_))); (case side2 => exact HC1.out); (case side3 => repeat (first | exact (Kd.C_below HR2.out HB.out) | (with_reducible refine Kd.C_alloc ?_ _) | (with_reducible refine Kd.C_drewN ?_ _) | (with_reducible refine Kd.C_drew ?_))); (case side4 => exact HC2.out); (case side5 => repeat (first | exact (Kd.R_reads' HO1003.out).2.2 | (with_reducible refine Kd.C_alloc ?_ _) | (with_reducible refine Kd.C_drewN ?_ _) | (with_reducible refine Kd.C_drew ?_))); (case side6 => exact (Kd.R_reads' HO1003.out).2.1); rintro e w8 ⟨rfl, hb⟩; refine ⟨_, rfl, ?_⟩; have n0_ := Aside0.mk (Kd.R_below (by (with_reducible repeat (first | apply Kd.R_alloc | apply Kd.R_drewN | apply Kd.R_drew)); exact HO1003.out) hb); have n1_ := Aside0.mk (below_step (by repeat (first | (with_reducible first | exact HB.out | apply below_alloc | apply pw_below_drewN | apply below_drew1) | exact HB.out)) hb); clear HO1003; clear HB; have HO1003 := n0_; have HB := n1_; clear n0_ n1_; (try clear hb); (try clear hb2); (try clear hk); (try clear hi)))
  go_ret
  exact ⟨by first | rfl | (simp [errW_none, errW_some] <;> rfl) | (simp [*, errW_none, errW_some] <;> rfl), by repeat (first | (with_reducible first | exact HB.out | apply below_alloc | apply pw_below_drewN | apply below_drew1) | exact HB.out)⟩

end Go.Proofs.Ytfjafmgaahfhgaa.P
namespace Go.Proofs.Ytfjafmgaahfhgaa.P
open Go.RowKit Go.Proofs.YtfjafmgaahfhgaaW.PrintWords Go.Proofs.YtfjafmgaahfhgaaW.PrintLast Go.Proofs.YtfjafmgaahfhgaaW.PrintMore
attribute [local go_sem] max2_int min2_int max_two min_two max_three min_three max_four min_four   -- for this text's walks alone
set_option linter.unusedVariables false
set_option linter.unusedSimpArgs false

/-! the best leading is one -/
theorem rstep_some (pr : List Nat → Int) : ∀ (L : List (List Nat)) (b : List Nat), ∃ c, L.foldl (rstep pr) (some b) = some c
  | [], b => ⟨b, rfl⟩
  | l :: L, b => by
    rw [List.foldl_cons]
    unfold rstep
    simp only
    split
    · exact rstep_some pr L l
    · exact rstep_some pr L b
theorem rfold_some (pr : List Nat → Int) {L : List (List Nat)} (h : L ≠ []) : ∃ b ∈ L, rfold pr L = some b := by
  cases L with
  | nil => exact absurd rfl h
  | cons l L =>
    obtain ⟨c, hc⟩ := rstep_some pr L l
    have e : rfold pr (l :: L) = some c := hc
    refine ⟨c, ?_, e⟩
    exact (rfold_mem pr (l :: L) none c e).elim id (fun h => by cases h)
theorem bestV_some {n : Int} {a b : List Int} (h : TwoN n a b) : ∃ l, (bestV n a b).1 = some l ∧ (bestV n a b).2 = prV n a b l ∧ l.length = a.length ∧ ∀ y ∈ l, y < a.length := by
  obtain ⟨l, hl, e⟩ := rfold_some (prV n a b) (rlead_ne (k := a.length) a.length [] (by simp))
  obtain ⟨h1, h2⟩ := best_ref n a b
  rw [h1] at e
  have := rlead_all a.length [] (by simp) (by simp) l hl
  exact ⟨l, e, h2 l e, this.1, this.2⟩
theorem refCost_ev {n : Int} {a b : List Int} (h : TwoN n a b) : Ev (fun k => sackbutref06_Cost.f k n a b) (bestV n a b).2 := by
  obtain ⟨l, e1, e2, h1, h2⟩ := bestV_some h
  have e : sackbutref06_Lead.f n a b = some (nums l) := by unfold sackbutref06_Lead.f; rw [if_pos h, e1]; rfl
  unfold sackbutref06_Cost.f
  refine Ev.bind_some e ?_
  rw [e2]
  exact Ev.bind (refPrice_ev h.1 h.2.1 (nums l) (by rw [nums_length]; omega) (fun k hk => by
    unfold nums at hk
    rw [List.mem_map] at hk
    obtain ⟨y, hy, rfl⟩ := hk
    have := h2 y hy
    have := h.2.2
    show (0 : Int) ≤ (y : Int) ∧ (y : Int) < _
    omega)) (Ev.some _)

end Go.Proofs.Ytfjafmgaahfhgaa.P
namespace Go.Proofs.Ytfjafmgaahfhgaa.P
open Go.RowKit Go.Proofs.YtfjafmgaahfhgaaW.PrintWords Go.Proofs.YtfjafmgaahfhgaaW.PrintLast Go.Proofs.YtfjafmgaahfhgaaW.PrintMore
attribute [local go_sem] max2_int min2_int max_two min_two max_three min_three max_four min_four   -- for this text's walks alone
set_option linter.unusedVariables false
set_option linter.unusedSimpArgs false

/-! a least leading without crossing: two crossing voices exchange their tones -/
theorem ds_le {n x y m c : Int} (hn : 2 ≤ n) (hm : m = (y - x) + n * c) : dsN n x y ≤ max m (-m) := by
  have h1 := Int.emod_nonneg (y - x) (show n ≠ 0 by omega)
  have h2 := Int.emod_lt_of_pos (y - x) (show 0 < n by omega)
  have h3 := Int.mul_ediv_add_emod (y - x) n
  obtain ⟨e, he⟩ : ∃ e, e = (y - x) / n + c := ⟨_, rfl⟩
  have h4 : m = (y - x) % n + n * e := by rw [he, Int.mul_add]; omega
  unfold dsN mvN
  generalize (y - x) % n = r at *
  rcases Int.lt_or_le e 0 with h | h
  · have : n * e ≤ n * (-1) := Int.mul_le_mul_of_nonneg_left (by omega) (by omega)
    rw [show n * (-1) = -n by omega] at this
    generalize n * e = u at *
    split <;> omega
  · have : 0 ≤ n * e := Int.mul_nonneg (by omega) h
    generalize n * e = u at *
    split <;> omega
theorem cross_shift {n p q am bm : Int} (h : crB n p am q bm = true) : ∃ t u : Int, u = t * n - (p - q) ∧ ((0 < u ∧ u < am - bm) ∨ (u < 0 ∧ am - bm < u)) := by
  unfold crB rtB at h
  simp only [Bool.and_eq_true, Bool.or_eq_true, decide_eq_true_eq, Bool.or_false] at h
  rcases h.2 with h | h | h | h | h
  · exact ⟨-2, _, rfl, h⟩
  · exact ⟨-1, _, rfl, h⟩
  · exact ⟨0, _, rfl, h⟩
  · exact ⟨1, _, rfl, h⟩
  · exact ⟨2, _, rfl, h⟩
theorem mv_cong (n x y : Int) : ∃ c, mvN n x y = (y - x) + n * c := by
  have h3 := Int.mul_ediv_add_emod (y - x) n
  unfold mvN
  split
  · refine ⟨-((y - x) / n) - 1, ?_⟩
    rw [Int.mul_sub, Int.mul_neg]; omega
  · refine ⟨-((y - x) / n), ?_⟩
    rw [Int.mul_neg]; omega
theorem sq_le {a m : Int} (h0 : 0 ≤ a) (h : a ≤ max m (-m)) : a * a ≤ m * m := by
  rcases Int.le_total 0 m with hm | hm
  · exact Int.mul_le_mul (by omega) (by omega) h0 hm
  · have := Int.mul_le_mul (show a ≤ -m by omega) (show a ≤ -m by omega) h0 (by omega)
    rwa [Int.neg_mul_neg] at this
theorem ds_sq (n x y : Int) : dsN n x y * dsN n x y = mvN n x y * mvN n x y := by
  unfold dsN
  generalize mvN n x y = m
  rcases Int.le_total 0 m with hm | hm
  · rw [show max m (-m) = m by omega]
  · rw [show max m (-m) = -m by omega, Int.neg_mul_neg]
/-- the exchange -/
theorem swap_num {n p q y z : Int} (hn : 2 ≤ n) (h : crB n p (mvN n p y) q (mvN n q z) = true) :
    dsN n p z + dsN n q y ≤ dsN n p y + dsN n q z ∧ dsN n p z * dsN n p z + dsN n q y * dsN n q y < dsN n p y * dsN n p y + dsN n q z * dsN n q z := by
  obtain ⟨t, u, hu, hc⟩ := cross_shift h
  obtain ⟨c1, h1⟩ := mv_cong n p y
  obtain ⟨c2, h2⟩ := mv_cong n q z
  have e1 : dsN n p z ≤ max (mvN n q z + u) (-(mvN n q z + u)) := ds_le (c := c2 + t) hn (by rw [Int.mul_add, Int.mul_comm n t]; omega)
  have e2 : dsN n q y ≤ max (mvN n p y - u) (-(mvN n p y - u)) := ds_le (c := c1 - t) hn (by rw [Int.mul_sub, Int.mul_comm n t]; omega)
  have s1 := sq_le (dsN_bd (x := p) (y := z) hn).1 e1
  have s2 := sq_le (dsN_bd (x := q) (y := y) hn).1 e2
  rw [ds_sq n p y, ds_sq n q z]
  have d1 : dsN n p y = max (mvN n p y) (-(mvN n p y)) := rfl
  have d2 : dsN n q z = max (mvN n q z) (-(mvN n q z)) := rfl
  rw [d1, d2]
  generalize mvN n p y = am at *
  generalize mvN n q z = bm at *
  have hpos : 0 < u * (am - bm - u) := by
    rcases hc with hc | hc
    · exact Int.mul_pos hc.1 (by omega)
    · exact Int.mul_pos_of_neg_of_neg hc.1 (by omega)
  refine ⟨by omega, ?_⟩
  have x1 : (bm + u) * (bm + u) = bm * bm + 2 * (u * bm) + u * u := by
    rw [Int.add_mul, Int.mul_add, Int.mul_add, Int.mul_comm bm u]; omega
  have x2 : (am - u) * (am - u) = am * am - 2 * (u * am) + u * u := by
    rw [Int.sub_mul, Int.mul_sub, Int.mul_sub, Int.mul_comm am u]; omega
  have x3 : u * (am - bm - u) = u * am - u * bm - u * u := by rw [Int.mul_sub, Int.mul_sub]
  omega
def sumF (f : Nat → Nat → Int) : List Nat → Nat → Int
  | [], _ => 0
  | y :: l, i => f i y + sumF f l (i + 1)
theorem sumF_set (f : Nat → Nat → Int) : ∀ (l : List Nat) (s i : Nat) (y : Nat) (h : i < l.length), sumF f (l.set i y) s = sumF f l s - f (s + i) l[i] + f (s + i) y
  | [], _, _, _, h => by simp at h
  | x :: l, s, 0, y, h => by simp only [List.set_cons_zero, sumF, List.getElem_cons_zero, Nat.add_zero]; omega
  | x :: l, s, i + 1, y, h => by
    simp only [List.set_cons_succ, sumF, List.getElem_cons_succ]
    rw [sumF_set f l (s + 1) i y (by simpa using h), show s + 1 + i = s + (i + 1) by omega]
    omega
theorem sumF_swap (f : Nat → Nat → Int) (l : List Nat) (i j : Nat) (hi : i < l.length) (hj : j < l.length) (hne : i ≠ j) :
    sumF f ((l.set i l[j]).set j l[i]) 0 = sumF f l 0 - f i l[i] - f j l[j] + f i l[j] + f j l[i] := by
  rw [sumF_set f _ 0 j l[i] (by simpa using hj), sumF_set f l 0 i l[j] hi]
  simp only [Nat.zero_add]
  rw [List.getElem_set_ne hne]
  omega
theorem prI_sumF (n : Int) (a b : List Int) : ∀ (l : List Nat) (i : Nat), prI n a b (nums l) i = sumF (fun i y => dsN n (toneI a i) (toneI b y)) l i
  | [], _ => rfl
  | y :: l, i => by
    show dsN n (a.getD i 0) (b.getD (y : Int).toNat 0) + prI n a b (nums l) (i + 1) = _
    rw [prI_sumF n a b l (i + 1)]; rfl
theorem min_two_keys (f g : List Nat → Int) : ∀ (L : List (List Nat)), L ≠ [] → ∃ x ∈ L, ∀ y ∈ L, f x < f y ∨ (f x = f y ∧ g x ≤ g y)
  | [], h => absurd rfl h
  | [x], _ => ⟨x, by simp, fun y hy => by simp at hy; subst hy; exact .inr ⟨rfl, Int.le_refl _⟩⟩
  | x :: z :: L, _ => by
    obtain ⟨m, hm, h⟩ := min_two_keys f g (z :: L) (by simp)
    by_cases hx : f x < f m ∨ (f x = f m ∧ g x ≤ g m)
    · refine ⟨x, by simp, fun y hy => ?_⟩
      rcases List.mem_cons.1 hy with rfl | hy
      · exact .inr ⟨rfl, Int.le_refl _⟩
      · have := h y hy; omega
    · refine ⟨m, by simp at hm ⊢; exact .inr hm, fun y hy => ?_⟩
      rcases List.mem_cons.1 hy with rfl | hy
      · omega
      · exact h y hy
/-- all leadings -/
theorem rlead_mem {k : Nat} : ∀ (r : Nat) (cur x : List Nat), cur.length + r = k → (x ∈ rlead k r cur ↔ ∃ s, x = cur ++ s ∧ s.length = r ∧ (∀ y ∈ s, y < k ∧ y ∉ cur) ∧ s.Nodup)
  | 0, cur, x, h => by
    simp only [rlead, List.mem_singleton]
    constructor
    · rintro rfl; exact ⟨[], by simp, rfl, by simp, by simp⟩
    · rintro ⟨s, rfl, hs, _⟩
      have : s = [] := List.eq_nil_of_length_eq_zero hs
      simp [this]
  | r + 1, cur, x, h => by
    simp only [rlead, List.mem_flatMap, List.mem_range]
    constructor
    · rintro ⟨y, hy, hx⟩
      split at hx
      · cases hx
      · rename_i hc
        obtain ⟨s, rfl, hs, hs2, hs3⟩ := (rlead_mem r (cur ++ [y]) x (by rw [List.length_append, List.length_singleton]; omega)).1 hx
        refine ⟨y :: s, by simp, by simp [hs], fun z hz => ?_, ?_⟩
        · rcases List.mem_cons.1 hz with rfl | hz
          · exact ⟨hy, hc⟩
          · exact ⟨(hs2 z hz).1, fun h => (hs2 z hz).2 (by simp [h])⟩
        · rw [List.nodup_cons]
          exact ⟨fun h => (hs2 y h).2 (by simp), hs3⟩
    · rintro ⟨s, rfl, hs, hs2, hs3⟩
      cases s with
      | nil => simp at hs
      | cons y s =>
        rw [List.nodup_cons] at hs3
        have hy := hs2 y (by simp)
        refine ⟨y, hy.1, ?_⟩
        rw [if_neg hy.2]
        refine (rlead_mem r (cur ++ [y]) _ (by rw [List.length_append, List.length_singleton]; omega)).2 ⟨s, by simp, by simpa using hs, fun z hz => ⟨(hs2 z (by simp [hz])).1, fun h => ?_⟩, hs3.2⟩
        rcases List.mem_append.1 h with h | h
        · exact (hs2 z (by simp [hz])).2 h
        · rw [List.mem_singleton] at h; subst h; exact hs3.1 hz
theorem all_mem {k : Nat} {x : List Nat} : x ∈ rlead k k [] ↔ x.length = k ∧ (∀ y ∈ x, y < k) ∧ x.Nodup := by
  rw [rlead_mem k [] x (by simp)]
  constructor
  · rintro ⟨s, rfl, h1, h2, h3⟩; exact ⟨h1, fun y hy => (h2 y hy).1, h3⟩
  · rintro ⟨h1, h2, h3⟩; exact ⟨x, rfl, h1, fun y hy => ⟨h2 y hy, by simp⟩, h3⟩
def LexLT (y z : List Nat) : Prop := ∃ (p : List Nat) (u v : Nat) (s t : List Nat), y = p ++ u :: s ∧ z = p ++ v :: t ∧ u < v
theorem rlead_lex {k : Nat} : ∀ (r : Nat) (cur : List Nat), cur.length + r = k → List.Pairwise LexLT (rlead k r cur)
  | 0, cur, _ => by simp [rlead]
  | r + 1, cur, h => by
    unfold rlead
    rw [List.pairwise_flatMap]
    have hl : ∀ x : Nat, (cur ++ [x]).length + r = k := fun x => by rw [List.length_append, List.length_singleton]; omega
    refine ⟨fun x hx => ?_, ?_⟩
    · split
      · exact List.Pairwise.nil
      · exact rlead_lex r (cur ++ [x]) (hl x)
    · refine List.Pairwise.imp ?_ List.pairwise_lt_range
      intro x y hxy a ha b hb
      split at ha
      · cases ha
      · split at hb
        · cases hb
        · obtain ⟨s, rfl, _⟩ := (rlead_mem r _ a (hl x)).1 ha
          obtain ⟨t, rfl, _⟩ := (rlead_mem r _ b (hl y)).1 hb
          exact ⟨cur, x, y, s, t, by simp, by simp, hxy⟩
theorem find_lex {k : Nat} {p : List Nat → Bool} {x o : List Nat} (hf : (rlead k k []).find? p = some x) (ho : o ∈ rlead k k []) (hp : p o = true) : x = o ∨ LexLT x o := by
  have hP := rlead_lex k (k := k) [] (by simp)
  obtain ⟨_, us, vs, e, hn⟩ := List.find?_eq_some_iff_append.1 hf
  rw [e] at hP ho
  rcases List.mem_append.1 ho with h | h
  · have := hn o h; rw [hp] at this; cases this
  · rcases List.mem_cons.1 h with h | h
    · exact .inl h.symm
    · rw [List.pairwise_append] at hP
      exact .inr ((List.pairwise_cons.1 hP.2.1).1 o h)

theorem rstep_min (pr : List Nat → Int) : ∀ (L : List (List Nat)) (s : Option (List Nat)) (b : List Nat), L.foldl (rstep pr) s = some b → (∀ y ∈ L, pr b ≤ pr y) ∧ ∀ c, s = some c → pr b ≤ pr c
  | [], s, b, h => ⟨fun y hy => (by cases hy), fun c hc => (by rw [List.foldl_nil] at h; rw [h] at hc; cases hc; exact Int.le_refl _)⟩
  | l :: L, s, b, h => by
    rw [List.foldl_cons] at h
    obtain ⟨h1, h2⟩ := rstep_min pr L _ b h
    unfold rstep at h2
    cases s with
    | none =>
      have h3 := h2 l rfl
      exact ⟨fun y hy => (List.mem_cons.1 hy).elim (fun e => e ▸ h3) (h1 y), fun c hc => by cases hc⟩
    | some c =>
      simp only at h2
      by_cases hlt : pr l < pr c
      · rw [if_pos hlt] at h2
        have h3 := h2 l rfl
        exact ⟨fun y hy => (List.mem_cons.1 hy).elim (fun e => e ▸ h3) (h1 y), fun d hd => by cases hd; omega⟩
      · rw [if_neg hlt] at h2
        have h3 := h2 c rfl
        exact ⟨fun y hy => (List.mem_cons.1 hy).elim (fun e => by rw [e]; omega) (h1 y), fun d hd => by cases hd; exact h3⟩
theorem bestV_min {n : Int} {a b : List Int} (h : TwoN n a b) : ∃ l ∈ rlead a.length a.length [], (bestV n a b).2 = prV n a b l ∧ ∀ y ∈ rlead a.length a.length [], prV n a b l ≤ prV n a b y := by
  obtain ⟨l, hl, e⟩ := rfold_some (prV n a b) (rlead_ne (k := a.length) a.length [] (by simp))
  obtain ⟨h1, h2⟩ := best_ref n a b
  have e2 := e
  rw [h1] at e
  exact ⟨l, hl, h2 l e, (rstep_min (prV n a b) _ none l e2).1⟩
/-- a leading with the least price and no crossing there is -/
theorem calm_exists {n : Int} {a b : List Int} (h : TwoN n a b) : ∃ x ∈ rlead a.length a.length [], prV n a b x = (bestV n a b).2 ∧ ¬ CrossP n a b (nums x) := by
  obtain ⟨l, hl, e, hmin⟩ := bestV_min h
  obtain ⟨x, hx, hm⟩ := min_two_keys (prV n a b) (fun x => sumF (fun i y => dsN n (toneI a i) (toneI b y) * dsN n (toneI a i) (toneI b y)) x 0) _ (rlead_ne (k := a.length) a.length [] (by simp))
  refine ⟨x, hx, ?_, ?_⟩
  · have h1 := hm l hl
    have h2 := hmin x hx
    omega
  · rintro ⟨i, hi, j, hj, hc⟩
    obtain ⟨x1, x2, x3⟩ := all_mem.1 hx
    have hi' : i < x.length := by omega
    have hj' : j < x.length := by omega
    have hne : i ≠ j := by rintro rfl; rw [crF_self] at hc; cases hc
    have ei : ∀ i (hi : i < x.length), (toneI (nums x) i).toNat = x[i] := fun i hi => by
      unfold toneI nums
      rw [List.getD_eq_getElem?_getD, List.getElem?_map, List.getElem?_eq_getElem hi]
      rfl
    unfold crF mvAt at hc
    rw [ei i hi', ei j hj'] at hc
    obtain ⟨s1, s2⟩ := swap_num h.1.1 hc
    have hp := List.set_set_perm hi' hj'
    have hs := hm ((x.set i x[j]).set j x[i]) (all_mem.2 ⟨by rw [hp.length_eq]; exact x1, fun y hy => x2 y (hp.mem_iff.1 hy), hp.nodup_iff.2 x3⟩)
    unfold prV at hs
    rw [prI_sumF, prI_sumF, sumF_swap _ x i j hi' hj' hne, sumF_swap _ x i j hi' hj' hne] at hs
    omega

end Go.Proofs.Ytfjafmgaahfhgaa.P
