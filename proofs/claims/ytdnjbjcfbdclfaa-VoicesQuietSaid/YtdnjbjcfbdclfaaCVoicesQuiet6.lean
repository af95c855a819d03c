/- A part of a proof that a law's Go function returns true for every input, laid by this session's program mp.py (which drives the kit's print). Conditions: as each theorem states them. -/
import Derived.Laws.EntriesVeiled
import Derived.Test.YtdnjbjcfbdclfaaCVoicesQuiet1
import Derived.Test.YtdnjbjcfbdclfaaCVoicesQuiet2
import Derived.Test.YtdnjbjcfbdclfaaCVoicesQuiet3
import Derived.Test.YtdnjbjcfbdclfaaCVoicesQuiet4
import Derived.Test.YtdnjbjcfbdclfaaCVoicesQuiet5
namespace Go.Proofs.Ytdnjbjcfbdclfaa.P
open Go.RowKit Go.Proofs.YtdnjbjcfbdclfaaW.PrintWords Go.Proofs.YtdnjbjcfbdclfaaW.PrintLast Go.Proofs.YtdnjbjcfbdclfaaW.PrintMore
attribute [local go_sem] max2_int min2_int max_two min_two max_three min_three max_four min_four   -- for this text's walks alone
set_option linter.unusedVariables false
set_option linter.unusedSimpArgs false

/-! ### sackbutref06_Price: function 27 -/
def sackbutref06_Price.l0 : Nat → Int → List Int → List Int → Int → List Int → Int → Int → Option (Int)
  | 0, _, _, _, _, _, _, _ => none
  | k + 1, x0, x1, x2, x9, x12, x13, x14 => if x14 < x13 then (if 0 ≤ x14 then (if x14 < (x12.length : Int) then (if x14 < (x1.length : Int) then (if 0 ≤ (rd x12 x14) then (if (rd x12 x14) < (x2.length : Int) then ((sackbutref06_Distance.f x0 (rd x1 x14) (rd x2 (rd x12 x14))).bind fun t1004 => (sackbutref06_Price.l0 k x0 x1 x2 (wrap64 (x9 + t1004)) x12 x13 (wrap64 (x14 + 1)))) else (none)) else (none)) else (none)) else (none)) else (none)) else (some x9)
def sackbutref06_Price.f (k : Nat) (a0 : Int) (l1 : List Int) (l2 : List Int) (l3 : List Int) : Option (Int) := sackbutref06_Price.l0 k a0 l1 l2 0 l3 (l3.length : Int) 0
theorem sackbutref06_Price.mono_l : ∀ k, (∀ y0 y1 y2 y3 y4 y5 y6, LeO (sackbutref06_Price.l0 k y0 y1 y2 y3 y4 y5 y6) (sackbutref06_Price.l0 (k + 1) y0 y1 y2 y3 y4 y5 y6))
  | 0 => fun _ _ _ _ _ _ _ r h => by simp [sackbutref06_Price.l0] at h
  | k + 1 => by
    have ih0 := sackbutref06_Price.mono_l k
    · intro y0 y1 y2 y3 y4 y5 y6
      unfold sackbutref06_Price.l0
      repeat' first
      | (with_reducible exact ih0 _ _ _ _ _ _ _)
      | (with_reducible exact LeO.refl _)
      | (with_reducible exact LeO.none _)
      | (with_reducible refine LeO.ite ?_ ?_)
      | (with_reducible refine LeO.bind ?_ (fun _ => ?_))
      | exact ih0 _ _ _ _ _ _ _
      | exact LeO.none _
      | refine LeO.ite ?_ ?_
      | refine LeO.bind ?_ (fun _ => ?_)
theorem sackbutref06_Price.mono : ∀ a0 a1 a2 a3 k, LeO (sackbutref06_Price.f k a0 a1 a2 a3) (sackbutref06_Price.f (k + 1) a0 a1 a2 a3) := by
  intro a0 a1 a2 a3 k
  have ih0 := sackbutref06_Price.mono_l k
  unfold sackbutref06_Price.f
  repeat' first
      | (with_reducible exact ih0 _ _ _ _ _ _ _)
      | (with_reducible exact LeO.refl _)
      | (with_reducible exact LeO.none _)
      | (with_reducible refine LeO.ite ?_ ?_)
      | (with_reducible refine LeO.bind ?_ (fun _ => ?_))
      | exact ih0 _ _ _ _ _ _ _
      | exact LeO.none _
      | refine LeO.ite ?_ ?_
      | refine LeO.bind ?_ (fun _ => ?_)
def sackbutref06_Price.T5 : Bool × List (List Nat × List Nat) := (true, [([], []), ([], []), ([], []), ([], []), ([2, 3], [2, 3]), ([4], [4]), ([], []), ([], []), ([6, 7], [6, 7]), ([8], [8]), ([1, 5, 9], [1, 5, 9]), ([0, 10], [0, 10]), ([11, 10, 0, 1, 2, 3, 4, 5, 6, 7, 8, 9, 10, 11], [0, 11])])
def sackbutref06_Price.B5 : List Nat := [0, 0, 0, 0, 12, 28, 0, 0, 192, 448, 1022, 2047, 4095]
theorem sackbutref06_Price.tab5 : rtab .any (opsOf Try.f27 5) = sackbutref06_Price.T5 := by kernel_rfl
theorem sackbutref06_Price.bits5 : waitsOk sackbutref06_Price.T5.2 sackbutref06_Price.B5 = true := by kernel_rfl
set_option maxHeartbeats 8000000 in
set_option maxRecDepth 100000 in
theorem sackbutref06_Price.calls (k : Nat) (a0 : Int) (A1 : Option Addr) (c1 : Nat) (l1 : List Int) (A2 : Option Addr) (c2 : Nat) (l2 : List Int) (A3 : Option Addr) (c3 : Nat) (l3 : List Int) (r : Int) (w : World) (hr1 : Kd.C (Kd.int .i64) w A1 l1.length l1) (hc1 : l1.length ≤ c1) (hr2 : Kd.C (Kd.int .i64) w A2 l2.length l2) (hc2 : l2.length ≤ c2) (hr3 : Kd.C (Kd.int .i64) w A3 l3.length l3) (hc3 : l3.length ≤ c3) (h : sackbutref06_Price.f k a0 l1 l2 l3 = some r) :
    Calls Try.prog 27 #[.int .i64 a0, .slice A1 l1.length c1, .slice A2 l2.length c2, .slice A3 l3.length c3] w fun e w' => e = .returned (.int .i64 r) ∧ Below w.heap.size w w' := by
  have HR1 := Aside0.mk hr1
  have HC1 := Aside0.mk hc1
  clear hr1 hc1
  have HR2 := Aside0.mk hr2
  have HC2 := Aside0.mk hc2
  clear hr2 hc2
  have HR3 := Aside0.mk hr3
  have HC3 := Aside0.mk hc3
  clear hr3 hc3
  have HB := Aside0.mk (Below.refl w.heap.size w)
  have H : (sackbutref06_Price.l0 k a0 l1 l2 0 l3 (l3.length : Int) 0) = some r := h
  clear h
  have H' := Aside0.mk H
  clear H
  go_enter Try.func27, Try.ntmps27
  go_wp2
  go_loopg [9, 14] k (fun kq v9 v14 w' => ∃ (x9_1 : Int) (x14_1 : Int), v9 = .int .i64 x9_1 ∧ v14 = .int .i64 x14_1 ∧ Aside0 (sackbutref06_Price.l0 kq a0 l1 l2 x9_1 l3 (l3.length : Int) x14_1 = some r) ∧ Aside0 (kq ≤ k) ∧ Aside0 (Below w.heap.size w w'))
  case atStart => exact ⟨(0), (0), (by first | rfl | (simp; done) | (simp [*]; done)), (by first | rfl | (simp; done) | (simp [*]; done)), H', ⟨Nat.le_refl _⟩, ⟨by repeat (first | (with_reducible first | exact HB.out | apply below_alloc | apply pw_below_drewN | apply below_drew1) | exact HB.out)⟩⟩
  case round =>
    clear H'
    try clear c1
    try clear c2
    try clear p2
    try clear c3
    obtain ⟨x9_1, x14_1, rfl, rfl, HA, HK1, HB⟩ := hrel
    cases gk with
    | zero => exact absurd HA.out (by simp [sackbutref06_Price.l0])
    | succ k1 =>
      have H := HA.out
      clear HA
      simp only [sackbutref06_Price.l0] at H
      by_cases c5 : x14_1 < (l3.length : Int)
      · rw [if_pos c5] at H
        have c5b0 : decide (x14_1 < (l3.length : Int)) = true := decide_eq_true c5
        clear c5
        by_cases c6 : 0 ≤ x14_1
        · rw [if_pos c6] at H
          have c6b0 : decide (0 ≤ x14_1) = true := decide_eq_true c6
          clear c6
          by_cases c7 : x14_1 < (l3.length : Int)
          · rw [if_pos c7] at H
            have c7b0 : decide (x14_1 < (l3.length : Int)) = true := decide_eq_true c7
            clear c7
            by_cases c8 : x14_1 < (l1.length : Int)
            · rw [if_pos c8] at H
              have c8b0 : decide (x14_1 < (l1.length : Int)) = true := decide_eq_true c8
              clear c8
              by_cases c9 : 0 ≤ (rd l3 x14_1)
              · rw [if_pos c9] at H
                have c9b0 : decide (0 ≤ (rd l3 x14_1)) = true := decide_eq_true c9
                clear c9
                by_cases c10 : (rd l3 x14_1) < (l2.length : Int)
                · rw [if_pos c10] at H
                  have c10b0 : decide ((rd l3 x14_1) < (l2.length : Int)) = true := decide_eq_true c10
                  clear c10
                  replace H := Option.bind_eq_some_iff.mp H
                  obtain ⟨t1004, A110, H⟩ := H
                  replace H : (sackbutref06_Price.l0 k1 a0 l1 l2 (wrap64 (x9_1 + t1004)) l3 (l3.length : Int) (wrap64 (x14_1 + 1))) = some r := H
                  have A11 := Aside0.mk A110
                  clear A110
                  have H' := Aside0.mk H
                  clear H
                  have p1001 : 0 ≤ (x14_1 : Int) := of_decide_eq_true (by first | (with_reducible assumption) | assumption)
                  have q1001 : x14_1 < (l3.length : Int) := of_decide_eq_true (by first | (with_reducible assumption) | assumption)
                  obtain ⟨ad1001, e1001, hx1001_0⟩ := Kd.at_int HR3.out x14_1 p1001 q1001
                  cases e1001
                  replace hx1001_0 := (HB.out.cell (World.block_lt_of_cell? w _ hx1001_0)).trans hx1001_0
                  replace p1001 := eq_true p1001
                  replace q1001 := eq_true q1001
                  try go_wp2
                  have n0_ := Aside0.mk (below_drew1 HB.out)
                  clear HB
                  have HB := n0_
                  clear n0_
                  have p1002 : 0 ≤ (x14_1 : Int) := of_decide_eq_true (by first | (with_reducible assumption) | assumption)
                  have q1002 : x14_1 < (l1.length : Int) := of_decide_eq_true (by first | (with_reducible assumption) | assumption)
                  obtain ⟨ad1002, e1002, hx1002_0⟩ := Kd.at_int HR1.out x14_1 p1002 q1002
                  have hw1002_0 := hx1002_0
                  cases e1002
                  replace hx1002_0 := (HB.out.cell (World.block_lt_of_cell? w _ hx1002_0)).trans hx1002_0
                  replace p1002 := eq_true p1002
                  replace q1002 := eq_true q1002
                  have p1003 : 0 ≤ ((rd l3 x14_1) : Int) := of_decide_eq_true (by first | (with_reducible assumption) | assumption)
                  have q1003 : (rd l3 x14_1) < (l2.length : Int) := of_decide_eq_true (by first | (with_reducible assumption) | assumption)
                  obtain ⟨ad1003, e1003, hx1003_0⟩ := Kd.at_int HR2.out (rd l3 x14_1) p1003 q1003
                  have hw1003_0 := hx1003_0
                  cases e1003
                  replace hx1003_0 := (HB.out.cell (World.block_lt_of_cell? w _ hx1003_0)).trans hx1003_0
                  replace p1003 := eq_true p1003
                  replace q1003 := eq_true q1003
                  refine start_ (n := 13) (S := fun w' => w'.cell? (ad1002.add (x14_1).toNat) = some (.int .i64 (rd l1 x14_1)) ∧ w'.cell? (ad1003.add ((rd l3 x14_1)).toNat) = some (.int .i64 (rd l2 (rd l3 x14_1)))) (ds := []) #[false, false, false, false, false, false, false, false, false, false, false, false, false] (by kernel_rfl) rfl rfl ⟨((HB.out.cell (World.block_lt_of_cell? w _ hw1002_0)).trans hw1002_0), ((HB.out.cell (World.block_lt_of_cell? w _ hw1003_0)).trans hw1003_0)⟩ (fun hHeld => ?_); refine with_tabW sackbutref06_Price.tab5 sackbutref06_Price.bits5 (fun HT_ HW_ => ?_)
                  generalize wr.drew = w12 at HB hx1002_0 hx1003_0 hHeld ⊢
                  refine pure_ (i := 0) (N := some 19) (v := ?_) (a' := ?_) #[true, false, false, false, false, false, false, false, false, false, false, false, false] rfl rfl (any_of HT_.out (by kernel_rfl)) (fun _ _ _ h => h) (Or.inl ⟨by rfl, ?_⟩) ?_ ?_
                  rotate_left
                  · intro w'
                    go_simp
                    with_reducible rfl
                  rotate_left
                  · simp only [Act.put, List.setIfInBounds_toArray, List.set_cons_zero, List.set_cons_succ, i64_w, i32_w]
                    rfl
                  refine pure_ (i := 1) (N := some 20) (v := ?_) (a' := ?_) #[true, true, false, false, false, false, false, false, false, false, false, false, false] rfl rfl (any_of HT_.out (by kernel_rfl)) (fun _ _ _ h => h) (Or.inl ⟨by rfl, ?_⟩) ?_ ?_
                  rotate_left
                  · intro w'
                    go_simp
                    with_reducible rfl
                  rotate_left
                  · simp only [Act.put, List.setIfInBounds_toArray, List.set_cons_zero, List.set_cons_succ, i64_w, i32_w]
                    rfl
                  refine pure_ (i := 2) (N := some 21) (v := ?_) (a' := ?_) #[true, true, true, false, false, false, false, false, false, false, false, false, false] rfl rfl (any_of HT_.out (by kernel_rfl)) (fun _ _ _ h => h) (Or.inl ⟨by rfl, ?_⟩) ?_ ?_
                  rotate_left
                  · intro w'
                    go_simp
                    with_reducible rfl
                  rotate_left
                  · simp only [Act.put, List.setIfInBounds_toArray, List.set_cons_zero, List.set_cons_succ, i64_w, i32_w]
                    rfl
                  refine pure_ (i := 3) (N := some 22) (v := ?_) (a' := ?_) #[true, true, true, true, false, false, false, false, false, false, false, false, false] rfl rfl (any_of HT_.out (by kernel_rfl)) (fun _ _ _ h => h) (Or.inl ⟨by rfl, ?_⟩) ?_ ?_
                  rotate_left
                  · intro w'
                    go_simp
                    with_reducible rfl
                  rotate_left
                  · simp only [Act.put, List.setIfInBounds_toArray, List.set_cons_zero, List.set_cons_succ, i64_w, i32_w]
                    rfl
                  refine pure_ (i := 4) (N := some 23) (v := ?_) (a' := ?_) #[true, true, true, true, true, false, false, false, false, false, false, false, false] rfl rfl (any_of HT_.out (by kernel_rfl)) (fun _ _ _ h => h) (Or.inl ⟨by rfl, ?_⟩) ?_ ?_
                  rotate_left
                  · intro w'
                    go_simp
                    with_reducible rfl
                  rotate_left
                  · simp only [Act.put, List.setIfInBounds_toArray, List.set_cons_zero, List.set_cons_succ, i64_w, i32_w]
                    rfl
                  refine pure_ (i := 6) (N := some 25) (v := ?_) (a' := ?_) #[true, true, true, true, true, false, true, false, false, false, false, false, false] rfl rfl (any_of HT_.out (by kernel_rfl)) (fun _ _ _ h => h) (Or.inl ⟨by rfl, ?_⟩) ?_ ?_
                  rotate_left
                  · intro w'
                    go_simp
                    with_reducible rfl
                  rotate_left
                  · simp only [Act.put, List.setIfInBounds_toArray, List.set_cons_zero, List.set_cons_succ, i64_w, i32_w]
                    rfl
                  refine pure_ (i := 7) (N := some 26) (v := ?_) (a' := ?_) #[true, true, true, true, true, false, true, true, false, false, false, false, false] rfl rfl (any_of HT_.out (by kernel_rfl)) (fun _ _ _ h => h) (Or.inl ⟨by rfl, ?_⟩) ?_ ?_
                  rotate_left
                  · intro w'
                    go_simp
                    with_reducible rfl
                  rotate_left
                  · simp only [Act.put, List.setIfInBounds_toArray, List.set_cons_zero, List.set_cons_succ, i64_w, i32_w]
                    rfl
                  refine pure_ (i := 8) (N := some 27) (v := ?_) (a' := ?_) #[true, true, true, true, true, false, true, true, true, false, false, false, false] rfl rfl (any_of HT_.out (by kernel_rfl)) (fun _ _ _ h => h) (Or.inl ⟨by rfl, ?_⟩) ?_ ?_
                  rotate_left
                  · intro w'
                    go_simp
                    with_reducible rfl
                  rotate_left
                  · simp only [Act.put, List.setIfInBounds_toArray, List.set_cons_zero, List.set_cons_succ, i64_w, i32_w]
                    rfl
                  refine take_ (i := 5) (N := some 24) (v := ?_) (a' := ?_) #[true, true, true, true, true, true, true, true, true, false, false, false, false] rfl rfl (take_ofW HT_.out HW_.out (by kernel_rfl)) (fun _ _ _ h => h) (Or.inl ⟨by rfl, ?_⟩) hHeld ?_ ?_
                  rotate_left
                  · rintro w' ⟨s0, s1⟩
                    go_simp
                    with_reducible rfl
                  rotate_left
                  · simp only [Act.put, List.setIfInBounds_toArray, List.set_cons_zero, List.set_cons_succ, i64_w, i32_w]
                    rfl
                  refine take_ (i := 9) (N := some 28) (v := ?_) (a' := ?_) #[true, true, true, true, true, true, true, true, true, true, false, false, false] rfl rfl (take_ofW HT_.out HW_.out (by kernel_rfl)) (fun _ _ _ h => h) (Or.inl ⟨by rfl, ?_⟩) hHeld ?_ ?_
                  rotate_left
                  · rintro w' ⟨s0, s1⟩
                    go_simp
                    with_reducible rfl
                  rotate_left
                  · simp only [Act.put, List.setIfInBounds_toArray, List.set_cons_zero, List.set_cons_succ, i64_w, i32_w]
                    rfl
                  refine one_ (i := 10) (N := some 29) #[true, true, true, true, true, true, true, true, true, true, true, false, false] rfl rfl (one_of HT_.out (by kernel_rfl)) (by decide) (fun K hK => ?_)
                  refine goes_ Try.func44 (by kernel_rfl) rfl #[.int .i64 a0, .int .i64 (rd l1 x14_1), .int .i64 (rd l2 (rd l3 x14_1))] (by rfl) rfl rfl (by (try simp only [List.map_toArray, List.map_cons, List.map_nil]); first | done | rfl | (simp only [List.length_drop, List.length_take]; rfl)) ?_
                  with_reducible refine (sackbutref06_Distance.calls a0 (rd l1 x14_1) (rd l2 (rd l3 x14_1)) t1004 _ A11.out).mono ?_
                  rintro e w13 ⟨rfl, hb⟩
                  refine ⟨_, rfl, ?_⟩
                  have n0_ := Aside0.mk (below_step (by repeat (first | (with_reducible first | exact HB.out | apply below_alloc | apply pw_below_drewN | apply below_drew1) | exact HB.out)) hb)
                  clear HB
                  have HB := n0_
                  clear n0_
                  (try clear hb)
                  (try clear hb2)
                  (try clear hk)
                  (try clear hi)
                  refine hK.out _ _ ⟨((HB.out.cell (World.block_lt_of_cell? w _ hw1002_0)).trans hw1002_0), ((HB.out.cell (World.block_lt_of_cell? w _ hw1003_0)).trans hw1003_0)⟩ (fun hHeld => ?_)
                  clear hK K
                  refine norm_ (a' := ?_) ?_ ?_
                  rotate_left
                  · show Act.put _ (some 29) _ = _
                    simp only [Act.put, List.setIfInBounds_toArray, List.set_cons_zero, List.set_cons_succ, i64_w, i32_w]
                    rfl
                  refine pure_ (i := 11) (N := some 30) (v := ?_) (a' := ?_) #[true, true, true, true, true, true, true, true, true, true, true, true, false] rfl rfl (any_of HT_.out (by kernel_rfl)) (fun _ _ _ h => h) (Or.inl ⟨by rfl, ?_⟩) ?_ ?_
                  rotate_left
                  · intro w'
                    go_simp
                    with_reducible rfl
                  rotate_left
                  · simp only [Act.put, List.setIfInBounds_toArray, List.set_cons_zero, List.set_cons_succ, i64_w, i32_w]
                    rfl
                  refine pure_ (i := 12) (N := some 9) (v := ?_) (a' := ?_) #[true, true, true, true, true, true, true, true, true, true, true, true, true] rfl rfl (any_of HT_.out (by kernel_rfl)) (fun _ _ _ h => h) (Or.inl ⟨by rfl, ?_⟩) ?_ ?_
                  rotate_left
                  · intro w'
                    go_simp
                    with_reducible rfl
                  rotate_left
                  · simp only [Act.put, List.setIfInBounds_toArray, List.set_cons_zero, List.set_cons_succ, i64_w, i32_w]
                    rfl
                  refine done_ (done_of HT_.out (by kernel_rfl)) ?_
                  try go_wp2
                  go_roundg k1
                  case measure => have := HK1.out; omega
                  case rel => exact ⟨(wrap64 (x9_1 + t1004)), (wrap64 (x14_1 + 1)), (by first | rfl | (simp; done) | (simp [*]; done)), (by first | rfl | (simp; done) | (simp [*]; done)), H', ⟨by have := HK1.out; omega⟩, ⟨by repeat (first | (with_reducible first | exact HB.out | apply below_alloc | apply pw_below_drewN | apply below_drew1) | exact HB.out)⟩⟩
                · rw [if_neg c10] at H
                  exact absurd H (by simp)
              · rw [if_neg c9] at H
                exact absurd H (by simp)
            · rw [if_neg c8] at H
              exact absurd H (by simp)
          · rw [if_neg c7] at H
            exact absurd H (by simp)
        · rw [if_neg c6] at H
          exact absurd H (by simp)
      · rw [if_neg c5] at H
        have c5b0 : decide (x14_1 < (l3.length : Int)) = false := decide_eq_false c5
        clear c5
        obtain rfl := Option.some.inj H
        go_wp2
        go_ret
        exact ⟨by first | rfl | (simp [errW_none, errW_some] <;> rfl) | (simp [*, errW_none, errW_some] <;> rfl), by repeat (first | (with_reducible first | exact HB.out | apply below_alloc | apply pw_below_drewN | apply below_drew1) | exact HB.out)⟩

end Go.Proofs.Ytdnjbjcfbdclfaa.P
namespace Go.Proofs.Ytdnjbjcfbdclfaa.P
open Go.RowKit Go.Proofs.YtdnjbjcfbdclfaaW.PrintWords Go.Proofs.YtdnjbjcfbdclfaaW.PrintLast Go.Proofs.YtdnjbjcfbdclfaaW.PrintMore
attribute [local go_sem] max2_int min2_int max_two min_two max_three min_three max_four min_four   -- for this text's walks alone
set_option linter.unusedVariables false
set_option linter.unusedSimpArgs false

/-! ### voices_isLeading: function 39 -/
def voices_isLeading.l0 : Nat → List Int → Int → Int → List Int → Int → Int → Option (Bool)
  | 0, _, _, _, _, _, _ => none
  | k + 1, x0, x1, x5, x8, x9, x10 => if x10 < x9 then (if 0 ≤ x10 then (if x10 < (x8.length : Int) then (if (rd x8 x10) < 0 then (some false) else (if (rd x8 x10) ≥ x1 then (some false) else (if 0 ≤ (rd x8 x10) then (voices_isLeading.l0 k x0 x1 (Go.bits .or .i64 x5 (shl .i64 1 (rd x8 x10))) x8 x9 (wrap64 (x10 + 1))) else (none)))) else (none)) else (none)) else (if (x0.length : Int) = x1 then (if 0 ≤ x1 then (some (x5 == (wrap64 ((shl .i64 1 x1) - 1)))) else (none)) else (some false))
def voices_isLeading.f (k : Nat) (l0 : List Int) (a1 : Int) : Option (Bool) := voices_isLeading.l0 k l0 a1 0 l0 (l0.length : Int) 0
theorem voices_isLeading.mono_l : ∀ k, (∀ y0 y1 y2 y3 y4 y5, LeO (voices_isLeading.l0 k y0 y1 y2 y3 y4 y5) (voices_isLeading.l0 (k + 1) y0 y1 y2 y3 y4 y5))
  | 0 => fun _ _ _ _ _ _ r h => by simp [voices_isLeading.l0] at h
  | k + 1 => by
    have ih0 := voices_isLeading.mono_l k
    · intro y0 y1 y2 y3 y4 y5
      unfold voices_isLeading.l0
      repeat' first
      | (with_reducible exact ih0 _ _ _ _ _ _)
      | (with_reducible exact LeO.refl _)
      | (with_reducible exact LeO.none _)
      | (with_reducible refine LeO.ite ?_ ?_)
      | (with_reducible refine LeO.bind ?_ (fun _ => ?_))
      | exact ih0 _ _ _ _ _ _
      | exact LeO.none _
      | refine LeO.ite ?_ ?_
      | refine LeO.bind ?_ (fun _ => ?_)
theorem voices_isLeading.mono : ∀ a0 a1 k, LeO (voices_isLeading.f k a0 a1) (voices_isLeading.f (k + 1) a0 a1) := by
  intro a0 a1 k
  have ih0 := voices_isLeading.mono_l k
  unfold voices_isLeading.f
  repeat' first
      | (with_reducible exact ih0 _ _ _ _ _ _)
      | (with_reducible exact LeO.refl _)
      | (with_reducible exact LeO.none _)
      | (with_reducible refine LeO.ite ?_ ?_)
      | (with_reducible refine LeO.bind ?_ (fun _ => ?_))
      | exact ih0 _ _ _ _ _ _
      | exact LeO.none _
      | refine LeO.ite ?_ ?_
      | refine LeO.bind ?_ (fun _ => ?_)
set_option maxHeartbeats 8000000 in
set_option maxRecDepth 100000 in
theorem voices_isLeading.calls (k : Nat) (A0 : Option Addr) (c0 : Nat) (l0 : List Int) (a1 : Int) (r : Bool) (w : World) (hr0 : Kd.C (Kd.int .i64) w A0 l0.length l0) (hc0 : l0.length ≤ c0) (h : voices_isLeading.f k l0 a1 = some r) :
    Calls Try.prog 39 #[.slice A0 l0.length c0, .int .i64 a1] w fun e w' => e = .returned (.bool r) ∧ Drawn0 w w' := by
  have HR0 := Aside0.mk hr0
  have HC0 := Aside0.mk hc0
  clear hr0 hc0
  have H : (voices_isLeading.l0 k l0 a1 0 l0 (l0.length : Int) 0) = some r := h
  clear h
  have H' := Aside0.mk H
  clear H
  go_enter Try.func39, Try.ntmps39
  go_wp2
  go_loopg [5, 10] k (fun kq v5 v10 w' => ∃ (x5_1 : Int) (x10_1 : Int), v5 = .int .i64 x5_1 ∧ v10 = .int .i64 x10_1 ∧ Aside0 (voices_isLeading.l0 kq l0 a1 x5_1 l0 (l0.length : Int) x10_1 = some r) ∧ Aside0 (kq ≤ k) ∧ Drawn0 w w')
  case atStart => exact ⟨(0), (0), (by first | rfl | (simp; done) | (simp [*]; done)), (by first | rfl | (simp; done) | (simp [*]; done)), H', ⟨Nat.le_refl _⟩, by repeat (first | exact Drawn0.refl _ | apply Drawn0.step)⟩
  case round =>
    clear H'
    try clear p2
    obtain ⟨x5_1, x10_1, rfl, rfl, HA, HK1, ⟨m1, rfl⟩⟩ := hrel
    cases gk with
    | zero => exact absurd HA.out (by simp [voices_isLeading.l0])
    | succ k1 =>
      have H := HA.out
      clear HA
      simp only [voices_isLeading.l0] at H
      by_cases c3 : x10_1 < (l0.length : Int)
      · rw [if_pos c3] at H
        have c3b0 : decide (x10_1 < (l0.length : Int)) = true := decide_eq_true c3
        clear c3
        by_cases c4 : 0 ≤ x10_1
        · rw [if_pos c4] at H
          have c4b0 : decide (0 ≤ x10_1) = true := decide_eq_true c4
          clear c4
          by_cases c5 : x10_1 < (l0.length : Int)
          · rw [if_pos c5] at H
            have c5b0 : decide (x10_1 < (l0.length : Int)) = true := decide_eq_true c5
            clear c5
            by_cases c6 : (rd l0 x10_1) < 0
            · rw [if_pos c6] at H
              have c6b0 : decide ((rd l0 x10_1) < 0) = true := decide_eq_true c6
              clear c6
              obtain rfl := Option.some.inj H
              have p1001 : 0 ≤ (x10_1 : Int) := of_decide_eq_true (by first | (with_reducible assumption) | assumption)
              have q1001 : x10_1 < (l0.length : Int) := of_decide_eq_true (by first | (with_reducible assumption) | assumption)
              obtain ⟨ad1001, e1001, hx1001_0⟩ := Kd.at_int HR0.out x10_1 p1001 q1001
              cases e1001
              replace p1001 := eq_true p1001
              replace q1001 := eq_true q1001
              go_wp2
              go_ret
              exact ⟨by first | rfl | (simp; done) | (simp [*]; done), by repeat (first | exact Drawn0.refl _ | apply Drawn0.step)⟩
            · rw [if_neg c6] at H
              have c6b0 : decide ((rd l0 x10_1) < 0) = false := decide_eq_false c6
              clear c6
              by_cases c7 : (rd l0 x10_1) ≥ a1
              · rw [if_pos c7] at H
                have c7b0 : decide (a1 ≤ (rd l0 x10_1)) = true := decide_eq_true c7
                clear c7
                obtain rfl := Option.some.inj H
                have p1001 : 0 ≤ (x10_1 : Int) := of_decide_eq_true (by first | (with_reducible assumption) | assumption)
                have q1001 : x10_1 < (l0.length : Int) := of_decide_eq_true (by first | (with_reducible assumption) | assumption)
                obtain ⟨ad1001, e1001, hx1001_0⟩ := Kd.at_int HR0.out x10_1 p1001 q1001
                cases e1001
                replace p1001 := eq_true p1001
                replace q1001 := eq_true q1001
                go_wp2
                go_ret
                exact ⟨by first | rfl | (simp; done) | (simp [*]; done), by repeat (first | exact Drawn0.refl _ | apply Drawn0.step)⟩
              · rw [if_neg c7] at H
                have c7b0 : decide (a1 ≤ (rd l0 x10_1)) = false := decide_eq_false c7
                clear c7
                by_cases c8 : 0 ≤ (rd l0 x10_1)
                · rw [if_pos c8] at H
                  have c8b0 := eq_true c8
                  have c8b1 : decide (0 ≤ (rd l0 x10_1)) = true := decide_eq_true c8
                  clear c8
                  obtain ⟨ji9, hji9⟩ : ∃ j_ : Int, (shl .i64 1 (rd l0 x10_1)) = j_ := ⟨_, rfl⟩
                  replace H : (voices_isLeading.l0 k1 l0 a1 (Go.bits .or .i64 x5_1 (ji9)) l0 (l0.length : Int) (wrap64 (x10_1 + 1))) = some r := by first | (rw [hji9] at H; exact H) | (simp only [hji9] at H ⊢; exact H)
                  have hji9_ : (IntKind.i64.wrap (1 * 2 ^ min (rd l0 x10_1).toNat 64)) = ji9 := hji9
                  have hji9z : (rd l0 x10_1) ≤ 64 → (IntKind.i64.wrap (1 * 2 ^ (rd l0 x10_1).toNat)) = ji9 := shl_small hji9
                  have hji9u : (IntKind.i64.wrap (2 ^ min (rd l0 x10_1).toNat 64)) = ji9 := by have h_ := hji9_; rw [Int.one_mul] at h_; exact h_
                  have hji9v : (rd l0 x10_1) ≤ 64 → (IntKind.i64.wrap (2 ^ (rd l0 x10_1).toNat)) = ji9 := fun hle_ => by have h_ := hji9z hle_; rw [Int.one_mul] at h_; exact h_
                  have hji9y : (wrap64 (1 * 2 ^ min (rd l0 x10_1).toNat 64)) = ji9 := (i64_w _).symm.trans hji9_
                  have hji9x : (rd l0 x10_1) ≤ 64 → (wrap64 (1 * 2 ^ (rd l0 x10_1).toNat)) = ji9 := fun h_ => (i64_w _).symm.trans (hji9z h_)
                  have H' := Aside0.mk H
                  clear H
                  have p1001 : 0 ≤ (x10_1 : Int) := of_decide_eq_true (by first | (with_reducible assumption) | assumption)
                  have q1001 : x10_1 < (l0.length : Int) := of_decide_eq_true (by first | (with_reducible assumption) | assumption)
                  obtain ⟨ad1001, e1001, hx1001_0⟩ := Kd.at_int HR0.out x10_1 p1001 q1001
                  cases e1001
                  replace p1001 := eq_true p1001
                  replace q1001 := eq_true q1001
                  go_wp2
                  go_roundg k1
                  case measure => have := HK1.out; omega
                  case rel => exact ⟨(Go.bits .or .i64 x5_1 (ji9)), (wrap64 (x10_1 + 1)), (by first | rfl | (simp; done) | (simp only [← hji9] <;> (first | rfl | simp)) | (simp [*]; done)), (by first | rfl | (simp; done) | (simp [*]; done)), H', ⟨by have := HK1.out; omega⟩, by repeat (first | exact Drawn0.refl _ | apply Drawn0.step)⟩
                · rw [if_neg c8] at H
                  exact absurd H (by simp)
          · rw [if_neg c5] at H
            exact absurd H (by simp)
        · rw [if_neg c4] at H
          exact absurd H (by simp)
      · rw [if_neg c3] at H
        have c3b0 : decide (x10_1 < (l0.length : Int)) = false := decide_eq_false c3
        clear c3
        by_cases c10 : (l0.length : Int) = a1
        · rw [if_pos c10] at H
          have c10b0 : ((l0.length : Int) == a1) = true := beq_iff_eq.mpr c10
          have c10b1 : ((l0.length : Int) != a1) = false := bne_eq_false_iff_eq.mpr c10
          clear c10
          by_cases c11 : 0 ≤ a1
          · rw [if_pos c11] at H
            have c11b0 := eq_true c11
            have c11b1 : decide (0 ≤ a1) = true := decide_eq_true c11
            clear c11
            obtain ⟨ji12, hji12⟩ : ∃ j_ : Int, (shl .i64 1 a1) = j_ := ⟨_, rfl⟩
            replace H : (some (x5_1 == (wrap64 ((ji12) - 1)))) = some r := by first | (rw [hji12] at H; exact H) | (simp only [hji12] at H ⊢; exact H)
            have hji12_ : (IntKind.i64.wrap (1 * 2 ^ min a1.toNat 64)) = ji12 := hji12
            have hji12z : a1 ≤ 64 → (IntKind.i64.wrap (1 * 2 ^ a1.toNat)) = ji12 := shl_small hji12
            have hji12u : (IntKind.i64.wrap (2 ^ min a1.toNat 64)) = ji12 := by have h_ := hji12_; rw [Int.one_mul] at h_; exact h_
            have hji12v : a1 ≤ 64 → (IntKind.i64.wrap (2 ^ a1.toNat)) = ji12 := fun hle_ => by have h_ := hji12z hle_; rw [Int.one_mul] at h_; exact h_
            have hji12y : (wrap64 (1 * 2 ^ min a1.toNat 64)) = ji12 := (i64_w _).symm.trans hji12_
            have hji12x : a1 ≤ 64 → (wrap64 (1 * 2 ^ a1.toNat)) = ji12 := fun h_ => (i64_w _).symm.trans (hji12z h_)
            obtain rfl := Option.some.inj H
            go_wp2
            go_ret
            exact ⟨by first | rfl | (simp; done) | (simp only [← hji12] <;> (first | rfl | simp)) | (simp [*]; done), by repeat (first | exact Drawn0.refl _ | apply Drawn0.step)⟩
          · rw [if_neg c11] at H
            exact absurd H (by simp)
        · rw [if_neg c10] at H
          have c10b0 : ((l0.length : Int) == a1) = false := beq_eq_false_iff_ne.mpr c10
          have c10b1 : ((l0.length : Int) != a1) = true := bne_iff_ne.mpr c10
          obtain rfl := Option.some.inj H
          go_wp2
          go_ret
          exact ⟨by first | rfl | (simp; done) | (simp [*]; done), by repeat (first | exact Drawn0.refl _ | apply Drawn0.step)⟩

end Go.Proofs.Ytdnjbjcfbdclfaa.P
namespace Go.Proofs.Ytdnjbjcfbdclfaa.P
open Go.RowKit Go.Proofs.YtdnjbjcfbdclfaaW.PrintWords Go.Proofs.YtdnjbjcfbdclfaaW.PrintLast Go.Proofs.YtdnjbjcfbdclfaaW.PrintMore
attribute [local go_sem] max2_int min2_int max_two min_two max_three min_three max_four min_four   -- for this text's walks alone
set_option linter.unusedVariables false
set_option linter.unusedSimpArgs false

/-! runs over a list that gather a set -/
def validRun (n : Nat) : Nat → List Int → Bool
  | s, [] => decide (s = 2 ^ n - 1)
  | s, x :: xs => if x < 0 then false else if x ≥ n then false else validRun n (s ||| 2 ^ x.toNat) xs
theorem validRun_iff (n : Nat) : ∀ (xs : List Int) (s : Nat), validRun n s xs = decide ((∀ x ∈ xs, 0 ≤ x ∧ x < n) ∧ orAll s (xs.map Int.toNat) = 2 ^ n - 1) := by
  intro xs
  induction xs with
  | nil => intro s; simp [validRun, orAll]
  | cons x xs ih =>
    intro s
    simp only [validRun, List.map_cons, orAll_cons, ih, List.forall_mem_cons]
    by_cases h1 : x < 0
    · simp [h1]; intro h; omega
    · by_cases h2 : x ≥ n
      · simp [h1, h2]; intro _ h; omega
      · simp only [h1, h2, if_false]
        congr 1
        rw [eq_iff_iff]
        constructor
        · rintro ⟨a, b⟩; exact ⟨⟨⟨by omega, by omega⟩, a⟩, b⟩
        · rintro ⟨⟨_, a⟩, b⟩; exact ⟨a, b⟩
theorem nodup_toNat {xs : List Int} (h : ∀ x ∈ xs, 0 ≤ x) : (xs.map Int.toNat).Nodup ↔ xs.Nodup := by
  induction xs with
  | nil => simp
  | cons x xs ih =>
    have h' := ih (fun y hy => h y (List.mem_cons_of_mem _ hy))
    simp only [List.map_cons, List.nodup_cons, h']
    have : x.toNat ∈ xs.map Int.toNat ↔ x ∈ xs := by
      simp only [List.mem_map]
      constructor
      · rintro ⟨y, hy, e⟩
        have := h y (List.mem_cons_of_mem _ hy); have := h x List.mem_cons_self
        obtain rfl : y = x := by omega
        exact hy
      · intro hx; exact ⟨x, hx, rfl⟩
    rw [this]
def partRun (n : Nat) : Nat → List Int → Bool
  | _, [] => true
  | s, x :: xs => if x < 0 then false else if x ≥ n then false else if s.testBit x.toNat then false else partRun n (s ||| 2 ^ x.toNat) xs
theorem partRun_iff (n : Nat) : ∀ (xs : List Int) (s : Nat), partRun n s xs = decide ((∀ x ∈ xs, 0 ≤ x ∧ x < n ∧ s.testBit x.toNat = false) ∧ xs.Nodup) := by
  intro xs
  induction xs with
  | nil => intro s; simp [partRun]
  | cons x xs ih =>
    intro s
    simp only [partRun, ih, List.forall_mem_cons, List.nodup_cons]
    by_cases h1 : x < 0
    · simp [h1]; intro h; omega
    · by_cases h2 : x ≥ n
      · simp [h1, h2]; intro _ h; omega
      · by_cases h3 : s.testBit x.toNat = true
        · simp [h1, h2, h3]
        · rw [if_neg h1, if_neg h2, if_neg h3, decide_eq_decide]
          simp only [testBit_or_two_pow, Bool.or_eq_false_iff, decide_eq_false_iff_not]
          constructor
          · rintro ⟨a, b⟩
            refine ⟨⟨⟨by omega, by omega, by simpa using h3⟩, fun y hy => ⟨(a y hy).1, (a y hy).2.1, (a y hy).2.2.1⟩⟩, fun hx => (a x hx).2.2.2 rfl, b⟩
          · rintro ⟨⟨_, a⟩, b, c⟩
            refine ⟨fun y hy => ⟨(a y hy).1, (a y hy).2.1, (a y hy).2.2, fun e => b ?_⟩, c⟩
            have := (a y hy).1
            obtain rfl : x = y := by omega
            exact hy

end Go.Proofs.Ytdnjbjcfbdclfaa.P
namespace Go.Proofs.Ytdnjbjcfbdclfaa.P
open Go.RowKit Go.Proofs.YtdnjbjcfbdclfaaW.PrintWords Go.Proofs.YtdnjbjcfbdclfaaW.PrintLast Go.Proofs.YtdnjbjcfbdclfaaW.PrintMore
attribute [local go_sem] max2_int min2_int max_two min_two max_three min_three max_four min_four   -- for this text's walks alone
set_option linter.unusedVariables false
set_option linter.unusedSimpArgs false

/-! leadings and their prices, of the program and of the document -/
def LeadOf (k : Nat) (l : List Int) : Prop := l.length = k ∧ (∀ x ∈ l, 0 ≤ x ∧ x < k) ∧ l.Nodup
instance (k : Nat) (l : List Int) : Decidable (LeadOf k l) := by unfold LeadOf; infer_instance
theorem lead_full {l : List Int} {k : Nat} (hl : l.length = k) (hr : ∀ x ∈ l, 0 ≤ x ∧ x < k) : orAll 0 (l.map Int.toNat) = 2 ^ k - 1 ↔ l.Nodup := by
  have hr' : ∀ x ∈ l.map Int.toNat, x < k := by
    intro x hx
    obtain ⟨y, hy, rfl⟩ := List.mem_map.1 hx
    have := hr y hy
    omega
  rw [orAll_full _ hr', ← nodup_toNat (fun x hx => (hr x hx).1)]
  exact ⟨fun h => nodup_of_full (by simp [hl]) h, fun h => full_of_nodup (by simp [hl]) hr' h⟩
theorem isLeading_loop (l : List Int) (k : Nat) (hk : k ≤ 62) (hl : l.length < 9223372036854775807) : ∀ (xs pre : List Int) (s : Nat), l = pre ++ xs → s < 2 ^ k →
    Ev (fun q => voices_isLeading.l0 q l (k : Int) (s : Int) l (l.length : Int) (pre.length : Int)) (decide (l.length = k) && validRun k s xs || decide (l.length ≠ k) && false) := by
  intro xs
  induction xs with
  | nil =>
    intro pre s h0 hs
    have hsh := shl1_i64 (x := k) (by omega)
    have hp := Nat.two_pow_pos k
    have hp2 := two_pow_lt63 (x := k) (by omega)
    have h63 : (2 : Nat) ^ 63 = 9223372036854775808 := by decide
    have hw : wrap64 (shl .i64 1 (k : Int) - 1) = ((2 ^ k - 1 : Nat) : Int) := by
      rw [hsh, wrap_id (by omega) (by omega)]; omega
    refine Ev.succ ?_
    simp only [voices_isLeading.l0, if_neg (mid_end h0), if_pos (show (0 : Int) ≤ (k : Int) by omega), hw, validRun, Bool.and_false, Bool.or_false]
    refine Ev.ite (fun e => ?_) (fun e => ?_)
    · have e1 : l.length = k := by omega
      have e2 : ((s : Int) == ((2 ^ k - 1 : Nat) : Int)) = decide (s = 2 ^ k - 1) := by
        by_cases h : s = 2 ^ k - 1
        · simp only [← h]; simp
        · simp only [h, decide_false, beq_eq_false_iff_ne]; omega
      rw [e2]
      simp only [e1, decide_true, Bool.true_and]
      exact Ev.some _
    · have e1 : ¬ l.length = k := by omega
      simp only [e1, decide_false, Bool.false_and]
      exact Ev.some _
  | cons x xs ih =>
    intro pre s h0 hs
    refine Ev.succ ?_
    simp only [voices_isLeading.l0, if_pos (mid_lt h0), if_pos (show (0 : Int) ≤ (pre.length : Int) by omega), mid_rd h0, mid_next h0 hl, validRun]
    refine Ev.ite (fun e => by simpa [e] using Ev.some false) (fun e => ?_)
    refine Ev.ite (fun e2 => by simpa [e, e2] using Ev.some false) (fun e2 => ?_)
    obtain ⟨m, rfl⟩ := Int.eq_ofNat_of_zero_le (show 0 ≤ x by omega)
    have hp2 := two_pow_lt63 (x := k) (by omega)
    have hm2 : 2 ^ m < 2 ^ k := Nat.pow_lt_pow_right (by omega) (by omega)
    have hs2 : s ||| 2 ^ m < 2 ^ k := Nat.or_lt_two_pow hs hm2
    simp only [if_pos (show (0 : Int) ≤ (m : Int) by omega), shl1_i64 (x := m) (by omega), or_i64 (a := s) (b := 2 ^ m) (by omega) (by omega), if_neg e, if_neg e2, Int.toNat_natCast]
    exact ih (pre ++ [(m : Int)]) (s ||| 2 ^ m) (mid_mv h0) hs2
theorem isLeading_ev (l : List Int) (k : Nat) (hk : k ≤ 62) (hl : l.length < 9223372036854775807) : Ev (fun q => voices_isLeading.f q l (k : Int)) (decide (LeadOf k l)) := by
  have h := isLeading_loop l k hk hl l [] 0 rfl (Nat.two_pow_pos _)
  rw [validRun_iff] at h
  have e : (decide (l.length = k) && decide ((∀ x ∈ l, 0 ≤ x ∧ x < (k : Int)) ∧ orAll 0 (l.map Int.toNat) = 2 ^ k - 1) || decide (l.length ≠ k) && false) = decide (LeadOf k l) := by
    rw [Bool.and_false, Bool.or_false, ← Bool.decide_and, decide_eq_decide]
    unfold LeadOf
    constructor
    · rintro ⟨h1, h2, h3⟩; exact ⟨h1, h2, (lead_full h1 h2).1 h3⟩
    · rintro ⟨h1, h2, h3⟩; exact ⟨h1, h2, (lead_full h1 h2).2 h3⟩
  rw [e] at h
  exact h
theorem refLeading_loop (l : List Int) (k : Nat) (hk : k ≤ 62) (hl : l.length < 9223372036854775807) : ∀ (xs pre : List Int) (s : Nat), l = pre ++ xs → s < 2 ^ k →
    Ev (fun q => sackbutref06_Leading.l0 q (k : Int) l (s : Int) l (l.length : Int) (pre.length : Int)) (partRun k s xs && decide (l.length = k)) := by
  intro xs
  induction xs with
  | nil =>
    intro pre s h0 hs
    refine Ev.succ ?_
    have e : ((l.length : Int) == (k : Int)) = decide (l.length = k) := by rw [Bool.eq_iff_iff, beq_iff_eq, decide_eq_true_eq]; omega
    simp only [sackbutref06_Leading.l0, if_neg (mid_end h0), partRun, Bool.true_and, e]
    exact Ev.some _
  | cons x xs ih =>
    intro pre s h0 hs
    refine Ev.succ ?_
    simp only [sackbutref06_Leading.l0, if_pos (mid_lt h0), if_pos (show (0 : Int) ≤ (pre.length : Int) by omega), mid_rd h0, mid_next h0 hl, partRun]
    refine Ev.ite (fun e => by simpa [e] using Ev.some false) (fun e => ?_)
    refine Ev.ite (fun e2 => by simpa [e, e2] using Ev.some false) (fun e2 => ?_)
    obtain ⟨m, rfl⟩ := Int.eq_ofNat_of_zero_le (show 0 ≤ x by omega)
    have hp2 := two_pow_lt63 (x := k) (by omega)
    have hm2 : 2 ^ m < 2 ^ k := Nat.pow_lt_pow_right (by omega) (by omega)
    have hs2 : s ||| 2 ^ m < 2 ^ k := Nat.or_lt_two_pow hs hm2
    simp only [if_pos (show (0 : Int) ≤ (m : Int) by omega), bit1_i64 (a := s) (x := m) (by omega) (by omega), shl1_i64 (x := m) (by omega), or_i64 (a := s) (b := 2 ^ m) (by omega) (by omega), if_neg e, if_neg e2, Int.toNat_natCast]
    refine Ev.ite (fun e3 => by simpa [e3] using Ev.some false) (fun e3 => ?_)
    simpa [e3] using ih (pre ++ [(m : Int)]) (s ||| 2 ^ m) (mid_mv h0) hs2
theorem refLeading_ev (l : List Int) (k : Nat) (hk : k ≤ 62) (hl : l.length < 9223372036854775807) : Ev (fun q => sackbutref06_Leading.f q (k : Int) l) (decide (LeadOf k l)) := by
  have h := refLeading_loop l k hk hl l [] 0 rfl (Nat.two_pow_pos _)
  rw [partRun_iff] at h
  have e : (decide ((∀ x ∈ l, 0 ≤ x ∧ x < (k : Int) ∧ (0 : Nat).testBit x.toNat = false) ∧ l.Nodup) && decide (l.length = k)) = decide (LeadOf k l) := by
    rw [← Bool.decide_and, decide_eq_decide]
    unfold LeadOf
    simp only [Nat.zero_testBit, and_true]
    exact ⟨fun h => ⟨h.2, h.1.1, h.1.2⟩, fun h => ⟨⟨h.2.1, h.2.2⟩, h.1⟩⟩
  rw [e] at h
  exact h
/-! voicings, in the document's words -/
theorem refVoicing_loop (n : Int) (l : List Int) (hl : l.length < 9223372036854775807) : ∀ (xs pre : List Int), l = pre ++ xs →
    Ev (fun q => sackbutref06_Voicing.l0 q n l l (l.length : Int) (pre.length : Int)) (decide ((∀ x ∈ xs, 0 ≤ x ∧ x < n) ∧ 2 ≤ n ∧ n ≤ 16 ∧ 1 ≤ l.length ∧ l.length ≤ 6)) := by
  intro xs
  induction xs with
  | nil =>
    intro pre h0
    refine Ev.succ ?_
    simp only [sackbutref06_Voicing.l0, if_neg (mid_end h0)]
    refine Ev.ite (fun e1 => ?_) (fun e1 => by rw [decide_eq_false (fun h => e1 h.2.1)]; exact Ev.some _)
    refine Ev.ite (fun e2 => ?_) (fun e2 => by rw [decide_eq_false (fun h => e2 h.2.2.1)]; exact Ev.some _)
    refine Ev.ite (fun e3 => ?_) (fun e3 => by rw [decide_eq_false (fun h => e3 (by have := h.2.2.2.1; omega))]; exact Ev.some _)
    have e : decide ((l.length : Int) ≤ 6) = decide ((∀ x ∈ ([] : List Int), 0 ≤ x ∧ x < n) ∧ 2 ≤ n ∧ n ≤ 16 ∧ 1 ≤ l.length ∧ l.length ≤ 6) := by
      rw [decide_eq_decide]
      exact ⟨fun h => ⟨by simp, e1, e2, by omega, by omega⟩, fun h => by have := h.2.2.2.2; omega⟩
    rw [e]
    exact Ev.some _
  | cons x xs ih =>
    intro pre h0
    refine Ev.succ ?_
    simp only [sackbutref06_Voicing.l0, if_pos (mid_lt h0), if_pos (show (0 : Int) ≤ (pre.length : Int) by omega), mid_rd h0, mid_next h0 hl]
    refine Ev.ite (fun e => by rw [decide_eq_false (fun h => by have := h.1 x (by simp); omega)]; exact Ev.some _) (fun e => ?_)
    refine Ev.ite (fun e2 => by rw [decide_eq_false (fun h => by have := h.1 x (by simp); omega)]; exact Ev.some _) (fun e2 => ?_)
    have e3 : decide ((∀ y ∈ x :: xs, 0 ≤ y ∧ y < n) ∧ 2 ≤ n ∧ n ≤ 16 ∧ 1 ≤ l.length ∧ l.length ≤ 6) = decide ((∀ y ∈ xs, 0 ≤ y ∧ y < n) ∧ 2 ≤ n ∧ n ≤ 16 ∧ 1 ≤ l.length ∧ l.length ≤ 6) := by
      rw [decide_eq_decide]
      constructor
      · rintro ⟨h, r⟩; exact ⟨fun y hy => h y (by simp [hy]), r⟩
      · rintro ⟨h, r⟩
        refine ⟨fun y hy => ?_, r⟩
        rcases List.mem_cons.1 hy with rfl | hy
        · omega
        · exact h y hy
    rw [e3]
    exact ih (pre ++ [x]) (mid_mv h0)
theorem refVoicing_ev (n : Int) (l : List Int) (hl : l.length < 9223372036854775807) : Ev (fun q => sackbutref06_Voicing.f q n l) (decide (VoiN n l)) := by
  have h := refVoicing_loop n l hl l [] rfl
  have e : decide ((∀ x ∈ l, 0 ≤ x ∧ x < n) ∧ 2 ≤ n ∧ n ≤ 16 ∧ 1 ≤ l.length ∧ l.length ≤ 6) = decide (VoiN n l) := by
    rw [decide_eq_decide]; unfold VoiN
    exact ⟨fun h => ⟨h.2.1, h.2.2.1, h.2.2.2.1, h.2.2.2.2, h.1⟩, fun h => ⟨h.2.2.2.2, h.1, h.2.1, h.2.2.1, h.2.2.2.1⟩⟩
  rw [e] at h
  exact h
theorem refTwo_ev (n : Int) (a b : List Int) (ha : a.length < 9223372036854775807) (hb : b.length < 9223372036854775807) : Ev (fun q => sackbutref06_Two.f q n a b) (decide (TwoN n a b)) := by
  unfold sackbutref06_Two.f
  refine Ev.bind (refVoicing_ev n a ha) ?_
  by_cases h1 : VoiN n a
  · simp only [h1, decide_true, if_true]
    refine Ev.bind (refVoicing_ev n b hb) ?_
    by_cases h2 : VoiN n b
    · simp only [h2, decide_true, if_true]
      have e : ((a.length : Int) == (b.length : Int)) = decide (TwoN n a b) := by
        rw [Bool.eq_iff_iff, beq_iff_eq, decide_eq_true_eq]; unfold TwoN
        exact ⟨fun h => ⟨h1, h2, by omega⟩, fun h => by have := h.2.2; omega⟩
      rw [e]; exact Ev.some _
    · simp only [h2, decide_false, Bool.false_eq_true, if_false]
      rw [decide_eq_false (fun h => h2 h.2.1)]; exact Ev.some _
  · simp only [h1, decide_false, Bool.false_eq_true, if_false]
    rw [decide_eq_false (fun h => h1 h.1)]; exact Ev.some _
theorem list9_f (l : List Int) : sackbutlaw06_list.f l = some (l.take 9) := by
  unfold sackbutlaw06_list.f
  rw [mn_eq, if_pos (by omega), if_pos (by omega)]
  have e : (min (l.length : Int) 9).toNat = min l.length 9 := by omega
  have e2 : l.take (min l.length 9) = l.take 9 := by
    rw [Nat.min_comm]; exact (List.take_eq_take_min ..).symm
  rw [e, e2]
  unfold slices_Clone_int_int.f
  rw [if_pos (by rw [List.length_take]; omega)]
  rfl
theorem voi_take (n : Int) (l : List Int) : VoiN n (l.take 9) ↔ VoiN n l := by
  rcases Nat.lt_or_ge 9 l.length with h | h
  · constructor
    · intro hr; have := hr.2.2.2.1; rw [List.length_take] at this; omega
    · intro hr; have := hr.2.2.2.1; omega
  · rw [List.take_of_length_le h]
theorem two_take (n : Int) (a b : List Int) : TwoN n (a.take 9) (b.take 9) ↔ TwoN n a b := by
  unfold TwoN
  rw [voi_take, voi_take]
  constructor
  · rintro ⟨h1, h2, h3⟩
    have := h1.2.2.2.1; have := h2.2.2.2.1
    rw [List.take_of_length_le (by omega), List.take_of_length_le (by omega)] at h3
    exact ⟨h1, h2, h3⟩
  · rintro ⟨h1, h2, h3⟩
    have := h1.2.2.2.1; have := h2.2.2.2.1
    rw [List.take_of_length_le (by omega), List.take_of_length_le (by omega)]
    exact ⟨h1, h2, h3⟩
theorem voi_take9 {n : Int} {l : List Int} (h : VoiN n l) : l.take 9 = l := List.take_of_length_le (by have := h.2.2.2.1; omega)
theorem lead_take {k : Nat} (hk : k ≤ 6) (l : List Int) : LeadOf k (l.take 9) ↔ LeadOf k l := by
  rcases Nat.lt_or_ge 9 l.length with h | h
  · constructor
    · intro hr; have := hr.1; rw [List.length_take] at this; omega
    · intro hr; have := hr.1; omega
  · rw [List.take_of_length_le h]
theorem awake_f : sackbutlaw06_awake.f = some true := by
  have h : TwoN 12 [0] [11] := by decide
  have e : voices_Cost.f 12 [0] [11] = some (1, 0) := by
    unfold voices_Cost.f
    rw [if_pos h]
    have : bestV 12 [0] [11] = (some [0], 1) := by decide
    rw [this]
  unfold sackbutlaw06_awake.f
  rw [e]
  rfl
theorem refMod_f {n x : Int} (hn : 2 ≤ n) (hn2 : n ≤ 16) : sackbutref06_mod.f x n = some (x % n) := by
  unfold sackbutref06_mod.f
  rw [if_neg (by omega), tmod_mod (by omega) (by omega)]
theorem refMove_f {n x y : Int} (hn : 2 ≤ n) (hn2 : n ≤ 16) (hx : 0 ≤ x ∧ x < n) (hy : 0 ≤ y ∧ y < n) : sackbutref06_Move.f n x y = some (mvN n x y) := by
  have h1 := Int.emod_nonneg (y - x) (show n ≠ 0 by omega)
  have h2 := Int.emod_lt_of_pos (y - x) (show 0 < n by omega)
  unfold sackbutref06_Move.f
  rw [wrap_id (n := y - x) (by omega) (by omega), refMod_f hn hn2, Option.bind_some, wrap_id (n := 2 * ((y - x) % n)) (by omega) (by omega)]
  unfold mvN
  by_cases h : 2 * ((y - x) % n) > n
  · rw [if_neg (by omega), if_pos h, wrap_id (by omega) (by omega)]
  · rw [if_pos (by omega), if_neg h]
theorem refDistance_f {n x y : Int} (hn : 2 ≤ n) (hn2 : n ≤ 16) (hx : 0 ≤ x ∧ x < n) (hy : 0 ≤ y ∧ y < n) : sackbutref06_Distance.f n x y = some (dsN n x y) := by
  have := mvN_bd (x := x) (y := y) hn
  unfold sackbutref06_Distance.f
  rw [refMove_f hn hn2 hx hy, Option.bind_some, Option.bind_some, wrap_id (by omega) (by omega), mx_eq]
  rfl
theorem refPrice_ev {n : Int} {a b : List Int} (ha : VoiN n a) (hb : VoiN n b) (full : List Int) (hf : full.length ≤ a.length) (hk : ∀ k ∈ full, 0 ≤ k ∧ k < b.length) : Ev (fun k => sackbutref06_Price.f k n a b full) (prI n a b full 0) := by
  obtain ⟨hn, hn2, ha1, ha2, hax⟩ := ha
  obtain ⟨_, _, hb1, hb2, hbx⟩ := hb
  have loop : ∀ (rest pre : List Int) (acc : Int), full = pre ++ rest → 0 ≤ acc → acc ≤ 16 * pre.length →
      Ev (fun k => sackbutref06_Price.l0 k n a b acc full (full.length : Int) (pre.length : Int)) (acc + prI n a b rest pre.length) := by
    intro rest
    induction rest with
    | nil =>
      intro pre acc hp h0 h1
      have p1 : ¬ (pre.length : Int) < (full.length : Int) := by rw [hp]; simp
      refine Ev.succ ?_
      simp only [sackbutref06_Price.l0, if_neg p1, prI, Int.add_zero]
      exact Ev.some _
    | cons x rest ih =>
      intro pre acc hp h0 h1
      have hlen : full.length = pre.length + (rest.length + 1) := by rw [hp]; simp
      have p1 : (pre.length : Int) < (full.length : Int) := by omega
      have p0 : (0 : Int) ≤ (pre.length : Int) := by omega
      have pa : (pre.length : Int) < (a.length : Int) := by omega
      have hrd : rd full (pre.length : Int) = x := mid_rd hp
      have hx := hk x (by rw [hp]; simp)
      have hda := getD_mem (l := a) (i := pre.length) (by omega)
      have hdb := getD_mem (l := b) (i := x.toNat) (by omega)
      have e1 : rd a (pre.length : Int) = a.getD pre.length 0 := rd_nat _ _
      have e2 : rd b x = b.getD x.toNat 0 := rfl
      have hd := dsN_bd (n := n) (x := a.getD pre.length 0) (y := b.getD x.toNat 0) hn
      have hdf := refDistance_f hn hn2 (hax _ hda) (hbx _ hdb)
      have hw : wrap64 ((pre.length : Int) + 1) = ((pre ++ [x]).length : Int) := by rw [wrap_id (by omega) (by omega)]; simp
      have hw2 : wrap64 (acc + dsN n (a.getD pre.length 0) (b.getD x.toNat 0)) = acc + dsN n (a.getD pre.length 0) (b.getD x.toNat 0) := wrap_id (by omega) (by omega)
      have hl1 : (pre ++ [x]).length = pre.length + 1 := by simp
      have go := ih (pre ++ [x]) (acc + dsN n (a.getD pre.length 0) (b.getD x.toNat 0)) (by rw [hp]; simp) (by omega) (by rw [hl1]; omega)
      rw [hl1] at go
      refine Ev.succ ?_
      simp only [sackbutref06_Price.l0, if_pos p1, if_pos p0, if_pos pa, hrd, if_pos hx.1, if_pos hx.2, e1, e2]
      refine Ev.bind_some hdf ?_
      rw [hw, hw2, hl1]
      simp only [prI]
      rw [← Int.add_assoc]
      exact go
  have h := loop full [] 0 rfl (Int.le_refl _) (by simp)
  rw [Int.zero_add] at h
  exact h

end Go.Proofs.Ytdnjbjcfbdclfaa.P
namespace Go.Proofs.Ytdnjbjcfbdclfaa.P
open Go.RowKit Go.Proofs.YtdnjbjcfbdclfaaW.PrintWords Go.Proofs.YtdnjbjcfbdclfaaW.PrintLast Go.Proofs.YtdnjbjcfbdclfaaW.PrintMore
attribute [local go_sem] max2_int min2_int max_two min_two max_three min_three max_four min_four   -- for this text's walks alone
set_option linter.unusedVariables false
set_option linter.unusedSimpArgs false

/-! whether voices cross, in the program's way and in the document's -/
def stB (n lo hi j : Int) : Bool := decide (lo < j * n ∧ j * n < hi)
def meetB (n a am b bm : Int) : Bool := decide (a ≠ b) && (stB n (min ((b - a) % n) ((b - a) % n + bm - am)) (max ((b - a) % n) ((b - a) % n + bm - am)) (-1) || (stB n (min ((b - a) % n) ((b - a) % n + bm - am)) (max ((b - a) % n) ((b - a) % n + bm - am)) 0 || (stB n (min ((b - a) % n) ((b - a) % n + bm - am)) (max ((b - a) % n) ((b - a) % n + bm - am)) 1 || (stB n (min ((b - a) % n) ((b - a) % n + bm - am)) (max ((b - a) % n) ((b - a) % n + bm - am)) 2 || false))))
def rtB (n ap gr j : Int) : Bool := decide ((0 < j * n - ap ∧ j * n - ap < gr) ∨ (j * n - ap < 0 ∧ gr < j * n - ap))
def crB (n a am b bm : Int) : Bool := decide (a ≠ b) && (rtB n (a - b) (am - bm) (-2) || (rtB n (a - b) (am - bm) (-1) || (rtB n (a - b) (am - bm) 0 || (rtB n (a - b) (am - bm) 1 || (rtB n (a - b) (am - bm) 2 || false)))))
theorem diff_mod {n a b : Int} (ha : 0 ≤ a ∧ a < n) (hb : 0 ≤ b ∧ b < n) : (a ≤ b ∧ (b - a) % n = b - a) ∨ (b < a ∧ (b - a) % n = b - a + n) := by
  rcases Int.lt_or_le b a with h | h
  · right; refine ⟨h, ?_⟩
    rw [← Int.add_emod_right, Int.emod_eq_of_lt (by omega) (by omega)]
  · left; exact ⟨h, Int.emod_eq_of_lt (by omega) (by omega)⟩
theorem rtB_neg (n ap gr j : Int) : rtB n ap gr j = rtB n (-ap) (-gr) (-j) := by
  unfold rtB
  rw [decide_eq_decide, Int.neg_mul]
  generalize j * n = v
  omega
theorem crB_symm {n a am b bm : Int} : crB n a am b bm = crB n b bm a am := by
  unfold crB
  have e1 : b - a = -(a - b) := by omega
  have e2 : bm - am = -(am - bm) := by omega
  have e3 : decide (a ≠ b) = decide (b ≠ a) := by rw [decide_eq_decide]; exact ⟨fun h e => h e.symm, fun h e => h e.symm⟩
  rw [e1, e2, e3]
  generalize a - b = ap
  generalize am - bm = gr
  rw [rtB_neg n ap gr (-2), rtB_neg n ap gr (-1), rtB_neg n ap gr 0, rtB_neg n ap gr 1, rtB_neg n ap gr 2]
  simp only [Int.neg_neg, Int.neg_zero]
  generalize rtB n (-ap) (-gr) 2 = b2
  generalize rtB n (-ap) (-gr) 1 = b1
  generalize rtB n (-ap) (-gr) 0 = b0
  generalize rtB n (-ap) (-gr) (-1) = c1
  generalize rtB n (-ap) (-gr) (-2) = c2
  cases b2 <;> cases b1 <;> cases b0 <;> cases c1 <;> cases c2 <;> rfl
theorem nextI {j : Nat} (h : j ≤ 100000) : wrap64 ((j : Int) + 1) = ((j + 1 : Nat) : Int) := by rw [wrap_id (by omega) (by omega)]; omega
theorem nextJ {j : Nat} (h : j ≤ 100000) : wrap64 ((j : Int) + 1) = (j : Int) + 1 := wrap_id (by omega) (by omega)
theorem meet_cr {n a am b bm : Int} (ha : 0 ≤ a ∧ a < n) (hb : 0 ≤ b ∧ b < n) (h1 : -n ≤ 2 * am ∧ 2 * am ≤ n) (h2 : -n ≤ 2 * bm ∧ 2 * bm ≤ n) : meetB n a am b bm = crB n a am b bm := by
  rw [Bool.eq_iff_iff]
  unfold meetB crB rtB stB
  rcases diff_mod ha hb with ⟨h, e⟩ | ⟨h, e⟩
  all_goals
    rw [e]
    simp only [Bool.and_eq_true, Bool.or_eq_true, decide_eq_true_eq, Bool.false_eq_true, or_false]
    omega
theorem meet_step {n lo hi j : Int} {r : Bool} (hn : 0 ≤ n ∧ n ≤ 16) (hj : -10 ≤ j ∧ j ≤ 2) (h : Ev (fun k => voices_circle_meet.l0 k n lo hi (j + 1)) r) (hjn : -160 ≤ j * n ∧ j * n ≤ 160) : Ev (fun k => voices_circle_meet.l0 k n lo hi j) (stB n lo hi j || r) := by
  have hw1 : wrap64 (j + 1) = j + 1 := wrap_id (by omega) (by omega)
  have hw : wrap64 (j * n) = j * n := wrap_id (by omega) (by omega)
  refine Ev.succ ?_
  unfold stB
  simp only [voices_circle_meet.l0, if_pos hj.2, hw, hw1]
  refine Ev.ite (fun e1 => ?_) (fun e1 => ?_)
  · refine Ev.ite (fun e2 => ?_) (fun e2 => ?_)
    · rw [decide_eq_true ⟨e1, e2⟩, Bool.true_or]; exact Ev.some _
    · rw [decide_eq_false (fun h => e2 h.2), Bool.false_or]; exact h
  · rw [decide_eq_false (fun h => e1 h.1), Bool.false_or]; exact h
theorem meet_ev {n a am b bm : Int} (hn : 2 ≤ n) (hn2 : n ≤ 16) (ha : 0 ≤ a ∧ a < n) (hb : 0 ≤ b ∧ b < n) (h1 : -n ≤ 2 * am ∧ 2 * am ≤ n) (h2 : -n ≤ 2 * bm ∧ 2 * bm ≤ n) : Ev (fun k => voices_circle_meet.f k n a am b bm) (meetB n a am b bm) := by
  have m1 := Int.emod_nonneg (b - a) (show n ≠ 0 by omega)
  have m2 := Int.emod_lt_of_pos (b - a) (show 0 < n by omega)
  unfold voices_circle_meet.f meetB
  refine Ev.ite (fun e => by rw [decide_eq_false (fun h => h e), Bool.false_and]; exact Ev.some _) (fun e => ?_)
  rw [decide_eq_true e, Bool.true_and, wrap_id (n := b - a) (by omega) (by omega)]
  refine Ev.bind_some (mod_f hn hn2) ?_
  generalize (b - a) % n = f at *
  rw [wrap_id (n := f + bm) (by omega) (by omega), wrap_id (n := f + bm - am) (by omega) (by omega), mn_eq, mx_eq]
  refine meet_step (by omega) (by omega) ?_ (by omega)
  refine meet_step (by omega) (by omega) ?_ (by omega)
  refine meet_step (by omega) (by omega) ?_ (by omega)
  refine meet_step (by omega) (by omega) ?_ (by omega)
  refine Ev.succ ?_
  simp only [voices_circle_meet.l0]
  exact Ev.some _
/-- what two voices need of each other -/
def toneI (a : List Int) (i : Nat) : Int := a.getD i 0
def mvAt (n : Int) (a b l : List Int) (i : Nat) : Int := mvN n (toneI a i) (toneI b (toneI l i).toNat)
theorem rd_toneI (a : List Int) (i : Nat) : rd a (i : Int) = toneI a i := rd_nat a i
theorem mv_all {n : Int} {a b l : List Int} (h : TwoN n a b) (hl : l.length = a.length) (hk : ∀ k ∈ l, 0 ≤ k ∧ k < (a.length : Int)) {i : Nat} (hi : i < a.length) :
    (0 ≤ toneI a i ∧ toneI a i < n) ∧ (0 ≤ toneI l i ∧ toneI l i < (b.length : Int)) ∧ (0 ≤ toneI b (toneI l i).toNat ∧ toneI b (toneI l i).toNat < n) ∧ (-n ≤ 2 * mvAt n a b l i ∧ 2 * mvAt n a b l i ≤ n) := by
  have h1 := h.1.2.2.2.2 _ (getD_mem (l := a) (i := i) hi)
  have h2 := hk _ (getD_mem (l := l) (i := i) (by omega))
  have hab := h.2.2
  have h3 := h.2.1.2.2.2.2 _ (getD_mem (l := b) (i := (l.getD i 0).toNat) (by omega))
  exact ⟨h1, ⟨h2.1, by show l.getD i 0 < _; omega⟩, h3, mvN_bd h.1.1⟩
def meetF (n : Int) (a b l : List Int) (i j : Nat) : Bool := meetB n (toneI a i) (mvAt n a b l i) (toneI a j) (mvAt n a b l j)
def crF (n : Int) (a b l : List Int) (i j : Nat) : Bool := crB n (toneI a i) (mvAt n a b l i) (toneI a j) (mvAt n a b l j)
theorem cross_l1 {n : Int} {a b l : List Int} (h : TwoN n a b) (hl : l.length = a.length) (hk : ∀ k ∈ l, 0 ≤ k ∧ k < (a.length : Int)) {i : Nat} (hi : i < a.length) (r : Bool) (hr : Ev (fun k => voices_circle_cross.l0 k n a b l (a.length : Int) ((i : Int) + 1)) r) : ∀ (m j : Nat) (o : Bool), j + m = i → (o = true ↔ (∃ j', j ≤ j' ∧ j' < i ∧ meetF n a b l i j' = true) ∨ r = true) →
    Ev (fun k => voices_circle_cross.l1 k n a b l (i : Int) (a.length : Int) (i : Int) (i : Int) (j : Int)) o := by
  have hlen := h.1.2.2.2.1
  obtain ⟨x1, x2, x3, x4⟩ := mv_all h hl hk hi
  intro m
  induction m with
  | zero =>
    intro j o hj ho
    have p1 : ¬ (j : Int) < (i : Int) := by omega
    have hi5 : i ≤ 100000 := by omega
    refine Ev.succ ?_
    simp only [voices_circle_cross.l1, if_neg p1, nextJ hi5]
    have : o = r := by
      rw [Bool.eq_iff_iff, ho]
      exact ⟨fun h => h.elim (fun ⟨j', h1, h2, _⟩ => by omega) id, .inr⟩
    rw [this]; exact hr
  | succ m ih =>
    intro j o hj ho
    have hji : j < a.length := by omega
    obtain ⟨y1, y2, y3, y4⟩ := mv_all h hl hk hji
    have p1 : (j : Int) < (i : Int) := by omega
    have q1 : (0 : Int) ≤ (i : Int) := by omega
    have q2 : (i : Int) < (a.length : Int) := by omega
    have q3 : (i : Int) < (l.length : Int) := by omega
    have q4 : (0 : Int) ≤ (j : Int) := by omega
    have q5 : (j : Int) < (a.length : Int) := by omega
    have q6 : (j : Int) < (l.length : Int) := by omega
    have e1 : rd b (toneI l i) = toneI b (toneI l i).toNat := rfl
    have e2 : rd b (toneI l j) = toneI b (toneI l j).toNat := rfl
    have hj5 : j ≤ 100000 := by omega
    have hstep : j + 1 + m = i := by omega
    have go := ih (j + 1)
    refine Ev.succ ?_
    simp only [voices_circle_cross.l1, if_pos p1, if_pos q1, if_pos q2, if_pos q3, if_pos q4, if_pos q5, if_pos q6, rd_toneI, if_pos y2.1, if_pos y2.2, if_pos x2.1, if_pos x2.2, e1, e2]
    refine Ev.bind_some (movement_f h.1.1 h.1.2.1 x1 x3) ?_
    refine Ev.bind_some (movement_f h.1.1 h.1.2.1 y1 y3) ?_
    refine Ev.bind (meet_ev h.1.1 h.1.2.1 x1 y1 x4 y4) ?_
    refine Ev.ite (fun e => ?_) (fun e => ?_)
    · have : o = true := ho.2 (.inl ⟨j, Nat.le_refl _, by omega, e⟩)
      rw [this]; exact Ev.some _
    · rw [nextI hj5]
      refine go o hstep (ho.trans ⟨fun h => h.imp (fun ⟨j', h1, h2, h3⟩ => ⟨j', ?_, h2, h3⟩) id, fun h => h.imp (fun ⟨j', h1, h2, h3⟩ => ⟨j', by omega, h2, h3⟩) id⟩)
      rcases Nat.lt_or_ge j j' with h4 | h4
      · omega
      · obtain rfl : j = j' := by omega
        exact absurd h3 e
theorem cross_ev {n : Int} {a b l : List Int} (h : TwoN n a b) (hl : l.length = a.length) (hk : ∀ k ∈ l, 0 ≤ k ∧ k < (a.length : Int)) (o : Bool) (ho : o = true ↔ ∃ i, i < a.length ∧ ∃ j, j < i ∧ meetF n a b l i j = true) : Ev (fun k => voices_circle_cross.f k n a b l) o := by
  have hlen := h.1.2.2.2.1
  have loop : ∀ (m i : Nat) (o : Bool), i + m = a.length → (o = true ↔ ∃ i', i ≤ i' ∧ i' < a.length ∧ ∃ j, j < i' ∧ meetF n a b l i' j = true) → Ev (fun k => voices_circle_cross.l0 k n a b l (a.length : Int) (i : Int)) o := by
    intro m
    induction m with
    | zero =>
      intro i o hi ho
      have p1 : ¬ (i : Int) < (a.length : Int) := by omega
      refine Ev.succ ?_
      simp only [voices_circle_cross.l0, if_neg p1]
      have : o = false := by
        rw [Bool.eq_false_iff]; intro h1
        obtain ⟨i', h2, h3, _⟩ := ho.1 h1; omega
      rw [this]; exact Ev.some _
    | succ m ih =>
      intro i o hi ho
      have p1 : (i : Int) < (a.length : Int) := by omega
      refine Ev.succ ?_
      simp only [voices_circle_cross.l0, if_pos p1]
      obtain ⟨r, hr⟩ : ∃ r : Bool, r = true ↔ ∃ i', i + 1 ≤ i' ∧ i' < a.length ∧ ∃ j, j < i' ∧ meetF n a b l i' j = true := by
        rcases Classical.em (∃ i', i + 1 ≤ i' ∧ i' < a.length ∧ ∃ j, j < i' ∧ meetF n a b l i' j = true) with h1 | h1
        · exact ⟨true, by simp [h1]⟩
        · exact ⟨false, by simp [h1]⟩
      have go := ih (i + 1) r (by omega) hr
      refine cross_l1 h hl hk (by omega) r go i 0 o (by omega) (ho.trans ?_)
      rw [hr]
      constructor
      · rintro ⟨i', h1, h2, j, h3, h4⟩
        rcases Nat.lt_or_ge i i' with h5 | h5
        · exact .inr ⟨i', h5, h2, j, h3, h4⟩
        · obtain rfl : i = i' := by omega
          exact .inl ⟨j, by omega, h3, h4⟩
      · rintro (⟨j, _, h2, h3⟩ | ⟨i', h1, h2, h3⟩)
        · exact ⟨i, Nat.le_refl _, by omega, j, h2, h3⟩
        · exact ⟨i', by omega, h2, h3⟩
  unfold voices_circle_cross.f
  exact loop a.length 0 o (by omega) (ho.trans ⟨fun ⟨i, h1, h2⟩ => ⟨i, by omega, h1, h2⟩, fun ⟨i, _, h1, h2⟩ => ⟨i, h1, h2⟩⟩)
theorem refCross_l2 {n ap gr : Int} {a b l : List Int} {i j : Nat} {x17 : Int} (hn : 0 ≤ n ∧ n ≤ 16) (hap : -16 ≤ ap ∧ ap ≤ 16) {t : Int} (ht : -10 ≤ t ∧ t ≤ 2) (htn : -160 ≤ t * n ∧ t * n ≤ 160) {r : Bool}
    (h : Ev (fun k => sackbutref06_Cross.l2 k n a b l (i : Int) ap gr (t + 1) (l.length : Int) x17 (l.length : Int) (j : Int)) r) : Ev (fun k => sackbutref06_Cross.l2 k n a b l (i : Int) ap gr t (l.length : Int) x17 (l.length : Int) (j : Int)) (rtB n ap gr t || r) := by
  have hw1 : wrap64 (t + 1) = t + 1 := wrap_id (by omega) (by omega)
  have hw : wrap64 (t * n) = t * n := wrap_id (by omega) (by omega)
  have hw2 : wrap64 (t * n - ap) = t * n - ap := wrap_id (by omega) (by omega)
  refine Ev.succ ?_
  unfold rtB
  simp only [sackbutref06_Cross.l2, if_pos ht.2, hw, hw1, hw2]
  generalize t * n - ap = v
  refine Ev.ite (fun e1 => ?_) (fun e1 => ?_)
  · refine Ev.ite (fun e2 => ?_) (fun e2 => ?_)
    · rw [decide_eq_true (.inl ⟨e1, e2⟩), Bool.true_or]; exact Ev.some _
    · refine Ev.ite (fun e3 => by omega) (fun e3 => ?_)
      rw [decide_eq_false (fun h => by omega), Bool.false_or]; exact h
  · refine Ev.ite (fun e2 => ?_) (fun e2 => ?_)
    · refine Ev.ite (fun e3 => ?_) (fun e3 => ?_)
      · rw [decide_eq_true (.inr ⟨e2, e3⟩), Bool.true_or]; exact Ev.some _
      · rw [decide_eq_false (fun h => by omega), Bool.false_or]; exact h
    · rw [decide_eq_false (fun h => by omega), Bool.false_or]; exact h
theorem refCross_l1 {n : Int} {a b l : List Int} (h : TwoN n a b) (hl : l.length = a.length) (hk : ∀ k ∈ l, 0 ≤ k ∧ k < (a.length : Int)) {i : Nat} (hi : i < a.length) (r : Bool) (hr : Ev (fun k => sackbutref06_Cross.l0 k n a b l (l.length : Int) ((i : Int) + 1)) r) : ∀ (m j : Nat) (o : Bool), j + m = l.length → (o = true ↔ (∃ j', j ≤ j' ∧ j' < l.length ∧ crF n a b l i j' = true) ∨ r = true) →
    Ev (fun k => sackbutref06_Cross.l1 k n a b l (i : Int) (l.length : Int) (i : Int) (l.length : Int) (j : Int)) o := by
  have hlen := h.1.2.2.2.1
  have hn := h.1.1
  have hn2 := h.1.2.1
  obtain ⟨x1, x2, x3, x4⟩ := mv_all h hl hk hi
  intro m
  induction m with
  | zero =>
    intro j o hj ho
    have p1 : ¬ (j : Int) < (l.length : Int) := by omega
    have hi5 : i ≤ 100000 := by omega
    refine Ev.succ ?_
    simp only [sackbutref06_Cross.l1, if_neg p1, nextJ hi5]
    have : o = r := by
      rw [Bool.eq_iff_iff, ho]
      exact ⟨fun h => h.elim (fun ⟨j', h1, h2, _⟩ => by omega) id, .inr⟩
    rw [this]; exact hr
  | succ m ih =>
    intro j o hj ho
    have hji : j < a.length := by omega
    obtain ⟨y1, y2, y3, y4⟩ := mv_all h hl hk hji
    have p1 : (j : Int) < (l.length : Int) := by omega
    have q1 : (0 : Int) ≤ (i : Int) := by omega
    have q2 : (i : Int) < (a.length : Int) := by omega
    have q3 : (i : Int) < (l.length : Int) := by omega
    have q4 : (0 : Int) ≤ (j : Int) := by omega
    have q5 : (j : Int) < (a.length : Int) := by omega
    have e1 : rd b (toneI l i) = toneI b (toneI l i).toNat := rfl
    have e2 : rd b (toneI l j) = toneI b (toneI l j).toNat := rfl
    obtain ⟨s, hs⟩ : ∃ s : Bool, s = true ↔ (∃ j', j + 1 ≤ j' ∧ j' < l.length ∧ crF n a b l i j' = true) ∨ r = true := by
      rcases Classical.em ((∃ j', j + 1 ≤ j' ∧ j' < l.length ∧ crF n a b l i j' = true) ∨ r = true) with h1 | h1
      · exact ⟨true, by simp [h1]⟩
      · exact ⟨false, by simp [h1]⟩
    have go := ih (j + 1) s (by omega) hs
    have hos : o = (crF n a b l i j || s) := by
      rw [Bool.eq_iff_iff, ho, Bool.or_eq_true, hs]
      constructor
      · rintro (⟨j', h1, h2, h3⟩ | h1)
        · rcases Nat.lt_or_ge j j' with h4 | h4
          · exact .inr (.inl ⟨j', h4, h2, h3⟩)
          · obtain rfl : j = j' := by omega
            exact .inl h3
        · exact .inr (.inr h1)
      · rintro (h1 | ⟨j', h1, h2, h3⟩ | h1)
        · exact .inl ⟨j, Nat.le_refl _, by omega, h1⟩
        · exact .inl ⟨j', by omega, h2, h3⟩
        · exact .inr h1
    have hj5 : j ≤ 100000 := by omega
    rw [hos]
    unfold crF crB
    refine Ev.succ ?_
    simp only [sackbutref06_Cross.l1, if_pos p1, if_pos q1, if_pos q2, if_pos q4, if_pos q5, rd_toneI]
    refine Ev.ite (fun e => ?_) (fun e => ?_)
    · rw [decide_eq_false (fun h => h e), Bool.false_and, Bool.false_or, nextI hj5]; exact go
    · rw [decide_eq_true e, Bool.true_and]
      simp only [if_pos q3, if_pos y2.1, if_pos y2.2, if_pos x2.1, if_pos x2.2, e1, e2]
      refine Ev.bind_some (refMove_f hn hn2 x1 x3) ?_
      refine Ev.bind_some (refMove_f hn hn2 y1 y3) ?_
      show Ev (fun k => sackbutref06_Cross.l2 k n a b l (i : Int) (wrap64 (toneI a i - toneI a j)) (wrap64 (mvAt n a b l i - mvAt n a b l j)) (-2) (l.length : Int) (i : Int) (l.length : Int) (j : Int)) _
      rw [wrap_id (n := toneI a i - toneI a j) (by omega) (by omega), wrap_id (n := mvAt n a b l i - mvAt n a b l j) (by omega) (by omega)]
      rw [Bool.or_assoc, Bool.or_assoc, Bool.or_assoc, Bool.or_assoc, Bool.or_assoc, Bool.false_or]
      refine refCross_l2 (by omega) (by omega) (by omega) (by omega) ?_
      refine refCross_l2 (by omega) (by omega) (by omega) (by omega) ?_
      refine refCross_l2 (by omega) (by omega) (by omega) (by omega) ?_
      refine refCross_l2 (by omega) (by omega) (by omega) (by omega) ?_
      refine refCross_l2 (by omega) (by omega) (by omega) (by omega) ?_
      refine Ev.succ ?_
      simp only [sackbutref06_Cross.l2]
      refine Ev.ite (fun h => absurd h (by decide)) (fun _ => ?_)
      rw [nextI hj5]
      exact go
theorem refCross_ev {n : Int} {a b l : List Int} (h : TwoN n a b) (hl : l.length = a.length) (hk : ∀ k ∈ l, 0 ≤ k ∧ k < (a.length : Int)) (o : Bool) (ho : o = true ↔ ∃ i, i < a.length ∧ ∃ j, j < a.length ∧ crF n a b l i j = true) : Ev (fun k => sackbutref06_Cross.f k n a b l) o := by
  have hlen := h.1.2.2.2.1
  have loop : ∀ (m i : Nat) (o : Bool), i + m = l.length → (o = true ↔ ∃ i', i ≤ i' ∧ i' < l.length ∧ ∃ j, j < l.length ∧ crF n a b l i' j = true) → Ev (fun k => sackbutref06_Cross.l0 k n a b l (l.length : Int) (i : Int)) o := by
    intro m
    induction m with
    | zero =>
      intro i o hi ho
      have p1 : ¬ (i : Int) < (l.length : Int) := by omega
      refine Ev.succ ?_
      simp only [sackbutref06_Cross.l0, if_neg p1]
      have : o = false := by
        rw [Bool.eq_false_iff]; intro h1
        obtain ⟨i', h2, h3, _⟩ := ho.1 h1; omega
      rw [this]; exact Ev.some _
    | succ m ih =>
      intro i o hi ho
      have p1 : (i : Int) < (l.length : Int) := by omega
      refine Ev.succ ?_
      simp only [sackbutref06_Cross.l0, if_pos p1]
      obtain ⟨r, hr⟩ : ∃ r : Bool, r = true ↔ ∃ i', i + 1 ≤ i' ∧ i' < l.length ∧ ∃ j, j < l.length ∧ crF n a b l i' j = true := by
        rcases Classical.em (∃ i', i + 1 ≤ i' ∧ i' < l.length ∧ ∃ j, j < l.length ∧ crF n a b l i' j = true) with h1 | h1
        · exact ⟨true, by simp [h1]⟩
        · exact ⟨false, by simp [h1]⟩
      have go := ih (i + 1) r (by omega) hr
      refine refCross_l1 h hl hk (by omega) r go l.length 0 o (by omega) (ho.trans ?_)
      rw [hr]
      constructor
      · rintro ⟨i', h1, h2, j, h3, h4⟩
        rcases Nat.lt_or_ge i i' with h5 | h5
        · exact .inr ⟨i', h5, h2, j, h3, h4⟩
        · obtain rfl : i = i' := by omega
          exact .inl ⟨j, by omega, h3, h4⟩
      · rintro (⟨j, _, h2, h3⟩ | ⟨i', h1, h2, h3⟩)
        · exact ⟨i, Nat.le_refl _, by omega, j, h2, h3⟩
        · exact ⟨i', by omega, h2, h3⟩
  unfold sackbutref06_Cross.f
  rw [hl] at loop ⊢
  exact loop a.length 0 o (by omega) (ho.trans ⟨fun ⟨i, h1, h2⟩ => ⟨i, by omega, h1, h2⟩, fun ⟨i, _, h1, h2⟩ => ⟨i, h1, h2⟩⟩)
def CrossP (n : Int) (a b l : List Int) : Prop := ∃ i, i < a.length ∧ ∃ j, j < a.length ∧ crF n a b l i j = true
noncomputable instance (n : Int) (a b l : List Int) : Decidable (CrossP n a b l) := Classical.propDecidable _
theorem crF_self (n : Int) (a b l : List Int) (i : Nat) : crF n a b l i i = false := by unfold crF crB; simp
theorem cross_iff {n : Int} {a b l : List Int} (h : TwoN n a b) (hl : l.length = a.length) (hk : ∀ k ∈ l, 0 ≤ k ∧ k < (a.length : Int)) : (∃ i, i < a.length ∧ ∃ j, j < i ∧ meetF n a b l i j = true) ↔ CrossP n a b l := by
  have hm : ∀ i j, i < a.length → j < a.length → meetF n a b l i j = crF n a b l i j := fun i j hi hj => by
    obtain ⟨x1, _, _, x4⟩ := mv_all h hl hk hi
    obtain ⟨y1, _, _, y4⟩ := mv_all h hl hk hj
    exact meet_cr x1 y1 x4 y4
  constructor
  · rintro ⟨i, h1, j, h2, h3⟩
    exact ⟨i, h1, j, by omega, by rw [← hm i j h1 (by omega)]; exact h3⟩
  · rintro ⟨i, h1, j, h2, h3⟩
    rcases Nat.lt_trichotomy i j with h4 | h4 | h4
    · refine ⟨j, h2, i, h4, ?_⟩
      rw [hm j i h2 h1]
      unfold crF at h3 ⊢
      rw [crB_symm]; exact h3
    · subst h4; rw [crF_self] at h3; cases h3
    · exact ⟨i, h1, j, h4, by rw [hm i j h1 h2]; exact h3⟩

end Go.Proofs.Ytdnjbjcfbdclfaa.P
namespace Go.Proofs.Ytdnjbjcfbdclfaa.P
open Go.RowKit Go.Proofs.YtdnjbjcfbdclfaaW.PrintWords Go.Proofs.YtdnjbjcfbdclfaaW.PrintLast Go.Proofs.YtdnjbjcfbdclfaaW.PrintMore
attribute [local go_sem] max2_int min2_int max_two min_two max_three min_three max_four min_four   -- for this text's walks alone
set_option linter.unusedVariables false
set_option linter.unusedSimpArgs false

/-! voices.Calm -/
theorem C_two {w : World} {A1 : Option Addr} {c1 : Nat} {l1 : List Int} {A2 : Option Addr} {c2 : Nat} {l2 : List Int} (t : TypeId) (hr1 : Kd.C (Kd.int .i64) w A1 l1.length l1) (hc1 : l1.length ≤ c1) (hr2 : Kd.C (Kd.int .i64) w A2 l2.length l2) (hc2 : l2.length ≤ c2) :
    Kd.C (Kd.slice 3 (Kd.int .i64)) (w.alloc (.cells #[.slice A1 l1.length c1, .slice A2 l2.length c2] t)) (some ⟨w.heap.size, 0, none⟩) 2 [l1, l2] := by
  have hb : Below w.heap.size w (w.alloc (.cells #[.slice A1 l1.length c1, .slice A2 l2.length c2] t)) := below_alloc (Below.refl _ _) _
  have h := World.alloc_heap_new w (.cells #[.slice A1 l1.length c1, .slice A2 l2.length c2] t)
  have d0 : (w.alloc (.cells #[.slice A1 l1.length c1, .slice A2 l2.length c2] t)).cell? ⟨w.heap.size, 0, none⟩ = some (.slice A1 l1.length c1) := by unfold World.cell?; simp only [h]; simp
  have d1 : (w.alloc (.cells #[.slice A1 l1.length c1, .slice A2 l2.length c2] t)).cell? ⟨w.heap.size, 1, none⟩ = some (.slice A2 l2.length c2) := by unfold World.cell?; simp only [h]; simp
  refine ⟨rfl, by decide, fun _ => ⟨_, rfl, fun j p hp => ?_⟩⟩
  match j, hp with
  | 0, hp =>
    cases hp
    refine ⟨[.slice A1 l1.length c1], rfl, ⟨A1, c1, rfl, hc1, Kd.C_below hr1 hb⟩, fun i u hu => ?_⟩
    match i, hu with
    | 0, hu => cases hu; exact d0
  | 1, hp =>
    cases hp
    refine ⟨[.slice A2 l2.length c2], rfl, ⟨A2, c2, rfl, hc2, Kd.C_below hr2 hb⟩, fun i u hu => ?_⟩
    match i, hu with
    | 0, hu => cases hu; exact d1
theorem valid_two (a0 : Int) {w : World} {A1 : Option Addr} {c1 : Nat} {l1 : List Int} {A2 : Option Addr} {c2 : Nat} {l2 : List Int} (t : TypeId) (g : Nat) (hg : w.heap.size = g) (hr1 : Kd.C (Kd.int .i64) w A1 l1.length l1) (hc1 : l1.length ≤ c1) (hr2 : Kd.C (Kd.int .i64) w A2 l2.length l2) (hc2 : l2.length ≤ c2) (d : Bool) (hd : decide (TwoN a0 l1 l2) = d) :
    Calls Try.prog 34 #[.int .i64 a0, .slice (some ⟨g, 0, none⟩) 2 2] (w.alloc (.cells #[.slice A1 l1.length c1, .slice A2 l2.length c2] t)) fun e w' => e = .returned (.bool d) ∧ Drawn0 (w.alloc (.cells #[.slice A1 l1.length c1, .slice A2 l2.length c2] t)) w' := by
  subst hg hd
  obtain ⟨k, hv⟩ := Ev.rounds (g := fun k => voices_circle_valid.f k a0 [l1, l2]) (valid2_ev a0 l1 l2)
  exact voices_circle_valid.calls k a0 _ _ [l1, l2] _ _ (C_two t hr1 hc1 hr2 hc2) (by simp) hv
def crAny (n : Int) (a b l : List Int) : Bool := (List.range a.length).any fun i => (List.range a.length).any fun j => crF n a b l i j
theorem crAny_iff (n : Int) (a b l : List Int) : crAny n a b l = true ↔ CrossP n a b l := by
  unfold crAny CrossP
  simp only [List.any_eq_true, List.mem_range]
def calmP (n : Int) (a b : List Int) (x : List Nat) : Bool := decide (prV n a b x = (bestV n a b).2) && !crAny n a b (nums x)
def calmV (n : Int) (a b : List Int) : Option (List Nat) × Int := bfold (prV n a b) (calmP n a b) (ldg a.length a.length 0 [])
theorem calm_is {n : Int} {a b : List Int} (h : TwoN n a b) {W3 : World} {Aa : Option Addr} {ca : Nat} {Ab : Option Addr} {cb : Nat} {p0 p1 p2 p3 : Addr} (c0 : W3.cell? p0 = some (.int .i64 n)) (c1 : W3.cell? p1 = some (.slice Aa a.length ca)) (c2 : W3.cell? p2 = some (.slice Ab b.length cb)) (c3 : W3.cell? p3 = some (.int .i64 (bestV n a b).2))
    (hra : Kd.C (Kd.int .i64) W3 Aa a.length a) (hca : a.length ≤ ca) (hrb : Kd.C (Kd.int .i64) W3 Ab b.length b) (hcb : b.length ≤ cb) : GivesIs W3 42 #[.pointer (some p0), .pointer (some p1), .pointer (some p2), .pointer (some p3)] (calmP n a b) a.length := by
  intro x A c W hx hl hc hC hB
  obtain ⟨k1, h1⟩ := price_nums h x hx hl
  have hk : ∀ k ∈ nums x, 0 ≤ k ∧ k < (a.length : Int) := fun k hk => by
    unfold nums at hk
    rw [List.mem_map] at hk
    obtain ⟨y, hy, rfl⟩ := hk
    have := hl y hy
    show (0 : Int) ≤ (y : Int) ∧ (y : Int) < _
    omega
  have hlen : (nums x).length = a.length := by rw [nums_length]; exact hx
  obtain ⟨k2, h2⟩ := Ev.rounds (g := fun q => voices_circle_cross.f q n a b (nums x)) (cross_ev h hlen hk (crAny n a b (nums x)) ((crAny_iff _ _ _ _).trans (cross_iff h hlen hk).symm))
  exact calm1_calls n Aa ca a Ab cb b (bestV n a b).2 (prV n a b x) (crAny n a b (nums x)) p0 p1 p2 p3 A c (nums x) k1 k2 W ((hB.cell (World.block_lt_of_cell? W3 _ c0)).trans c0) ((hB.cell (World.block_lt_of_cell? W3 _ c1)).trans c1) ((hB.cell (World.block_lt_of_cell? W3 _ c2)).trans c2) ((hB.cell (World.block_lt_of_cell? W3 _ c3)).trans c3) (Kd.C_below hra hB) hca (Kd.C_below hrb hB) hcb hC hc h1 (fun _ => h2)
theorem best_calm {n : Int} {a b : List Int} (h : TwoN n a b) {W3 : World} {Aa : Option Addr} {ca : Nat} {Ab : Option Addr} {cb : Nat} {p0 p1 p2 p3 : Addr} (c0 : W3.cell? p0 = some (.int .i64 n)) (c1 : W3.cell? p1 = some (.slice Aa a.length ca)) (c2 : W3.cell? p2 = some (.slice Ab b.length cb)) (c3 : W3.cell? p3 = some (.int .i64 (bestV n a b).2))
    (hra : Kd.C (Kd.int .i64) W3 Aa a.length a) (hca : a.length ≤ ca) (hrb : Kd.C (Kd.int .i64) W3 Ab b.length b) (hcb : b.length ≤ cb) :
    Calls Try.prog 35 #[.int .i64 n, .slice Aa a.length ca, .slice Ab b.length cb, .func (.func 42) #[] #[.pointer (some p0), .pointer (some p1), .pointer (some p2), .pointer (some p3)]] W3 (BestPost W3 (calmV n a b).1 (calmV n a b).2) :=
  best_calls W3 n Aa ca a Ab cb b 42 _ (prV n a b) (calmP n a b) (enters_of Try.func42 (by kernel_rfl) rfl) a.length rfl h.1.2.2.1 (by have := h.1.2.2.2.1; omega) (calm_is h c0 c1 c2 c3 hra hca hrb hcb) (price_nums h) hra hca hrb hcb
def voices_Calm.f (a0 : Int) (l1 l2 : List Int) : Option (List Int × Int) := if TwoN a0 l1 l2 then some (optL (calmV a0 l1 l2).1, 0) else some ([], 2)
set_option maxHeartbeats 8000000 in
set_option maxRecDepth 100000 in
theorem voices_Calm.calls (a0 : Int) (A1 : Option Addr) (c1 : Nat) (l1 : List Int) (A2 : Option Addr) (c2 : Nat) (l2 : List Int) (r1 : List Int) (r2 : Int) (w : World) (hr1 : Kd.C (Kd.int .i64) w A1 l1.length l1) (hc1 : l1.length ≤ c1) (hr2 : Kd.C (Kd.int .i64) w A2 l2.length l2) (hc2 : l2.length ≤ c2) (h : voices_Calm.f a0 l1 l2 = some (r1, r2)) :
    Calls Try.prog 23 #[.int .i64 a0, .slice A1 l1.length c1, .slice A2 l2.length c2] w fun e w' => ∃ v0_ : Value, e = .returned (.tuple #[v0_, .int .i64 r2]) ∧ Kd.R (Kd.int .i64) 3 w' w.heap.size (fun _ => True) v0_ r1 ∧ Below w.heap.size w w' := by
  have HR1 := Aside0.mk hr1
  have HR2 := Aside0.mk hr2
  have HC1 := Aside0.mk hc1
  have HC2 := Aside0.mk hc2
  unfold voices_Calm.f at h
  obtain ⟨W1, hW1⟩ : ∃ W1, ((w.alloc (.cells #[.slice A1 l1.length c1] 22)).alloc (.cells #[.slice A2 l2.length c2] 22)).alloc (.cells #[.int .i64 a0] 49) = W1 := ⟨_, rfl⟩
  have z1 : W1.heap.size = w.heap.size + 1 + 1 + 1 := by rw [← hW1]; simp [World.size_alloc]
  have hB1 : Below w.heap.size w W1 := by rw [← hW1]; exact below_alloc (below_alloc (below_alloc (Below.refl _ _) _) _) _
  have d0 : W1.cell? ⟨w.heap.size, 0, none⟩ = some (.slice A1 l1.length c1) := by rw [← hW1]; exact old_cell _ (old_cell _ (new_cell w _ _).1)
  have d1 : W1.cell? ⟨w.heap.size + 1, 0, none⟩ = some (.slice A2 l2.length c2) := by rw [← hW1]; have := (new_cell (w.alloc (.cells #[.slice A1 l1.length c1] 22)) (.slice A2 l2.length c2) 22).1; simp only [World.size_alloc] at this; exact old_cell _ this
  have d2 : W1.cell? ⟨w.heap.size + 1 + 1, 0, none⟩ = some (.int .i64 a0) := by rw [← hW1]; have := (new_cell ((w.alloc (.cells #[.slice A1 l1.length c1] 22)).alloc (.cells #[.slice A2 l2.length c2] 22)) (.int .i64 a0) 49).1; simp only [World.size_alloc] at this; exact this
  have HV := Aside0.mk (fun d hd => valid_two a0 (w := W1) 22 _ z1 (Kd.C_below hr1 hB1) hc1 (Kd.C_below hr2 hB1) hc2 d hd)
  have HB1 := Aside0.mk hB1
  have HW1 := Aside0.mk hW1
  have HZ1 := Aside0.mk z1
  have HD0 := Aside0.mk d0
  have HD1 := Aside0.mk d1
  have HD2 := Aside0.mk d2
  clear hW1 z1 hB1 hr1 hr2 d0 d1 d2 hc1 hc2
  by_cases hc : TwoN a0 l1 l2
  · rw [if_pos hc] at h
    have HT := Aside0.mk hc
    simp only [Option.some.injEq, Prod.mk.injEq] at h
    obtain ⟨hres, rfl⟩ := h
    have HRES := Aside0.mk hres
    have HV := Aside0.mk (HV.out true (decide_eq_true hc))
    clear hc hres
    go_enter Try.func23, Try.ntmps23
    go_wp2_with fail
    rw [HW1.out]
    refine HV.out.mono ?_
    rintro e w' ⟨rfl, ⟨nd, rfl⟩⟩
    obtain ⟨W2, hW2⟩ : ∃ W2, (W1.alloc (.cells #[.slice A1 l1.length c1, .slice A2 l2.length c2] 22)).drewN nd = W2 := ⟨_, rfl⟩
    have hB2 : Below W1.heap.size W1 W2 := by rw [← hW2]; exact pw_below_drewN (below_alloc (Below.refl _ _) _) _
    rw [hW2]
    clear hW2
    have HB2 := Aside0.mk hB2
    have d0 : W2.cell? ⟨w.heap.size, 0, none⟩ = some (.slice A1 l1.length c1) := (hB2.cell (World.block_lt_of_cell? W1 _ HD0.out)).trans HD0.out
    have d1 : W2.cell? ⟨w.heap.size + 1, 0, none⟩ = some (.slice A2 l2.length c2) := (hB2.cell (World.block_lt_of_cell? W1 _ HD1.out)).trans HD1.out
    have d2 : W2.cell? ⟨w.heap.size + 1 + 1, 0, none⟩ = some (.int .i64 a0) := (hB2.cell (World.block_lt_of_cell? W1 _ HD2.out)).trans HD2.out
    clear hB2
    have hmf : ∀ (fn : Fn) (first cap : Array Value) (w : World), (Instr.makeFunc fn first cap).run Try.prog w = .ok (.func fn first cap) w := fun _ _ _ _ => rfl
    have HN2 := Aside0.mk (HB2.out.size)
    have HF := Aside0.mk (best_two HT.out (Kd.C_below (Kd.C_below HR1.out HB1.out) HB2.out) HC1.out (Kd.C_below (Kd.C_below HR2.out HB1.out) HB2.out) HC2.out)
    go_wp2_with fail
    refine HF.out.mono ?_
    rintro e w3 ⟨A9, c9, rfl, hr9, hn9, hb9⟩
    have HB3 := Aside0.mk hb9
    clear hr9 hn9 HF
    replace d0 := (hb9.cell (World.block_lt_of_cell? W2 _ d0)).trans d0
    replace d1 := (hb9.cell (World.block_lt_of_cell? W2 _ d1)).trans d1
    replace d2 := (hb9.cell (World.block_lt_of_cell? W2 _ d2)).trans d2
    clear hb9
    obtain ⟨W4, hW4⟩ : ∃ W4, w3.alloc (.cells #[.int .i64 (bestV a0 l1 l2).2] 3) = W4 := ⟨_, rfl⟩
    have hB4 : Below w3.heap.size w3 W4 := by rw [← hW4]; exact below_alloc (Below.refl _ _) _
    have d3 : W4.cell? ⟨w3.heap.size, 0, none⟩ = some (.int .i64 (bestV a0 l1 l2).2) := by rw [← hW4]; exact (new_cell w3 _ _).1
    replace d0 := (hB4.cell (World.block_lt_of_cell? w3 _ d0)).trans d0
    replace d1 := (hB4.cell (World.block_lt_of_cell? w3 _ d1)).trans d1
    replace d2 := (hB4.cell (World.block_lt_of_cell? w3 _ d2)).trans d2
    have HW4 := Aside0.mk hW4
    have HB4 := Aside0.mk (HB3.out.trans (hB4.mono HB3.out.size))
    clear hB4
    have HK := Aside0.mk (best_calm HT.out d2 d0 d1 d3 (Kd.C_below (Kd.C_below (Kd.C_below HR1.out HB1.out) HB2.out) HB4.out) HC1.out (Kd.C_below (Kd.C_below (Kd.C_below HR2.out HB1.out) HB2.out) HB4.out) HC2.out)
    rw [← hW4] at d0 d1 d2 d3
    clear hW4
    go_wp2_with fail
    rw [HW4.out]
    refine HK.out.mono ?_
    rintro e w5 ⟨A8, c8, rfl, hr8, hn8, hb8⟩
    have HB5 := Aside0.mk (HB1.out.trans ((HB2.out.trans ((HB4.out.trans (hb8.mono HB4.out.size)).mono HB2.out.size)).mono HB1.out.size))
    have HR8 := Aside0.mk (Kd.R_lower hr8 (Nat.le_trans HB1.out.size (Nat.le_trans HB2.out.size HB4.out.size)))
    clear hr8 hn8 hb8 HK d0 d1 d2 d3
    go_wp2
    go_ret2
    exact ⟨_, by first | rfl | simp, by rw [← HRES.out]; exact HR8.out, HB5.out⟩
  · rw [if_neg hc] at h
    simp only [Option.some.injEq, Prod.mk.injEq] at h
    obtain ⟨rfl, rfl⟩ := h
    have HV := Aside0.mk (HV.out false (decide_eq_false hc))
    clear hc
    go_enter Try.func23, Try.ntmps23
    go_wp2_with fail
    rw [HW1.out]
    refine HV.out.mono ?_
    rintro e w' ⟨rfl, ⟨nd, rfl⟩⟩
    go_wp2
    go_ret2
    exact ⟨_, by first | rfl | simp, Kd.R_nil _ _ _ _ _, pw_below_drewN (below_alloc HB1.out _) _⟩

end Go.Proofs.Ytdnjbjcfbdclfaa.P
namespace Go.Proofs.Ytdnjbjcfbdclfaa.P
open Go.RowKit Go.Proofs.YtdnjbjcfbdclfaaW.PrintWords Go.Proofs.YtdnjbjcfbdclfaaW.PrintLast Go.Proofs.YtdnjbjcfbdclfaaW.PrintMore
attribute [local go_sem] max2_int min2_int max_two min_two max_three min_three max_four min_four   -- for this text's walks alone
set_option linter.unusedVariables false
set_option linter.unusedSimpArgs false

/-! ### voices_Price: function 17 -/
def voices_Price.f (k : Nat) (a0 : Int) (l1 : List Int) (l2 : List Int) (l3 : List Int) : Option (Int × Int) := (voices_circle_valid.f k a0 (([l1, l2] : List (List Int)))).bind fun t1004 => (if t1004 = true then ((voices_isLeading.f k l3 (l1.length : Int)).bind fun t1005 => (if t1005 = true then ((voices_circle_price.f k a0 l1 l2 l3).bind fun t1006 => (some (t1006, 0))) else (some (0, 2)))) else (some (0, 2)))
theorem voices_Price.mono : ∀ a0 a1 a2 a3 k, LeO (voices_Price.f k a0 a1 a2 a3) (voices_Price.f (k + 1) a0 a1 a2 a3) := by
  intro a0 a1 a2 a3 k
  unfold voices_Price.f
  repeat' first
      | (with_reducible exact voices_circle_price.mono _ _ _ _ _)
      | (with_reducible exact voices_circle_valid.mono _ _ _)
      | (with_reducible exact voices_isLeading.mono _ _ _)
      | (with_reducible exact LeO.refl _)
      | (with_reducible exact LeO.none _)
      | (with_reducible refine LeO.ite ?_ ?_)
      | (with_reducible refine LeO.bind ?_ (fun _ => ?_))
      | exact voices_circle_price.mono _ _ _ _ _
      | exact voices_circle_valid.mono _ _ _
      | exact voices_isLeading.mono _ _ _
      | exact LeO.none _
      | refine LeO.ite ?_ ?_
      | refine LeO.bind ?_ (fun _ => ?_)
set_option maxHeartbeats 8000000 in
set_option maxRecDepth 100000 in
theorem voices_Price.calls (k : Nat) (a0 : Int) (P1_ : Nat → Prop) (A1 : Option Addr) (c1 : Nat) (l1 : List Int) (P2_ : Nat → Prop) (A2 : Option Addr) (c2 : Nat) (l2 : List Int) (A3 : Option Addr) (c3 : Nat) (l3 : List Int) (r1 : Int) (r2 : Int) (w : World) (hs1 : Kd.V (Kd.int .i64) 3 w w.heap.size (fun k_ => P1_ k_) (.slice A1 l1.length c1) l1) (hs2 : Kd.V (Kd.int .i64) 3 w w.heap.size (fun k_ => P2_ k_) (.slice A2 l2.length c2) l2) (hr3 : Kd.C (Kd.int .i64) w A3 l3.length l3) (hc3 : l3.length ≤ c3) (h : voices_Price.f k a0 l1 l2 l3 = some (r1, r2)) :
    Calls Try.prog 17 #[.int .i64 a0, .slice A1 l1.length c1, .slice A2 l2.length c2, .slice A3 l3.length c3] w fun e w' => e = .returned (.tuple #[.int .i64 r1, .int .i64 r2]) ∧ Below w.heap.size w w' := by
  have HO1 := Aside0.mk (show Kd.V (Kd.int .i64) 3 w w.heap.size (fun k_ => ((P1_ k_ ∨ P2_ k_) ∨ w.heap.size ≤ k_)) (.slice A1 l1.length c1) l1 from Kd.V_mono hs1 (fun k_ hk => .inl (.inl hk)))
  have HO2 := Aside0.mk (show Kd.V (Kd.int .i64) 3 w w.heap.size (fun k_ => ((P1_ k_ ∨ P2_ k_) ∨ w.heap.size ≤ k_)) (.slice A2 l2.length c2) l2 from Kd.V_mono hs2 (fun k_ hk => .inl (.inr hk)))
  have HR3 := Aside0.mk hr3
  have HC3 := Aside0.mk hc3
  clear hr3 hc3
  have HB := Aside0.mk (Below.refl w.heap.size w)
  have H : ((voices_circle_valid.f k a0 (([l1, l2] : List (List Int)))).bind fun t1004 => (if t1004 = true then ((voices_isLeading.f k l3 (l1.length : Int)).bind fun t1005 => (if t1005 = true then ((voices_circle_price.f k a0 l1 l2 l3).bind fun t1006 => (some (t1006, 0))) else (some (0, 2)))) else (some (0, 2)))) = some (r1, r2) := h
  clear h
  obtain ⟨y1001, hy1001⟩ : ∃ y_ : List (List Int), y_ = (([l1, l2] : List (List Int))) := ⟨_, rfl⟩
  replace H : ((voices_circle_valid.f k a0 y1001).bind fun t1004 => (if t1004 = true then ((voices_isLeading.f k l3 (l1.length : Int)).bind fun t1005 => (if t1005 = true then ((voices_circle_price.f k a0 l1 l2 l3).bind fun t1006 => (some (t1006, 0))) else (some (0, 2)))) else (some (0, 2)))) = some (r1, r2) := by first | (rw [hy1001]; with_reducible exact H) | (have H2_ := (Option.bind_some _ _).symm.trans H; rw [hy1001]; with_reducible exact H2_) | (have H2_ := (Option.bind_some _ _).symm.trans H; with_reducible exact H2_) | with_reducible exact H | (rw [hy1001]; exact H) | exact H
  have Ny1001 := Aside0.mk hy1001
  clear hy1001
  replace H := Option.bind_eq_some_iff.mp H
  obtain ⟨t1004, A50, H⟩ := H
  replace H : (if t1004 = true then ((voices_isLeading.f k l3 (l1.length : Int)).bind fun t1005 => (if t1005 = true then ((voices_circle_price.f k a0 l1 l2 l3).bind fun t1006 => (some (t1006, 0))) else (some (0, 2)))) else (some (0, 2))) = some (r1, r2) := H
  have A5 := Aside0.mk A50
  clear A50
  by_cases c6 : t1004 = true
  · subst c6
    have H1 : ((voices_isLeading.f k l3 (l1.length : Int)).bind fun t1005 => (if t1005 = true then ((voices_circle_price.f k a0 l1 l2 l3).bind fun t1006 => (some (t1006, 0))) else (some (0, 2)))) = some (r1, r2) := by rw [if_pos rfl] at H; exact H
    clear H
    have H := H1
    clear H1
    replace H := Option.bind_eq_some_iff.mp H
    obtain ⟨t1005, A70, H⟩ := H
    replace H : (if t1005 = true then ((voices_circle_price.f k a0 l1 l2 l3).bind fun t1006 => (some (t1006, 0))) else (some (0, 2))) = some (r1, r2) := H
    have A7 := Aside0.mk A70
    clear A70
    by_cases c8 : t1005 = true
    · subst c8
      have H1 : ((voices_circle_price.f k a0 l1 l2 l3).bind fun t1006 => (some (t1006, 0))) = some (r1, r2) := by rw [if_pos rfl] at H; exact H
      clear H
      have H := H1
      clear H1
      replace H := Option.bind_eq_some_iff.mp H
      obtain ⟨t1006, A90, H⟩ := H
      replace H : (some (t1006, 0)) = some (r1, r2) := H
      have A9 := Aside0.mk A90
      clear A90
      simp only [Option.some.injEq, Prod.mk.injEq] at H
      obtain ⟨rfl, rfl⟩ := H
      go_enter Try.func17, Try.ntmps17
      go_wp2_with (first | ((with_reducible refine gate_dst (N := 13) rfl ?_); (try (refine gate_guard (by rfl) ?_; dsimp only)); refine Kd.N_lit (Kd.slice 3 (Kd.int .i64)) _ 22 ?hg (N' := 13) ?hd (xs := ([l1, l2] : List (List Int))) (inner := [.slice A1 l1.length c1, .slice A2 l2.length c2]) (ok := (fun k_ => ((P1_ k_ ∨ P2_ k_) ∨ w.heap.size ≤ k_))) (okp := (fun k_ => ((P1_ k_ ∨ P2_ k_) ∨ w.heap.size ≤ k_))) ?hr ?hp (fun _ hk => hk) ((show ∀ k_, w.heap.size ≤ k_ → (fun k_ => ((P1_ k_ ∨ P2_ k_) ∨ w.heap.size ≤ k_)) k_ from fun k_ hk => (.inr (Nat.le_trans (below_size (by repeat (first | (with_reducible first | exact HB.out | apply below_alloc | apply pw_below_drewN | apply below_drew1) | exact HB.out))) hk))) _ (Nat.le_refl _)) (Below.refl _ _) (Nat.le_refl _) (by simp) ?_; (case hd => rfl); (case hg => rfl); (case hr => first | (go_simp; done) | (go_simp; rfl)); (case hp => exact (Reps.one (show Kd.FK (Kd.slice 3 (Kd.int .i64)) _ _ l1 [.slice A1 l1.length c1] from (Kd.FK_slice_mk (Kd.V_reads' (Kd.V_mono (ok' := (fun k_ => ((P1_ k_ ∨ P2_ k_) ∨ w.heap.size ≤ k_))) (HO1.out) (fun k_ hk => hk))).2.1 (Kd.V_F (Kd.V_mono (ok' := (fun k_ => ((P1_ k_ ∨ P2_ k_) ∨ w.heap.size ≤ k_))) (HO1.out) (fun k_ hk => hk))))) (Reps.one (show Kd.FK (Kd.slice 3 (Kd.int .i64)) _ _ l2 [.slice A2 l2.length c2] from (Kd.FK_slice_mk (Kd.V_reads' (Kd.V_mono (ok' := (fun k_ => ((P1_ k_ ∨ P2_ k_) ∨ w.heap.size ≤ k_))) (HO2.out) (fun k_ hk => hk))).2.1 (Kd.V_F (Kd.V_mono (ok' := (fun k_ => ((P1_ k_ ∨ P2_ k_) ∨ w.heap.size ≤ k_))) (HO2.out) (fun k_ hk => hk))))) (Reps.none _ _)))); intro v1002 w10 ho11 hb hg_ hnew_; clear hg_ hnew_; (first | rw [← Ny1001.out] at ho11 | (simp only [Int.reduceToNat] at ho11; rw [← Ny1001.out] at ho11)); have n0_ := Aside0.mk (Kd.V_elder' (by (with_reducible repeat (first | apply Kd.V_alloc | apply Kd.V_drewN | apply Kd.V_drew)); exact HO1.out) (Kd.N_base ho11) hb); have n1_ := Aside0.mk (Kd.V_elder' (by (with_reducible repeat (first | apply Kd.V_alloc | apply Kd.V_drewN | apply Kd.V_drew)); exact HO2.out) (Kd.N_base ho11) hb); have n2_ := Aside0.mk (Kd.N_lower ho11 (below_size (by repeat (first | (with_reducible first | exact HB.out | apply below_alloc | apply pw_below_drewN | apply below_drew1) | exact HB.out)))); have n3_ := Aside0.mk (below_step (by repeat (first | (with_reducible first | exact HB.out | apply below_alloc | apply pw_below_drewN | apply below_drew1) | exact HB.out)) hb); clear HO1; clear HO2; clear HB; have HO1 := n0_; have HO2 := n1_; have HO1003 := n2_; have HB := n3_; clear n0_ n1_ n2_ n3_; clear hb ho11; obtain ⟨Ao12, co12, eo12⟩ := Kd.N_slice HO1003.out; subst eo12) | ((with_reducible refine gate_callee (f := 34) rfl ?_); refine goesL_ (some 14) rfl rfl Try.func34 (by kernel_rfl) rfl #[.int .i64 a0, .slice Ao12 y1001.length co12] rfl (by (try simp only [List.map_toArray, List.map_cons, List.map_nil]); first | done | rfl | (simp only [List.length_drop, List.length_take]; rfl)) ?_; (with_reducible refine (voices_circle_valid.calls k a0 _ _ y1001 true _ ?side1 ?side2 A5.out).mono ?_); (case side1 => repeat (first | exact (Kd.N_reads' HO1003.out).2.2 | (with_reducible refine Kd.C_alloc ?_ _) | (with_reducible refine Kd.C_drewN ?_ _) | (with_reducible refine Kd.C_drew ?_))); (case side2 => exact (Kd.N_reads' HO1003.out).2.1); rintro e w' ⟨rfl, ⟨nd, rfl⟩⟩; refine ⟨_, rfl, ?_⟩) | (go_at_call 39; (with_reducible refine (voices_isLeading.calls k _ _ l3 (l1.length : Int) true _ ?side1 ?side2 A7.out).mono ?_); (case side1 => repeat (first | exact (Kd.C_below HR3.out (by repeat (first | (with_reducible first | exact HB.out | apply below_alloc | apply pw_below_drewN | apply below_drew1) | exact HB.out))) | (with_reducible refine Kd.C_alloc ?_ _) | (with_reducible refine Kd.C_drewN ?_ _) | (with_reducible refine Kd.C_drew ?_))); (case side2 => exact HC3.out); rintro e w' ⟨rfl, ⟨nd, rfl⟩⟩) | ((with_reducible refine gate_callee (f := 40) rfl ?_); refine goesL_ (some 27) rfl rfl Try.func40 (by kernel_rfl) rfl #[.int .i64 a0, .slice A1 l1.length c1, .slice A2 l2.length c2, .slice A3 l3.length c3] rfl (by (try simp only [List.map_toArray, List.map_cons, List.map_nil]); first | done | rfl | (simp only [List.length_drop, List.length_take]; rfl)) ?_; (with_reducible refine (voices_circle_price.calls k a0 _ _ l1 _ _ l2 _ _ l3 t1006 _ ?side1 ?side2 ?side3 ?side4 ?side5 ?side6 A9.out).mono ?_); (case side1 => repeat (first | exact (Kd.V_reads' HO1.out).2.2 | (with_reducible refine Kd.C_alloc ?_ _) | (with_reducible refine Kd.C_drewN ?_ _) | (with_reducible refine Kd.C_drew ?_))); (case side2 => exact (Kd.V_reads' HO1.out).2.1); (case side3 => repeat (first | exact (Kd.V_reads' HO2.out).2.2 | (with_reducible refine Kd.C_alloc ?_ _) | (with_reducible refine Kd.C_drewN ?_ _) | (with_reducible refine Kd.C_drew ?_))); (case side4 => exact (Kd.V_reads' HO2.out).2.1); (case side5 => repeat (first | exact (Kd.C_below HR3.out (by repeat (first | (with_reducible first | exact HB.out | apply below_alloc | apply pw_below_drewN | apply below_drew1) | exact HB.out))) | (with_reducible refine Kd.C_alloc ?_ _) | (with_reducible refine Kd.C_drewN ?_ _) | (with_reducible refine Kd.C_drew ?_))); (case side6 => exact HC3.out); rintro e w13 ⟨rfl, hb⟩; refine ⟨_, rfl, ?_⟩; have n0_ := Aside0.mk (Kd.V_below (by (with_reducible repeat (first | apply Kd.V_alloc | apply Kd.V_drewN | apply Kd.V_drew)); exact HO1.out) hb); have n1_ := Aside0.mk (Kd.V_below (by (with_reducible repeat (first | apply Kd.V_alloc | apply Kd.V_drewN | apply Kd.V_drew)); exact HO2.out) hb); have n2_ := Aside0.mk (Kd.N_below (by (with_reducible repeat (first | apply Kd.N_alloc | apply Kd.N_drewN | apply Kd.N_drew)); exact HO1003.out) hb); have n3_ := Aside0.mk (below_step (by repeat (first | (with_reducible first | exact HB.out | apply below_alloc | apply pw_below_drewN | apply below_drew1) | exact HB.out)) hb); clear HO1; clear HO2; clear HO1003; clear HB; have HO1 := n0_; have HO2 := n1_; have HO1003 := n2_; have HB := n3_; clear n0_ n1_ n2_ n3_; (try clear hb); (try clear hb2); (try clear hk); (try clear hi)))
      go_ret2
      exact ⟨by first | rfl | (simp [errW_none, errW_some] <;> rfl) | (simp [*, errW_none, errW_some] <;> rfl), by repeat (first | (with_reducible first | exact HB.out | apply below_alloc | apply pw_below_drewN | apply below_drew1) | exact HB.out)⟩
    · replace c8 := Bool.eq_false_iff.mpr c8
      subst c8
      have H1 : (some (0, 2)) = some (r1, r2) := by rw [if_neg (show ¬ (false = true) by decide)] at H; exact H
      clear H
      have H := H1
      clear H1
      simp only [Option.some.injEq, Prod.mk.injEq] at H
      obtain ⟨rfl, rfl⟩ := H
      go_enter Try.func17, Try.ntmps17
      go_wp2_with (first | ((with_reducible refine gate_dst (N := 13) rfl ?_); (try (refine gate_guard (by rfl) ?_; dsimp only)); refine Kd.N_lit (Kd.slice 3 (Kd.int .i64)) _ 22 ?hg (N' := 13) ?hd (xs := ([l1, l2] : List (List Int))) (inner := [.slice A1 l1.length c1, .slice A2 l2.length c2]) (ok := (fun k_ => ((P1_ k_ ∨ P2_ k_) ∨ w.heap.size ≤ k_))) (okp := (fun k_ => ((P1_ k_ ∨ P2_ k_) ∨ w.heap.size ≤ k_))) ?hr ?hp (fun _ hk => hk) ((show ∀ k_, w.heap.size ≤ k_ → (fun k_ => ((P1_ k_ ∨ P2_ k_) ∨ w.heap.size ≤ k_)) k_ from fun k_ hk => (.inr (Nat.le_trans (below_size (by repeat (first | (with_reducible first | exact HB.out | apply below_alloc | apply pw_below_drewN | apply below_drew1) | exact HB.out))) hk))) _ (Nat.le_refl _)) (Below.refl _ _) (Nat.le_refl _) (by simp) ?_; (case hd => rfl); (case hg => rfl); (case hr => first | (go_simp; done) | (go_simp; rfl)); (case hp => exact (Reps.one (show Kd.FK (Kd.slice 3 (Kd.int .i64)) _ _ l1 [.slice A1 l1.length c1] from (Kd.FK_slice_mk (Kd.V_reads' (Kd.V_mono (ok' := (fun k_ => ((P1_ k_ ∨ P2_ k_) ∨ w.heap.size ≤ k_))) (HO1.out) (fun k_ hk => hk))).2.1 (Kd.V_F (Kd.V_mono (ok' := (fun k_ => ((P1_ k_ ∨ P2_ k_) ∨ w.heap.size ≤ k_))) (HO1.out) (fun k_ hk => hk))))) (Reps.one (show Kd.FK (Kd.slice 3 (Kd.int .i64)) _ _ l2 [.slice A2 l2.length c2] from (Kd.FK_slice_mk (Kd.V_reads' (Kd.V_mono (ok' := (fun k_ => ((P1_ k_ ∨ P2_ k_) ∨ w.heap.size ≤ k_))) (HO2.out) (fun k_ hk => hk))).2.1 (Kd.V_F (Kd.V_mono (ok' := (fun k_ => ((P1_ k_ ∨ P2_ k_) ∨ w.heap.size ≤ k_))) (HO2.out) (fun k_ hk => hk))))) (Reps.none _ _)))); intro v1002 w14 ho15 hb hg_ hnew_; clear hg_ hnew_; (first | rw [← Ny1001.out] at ho15 | (simp only [Int.reduceToNat] at ho15; rw [← Ny1001.out] at ho15)); have n0_ := Aside0.mk (Kd.V_elder' (by (with_reducible repeat (first | apply Kd.V_alloc | apply Kd.V_drewN | apply Kd.V_drew)); exact HO1.out) (Kd.N_base ho15) hb); have n1_ := Aside0.mk (Kd.V_elder' (by (with_reducible repeat (first | apply Kd.V_alloc | apply Kd.V_drewN | apply Kd.V_drew)); exact HO2.out) (Kd.N_base ho15) hb); have n2_ := Aside0.mk (Kd.N_lower ho15 (below_size (by repeat (first | (with_reducible first | exact HB.out | apply below_alloc | apply pw_below_drewN | apply below_drew1) | exact HB.out)))); have n3_ := Aside0.mk (below_step (by repeat (first | (with_reducible first | exact HB.out | apply below_alloc | apply pw_below_drewN | apply below_drew1) | exact HB.out)) hb); clear HO1; clear HO2; clear HB; have HO1 := n0_; have HO2 := n1_; have HO1003 := n2_; have HB := n3_; clear n0_ n1_ n2_ n3_; clear hb ho15; obtain ⟨Ao16, co16, eo16⟩ := Kd.N_slice HO1003.out; subst eo16) | ((with_reducible refine gate_callee (f := 34) rfl ?_); refine goesL_ (some 14) rfl rfl Try.func34 (by kernel_rfl) rfl #[.int .i64 a0, .slice Ao16 y1001.length co16] rfl (by (try simp only [List.map_toArray, List.map_cons, List.map_nil]); first | done | rfl | (simp only [List.length_drop, List.length_take]; rfl)) ?_; (with_reducible refine (voices_circle_valid.calls k a0 _ _ y1001 true _ ?side1 ?side2 A5.out).mono ?_); (case side1 => repeat (first | exact (Kd.N_reads' HO1003.out).2.2 | (with_reducible refine Kd.C_alloc ?_ _) | (with_reducible refine Kd.C_drewN ?_ _) | (with_reducible refine Kd.C_drew ?_))); (case side2 => exact (Kd.N_reads' HO1003.out).2.1); rintro e w' ⟨rfl, ⟨nd, rfl⟩⟩; refine ⟨_, rfl, ?_⟩) | (go_at_call 39; (with_reducible refine (voices_isLeading.calls k _ _ l3 (l1.length : Int) false _ ?side1 ?side2 A7.out).mono ?_); (case side1 => repeat (first | exact (Kd.C_below HR3.out (by repeat (first | (with_reducible first | exact HB.out | apply below_alloc | apply pw_below_drewN | apply below_drew1) | exact HB.out))) | (with_reducible refine Kd.C_alloc ?_ _) | (with_reducible refine Kd.C_drewN ?_ _) | (with_reducible refine Kd.C_drew ?_))); (case side2 => exact HC3.out); rintro e w' ⟨rfl, ⟨nd, rfl⟩⟩))
      go_ret2
      exact ⟨by first | rfl | (simp [errW_none, errW_some] <;> rfl) | (simp [*, errW_none, errW_some] <;> rfl), by repeat (first | (with_reducible first | exact HB.out | apply below_alloc | apply pw_below_drewN | apply below_drew1) | exact HB.out)⟩
  · replace c6 := Bool.eq_false_iff.mpr c6
    subst c6
    have H1 : (some (0, 2)) = some (r1, r2) := by rw [if_neg (show ¬ (false = true) by decide)] at H; exact H
    clear H
    have H := H1
    clear H1
    simp only [Option.some.injEq, Prod.mk.injEq] at H
    obtain ⟨rfl, rfl⟩ := H
    go_enter Try.func17, Try.ntmps17
    go_wp2_with (first | ((with_reducible refine gate_dst (N := 13) rfl ?_); (try (refine gate_guard (by rfl) ?_; dsimp only)); refine Kd.N_lit (Kd.slice 3 (Kd.int .i64)) _ 22 ?hg (N' := 13) ?hd (xs := ([l1, l2] : List (List Int))) (inner := [.slice A1 l1.length c1, .slice A2 l2.length c2]) (ok := (fun k_ => ((P1_ k_ ∨ P2_ k_) ∨ w.heap.size ≤ k_))) (okp := (fun k_ => ((P1_ k_ ∨ P2_ k_) ∨ w.heap.size ≤ k_))) ?hr ?hp (fun _ hk => hk) ((show ∀ k_, w.heap.size ≤ k_ → (fun k_ => ((P1_ k_ ∨ P2_ k_) ∨ w.heap.size ≤ k_)) k_ from fun k_ hk => (.inr (Nat.le_trans (below_size (by repeat (first | (with_reducible first | exact HB.out | apply below_alloc | apply pw_below_drewN | apply below_drew1) | exact HB.out))) hk))) _ (Nat.le_refl _)) (Below.refl _ _) (Nat.le_refl _) (by simp) ?_; (case hd => rfl); (case hg => rfl); (case hr => first | (go_simp; done) | (go_simp; rfl)); (case hp => exact (Reps.one (show Kd.FK (Kd.slice 3 (Kd.int .i64)) _ _ l1 [.slice A1 l1.length c1] from (Kd.FK_slice_mk (Kd.V_reads' (Kd.V_mono (ok' := (fun k_ => ((P1_ k_ ∨ P2_ k_) ∨ w.heap.size ≤ k_))) (HO1.out) (fun k_ hk => hk))).2.1 (Kd.V_F (Kd.V_mono (ok' := (fun k_ => ((P1_ k_ ∨ P2_ k_) ∨ w.heap.size ≤ k_))) (HO1.out) (fun k_ hk => hk))))) (Reps.one (show Kd.FK (Kd.slice 3 (Kd.int .i64)) _ _ l2 [.slice A2 l2.length c2] from (Kd.FK_slice_mk (Kd.V_reads' (Kd.V_mono (ok' := (fun k_ => ((P1_ k_ ∨ P2_ k_) ∨ w.heap.size ≤ k_))) (HO2.out) (fun k_ hk => hk))).2.1 (Kd.V_F (Kd.V_mono (ok' := (fun k_ => ((P1_ k_ ∨ P2_ k_) ∨ w.heap.size ≤ k_))) (HO2.out) (fun k_ hk => hk))))) (Reps.none _ _)))); intro v1002 w17 ho18 hb hg_ hnew_; clear hg_ hnew_; (first | rw [← Ny1001.out] at ho18 | (simp only [Int.reduceToNat] at ho18; rw [← Ny1001.out] at ho18)); have n0_ := Aside0.mk (Kd.V_elder' (by (with_reducible repeat (first | apply Kd.V_alloc | apply Kd.V_drewN | apply Kd.V_drew)); exact HO1.out) (Kd.N_base ho18) hb); have n1_ := Aside0.mk (Kd.V_elder' (by (with_reducible repeat (first | apply Kd.V_alloc | apply Kd.V_drewN | apply Kd.V_drew)); exact HO2.out) (Kd.N_base ho18) hb); have n2_ := Aside0.mk (Kd.N_lower ho18 (below_size (by repeat (first | (with_reducible first | exact HB.out | apply below_alloc | apply pw_below_drewN | apply below_drew1) | exact HB.out)))); have n3_ := Aside0.mk (below_step (by repeat (first | (with_reducible first | exact HB.out | apply below_alloc | apply pw_below_drewN | apply below_drew1) | exact HB.out)) hb); clear HO1; clear HO2; clear HB; have HO1 := n0_; have HO2 := n1_; have HO1003 := n2_; have HB := n3_; clear n0_ n1_ n2_ n3_; clear hb ho18; obtain ⟨Ao19, co19, eo19⟩ := Kd.N_slice HO1003.out; subst eo19) | ((with_reducible refine gate_callee (f := 34) rfl ?_); refine goesL_ (some 14) rfl rfl Try.func34 (by kernel_rfl) rfl #[.int .i64 a0, .slice Ao19 y1001.length co19] rfl (by (try simp only [List.map_toArray, List.map_cons, List.map_nil]); first | done | rfl | (simp only [List.length_drop, List.length_take]; rfl)) ?_; (with_reducible refine (voices_circle_valid.calls k a0 _ _ y1001 false _ ?side1 ?side2 A5.out).mono ?_); (case side1 => repeat (first | exact (Kd.N_reads' HO1003.out).2.2 | (with_reducible refine Kd.C_alloc ?_ _) | (with_reducible refine Kd.C_drewN ?_ _) | (with_reducible refine Kd.C_drew ?_))); (case side2 => exact (Kd.N_reads' HO1003.out).2.1); rintro e w' ⟨rfl, ⟨nd, rfl⟩⟩; refine ⟨_, rfl, ?_⟩))
    go_ret2
    exact ⟨by first | rfl | (simp [errW_none, errW_some] <;> rfl) | (simp [*, errW_none, errW_some] <;> rfl), by repeat (first | (with_reducible first | exact HB.out | apply below_alloc | apply pw_below_drewN | apply below_drew1) | exact HB.out)⟩

end Go.Proofs.Ytdnjbjcfbdclfaa.P
