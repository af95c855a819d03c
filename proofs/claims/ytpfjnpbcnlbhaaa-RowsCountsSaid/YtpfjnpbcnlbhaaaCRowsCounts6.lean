/- Proved here: the Go function sackbutlaw05.RowsCounts returns true for every input (its printed form comes to true), whatever its arguments. Conditions: none beyond the row's own reach in memory. -/
import Derived.Test.YtpfjnpbcnlbhaaaRows
import Derived.WalkKit
import Derived.ProofKit
import Derived.OpenShut
import Derived.ShutString
import Derived.ChangeOld
import Derived.Below
import Derived.SizedLaws
import Derived.Test.YtpfjnpbcnlbhaaaCRowsCounts1
import Derived.Test.YtpfjnpbcnlbhaaaCRowsCounts2
import Derived.Test.YtpfjnpbcnlbhaaaCRowsCounts3
import Derived.Test.YtpfjnpbcnlbhaaaCRowsCounts4
import Derived.Test.YtpfjnpbcnlbhaaaCRowsCounts5
namespace Go.Proofs.Ytpfjnpbcnlbhaaa.P
open Go.RowKit Go.Proofs.YtpfjnpbcnlbhaaaW.PrintWords Go.Proofs.YtpfjnpbcnlbhaaaW.PrintLast Go.Proofs.YtpfjnpbcnlbhaaaW.PrintMore
attribute [local go_sem] max2_int min2_int max_two min_two max_three min_three max_four min_four   -- for this text's walks alone
set_option linter.unusedVariables false
set_option linter.unusedSimpArgs false

/-! ### sackbutlaw05_RowsCounts: function 14 -/
mutual
def sackbutlaw05_RowsCounts.j0 : Nat → Int → Int → Int → List Int → Int → List (List Int) → Int → Bool → Option (Bool)
  | 0, _, _, _, _, _, _, _, _ => none
  | k + 1, x0, x3, x4, x5, x6, x7, x8, x31 => if x31 = true then (if x3 = 0 then (if (wrap64 ((x5.length : Int) + (x7.length : Int))) = 0 then (if x4 = 2 then (if x6 = 2 then (if x8 = 2 then ((sackbutlaw05_awake.f k).bind fun t1011 => (some t1011)) else (some false)) else (some false)) else (some false)) else (some false)) else (some false)) else ((sackbutref05_Fill.f (([0] : List Int)) x0).bind fun bt1015 => ((sackbutref05_Count.f x0).bind fun t1019 => (if x3 = t1019 then (if x4 = 0 then ((slices_Equal_int_int.f k x5 bt1015.1).bind fun t1020 => (if t1020 = true then (if x6 = bt1015.2 then ((sackbutlaw05_awake.f k).bind fun t1021 => (sackbutlaw05_RowsCounts.j1 k x0 x7 x8 (!t1021))) else (sackbutlaw05_RowsCounts.j1 k x0 x7 x8 true)) else (sackbutlaw05_RowsCounts.j1 k x0 x7 x8 true))) else (sackbutlaw05_RowsCounts.j1 k x0 x7 x8 true)) else (sackbutlaw05_RowsCounts.j1 k x0 x7 x8 true))))
def sackbutlaw05_RowsCounts.j1 : Nat → Int → List (List Int) → Int → Bool → Option (Bool)
  | 0, _, _, _, _ => none
  | k + 1, x0, x7, x8, x85 => if x85 = true then (some false) else (if x0 > 8 then (if (x7.length : Int) = 0 then (some (x8 == 2)) else (some false)) else ((sackbutref05_List.f x0).bind fun t1022 => ((slices_EqualFunc_int_int_int_int.f x7 t1022).bind fun t1025 => (if t1025 = true then (some (x8 == 0)) else (some false)))))
end
def sackbutlaw05_RowsCounts.f (k : Nat) (a0 : Int) : Option (Bool) := (rows_Count.f a0).bind fun bt1001 => ((rows_First.f a0).bind fun bt1003 => ((rows_List.f a0).bind fun bt1007 => (if a0 < 2 then (sackbutlaw05_RowsCounts.j0 k a0 bt1001.1 bt1001.2 bt1003.1 bt1003.2 bt1007.1 bt1007.2 true) else (sackbutlaw05_RowsCounts.j0 k a0 bt1001.1 bt1001.2 bt1003.1 bt1003.2 bt1007.1 bt1007.2 (decide (a0 > 10))))))
theorem sackbutlaw05_RowsCounts.mono_l : ∀ k, (∀ y0 y1 y2 y3 y4 y5 y6 y7, LeO (sackbutlaw05_RowsCounts.j0 k y0 y1 y2 y3 y4 y5 y6 y7) (sackbutlaw05_RowsCounts.j0 (k + 1) y0 y1 y2 y3 y4 y5 y6 y7)) ∧ (∀ y0 y1 y2 y3, LeO (sackbutlaw05_RowsCounts.j1 k y0 y1 y2 y3) (sackbutlaw05_RowsCounts.j1 (k + 1) y0 y1 y2 y3))
  | 0 => ⟨fun _ _ _ _ _ _ _ _ r h => by simp [sackbutlaw05_RowsCounts.j0] at h, fun _ _ _ _ r h => by simp [sackbutlaw05_RowsCounts.j1] at h⟩
  | k + 1 => by
    obtain ⟨ih0, ih1⟩ := sackbutlaw05_RowsCounts.mono_l k
    refine ⟨?_, ?_⟩
    · intro y0 y1 y2 y3 y4 y5 y6 y7
      unfold sackbutlaw05_RowsCounts.j0
      repeat' first
      | (with_reducible exact ih0 _ _ _ _ _ _ _ _)
      | (with_reducible exact ih1 _ _ _ _)
      | (with_reducible exact sackbutlaw05_awake.mono _)
      | (with_reducible exact slices_Equal_int_int.mono _ _ _)
      | (with_reducible exact LeO.refl _)
      | (with_reducible exact LeO.none _)
      | (with_reducible refine LeO.ite ?_ ?_)
      | (with_reducible refine LeO.bind ?_ (fun _ => ?_))
      | exact ih0 _ _ _ _ _ _ _ _
      | exact ih1 _ _ _ _
      | exact sackbutlaw05_awake.mono _
      | exact slices_Equal_int_int.mono _ _ _
      | exact LeO.none _
      | refine LeO.ite ?_ ?_
      | refine LeO.bind ?_ (fun _ => ?_)
    · intro y0 y1 y2 y3
      unfold sackbutlaw05_RowsCounts.j1
      repeat' first
      | (with_reducible exact ih0 _ _ _ _ _ _ _ _)
      | (with_reducible exact ih1 _ _ _ _)
      | (with_reducible exact sackbutlaw05_awake.mono _)
      | (with_reducible exact slices_Equal_int_int.mono _ _ _)
      | (with_reducible exact LeO.refl _)
      | (with_reducible exact LeO.none _)
      | (with_reducible refine LeO.ite ?_ ?_)
      | (with_reducible refine LeO.bind ?_ (fun _ => ?_))
      | exact ih0 _ _ _ _ _ _ _ _
      | exact ih1 _ _ _ _
      | exact sackbutlaw05_awake.mono _
      | exact slices_Equal_int_int.mono _ _ _
      | exact LeO.none _
      | refine LeO.ite ?_ ?_
      | refine LeO.bind ?_ (fun _ => ?_)
theorem sackbutlaw05_RowsCounts.mono : ∀ a0 k, LeO (sackbutlaw05_RowsCounts.f k a0) (sackbutlaw05_RowsCounts.f (k + 1) a0) := by
  intro a0 k
  obtain ⟨ih0, ih1⟩ := sackbutlaw05_RowsCounts.mono_l k
  unfold sackbutlaw05_RowsCounts.f
  repeat' first
      | (with_reducible exact ih0 _ _ _ _ _ _ _ _)
      | (with_reducible exact ih1 _ _ _ _)
      | (with_reducible exact sackbutlaw05_awake.mono _)
      | (with_reducible exact slices_Equal_int_int.mono _ _ _)
      | (with_reducible exact LeO.refl _)
      | (with_reducible exact LeO.none _)
      | (with_reducible refine LeO.ite ?_ ?_)
      | (with_reducible refine LeO.bind ?_ (fun _ => ?_))
      | exact ih0 _ _ _ _ _ _ _ _
      | exact ih1 _ _ _ _
      | exact sackbutlaw05_awake.mono _
      | exact slices_Equal_int_int.mono _ _ _
      | exact LeO.none _
      | refine LeO.ite ?_ ?_
      | refine LeO.bind ?_ (fun _ => ?_)
set_option maxHeartbeats 8000000 in
set_option maxRecDepth 100000 in
theorem sackbutlaw05_RowsCounts.calls (k : Nat) (a0 : Int) (r : Bool) (w : World) (h : sackbutlaw05_RowsCounts.f k a0 = some r) :
    Calls Try.prog 14 #[.int .i64 a0] w fun e w' => e = .returned (.bool r) ∧ Below w.heap.size w w' := by
  have HB := Aside0.mk (Below.refl w.heap.size w)
  have H : ((rows_Count.f a0).bind fun bt1001 => ((rows_First.f a0).bind fun bt1003 => ((rows_List.f a0).bind fun bt1007 => (if a0 < 2 then (sackbutlaw05_RowsCounts.j0 k a0 bt1001.1 bt1001.2 bt1003.1 bt1003.2 bt1007.1 bt1007.2 true) else (sackbutlaw05_RowsCounts.j0 k a0 bt1001.1 bt1001.2 bt1003.1 bt1003.2 bt1007.1 bt1007.2 (decide (a0 > 10))))))) = some r := h
  clear h
  replace H := Option.bind_eq_some_iff.mp H
  obtain ⟨⟨t1001, t1002⟩, A20, H⟩ := H
  replace H : ((rows_First.f a0).bind fun bt1003 => ((rows_List.f a0).bind fun bt1007 => (if a0 < 2 then (sackbutlaw05_RowsCounts.j0 k a0 t1001 t1002 bt1003.1 bt1003.2 bt1007.1 bt1007.2 true) else (sackbutlaw05_RowsCounts.j0 k a0 t1001 t1002 bt1003.1 bt1003.2 bt1007.1 bt1007.2 (decide (a0 > 10)))))) = some r := H
  have A2 := Aside0.mk A20
  clear A20
  replace H := Option.bind_eq_some_iff.mp H
  obtain ⟨⟨t1003, t1004⟩, A30, H⟩ := H
  replace H : ((rows_List.f a0).bind fun bt1007 => (if a0 < 2 then (sackbutlaw05_RowsCounts.j0 k a0 t1001 t1002 t1003 t1004 bt1007.1 bt1007.2 true) else (sackbutlaw05_RowsCounts.j0 k a0 t1001 t1002 t1003 t1004 bt1007.1 bt1007.2 (decide (a0 > 10))))) = some r := H
  have A3 := Aside0.mk A30
  clear A30
  replace H := Option.bind_eq_some_iff.mp H
  obtain ⟨⟨t1007, t1008⟩, A40, H⟩ := H
  replace H : (if a0 < 2 then (sackbutlaw05_RowsCounts.j0 k a0 t1001 t1002 t1003 t1004 t1007 t1008 true) else (sackbutlaw05_RowsCounts.j0 k a0 t1001 t1002 t1003 t1004 t1007 t1008 (decide (a0 > 10)))) = some r := H
  have A4 := Aside0.mk A40
  clear A40
  have HC5 := Aside0.mk H
  clear H
  go_enter Try.func14, Try.ntmps14
  go_upto_region 4 with (first | ((with_reducible refine gate_callee (f := 40) rfl ?_); refine goesL_ (some 13) rfl rfl Try.func40 (by kernel_rfl) rfl #[.int .i64 a0] rfl (by (try simp only [List.map_toArray, List.map_cons, List.map_nil]); first | done | rfl | (simp only [List.length_drop, List.length_take]; rfl)) ?_; (with_reducible refine (rows_Count.calls a0 t1001 t1002 _ A2.out).mono ?_); rintro e w6 ⟨rfl, hb⟩; refine ⟨_, rfl, ?_⟩; have n0_ := Aside0.mk (below_step (by repeat (first | (with_reducible first | exact HB.out | apply below_alloc | apply pw_below_drewN | apply below_drew1) | exact HB.out)) hb); clear HB; have HB := n0_; clear n0_; (try clear hb); (try clear hb2); (try clear hk); (try clear hi)) | ((with_reducible refine gate_callee (f := 41) rfl ?_); refine goesL_ (some 18) rfl rfl Try.func41 (by kernel_rfl) rfl #[.int .i64 a0] rfl (by (try simp only [List.map_toArray, List.map_cons, List.map_nil]); first | done | rfl | (simp only [List.length_drop, List.length_take]; rfl)) ?_; (with_reducible refine (rows_First.calls a0 t1003 t1004 _ A3.out).mono ?_); rintro e w7 ⟨v1005, rfl, ho0, hb⟩; refine ⟨_, rfl, ?_⟩; have n0_ := Aside0.mk (Kd.R_lower ho0 (below_size (by repeat (first | (with_reducible first | exact HB.out | apply below_alloc | apply pw_below_drewN | apply below_drew1) | exact HB.out)))); have n1_ := Aside0.mk (below_step (by repeat (first | (with_reducible first | exact HB.out | apply below_alloc | apply pw_below_drewN | apply below_drew1) | exact HB.out)) hb); clear HB; have HO1006 := n0_; have HB := n1_; clear n0_ n1_; (try clear hb); (try clear hb2); (try clear hk); (try clear hi); (try clear ho0)) | ((with_reducible refine gate_callee (f := 42) rfl ?_); refine goesL_ (some 23) rfl rfl Try.func42 (by kernel_rfl) rfl #[.int .i64 a0] rfl (by (try simp only [List.map_toArray, List.map_cons, List.map_nil]); first | done | rfl | (simp only [List.length_drop, List.length_take]; rfl)) ?_; (with_reducible refine (rows_List.calls a0 t1007 t1008 _ A4.out).mono ?_); rintro e w8 ⟨v1009, rfl, ho0, hb⟩; refine ⟨_, rfl, ?_⟩; have n0_ := Aside0.mk (Kd.R_below (by (with_reducible repeat (first | apply Kd.R_alloc | apply Kd.R_drewN | apply Kd.R_drew)); exact HO1006.out) hb); have n1_ := Aside0.mk (Kd.S_lower (Kd.S_new' ho0 (Kd.R_lt (by (with_reducible repeat (first | apply Kd.R_alloc | apply Kd.R_drewN | apply Kd.R_drew)); exact HO1006.out))) (below_size (by repeat (first | (with_reducible first | exact HB.out | apply below_alloc | apply pw_below_drewN | apply below_drew1) | exact HB.out)))); have n2_ := Aside0.mk (below_step (by repeat (first | (with_reducible first | exact HB.out | apply below_alloc | apply pw_below_drewN | apply below_drew1) | exact HB.out)) hb); clear HO1006; clear HB; have HO1006 := n0_; have HO1010 := n1_; have HB := n2_; clear n0_ n1_ n2_; (try clear hb); (try clear hb2); (try clear hk); (try clear hi); (try clear ho0)))
  (try simp only [Act.put, List.setIfInBounds_toArray, List.set_cons_zero, List.set_cons_succ])
  go_cut [31] (fun v31 wc => ∃ (kq : Nat) (x31_4 : Bool), v31 = .bool x31_4 ∧ Aside0 (sackbutlaw05_RowsCounts.j0 kq a0 t1001 t1002 t1003 t1004 t1007 t1008 x31_4 = some r) ∧ Aside0 (kq ≤ k) ∧ Aside0 (Kd.R (Kd.int .i64) 3 wc w.heap.size (fun _ => True) v1005 t1003) ∧ Aside0 (Kd.S (Kd.slice 3 (Kd.int .i64)) 22 wc w.heap.size (fun k_ => some k_ ≠ (v1005 : Value).ownBlock) v1009 t1007) ∧ Aside0 (Below w.heap.size w wc))
  case first =>
    have H := HC5.out
    clear HC5
    by_cases c9 : a0 < 2
    · rw [if_pos c9] at H
      have c9b0 : decide (a0 < 2) = true := decide_eq_true c9
      clear c9
      (first | rw [c9b0] | (simp only [i64_w, i32_w]; rw [c9b0]) | skip)
      have H' := Aside0.mk H
      clear H
      go_wp2
      go_meet
      case rel => exact ⟨_, (true), (by first | rfl | (simp; done) | (simp [*]; done)), H', ⟨by first | omega | exact Nat.le_refl _⟩, ⟨by (with_reducible repeat (first | apply Kd.R_alloc | apply Kd.R_drewN | apply Kd.R_drew)); exact HO1006.out⟩, ⟨by (with_reducible repeat (first | apply Kd.S_alloc | apply Kd.S_drewN | apply Kd.S_drew)); exact Kd.S_mono HO1010.out (fun _ hk => hk.2)⟩, ⟨by repeat (first | (with_reducible first | exact HB.out | apply below_alloc | apply pw_below_drewN | apply below_drew1) | exact HB.out)⟩⟩
    · rw [if_neg c9] at H
      have c9b0 : decide (a0 < 2) = false := decide_eq_false c9
      clear c9
      (first | rw [c9b0] | (simp only [i64_w, i32_w]; rw [c9b0]) | skip)
      have H' := Aside0.mk H
      clear H
      go_wp2
      go_meet
      case rel => exact ⟨_, (decide (a0 > 10)), (by first | rfl | (simp; done) | (simp [*]; done)), H', ⟨by first | omega | exact Nat.le_refl _⟩, ⟨by (with_reducible repeat (first | apply Kd.R_alloc | apply Kd.R_drewN | apply Kd.R_drew)); exact HO1006.out⟩, ⟨by (with_reducible repeat (first | apply Kd.S_alloc | apply Kd.S_drewN | apply Kd.S_drew)); exact Kd.S_mono HO1010.out (fun _ hk => hk.2)⟩, ⟨by repeat (first | (with_reducible first | exact HB.out | apply below_alloc | apply pw_below_drewN | apply below_drew1) | exact HB.out)⟩⟩
  case rest =>
    clear HC5
    try clear c1
    try clear p2
    try clear c4
    try clear c9
    try clear c9b0
    obtain ⟨kq, x31_4, rfl, HA, HJ4, HO_5, HO_7, HB⟩ := hcut
    cases kq with
    | zero => exact absurd HA.out (by simp [sackbutlaw05_RowsCounts.j0])
    | succ kj4 =>
      have H := HA.out
      clear HA
      simp only [sackbutlaw05_RowsCounts.j0] at H
      by_cases c10 : x31_4 = true
      · subst c10
        have H1 : (if t1001 = 0 then (if (wrap64 ((t1003.length : Int) + (t1007.length : Int))) = 0 then (if t1002 = 2 then (if t1004 = 2 then (if t1008 = 2 then ((sackbutlaw05_awake.f kj4).bind fun t1011 => (some t1011)) else (some false)) else (some false)) else (some false)) else (some false)) else (some false)) = some r := by rw [if_pos rfl] at H; exact H
        clear H
        have H := H1
        clear H1
        by_cases c11 : t1001 = 0
        · rw [if_pos c11] at H
          have c11b0 : (t1001 == 0) = true := beq_iff_eq.mpr c11
          have c11b1 : (t1001 != 0) = false := bne_eq_false_iff_eq.mpr c11
          clear c11
          by_cases c12 : (wrap64 ((t1003.length : Int) + (t1007.length : Int))) = 0
          · rw [if_pos c12] at H
            have c12b0 : ((wrap64 ((t1003.length : Int) + (t1007.length : Int))) == 0) = true := beq_iff_eq.mpr c12
            have c12b1 : ((wrap64 ((t1003.length : Int) + (t1007.length : Int))) != 0) = false := bne_eq_false_iff_eq.mpr c12
            clear c12
            by_cases c13 : t1002 = 2
            · rw [if_pos c13] at H
              have c13b0 : (t1002 == 2) = true := beq_iff_eq.mpr c13
              have c13b1 : (t1002 != 2) = false := bne_eq_false_iff_eq.mpr c13
              clear c13
              by_cases c14 : t1004 = 2
              · rw [if_pos c14] at H
                have c14b0 : (t1004 == 2) = true := beq_iff_eq.mpr c14
                have c14b1 : (t1004 != 2) = false := bne_eq_false_iff_eq.mpr c14
                clear c14
                by_cases c15 : t1008 = 2
                · rw [if_pos c15] at H
                  have c15b0 : (t1008 == 2) = true := beq_iff_eq.mpr c15
                  have c15b1 : (t1008 != 2) = false := bne_eq_false_iff_eq.mpr c15
                  clear c15
                  replace H := Option.bind_eq_some_iff.mp H
                  obtain ⟨t1011, A160, H⟩ := H
                  replace H : (some t1011) = some r := H
                  have A16 := Aside0.mk A160
                  clear A160
                  obtain rfl := Option.some.inj H
                  obtain ⟨Ao17, co17, eo17⟩ := Kd.R_slice HO_5.out
                  subst eo17
                  obtain ⟨Ao18, co18, eo18⟩ := Kd.S_slice HO_7.out
                  subst eo18
                  go_wp2_with (first | (go_at_call 19; (with_reducible refine (sackbutlaw05_awake.calls kj4  t1011 _ A16.out).mono ?_); rintro e w19 ⟨rfl, hb⟩; have n0_ := Aside0.mk (Kd.R_below (by (with_reducible repeat (first | apply Kd.R_alloc | apply Kd.R_drewN | apply Kd.R_drew)); exact HO_5.out) hb); have n1_ := Aside0.mk (Kd.S_below (by (with_reducible repeat (first | apply Kd.S_alloc | apply Kd.S_drewN | apply Kd.S_drew)); exact HO_7.out) hb); have n2_ := Aside0.mk (below_step (by repeat (first | (with_reducible first | exact HB.out | apply below_alloc | apply pw_below_drewN | apply below_drew1) | exact HB.out)) hb); clear HO_5; clear HO_7; clear HB; have HO_5 := n0_; have HO_7 := n1_; have HB := n2_; clear n0_ n1_ n2_; (try clear hb); (try clear hb2); (try clear hk); (try clear hi)))
                  go_ret
                  exact ⟨by first | rfl | (simp [errW_none, errW_some] <;> rfl) | (simp [*, errW_none, errW_some] <;> rfl), by repeat (first | (with_reducible first | exact HB.out | apply below_alloc | apply pw_below_drewN | apply below_drew1) | exact HB.out)⟩
                · rw [if_neg c15] at H
                  have c15b0 : (t1008 == 2) = false := beq_eq_false_iff_ne.mpr c15
                  have c15b1 : (t1008 != 2) = true := bne_iff_ne.mpr c15
                  obtain rfl := Option.some.inj H
                  obtain ⟨Ao20, co20, eo20⟩ := Kd.R_slice HO_5.out
                  subst eo20
                  obtain ⟨Ao21, co21, eo21⟩ := Kd.S_slice HO_7.out
                  subst eo21
                  go_wp2
                  go_ret
                  exact ⟨by first | rfl | (simp [errW_none, errW_some] <;> rfl) | (simp [*, errW_none, errW_some] <;> rfl), by repeat (first | (with_reducible first | exact HB.out | apply below_alloc | apply pw_below_drewN | apply below_drew1) | exact HB.out)⟩
              · rw [if_neg c14] at H
                have c14b0 : (t1004 == 2) = false := beq_eq_false_iff_ne.mpr c14
                have c14b1 : (t1004 != 2) = true := bne_iff_ne.mpr c14
                obtain rfl := Option.some.inj H
                obtain ⟨Ao22, co22, eo22⟩ := Kd.R_slice HO_5.out
                subst eo22
                obtain ⟨Ao23, co23, eo23⟩ := Kd.S_slice HO_7.out
                subst eo23
                go_wp2
                go_ret
                exact ⟨by first | rfl | (simp [errW_none, errW_some] <;> rfl) | (simp [*, errW_none, errW_some] <;> rfl), by repeat (first | (with_reducible first | exact HB.out | apply below_alloc | apply pw_below_drewN | apply below_drew1) | exact HB.out)⟩
            · rw [if_neg c13] at H
              have c13b0 : (t1002 == 2) = false := beq_eq_false_iff_ne.mpr c13
              have c13b1 : (t1002 != 2) = true := bne_iff_ne.mpr c13
              obtain rfl := Option.some.inj H
              obtain ⟨Ao24, co24, eo24⟩ := Kd.R_slice HO_5.out
              subst eo24
              obtain ⟨Ao25, co25, eo25⟩ := Kd.S_slice HO_7.out
              subst eo25
              go_wp2
              go_ret
              exact ⟨by first | rfl | (simp [errW_none, errW_some] <;> rfl) | (simp [*, errW_none, errW_some] <;> rfl), by repeat (first | (with_reducible first | exact HB.out | apply below_alloc | apply pw_below_drewN | apply below_drew1) | exact HB.out)⟩
          · rw [if_neg c12] at H
            have c12b0 : ((wrap64 ((t1003.length : Int) + (t1007.length : Int))) == 0) = false := beq_eq_false_iff_ne.mpr c12
            have c12b1 : ((wrap64 ((t1003.length : Int) + (t1007.length : Int))) != 0) = true := bne_iff_ne.mpr c12
            obtain rfl := Option.some.inj H
            obtain ⟨Ao26, co26, eo26⟩ := Kd.R_slice HO_5.out
            subst eo26
            obtain ⟨Ao27, co27, eo27⟩ := Kd.S_slice HO_7.out
            subst eo27
            go_wp2
            go_ret
            exact ⟨by first | rfl | (simp [errW_none, errW_some] <;> rfl) | (simp [*, errW_none, errW_some] <;> rfl), by repeat (first | (with_reducible first | exact HB.out | apply below_alloc | apply pw_below_drewN | apply below_drew1) | exact HB.out)⟩
        · rw [if_neg c11] at H
          have c11b0 : (t1001 == 0) = false := beq_eq_false_iff_ne.mpr c11
          have c11b1 : (t1001 != 0) = true := bne_iff_ne.mpr c11
          obtain rfl := Option.some.inj H
          go_wp2
          go_ret
          exact ⟨by first | rfl | (simp [errW_none, errW_some] <;> rfl) | (simp [*, errW_none, errW_some] <;> rfl), by repeat (first | (with_reducible first | exact HB.out | apply below_alloc | apply pw_below_drewN | apply below_drew1) | exact HB.out)⟩
      · replace c10 := Bool.eq_false_iff.mpr c10
        subst c10
        have H1 : ((sackbutref05_Fill.f (([0] : List Int)) a0).bind fun bt1015 => ((sackbutref05_Count.f a0).bind fun t1019 => (if t1001 = t1019 then (if t1002 = 0 then ((slices_Equal_int_int.f kj4 t1003 bt1015.1).bind fun t1020 => (if t1020 = true then (if t1004 = bt1015.2 then ((sackbutlaw05_awake.f kj4).bind fun t1021 => (sackbutlaw05_RowsCounts.j1 kj4 a0 t1007 t1008 (!t1021))) else (sackbutlaw05_RowsCounts.j1 kj4 a0 t1007 t1008 true)) else (sackbutlaw05_RowsCounts.j1 kj4 a0 t1007 t1008 true))) else (sackbutlaw05_RowsCounts.j1 kj4 a0 t1007 t1008 true)) else (sackbutlaw05_RowsCounts.j1 kj4 a0 t1007 t1008 true)))) = some r := by rw [if_neg (show ¬ (false = true) by decide)] at H; exact H
        clear H
        have H := H1
        clear H1
        obtain ⟨y1012, hy1012⟩ : ∃ y_ : List Int, y_ = (([0] : List Int)) := ⟨_, rfl⟩
        replace H : ((sackbutref05_Fill.f y1012 a0).bind fun bt1015 => ((sackbutref05_Count.f a0).bind fun t1019 => (if t1001 = t1019 then (if t1002 = 0 then ((slices_Equal_int_int.f kj4 t1003 bt1015.1).bind fun t1020 => (if t1020 = true then (if t1004 = bt1015.2 then ((sackbutlaw05_awake.f kj4).bind fun t1021 => (sackbutlaw05_RowsCounts.j1 kj4 a0 t1007 t1008 (!t1021))) else (sackbutlaw05_RowsCounts.j1 kj4 a0 t1007 t1008 true)) else (sackbutlaw05_RowsCounts.j1 kj4 a0 t1007 t1008 true))) else (sackbutlaw05_RowsCounts.j1 kj4 a0 t1007 t1008 true)) else (sackbutlaw05_RowsCounts.j1 kj4 a0 t1007 t1008 true)))) = some r := by first | (rw [hy1012]; with_reducible exact H) | (have H2_ := (Option.bind_some _ _).symm.trans H; rw [hy1012]; with_reducible exact H2_) | (have H2_ := (Option.bind_some _ _).symm.trans H; with_reducible exact H2_) | with_reducible exact H | (rw [hy1012]; exact H) | exact H
        have Ny1012 := Aside0.mk hy1012
        clear hy1012
        replace H := Option.bind_eq_some_iff.mp H
        obtain ⟨⟨t1015, t1016⟩, A280, H⟩ := H
        replace H : ((sackbutref05_Count.f a0).bind fun t1019 => (if t1001 = t1019 then (if t1002 = 0 then ((slices_Equal_int_int.f kj4 t1003 t1015).bind fun t1020 => (if t1020 = true then (if t1004 = t1016 then ((sackbutlaw05_awake.f kj4).bind fun t1021 => (sackbutlaw05_RowsCounts.j1 kj4 a0 t1007 t1008 (!t1021))) else (sackbutlaw05_RowsCounts.j1 kj4 a0 t1007 t1008 true)) else (sackbutlaw05_RowsCounts.j1 kj4 a0 t1007 t1008 true))) else (sackbutlaw05_RowsCounts.j1 kj4 a0 t1007 t1008 true)) else (sackbutlaw05_RowsCounts.j1 kj4 a0 t1007 t1008 true))) = some r := H
        have A28 := Aside0.mk A280
        clear A280
        have HC29 := Aside0.mk H
        clear H
        go_upto_region 7 with (first | ((with_reducible refine gate_dst (N := 58) rfl ?_); (try (refine gate_guard (by rfl) ?_; dsimp only)); refine Kd.R_lit (Kd.int .i64) _ 3 ?hg (N := 58) ?hd (xs := ([0] : List Int)) (inner := [.int .i64 0]) (ok := fun _ => True) (okp := fun _ => True) ?hr ?hp (fun _ hk => hk) trivial (Below.refl _ _) (Nat.le_refl _) (by simp) ?_; (case hd => rfl); (case hg => rfl); (case hr => first | (go_simp; done) | (go_simp; rfl)); (case hp => exact (Reps.one (show Kd.M (Kd.int .i64) _ _ _ 0 [.int .i64 0] from rfl) (Reps.none _ _))); intro v1013 w30 ho31 hb hg_ hnew_; clear hg_ hnew_; (first | rw [← Ny1012.out] at ho31 | (simp only [Int.reduceToNat] at ho31; rw [← Ny1012.out] at ho31)); have n0_ := Aside0.mk (Kd.R_elder' (by (with_reducible repeat (first | apply Kd.R_alloc | apply Kd.R_drewN | apply Kd.R_drew)); exact HO_5.out) (Kd.R_base ho31) hb); have n1_ := Aside0.mk (Kd.S_elder' (by (with_reducible repeat (first | apply Kd.S_alloc | apply Kd.S_drewN | apply Kd.S_drew)); exact HO_7.out) (Kd.R_base ho31) hb); have n2_ := Aside0.mk (Kd.R_lower (Kd.R_new' ho31 (Kd.R_lt (by (with_reducible repeat (first | apply Kd.R_alloc | apply Kd.R_drewN | apply Kd.R_drew)); exact HO_5.out))) (below_size (by repeat (first | (with_reducible first | exact HB.out | apply below_alloc | apply pw_below_drewN | apply below_drew1) | exact HB.out)))); have n3_ := Aside0.mk (below_step (by repeat (first | (with_reducible first | exact HB.out | apply below_alloc | apply pw_below_drewN | apply below_drew1) | exact HB.out)) hb); clear HO_5; clear HO_7; clear HB; have HO_5 := n0_; have HO_7 := n1_; have HO1014 := n2_; have HB := n3_; clear n0_ n1_ n2_ n3_; clear hb ho31; obtain ⟨Ao32, co32, eo32⟩ := Kd.R_slice HO1014.out; subst eo32) | ((with_reducible refine gate_callee (f := 35) rfl ?_); refine goesL_ (some 60) rfl rfl Try.func35 (by kernel_rfl) rfl #[.slice Ao32 y1012.length co32, .int .i64 a0] rfl (by (try simp only [List.map_toArray, List.map_cons, List.map_nil]); first | done | rfl | (simp only [List.length_drop, List.length_take]; rfl)) ?_; (with_reducible refine (sackbutref05_Fill.calls _ _ y1012 a0 t1015 t1016 _ ?side1 ?side2 A28.out).mono ?_); (case side1 => repeat (first | exact (Kd.R_reads' HO1014.out).2.2 | (with_reducible refine Kd.C_alloc ?_ _) | (with_reducible refine Kd.C_drewN ?_ _) | (with_reducible refine Kd.C_drew ?_))); (case side2 => exact (Kd.R_reads' HO1014.out).2.1); rintro e w33 ⟨v1017, rfl, ho0, hb⟩; refine ⟨_, rfl, ?_⟩; have n0_ := Aside0.mk (Kd.R_elder' (by (with_reducible repeat (first | apply Kd.R_alloc | apply Kd.R_drewN | apply Kd.R_drew)); exact HO_5.out) (Kd.R_base ho0) hb); have n1_ := Aside0.mk (Kd.S_elder' (by (with_reducible repeat (first | apply Kd.S_alloc | apply Kd.S_drewN | apply Kd.S_drew)); exact HO_7.out) (Kd.R_base ho0) hb); have n2_ := Aside0.mk (Kd.R_elder' (by (with_reducible repeat (first | apply Kd.R_alloc | apply Kd.R_drewN | apply Kd.R_drew)); exact HO1014.out) (Kd.R_base ho0) hb); have n3_ := Aside0.mk (Kd.R_lower (Kd.R_new' (Kd.R_new' ho0 (Kd.R_lt (by (with_reducible repeat (first | apply Kd.R_alloc | apply Kd.R_drewN | apply Kd.R_drew)); exact HO_5.out))) (Kd.R_lt (by (with_reducible repeat (first | apply Kd.R_alloc | apply Kd.R_drewN | apply Kd.R_drew)); exact HO1014.out))) (below_size (by repeat (first | (with_reducible first | exact HB.out | apply below_alloc | apply pw_below_drewN | apply below_drew1) | exact HB.out)))); have n4_ := Aside0.mk (below_step (by repeat (first | (with_reducible first | exact HB.out | apply below_alloc | apply pw_below_drewN | apply below_drew1) | exact HB.out)) hb); clear HO_5; clear HO_7; clear HO1014; clear HB; have HO_5 := n0_; have HO_7 := n1_; have HO1014 := n2_; have HO1018 := n3_; have HB := n4_; clear n0_ n1_ n2_ n3_ n4_; (try clear hb); (try clear hb2); (try clear hk); (try clear hi); (try clear ho0)))
        (try simp only [Act.put, List.setIfInBounds_toArray, List.set_cons_zero, List.set_cons_succ])
        go_cut [85] (fun v85 wc => ∃ (kq : Nat) (x85_28 : Bool), v85 = .bool x85_28 ∧ Aside0 (sackbutlaw05_RowsCounts.j1 kq a0 t1007 t1008 x85_28 = some r) ∧ Aside0 (kq ≤ kj4) ∧ Aside0 (Kd.S (Kd.slice 3 (Kd.int .i64)) 22 wc w.heap.size (fun _ => True) v1009 t1007) ∧ Aside0 (Below w.heap.size w wc))
        case first =>
          have H := HC29.out
          clear HC29
          replace H := Option.bind_eq_some_iff.mp H
          obtain ⟨t1019, A340, H⟩ := H
          replace H : (if t1001 = t1019 then (if t1002 = 0 then ((slices_Equal_int_int.f kj4 t1003 t1015).bind fun t1020 => (if t1020 = true then (if t1004 = t1016 then ((sackbutlaw05_awake.f kj4).bind fun t1021 => (sackbutlaw05_RowsCounts.j1 kj4 a0 t1007 t1008 (!t1021))) else (sackbutlaw05_RowsCounts.j1 kj4 a0 t1007 t1008 true)) else (sackbutlaw05_RowsCounts.j1 kj4 a0 t1007 t1008 true))) else (sackbutlaw05_RowsCounts.j1 kj4 a0 t1007 t1008 true)) else (sackbutlaw05_RowsCounts.j1 kj4 a0 t1007 t1008 true)) = some r := H
          have A34 := Aside0.mk A340
          clear A340
          by_cases c35 : t1001 = t1019
          · rw [if_pos c35] at H
            have c35b0 : (t1001 == t1019) = true := beq_iff_eq.mpr c35
            have c35b1 : (t1001 != t1019) = false := bne_eq_false_iff_eq.mpr c35
            clear c35
            (first | rw [c35b0] | (simp only [i64_w, i32_w]; rw [c35b0]) | skip)
            by_cases c36 : t1002 = 0
            · rw [if_pos c36] at H
              have c36b0 : (t1002 == 0) = true := beq_iff_eq.mpr c36
              have c36b1 : (t1002 != 0) = false := bne_eq_false_iff_eq.mpr c36
              clear c36
              replace H := Option.bind_eq_some_iff.mp H
              obtain ⟨t1020, A370, H⟩ := H
              replace H : (if t1020 = true then (if t1004 = t1016 then ((sackbutlaw05_awake.f kj4).bind fun t1021 => (sackbutlaw05_RowsCounts.j1 kj4 a0 t1007 t1008 (!t1021))) else (sackbutlaw05_RowsCounts.j1 kj4 a0 t1007 t1008 true)) else (sackbutlaw05_RowsCounts.j1 kj4 a0 t1007 t1008 true)) = some r := H
              have A37 := Aside0.mk A370
              clear A370
              by_cases c38 : t1020 = true
              · subst c38
                have H1 : (if t1004 = t1016 then ((sackbutlaw05_awake.f kj4).bind fun t1021 => (sackbutlaw05_RowsCounts.j1 kj4 a0 t1007 t1008 (!t1021))) else (sackbutlaw05_RowsCounts.j1 kj4 a0 t1007 t1008 true)) = some r := by rw [if_pos rfl] at H; exact H
                clear H
                have H := H1
                clear H1
                by_cases c39 : t1004 = t1016
                · rw [if_pos c39] at H
                  have c39b0 : (t1004 == t1016) = true := beq_iff_eq.mpr c39
                  have c39b1 : (t1004 != t1016) = false := bne_eq_false_iff_eq.mpr c39
                  clear c39
                  replace H := Option.bind_eq_some_iff.mp H
                  obtain ⟨t1021, A400, H⟩ := H
                  replace H : (sackbutlaw05_RowsCounts.j1 kj4 a0 t1007 t1008 (!t1021)) = some r := H
                  have A40 := Aside0.mk A400
                  clear A400
                  have H' := Aside0.mk H
                  clear H
                  go_wp2_with (first | ((with_reducible refine gate_callee (f := 43) rfl ?_); refine goesL_ (some 65) rfl rfl Try.func43 (by kernel_rfl) rfl #[.int .i64 a0] rfl (by (try simp only [List.map_toArray, List.map_cons, List.map_nil]); first | done | rfl | (simp only [List.length_drop, List.length_take]; rfl)) ?_; (with_reducible refine (sackbutref05_Count.calls a0 t1019 _ A34.out).mono ?_); rintro e w41 ⟨rfl, hb⟩; refine ⟨_, rfl, ?_⟩; have n0_ := Aside0.mk (Kd.R_below (by (with_reducible repeat (first | apply Kd.R_alloc | apply Kd.R_drewN | apply Kd.R_drew)); exact HO_5.out) hb); have n1_ := Aside0.mk (Kd.S_below (by (with_reducible repeat (first | apply Kd.S_alloc | apply Kd.S_drewN | apply Kd.S_drew)); exact HO_7.out) hb); have n2_ := Aside0.mk (Kd.R_below (by (with_reducible repeat (first | apply Kd.R_alloc | apply Kd.R_drewN | apply Kd.R_drew)); exact HO1014.out) hb); have n3_ := Aside0.mk (Kd.R_below (by (with_reducible repeat (first | apply Kd.R_alloc | apply Kd.R_drewN | apply Kd.R_drew)); exact HO1018.out) hb); have n4_ := Aside0.mk (below_step (by repeat (first | (with_reducible first | exact HB.out | apply below_alloc | apply pw_below_drewN | apply below_drew1) | exact HB.out)) hb); clear HO_5; clear HO_7; clear HO1014; clear HO1018; clear HB; have HO_5 := n0_; have HO_7 := n1_; have HO1014 := n2_; have HO1018 := n3_; have HB := n4_; clear n0_ n1_ n2_ n3_ n4_; (try clear hb); (try clear hb2); (try clear hk); (try clear hi); obtain ⟨Ao42, co42, eo42⟩ := Kd.R_slice HO_5.out; subst eo42; obtain ⟨Ao43, co43, eo43⟩ := Kd.R_slice HO1018.out; subst eo43) | (go_at_call 20; (with_reducible refine (slices_Equal_int_int.calls kj4 _ _ t1003 _ _ t1015 true _ ?side1 ?side2 ?side3 ?side4 A37.out).mono ?_); (case side1 => repeat (first | exact (Kd.R_reads' HO_5.out).2.2 | (with_reducible refine Kd.C_alloc ?_ _) | (with_reducible refine Kd.C_drewN ?_ _) | (with_reducible refine Kd.C_drew ?_))); (case side2 => exact (Kd.R_reads' HO_5.out).2.1); (case side3 => repeat (first | exact (Kd.R_reads' HO1018.out).2.2 | (with_reducible refine Kd.C_alloc ?_ _) | (with_reducible refine Kd.C_drewN ?_ _) | (with_reducible refine Kd.C_drew ?_))); (case side4 => exact (Kd.R_reads' HO1018.out).2.1); rintro e w' ⟨rfl, ⟨nd, rfl⟩⟩) | (go_at_call 19; (with_reducible refine (sackbutlaw05_awake.calls kj4  t1021 _ A40.out).mono ?_); rintro e w44 ⟨rfl, hb⟩; have n0_ := Aside0.mk (Kd.R_below (by (with_reducible repeat (first | apply Kd.R_alloc | apply Kd.R_drewN | apply Kd.R_drew)); exact HO_5.out) hb); have n1_ := Aside0.mk (Kd.S_below (by (with_reducible repeat (first | apply Kd.S_alloc | apply Kd.S_drewN | apply Kd.S_drew)); exact HO_7.out) hb); have n2_ := Aside0.mk (Kd.R_below (by (with_reducible repeat (first | apply Kd.R_alloc | apply Kd.R_drewN | apply Kd.R_drew)); exact HO1014.out) hb); have n3_ := Aside0.mk (Kd.R_below (by (with_reducible repeat (first | apply Kd.R_alloc | apply Kd.R_drewN | apply Kd.R_drew)); exact HO1018.out) hb); have n4_ := Aside0.mk (below_step (by repeat (first | (with_reducible first | exact HB.out | apply below_alloc | apply pw_below_drewN | apply below_drew1) | exact HB.out)) hb); clear HO_5; clear HO_7; clear HO1014; clear HO1018; clear HB; have HO_5 := n0_; have HO_7 := n1_; have HO1014 := n2_; have HO1018 := n3_; have HB := n4_; clear n0_ n1_ n2_ n3_ n4_; (try clear hb); (try clear hb2); (try clear hk); (try clear hi)))
                  go_meet
                  case rel => exact ⟨_, (!t1021), (by first | rfl | (simp; done) | (simp [*]; done)), H', ⟨by have := HJ4.out; first | omega | exact Nat.le_refl _⟩, ⟨by (with_reducible repeat (first | apply Kd.S_alloc | apply Kd.S_drewN | apply Kd.S_drew)); exact Kd.S_mono HO_7.out (fun _ hk => trivial)⟩, ⟨by repeat (first | (with_reducible first | exact HB.out | apply below_alloc | apply pw_below_drewN | apply below_drew1) | exact HB.out)⟩⟩
                · rw [if_neg c39] at H
                  have c39b0 : (t1004 == t1016) = false := beq_eq_false_iff_ne.mpr c39
                  have c39b1 : (t1004 != t1016) = true := bne_iff_ne.mpr c39
                  have H' := Aside0.mk H
                  clear H
                  go_wp2_with (first | ((with_reducible refine gate_callee (f := 43) rfl ?_); refine goesL_ (some 65) rfl rfl Try.func43 (by kernel_rfl) rfl #[.int .i64 a0] rfl (by (try simp only [List.map_toArray, List.map_cons, List.map_nil]); first | done | rfl | (simp only [List.length_drop, List.length_take]; rfl)) ?_; (with_reducible refine (sackbutref05_Count.calls a0 t1019 _ A34.out).mono ?_); rintro e w45 ⟨rfl, hb⟩; refine ⟨_, rfl, ?_⟩; have n0_ := Aside0.mk (Kd.R_below (by (with_reducible repeat (first | apply Kd.R_alloc | apply Kd.R_drewN | apply Kd.R_drew)); exact HO_5.out) hb); have n1_ := Aside0.mk (Kd.S_below (by (with_reducible repeat (first | apply Kd.S_alloc | apply Kd.S_drewN | apply Kd.S_drew)); exact HO_7.out) hb); have n2_ := Aside0.mk (Kd.R_below (by (with_reducible repeat (first | apply Kd.R_alloc | apply Kd.R_drewN | apply Kd.R_drew)); exact HO1014.out) hb); have n3_ := Aside0.mk (Kd.R_below (by (with_reducible repeat (first | apply Kd.R_alloc | apply Kd.R_drewN | apply Kd.R_drew)); exact HO1018.out) hb); have n4_ := Aside0.mk (below_step (by repeat (first | (with_reducible first | exact HB.out | apply below_alloc | apply pw_below_drewN | apply below_drew1) | exact HB.out)) hb); clear HO_5; clear HO_7; clear HO1014; clear HO1018; clear HB; have HO_5 := n0_; have HO_7 := n1_; have HO1014 := n2_; have HO1018 := n3_; have HB := n4_; clear n0_ n1_ n2_ n3_ n4_; (try clear hb); (try clear hb2); (try clear hk); (try clear hi); obtain ⟨Ao46, co46, eo46⟩ := Kd.R_slice HO_5.out; subst eo46; obtain ⟨Ao47, co47, eo47⟩ := Kd.R_slice HO1018.out; subst eo47) | (go_at_call 20; (with_reducible refine (slices_Equal_int_int.calls kj4 _ _ t1003 _ _ t1015 true _ ?side1 ?side2 ?side3 ?side4 A37.out).mono ?_); (case side1 => repeat (first | exact (Kd.R_reads' HO_5.out).2.2 | (with_reducible refine Kd.C_alloc ?_ _) | (with_reducible refine Kd.C_drewN ?_ _) | (with_reducible refine Kd.C_drew ?_))); (case side2 => exact (Kd.R_reads' HO_5.out).2.1); (case side3 => repeat (first | exact (Kd.R_reads' HO1018.out).2.2 | (with_reducible refine Kd.C_alloc ?_ _) | (with_reducible refine Kd.C_drewN ?_ _) | (with_reducible refine Kd.C_drew ?_))); (case side4 => exact (Kd.R_reads' HO1018.out).2.1); rintro e w' ⟨rfl, ⟨nd, rfl⟩⟩))
                  go_meet
                  case rel => exact ⟨_, (true), (by first | rfl | (simp; done) | (simp [*]; done)), H', ⟨by have := HJ4.out; first | omega | exact Nat.le_refl _⟩, ⟨by (with_reducible repeat (first | apply Kd.S_alloc | apply Kd.S_drewN | apply Kd.S_drew)); exact Kd.S_mono HO_7.out (fun _ hk => trivial)⟩, ⟨by repeat (first | (with_reducible first | exact HB.out | apply below_alloc | apply pw_below_drewN | apply below_drew1) | exact HB.out)⟩⟩
              · replace c38 := Bool.eq_false_iff.mpr c38
                subst c38
                have H1 : (sackbutlaw05_RowsCounts.j1 kj4 a0 t1007 t1008 true) = some r := by rw [if_neg (show ¬ (false = true) by decide)] at H; exact H
                clear H
                have H := H1
                clear H1
                have H' := Aside0.mk H
                clear H
                go_wp2_with (first | ((with_reducible refine gate_callee (f := 43) rfl ?_); refine goesL_ (some 65) rfl rfl Try.func43 (by kernel_rfl) rfl #[.int .i64 a0] rfl (by (try simp only [List.map_toArray, List.map_cons, List.map_nil]); first | done | rfl | (simp only [List.length_drop, List.length_take]; rfl)) ?_; (with_reducible refine (sackbutref05_Count.calls a0 t1019 _ A34.out).mono ?_); rintro e w48 ⟨rfl, hb⟩; refine ⟨_, rfl, ?_⟩; have n0_ := Aside0.mk (Kd.R_below (by (with_reducible repeat (first | apply Kd.R_alloc | apply Kd.R_drewN | apply Kd.R_drew)); exact HO_5.out) hb); have n1_ := Aside0.mk (Kd.S_below (by (with_reducible repeat (first | apply Kd.S_alloc | apply Kd.S_drewN | apply Kd.S_drew)); exact HO_7.out) hb); have n2_ := Aside0.mk (Kd.R_below (by (with_reducible repeat (first | apply Kd.R_alloc | apply Kd.R_drewN | apply Kd.R_drew)); exact HO1014.out) hb); have n3_ := Aside0.mk (Kd.R_below (by (with_reducible repeat (first | apply Kd.R_alloc | apply Kd.R_drewN | apply Kd.R_drew)); exact HO1018.out) hb); have n4_ := Aside0.mk (below_step (by repeat (first | (with_reducible first | exact HB.out | apply below_alloc | apply pw_below_drewN | apply below_drew1) | exact HB.out)) hb); clear HO_5; clear HO_7; clear HO1014; clear HO1018; clear HB; have HO_5 := n0_; have HO_7 := n1_; have HO1014 := n2_; have HO1018 := n3_; have HB := n4_; clear n0_ n1_ n2_ n3_ n4_; (try clear hb); (try clear hb2); (try clear hk); (try clear hi); obtain ⟨Ao49, co49, eo49⟩ := Kd.R_slice HO_5.out; subst eo49; obtain ⟨Ao50, co50, eo50⟩ := Kd.R_slice HO1018.out; subst eo50) | (go_at_call 20; (with_reducible refine (slices_Equal_int_int.calls kj4 _ _ t1003 _ _ t1015 false _ ?side1 ?side2 ?side3 ?side4 A37.out).mono ?_); (case side1 => repeat (first | exact (Kd.R_reads' HO_5.out).2.2 | (with_reducible refine Kd.C_alloc ?_ _) | (with_reducible refine Kd.C_drewN ?_ _) | (with_reducible refine Kd.C_drew ?_))); (case side2 => exact (Kd.R_reads' HO_5.out).2.1); (case side3 => repeat (first | exact (Kd.R_reads' HO1018.out).2.2 | (with_reducible refine Kd.C_alloc ?_ _) | (with_reducible refine Kd.C_drewN ?_ _) | (with_reducible refine Kd.C_drew ?_))); (case side4 => exact (Kd.R_reads' HO1018.out).2.1); rintro e w' ⟨rfl, ⟨nd, rfl⟩⟩))
                go_meet
                case rel => exact ⟨_, (true), (by first | rfl | (simp; done) | (simp [*]; done)), H', ⟨by have := HJ4.out; first | omega | exact Nat.le_refl _⟩, ⟨by (with_reducible repeat (first | apply Kd.S_alloc | apply Kd.S_drewN | apply Kd.S_drew)); exact Kd.S_mono HO_7.out (fun _ hk => trivial)⟩, ⟨by repeat (first | (with_reducible first | exact HB.out | apply below_alloc | apply pw_below_drewN | apply below_drew1) | exact HB.out)⟩⟩
            · rw [if_neg c36] at H
              have c36b0 : (t1002 == 0) = false := beq_eq_false_iff_ne.mpr c36
              have c36b1 : (t1002 != 0) = true := bne_iff_ne.mpr c36
              have H' := Aside0.mk H
              clear H
              go_wp2_with (first | ((with_reducible refine gate_callee (f := 43) rfl ?_); refine goesL_ (some 65) rfl rfl Try.func43 (by kernel_rfl) rfl #[.int .i64 a0] rfl (by (try simp only [List.map_toArray, List.map_cons, List.map_nil]); first | done | rfl | (simp only [List.length_drop, List.length_take]; rfl)) ?_; (with_reducible refine (sackbutref05_Count.calls a0 t1019 _ A34.out).mono ?_); rintro e w51 ⟨rfl, hb⟩; refine ⟨_, rfl, ?_⟩; have n0_ := Aside0.mk (Kd.R_below (by (with_reducible repeat (first | apply Kd.R_alloc | apply Kd.R_drewN | apply Kd.R_drew)); exact HO_5.out) hb); have n1_ := Aside0.mk (Kd.S_below (by (with_reducible repeat (first | apply Kd.S_alloc | apply Kd.S_drewN | apply Kd.S_drew)); exact HO_7.out) hb); have n2_ := Aside0.mk (Kd.R_below (by (with_reducible repeat (first | apply Kd.R_alloc | apply Kd.R_drewN | apply Kd.R_drew)); exact HO1014.out) hb); have n3_ := Aside0.mk (Kd.R_below (by (with_reducible repeat (first | apply Kd.R_alloc | apply Kd.R_drewN | apply Kd.R_drew)); exact HO1018.out) hb); have n4_ := Aside0.mk (below_step (by repeat (first | (with_reducible first | exact HB.out | apply below_alloc | apply pw_below_drewN | apply below_drew1) | exact HB.out)) hb); clear HO_5; clear HO_7; clear HO1014; clear HO1018; clear HB; have HO_5 := n0_; have HO_7 := n1_; have HO1014 := n2_; have HO1018 := n3_; have HB := n4_; clear n0_ n1_ n2_ n3_ n4_; (try clear hb); (try clear hb2); (try clear hk); (try clear hi)))
              go_meet
              case rel => exact ⟨_, (true), (by first | rfl | (simp; done) | (simp [*]; done)), H', ⟨by have := HJ4.out; first | omega | exact Nat.le_refl _⟩, ⟨by (with_reducible repeat (first | apply Kd.S_alloc | apply Kd.S_drewN | apply Kd.S_drew)); exact Kd.S_mono HO_7.out (fun _ hk => trivial)⟩, ⟨by repeat (first | (with_reducible first | exact HB.out | apply below_alloc | apply pw_below_drewN | apply below_drew1) | exact HB.out)⟩⟩
          · rw [if_neg c35] at H
            have c35b0 : (t1001 == t1019) = false := beq_eq_false_iff_ne.mpr c35
            have c35b1 : (t1001 != t1019) = true := bne_iff_ne.mpr c35
            (first | rw [c35b0] | (simp only [i64_w, i32_w]; rw [c35b0]) | skip)
            have H' := Aside0.mk H
            clear H
            go_wp2_with (first | ((with_reducible refine gate_callee (f := 43) rfl ?_); refine goesL_ (some 65) rfl rfl Try.func43 (by kernel_rfl) rfl #[.int .i64 a0] rfl (by (try simp only [List.map_toArray, List.map_cons, List.map_nil]); first | done | rfl | (simp only [List.length_drop, List.length_take]; rfl)) ?_; (with_reducible refine (sackbutref05_Count.calls a0 t1019 _ A34.out).mono ?_); rintro e w52 ⟨rfl, hb⟩; refine ⟨_, rfl, ?_⟩; have n0_ := Aside0.mk (Kd.R_below (by (with_reducible repeat (first | apply Kd.R_alloc | apply Kd.R_drewN | apply Kd.R_drew)); exact HO_5.out) hb); have n1_ := Aside0.mk (Kd.S_below (by (with_reducible repeat (first | apply Kd.S_alloc | apply Kd.S_drewN | apply Kd.S_drew)); exact HO_7.out) hb); have n2_ := Aside0.mk (Kd.R_below (by (with_reducible repeat (first | apply Kd.R_alloc | apply Kd.R_drewN | apply Kd.R_drew)); exact HO1014.out) hb); have n3_ := Aside0.mk (Kd.R_below (by (with_reducible repeat (first | apply Kd.R_alloc | apply Kd.R_drewN | apply Kd.R_drew)); exact HO1018.out) hb); have n4_ := Aside0.mk (below_step (by repeat (first | (with_reducible first | exact HB.out | apply below_alloc | apply pw_below_drewN | apply below_drew1) | exact HB.out)) hb); clear HO_5; clear HO_7; clear HO1014; clear HO1018; clear HB; have HO_5 := n0_; have HO_7 := n1_; have HO1014 := n2_; have HO1018 := n3_; have HB := n4_; clear n0_ n1_ n2_ n3_ n4_; (try clear hb); (try clear hb2); (try clear hk); (try clear hi)))
            go_meet
            case rel => exact ⟨_, (true), (by first | rfl | (simp; done) | (simp [*]; done)), H', ⟨by have := HJ4.out; first | omega | exact Nat.le_refl _⟩, ⟨by (with_reducible repeat (first | apply Kd.S_alloc | apply Kd.S_drewN | apply Kd.S_drew)); exact Kd.S_mono HO_7.out (fun _ hk => trivial)⟩, ⟨by repeat (first | (with_reducible first | exact HB.out | apply below_alloc | apply pw_below_drewN | apply below_drew1) | exact HB.out)⟩⟩
        case rest =>
          clear HC29
          try clear c1
          try clear p2
          try clear c3
          try clear c4
          try clear p6
          try clear c9
          try clear c9b0
          try clear c10
          try clear c11
          try clear c11b0
          try clear c11b1
          try clear c12
          try clear c12b0
          try clear c12b1
          try clear c13
          try clear c13b0
          try clear c13b1
          try clear c14
          try clear c14b0
          try clear c14b1
          try clear c15
          try clear c15b0
          try clear c15b1
          try clear c35
          try clear c35b0
          try clear c35b1
          try clear c36
          try clear c36b0
          try clear c36b1
          try clear c38
          try clear c39
          try clear c39b0
          try clear c39b1
          try clear c40
          try clear c41
          try clear c42
          try clear c43
          try clear p2
          obtain ⟨kq, x85_28, rfl, HA, HJ28, HO_7, HB⟩ := hcut
          cases kq with
          | zero => exact absurd HA.out (by simp [sackbutlaw05_RowsCounts.j1])
          | succ kj28 =>
            have H := HA.out
            clear HA
            simp only [sackbutlaw05_RowsCounts.j1] at H
            by_cases c53 : x85_28 = true
            · subst c53
              have H1 : (some false) = some r := by rw [if_pos rfl] at H; exact H
              clear H
              have H := H1
              clear H1
              obtain rfl := Option.some.inj H
              go_wp2
              go_ret
              exact ⟨by first | rfl | (simp [errW_none, errW_some] <;> rfl) | (simp [*, errW_none, errW_some] <;> rfl), by repeat (first | (with_reducible first | exact HB.out | apply below_alloc | apply pw_below_drewN | apply below_drew1) | exact HB.out)⟩
            · replace c53 := Bool.eq_false_iff.mpr c53
              subst c53
              have H1 : (if a0 > 8 then (if (t1007.length : Int) = 0 then (some (t1008 == 2)) else (some false)) else ((sackbutref05_List.f a0).bind fun t1022 => ((slices_EqualFunc_int_int_int_int.f t1007 t1022).bind fun t1025 => (if t1025 = true then (some (t1008 == 0)) else (some false))))) = some r := by rw [if_neg (show ¬ (false = true) by decide)] at H; exact H
              clear H
              have H := H1
              clear H1
              by_cases c54 : a0 > 8
              · rw [if_pos c54] at H
                have c54b0 : decide (8 < a0) = true := decide_eq_true c54
                clear c54
                by_cases c55 : (t1007.length : Int) = 0
                · rw [if_pos c55] at H
                  have c55b0 : ((t1007.length : Int) == 0) = true := beq_iff_eq.mpr c55
                  have c55b1 : ((t1007.length : Int) != 0) = false := bne_eq_false_iff_eq.mpr c55
                  clear c55
                  obtain rfl := Option.some.inj H
                  obtain ⟨Ao56, co56, eo56⟩ := Kd.S_slice HO_7.out
                  subst eo56
                  go_wp2
                  go_ret
                  exact ⟨by first | rfl | (simp [errW_none, errW_some] <;> rfl) | (simp [*, errW_none, errW_some] <;> rfl), by repeat (first | (with_reducible first | exact HB.out | apply below_alloc | apply pw_below_drewN | apply below_drew1) | exact HB.out)⟩
                · rw [if_neg c55] at H
                  have c55b0 : ((t1007.length : Int) == 0) = false := beq_eq_false_iff_ne.mpr c55
                  have c55b1 : ((t1007.length : Int) != 0) = true := bne_iff_ne.mpr c55
                  have c55b2 : ¬ (t1007 = []) := fun h_ => c55 (by rw [h_]; rfl)
                  obtain rfl := Option.some.inj H
                  obtain ⟨Ao57, co57, eo57⟩ := Kd.S_slice HO_7.out
                  subst eo57
                  go_wp2
                  go_ret
                  exact ⟨by first | rfl | (simp [errW_none, errW_some] <;> rfl) | (simp [*, errW_none, errW_some] <;> rfl), by repeat (first | (with_reducible first | exact HB.out | apply below_alloc | apply pw_below_drewN | apply below_drew1) | exact HB.out)⟩
              · rw [if_neg c54] at H
                have c54b0 : decide (8 < a0) = false := decide_eq_false c54
                clear c54
                replace H := Option.bind_eq_some_iff.mp H
                obtain ⟨t1022, A580, H⟩ := H
                replace H : ((slices_EqualFunc_int_int_int_int.f t1007 t1022).bind fun t1025 => (if t1025 = true then (some (t1008 == 0)) else (some false))) = some r := H
                have A58 := Aside0.mk A580
                clear A580
                replace H := Option.bind_eq_some_iff.mp H
                obtain ⟨t1025, A590, H⟩ := H
                replace H : (if t1025 = true then (some (t1008 == 0)) else (some false)) = some r := H
                have A59 := Aside0.mk A590
                clear A590
                by_cases c60 : t1025 = true
                · subst c60
                  have H1 : (some (t1008 == 0)) = some r := by rw [if_pos rfl] at H; exact H
                  clear H
                  have H := H1
                  clear H1
                  obtain rfl := Option.some.inj H
                  go_wp2_with (first | ((with_reducible refine gate_callee (f := 45) rfl ?_); refine goesL_ (some 97) rfl rfl Try.func45 (by kernel_rfl) rfl #[.int .i64 a0] rfl (by (try simp only [List.map_toArray, List.map_cons, List.map_nil]); first | done | rfl | (simp only [List.length_drop, List.length_take]; rfl)) ?_; (with_reducible refine (sackbutref05_List.calls a0 t1022 _ A58.out).mono ?_); rintro e w61 ⟨v1023, rfl, ho0, hb⟩; refine ⟨_, rfl, ?_⟩; have n0_ := Aside0.mk (Kd.S_elder' (by (with_reducible repeat (first | apply Kd.S_alloc | apply Kd.S_drewN | apply Kd.S_drew)); exact HO_7.out) (Kd.S_base ho0) hb); have n1_ := Aside0.mk (Kd.S_lower (Kd.S_new' ho0 (Kd.S_lt (by (with_reducible repeat (first | apply Kd.S_alloc | apply Kd.S_drewN | apply Kd.S_drew)); exact HO_7.out))) (below_size (by repeat (first | (with_reducible first | exact HB.out | apply below_alloc | apply pw_below_drewN | apply below_drew1) | exact HB.out)))); have n2_ := Aside0.mk (below_step (by repeat (first | (with_reducible first | exact HB.out | apply below_alloc | apply pw_below_drewN | apply below_drew1) | exact HB.out)) hb); clear HO_7; clear HB; have HO_7 := n0_; have HO1024 := n1_; have HB := n2_; clear n0_ n1_ n2_; (try clear hb); (try clear hb2); (try clear hk); (try clear hi); (try clear ho0); obtain ⟨Ao62, co62, eo62⟩ := Kd.S_slice HO_7.out; subst eo62; obtain ⟨Ao63, co63, eo63⟩ := Kd.S_slice HO1024.out; subst eo63) | ((with_reducible refine gate_callee (f := 44) rfl ?_); refine goesL_ (some 98) rfl rfl Try.func44 (by kernel_rfl) rfl #[.slice Ao62 t1007.length co62, .slice Ao63 t1022.length co63, .func (.func 20) #[] #[]] rfl (by (try simp only [List.map_toArray, List.map_cons, List.map_nil]); first | done | rfl | (simp only [List.length_drop, List.length_take]; rfl)) ?_; (with_reducible refine (slices_EqualFunc_int_int_int_int.calls _ _ t1007 _ _ t1022 true _ ?side1 ?side2 ?side3 ?side4 A59.out).mono ?_); (case side1 => repeat (first | exact (Kd.S_reads' HO_7.out).2.2 | (with_reducible refine Kd.C_alloc ?_ _) | (with_reducible refine Kd.C_drewN ?_ _) | (with_reducible refine Kd.C_drew ?_))); (case side2 => exact (Kd.S_reads' HO_7.out).2.1); (case side3 => repeat (first | exact (Kd.S_reads' HO1024.out).2.2 | (with_reducible refine Kd.C_alloc ?_ _) | (with_reducible refine Kd.C_drewN ?_ _) | (with_reducible refine Kd.C_drew ?_))); (case side4 => exact (Kd.S_reads' HO1024.out).2.1); rintro e w64 ⟨rfl, hb⟩; refine ⟨_, rfl, ?_⟩; have n0_ := Aside0.mk (Kd.S_below (by (with_reducible repeat (first | apply Kd.S_alloc | apply Kd.S_drewN | apply Kd.S_drew)); exact HO_7.out) hb); have n1_ := Aside0.mk (Kd.S_below (by (with_reducible repeat (first | apply Kd.S_alloc | apply Kd.S_drewN | apply Kd.S_drew)); exact HO1024.out) hb); have n2_ := Aside0.mk (below_step (by repeat (first | (with_reducible first | exact HB.out | apply below_alloc | apply pw_below_drewN | apply below_drew1) | exact HB.out)) hb); clear HO_7; clear HO1024; clear HB; have HO_7 := n0_; have HO1024 := n1_; have HB := n2_; clear n0_ n1_ n2_; (try clear hb); (try clear hb2); (try clear hk); (try clear hi)))
                  go_ret
                  exact ⟨by first | rfl | (simp [errW_none, errW_some] <;> rfl) | (simp [*, errW_none, errW_some] <;> rfl), by repeat (first | (with_reducible first | exact HB.out | apply below_alloc | apply pw_below_drewN | apply below_drew1) | exact HB.out)⟩
                · replace c60 := Bool.eq_false_iff.mpr c60
                  subst c60
                  have H1 : (some false) = some r := by rw [if_neg (show ¬ (false = true) by decide)] at H; exact H
                  clear H
                  have H := H1
                  clear H1
                  obtain rfl := Option.some.inj H
                  go_wp2_with (first | ((with_reducible refine gate_callee (f := 45) rfl ?_); refine goesL_ (some 97) rfl rfl Try.func45 (by kernel_rfl) rfl #[.int .i64 a0] rfl (by (try simp only [List.map_toArray, List.map_cons, List.map_nil]); first | done | rfl | (simp only [List.length_drop, List.length_take]; rfl)) ?_; (with_reducible refine (sackbutref05_List.calls a0 t1022 _ A58.out).mono ?_); rintro e w65 ⟨v1023, rfl, ho0, hb⟩; refine ⟨_, rfl, ?_⟩; have n0_ := Aside0.mk (Kd.S_elder' (by (with_reducible repeat (first | apply Kd.S_alloc | apply Kd.S_drewN | apply Kd.S_drew)); exact HO_7.out) (Kd.S_base ho0) hb); have n1_ := Aside0.mk (Kd.S_lower (Kd.S_new' ho0 (Kd.S_lt (by (with_reducible repeat (first | apply Kd.S_alloc | apply Kd.S_drewN | apply Kd.S_drew)); exact HO_7.out))) (below_size (by repeat (first | (with_reducible first | exact HB.out | apply below_alloc | apply pw_below_drewN | apply below_drew1) | exact HB.out)))); have n2_ := Aside0.mk (below_step (by repeat (first | (with_reducible first | exact HB.out | apply below_alloc | apply pw_below_drewN | apply below_drew1) | exact HB.out)) hb); clear HO_7; clear HB; have HO_7 := n0_; have HO1024 := n1_; have HB := n2_; clear n0_ n1_ n2_; (try clear hb); (try clear hb2); (try clear hk); (try clear hi); (try clear ho0); obtain ⟨Ao66, co66, eo66⟩ := Kd.S_slice HO_7.out; subst eo66; obtain ⟨Ao67, co67, eo67⟩ := Kd.S_slice HO1024.out; subst eo67) | ((with_reducible refine gate_callee (f := 44) rfl ?_); refine goesL_ (some 98) rfl rfl Try.func44 (by kernel_rfl) rfl #[.slice Ao66 t1007.length co66, .slice Ao67 t1022.length co67, .func (.func 20) #[] #[]] rfl (by (try simp only [List.map_toArray, List.map_cons, List.map_nil]); first | done | rfl | (simp only [List.length_drop, List.length_take]; rfl)) ?_; (with_reducible refine (slices_EqualFunc_int_int_int_int.calls _ _ t1007 _ _ t1022 false _ ?side1 ?side2 ?side3 ?side4 A59.out).mono ?_); (case side1 => repeat (first | exact (Kd.S_reads' HO_7.out).2.2 | (with_reducible refine Kd.C_alloc ?_ _) | (with_reducible refine Kd.C_drewN ?_ _) | (with_reducible refine Kd.C_drew ?_))); (case side2 => exact (Kd.S_reads' HO_7.out).2.1); (case side3 => repeat (first | exact (Kd.S_reads' HO1024.out).2.2 | (with_reducible refine Kd.C_alloc ?_ _) | (with_reducible refine Kd.C_drewN ?_ _) | (with_reducible refine Kd.C_drew ?_))); (case side4 => exact (Kd.S_reads' HO1024.out).2.1); rintro e w68 ⟨rfl, hb⟩; refine ⟨_, rfl, ?_⟩; have n0_ := Aside0.mk (Kd.S_below (by (with_reducible repeat (first | apply Kd.S_alloc | apply Kd.S_drewN | apply Kd.S_drew)); exact HO_7.out) hb); have n1_ := Aside0.mk (Kd.S_below (by (with_reducible repeat (first | apply Kd.S_alloc | apply Kd.S_drewN | apply Kd.S_drew)); exact HO1024.out) hb); have n2_ := Aside0.mk (below_step (by repeat (first | (with_reducible first | exact HB.out | apply below_alloc | apply pw_below_drewN | apply below_drew1) | exact HB.out)) hb); clear HO_7; clear HO1024; clear HB; have HO_7 := n0_; have HO1024 := n1_; have HB := n2_; clear n0_ n1_ n2_; (try clear hb); (try clear hb2); (try clear hk); (try clear hi)))
                  go_ret
                  exact ⟨by first | rfl | (simp [errW_none, errW_some] <;> rfl) | (simp [*, errW_none, errW_some] <;> rfl), by repeat (first | (with_reducible first | exact HB.out | apply below_alloc | apply pw_below_drewN | apply below_drew1) | exact HB.out)⟩

/-- THE ONE PURE STATEMENT of sackbutlaw05_RowsCounts: yours. -/
def sackbutlaw05_RowsCounts.Pure : Prop := ∀ (a0 : Int), (Lit.int .i64 a0).wf = true → ∃ k, sackbutlaw05_RowsCounts.f k a0 = some true
theorem sackbutlaw05_RowsCounts.walk (P : sackbutlaw05_RowsCounts.Pure) (a0 : Int) (w : World) (w0 : (Lit.int .i64 a0).wf = true) :
    Calls Try.prog 14 #[.int .i64 a0] w fun e w' => e = .returned (.bool true) ∧ Below w.heap.size w w' := by
  obtain ⟨k, h⟩ := P a0 w0
  refine (sackbutlaw05_RowsCounts.calls k a0 true w h).mono ?_
  rintro e w' ⟨rfl, hd⟩
  exact ⟨rfl, hd⟩

end Go.Proofs.Ytpfjnpbcnlbhaaa.P
namespace Go.Proofs.Ytpfjnpbcnlbhaaa.P
open Go.RowKit Go.Proofs.YtpfjnpbcnlbhaaaW.PrintWords Go.Proofs.YtpfjnpbcnlbhaaaW.PrintLast Go.Proofs.YtpfjnpbcnlbhaaaW.PrintMore
attribute [local go_sem] max2_int min2_int max_two min_two max_three min_three max_four min_four   -- for this text's walks alone
set_option linter.unusedVariables false
set_option linter.unusedSimpArgs false

/-! what the search finds -/
theorem chk_iff {n : Nat} : ∀ (l : List Int) (t : Nat), (chkT n l t).isSome = true ↔ ((∀ x ∈ l, (0 ≤ x ∧ x < n) ∧ t.testBit x.toNat = false) ∧ l.Nodup)
  | [], t => by simp [chkT]
  | x :: l, t => by
    rw [chkT]
    by_cases hx : x < 0 ∨ (n : Int) ≤ x
    · rw [if_pos hx]
      constructor
      · intro h; cases h
      · rintro ⟨h, _⟩; have := (h x (by simp)).1; omega
    · rw [if_neg hx]
      cases hb : t.testBit x.toNat with
      | true =>
        rw [if_pos rfl]
        constructor
        · intro h; cases h
        · rintro ⟨h, _⟩; have := (h x (by simp)).2; rw [hb] at this; cases this
      | false =>
        rw [if_neg (by decide), chk_iff l, List.nodup_cons]
        have bit : ∀ y : Int, (t ||| 2 ^ x.toNat).testBit y.toNat = (t.testBit y.toNat || decide (x.toNat = y.toNat)) := fun y => by rw [Nat.testBit_or, Nat.testBit_two_pow]
        constructor
        · rintro ⟨h1, h2⟩
          refine ⟨fun y hy => ?_, fun hm => ?_, h2⟩
          · rcases List.mem_cons.1 hy with rfl | hy
            · exact ⟨by omega, hb⟩
            · have := h1 y hy
              rw [bit, Bool.or_eq_false_iff] at this
              exact ⟨this.1, this.2.1⟩
          · have := (h1 x hm).2
            rw [bit] at this
            simp at this
        · rintro ⟨h1, h2, h3⟩
          refine ⟨fun y hy => ?_, h3⟩
          have h4 := h1 y (by simp [hy])
          refine ⟨h4.1, ?_⟩
          rw [bit, h4.2, Bool.false_or]
          refine decide_eq_false (fun e => h2 ?_)
          have : x = y := by omega
          rw [this]; exact hy
theorem chk_part {n : Nat} {l : List Int} : (chkT n l 0).isSome = true ↔ PartOf n l := by
  rw [chk_iff]
  unfold PartOf
  constructor
  · rintro ⟨h, h2⟩; exact ⟨fun x hx => (h x hx).1, h2⟩
  · rintro ⟨h, h2⟩; exact ⟨fun x hx => ⟨h x hx, by simp⟩, h2⟩
theorem steps_snoc (n y x : Int) : ∀ l : List Int, stepsOf n ((l ++ [y]) ++ [x]) = stepsOf n (l ++ [y]) ++ [(x - y) % n]
  | [] => rfl
  | [a] => rfl
  | a :: b :: l => by
    have := steps_snoc n y x (b :: l)
    simp only [List.cons_append, stepsOf] at this ⊢
    rw [this]
theorem modN_cast {n x y : Nat} (hn : 1 ≤ n) (hy : y < n) : (((x + n - y) % n : Nat) : Int) = ((x : Int) - (y : Int)) % (n : Int) := by
  rw [Int.natCast_emod, show ((x + n - y : Nat) : Int) = ((x : Int) - (y : Int)) + (n : Int) by omega, Int.add_emod_right]
structure Come (n : Nat) (cur : List Nat) (t s : Nat) : Prop where
  t : ∀ y, t.testBit y = decide (y ∈ cur)
  s : ∀ y : Nat, s.testBit y = decide ((y : Int) ∈ stepsOf n (nums cur))
  d : cur.Nodup
  e : (stepsOf n (nums cur)).Nodup
theorem come_nil (n : Nat) : Come n [] 0 0 := ⟨fun y => by simp, fun y => by simp [nums, stepsOf], List.nodup_nil, by simp [nums, stepsOf]⟩
theorem come_add {n : Nat} {cur : List Nat} {t s x t' s' : Nat} (hn : 1 ≤ n) (hcur : ∀ y ∈ cur, y < n) (h : Come n cur t s) (ha : addS n cur t s x = some (t', s')) : Come n (cur ++ [x]) t' s' := by
  unfold addS at ha
  cases hb : t.testBit x with
  | true => rw [hb, if_pos rfl] at ha; cases ha
  | false =>
    rw [hb, if_neg (by decide)] at ha
    have hx : x ∉ cur := by have := h.t x; rw [hb] at this; exact of_decide_eq_false this.symm
    have hd : (cur ++ [x]).Nodup := by
      rw [List.nodup_append]
      exact ⟨h.d, by simp, fun a hm b hb e => hx (by rw [List.mem_singleton] at hb; rw [← hb, ← e]; exact hm)⟩
    have ht : ∀ y, (t ||| 2 ^ x).testBit y = decide (y ∈ cur ++ [x]) := fun y => by
      rw [Nat.testBit_or, Nat.testBit_two_pow, h.t, ← Bool.decide_or, decide_eq_decide, List.mem_append, List.mem_singleton]
      exact ⟨fun h => h.elim .inl (fun h => .inr h.symm), fun h => h.elim .inl (fun h => .inr h.symm)⟩
    cases hl : cur.getLast? with
    | none =>
      have : cur = [] := List.getLast?_eq_none_iff.1 hl
      subst this
      simp only [List.getLast?_nil] at ha
      cases ha
      refine ⟨ht, fun y => ?_, hd, by simp [nums, stepsOf]⟩
      rw [h.s]; simp [nums, stepsOf]
    | some y =>
      obtain ⟨pre, hpre⟩ := List.getLast?_eq_some_iff.1 hl
      rw [hl] at ha
      simp only at ha
      have hy : y < n := hcur y (by rw [hpre]; simp)
      have hst : stepsOf n (nums (cur ++ [x])) = stepsOf n (nums cur) ++ [(((x + n - y) % n : Nat) : Int)] := by
        rw [nums_snoc, hpre, nums_snoc, steps_snoc, modN_cast hn hy]
      cases hs : s.testBit ((x + n - y) % n) with
      | true => rw [hs, if_pos rfl] at ha; cases ha
      | false =>
        rw [hs, if_neg (by decide)] at ha
        cases ha
        have hns : ((((x + n - y) % n : Nat) : Int)) ∉ stepsOf n (nums cur) := by have := h.s ((x + n - y) % n); rw [hs] at this; exact of_decide_eq_false this.symm
        refine ⟨ht, fun z => ?_, hd, ?_⟩
        · rw [hst, Nat.testBit_or, Nat.testBit_two_pow, h.s, ← Bool.decide_or, decide_eq_decide, List.mem_append, List.mem_singleton]
          exact ⟨fun h => h.elim .inl (fun h => .inr (by rw [h])), fun h => h.elim .inl (fun h => .inr (by omega))⟩
        · rw [hst, List.nodup_append]
          exact ⟨h.e, by simp, fun a hm b hb e => hns (by rw [List.mem_singleton] at hb; rw [← hb, ← e]; exact hm)⟩
theorem addAll_app (n : Nat) : ∀ (x y cur : List Nat) (t s : Nat), addAll n cur t s (x ++ y) = (addAll n cur t s x).bind fun p => addAll n (cur ++ x) p.1 p.2 y
  | [], y, cur, t, s => by simp [addAll]
  | a :: x, y, cur, t, s => by
    rw [List.cons_append, addAll, addAll]
    cases addS n cur t s a with
    | none => rfl
    | some p => simp only []; rw [addAll_app n x y]; simp
theorem come_all {n : Nat} (hn : 1 ≤ n) : ∀ (x cur : List Nat) (t s t' s' : Nat), (∀ y ∈ cur ++ x, y < n) → Come n cur t s → addAll n cur t s x = some (t', s') → Come n (cur ++ x) t' s'
  | [], cur, t, s, t', s', _, h, ha => by rw [addAll] at ha; cases ha; simpa using h
  | a :: x, cur, t, s, t', s', hr, h, ha => by
    rw [addAll] at ha
    cases ho : addS n cur t s a with
    | none => rw [ho] at ha; cases ha
    | some p =>
      rw [ho] at ha
      have := come_all hn x (cur ++ [a]) p.1 p.2 t' s' (by simpa using hr) (come_add hn (fun y hy => hr y (by simp [hy])) h ho) ha
      simpa using this
theorem srch_good {n : Nat} : ∀ (r : Nat) (cur : List Nat) (t s : Nat), addAll n [] 0 0 cur = some (t, s) → ∀ l ∈ srch n r cur t s, (addAll n [] 0 0 l).isSome = true ∧ ∃ rest, l = cur ++ rest ∧ ∀ y ∈ rest, y < n
  | 0, cur, t, s, h, l, hl => by
    rw [srch, List.mem_singleton] at hl
    subst hl
    exact ⟨by rw [h]; rfl, [], by simp, by simp⟩
  | r + 1, cur, t, s, h, l, hl => by
    rw [srch, List.mem_flatMap] at hl
    obtain ⟨x, hx, hl⟩ := hl
    rw [List.mem_range] at hx
    cases ho : addS n cur t s x with
    | none => rw [ho] at hl; cases hl
    | some p =>
      rw [ho] at hl
      have ha : addAll n [] 0 0 (cur ++ [x]) = some (p.1, p.2) := by rw [addAll_app, h]; simp [addAll, ho]
      obtain ⟨h1, rest, h2, h3⟩ := srch_good r (cur ++ [x]) p.1 p.2 ha l hl
      refine ⟨h1, x :: rest, by rw [h2]; simp, fun y hy => ?_⟩
      rcases List.mem_cons.1 hy with rfl | hy
      · exact hx
      · exact h3 y hy
theorem srch_head {n r : Nat} {cur l : List Nat} {t s : Nat} (h : (srch n (r + 1) cur t s).head? = some l) : ∃ x p, addS n cur t s x = some p ∧ (srch n r (cur ++ [x]) p.1 p.2).head? = some l := by
  rw [srch, List.head?_flatMap] at h
  obtain ⟨x, _, hx⟩ := List.exists_of_findSome?_eq_some h
  cases ho : addS n cur t s x with
  | none => rw [ho] at hx; cases hx
  | some p => rw [ho] at hx; exact ⟨x, p, ho, hx⟩
/-- a row that was found -/
theorem fill_row {n : Nat} {b l : List Nat} (hn : 2 ≤ n) (hn2 : n ≤ 10) (hb : ∀ y ∈ b, y < n) (hbl : b.length ≤ n) (h : fillO n b = some l) : IsRow (nums l) ∧ l.length = n ∧ (stepsOf n (nums l)).Nodup ∧ l.take b.length = b ∧ (b.length < n → fillO n (l.take (b.length + 1)) = some l) ∧ (∀ y ∈ l, y < n) := by
  unfold fillO at h
  cases ha : addAll n [] 0 0 b with
  | none => rw [ha] at h; cases h
  | some p =>
    rw [ha] at h
    simp only at h
    obtain ⟨h1, rest, h2, h3⟩ := srch_good (n - b.length) b p.1 p.2 ha l (List.mem_of_head? h)
    have hlen := srch_len (n - b.length) b p.1 p.2 l (List.mem_of_head? h)
    have hln : l.length = n := by omega
    have hlr : ∀ y ∈ l, y < n := fun y hy => by
      rw [h2] at hy
      rcases List.mem_append.1 hy with h | h
      · exact hb y h
      · exact h3 y h
    obtain ⟨⟨t', s'⟩, hg⟩ := Option.isSome_iff_exists.1 h1
    have hc := come_all (by omega) l [] 0 0 t' s' (by simpa using hlr) (come_nil n) hg
    rw [List.nil_append] at hc
    refine ⟨⟨by rw [nums_length]; omega, by rw [nums_length]; omega, fun x hx => ?_, ?_⟩, hln, hc.e, by rw [h2]; simp, fun hlt => ?_, hlr⟩
    · unfold nums at hx
      obtain ⟨y, hy, rfl⟩ := List.mem_map.1 hx
      have := hlr y hy
      rw [nums_length]
      show (0 : Int) ≤ (y : Int) ∧ (y : Int) < _
      omega
    · unfold nums
      exact List.Pairwise.map _ (fun a b hab => fun e => hab (Int.ofNat.inj e)) hc.d
    · obtain ⟨r, hr⟩ : ∃ r, n - b.length = r + 1 := ⟨n - b.length - 1, by omega⟩
      rw [hr] at h
      obtain ⟨x, p2, ho, hx⟩ := srch_head h
      have hax : addAll n [] 0 0 (b ++ [x]) = some (p2.1, p2.2) := by rw [addAll_app, ha]; simp [addAll, ho]
      obtain ⟨_, rest2, e2, _⟩ := srch_good r (b ++ [x]) p2.1 p2.2 hax l (List.mem_of_head? hx)
      have ht : l.take (b.length + 1) = b ++ [x] := by rw [e2, List.take_left' (by simp)]
      rw [ht]
      unfold fillO
      rw [hax]
      simp only
      rw [List.length_append, List.length_singleton, show n - (b.length + 1) = r by omega]
      exact hx

end Go.Proofs.Ytpfjnpbcnlbhaaa.P
namespace Go.Proofs.Ytpfjnpbcnlbhaaa.P
open Go.RowKit Go.Proofs.YtpfjnpbcnlbhaaaW.PrintWords Go.Proofs.YtpfjnpbcnlbhaaaW.PrintLast Go.Proofs.YtpfjnpbcnlbhaaaW.PrintMore
attribute [local go_sem] max2_int min2_int max_two min_two max_three min_three max_four min_four   -- for this text's walks alone
set_option linter.unusedVariables false
set_option linter.unusedSimpArgs false

/-! both searches find the same -/
theorem len_sub5 : ∀ (l l' : List Nat), l.Nodup → (∀ c, c ∈ l → c ∈ l') → l.length ≤ l'.length
  | [], _, _, _ => Nat.zero_le _
  | c :: l, l', hd, hs => by
    have h1 := hs c (by simp)
    have hd' := List.nodup_cons.1 hd
    have := len_sub5 l (l'.erase c) hd'.2 (fun x hx => by
      have hx' := hs x (by simp [hx])
      have hne : x ≠ c := fun e => hd'.1 (e ▸ hx)
      exact (List.mem_erase_of_ne hne).2 hx')
    rw [List.length_erase_of_mem h1] at this
    have hp : 0 < l'.length := List.length_pos_of_mem h1
    simp only [List.length_cons]; omega
theorem nums_nodup {l : List Nat} : (nums l).Nodup ↔ l.Nodup := by
  constructor
  · intro h
    exact List.Pairwise.imp (fun h e => h (by rw [e])) (List.pairwise_map.1 h)
  · intro h
    exact List.Pairwise.map _ (fun a b hab => fun e => hab (Int.ofNat.inj e)) h
theorem part_len {n : Nat} {l : List Nat} (h : PartOf n (nums l)) : l.length ≤ n := by
  have h1 := len_sub5 l (List.range n) (nums_nodup.1 h.2) (fun c hc => List.mem_range.2 (by
    have := h.1 (c : Int) (List.mem_map.2 ⟨c, hc, rfl⟩)
    omega))
  rwa [List.length_range] at h1
/-- a tone that is new, with a new step, is taken -/
theorem add_take {n : Nat} {cur : List Nat} {t s x : Nat} (hn : 1 ≤ n) (hcur : ∀ y ∈ cur, y < n) (h : Come n cur t s) : (addS n cur t s x).isSome = true ↔ x ∉ cur ∧ (stepsOf n (nums (cur ++ [x]))).Nodup := by
  have ht := h.t x
  unfold addS
  by_cases hx : x ∈ cur
  · rw [decide_eq_true hx] at ht
    rw [ht, if_pos rfl]
    exact ⟨fun h => (by cases h), fun h => absurd hx h.1⟩
  · rw [decide_eq_false hx] at ht
    rw [ht, if_neg (by decide)]
    cases hl : cur.getLast? with
    | none =>
      have : cur = [] := List.getLast?_eq_none_iff.1 hl
      subst this
      simp [nums, stepsOf]
    | some y =>
      obtain ⟨pre, hpre⟩ := List.getLast?_eq_some_iff.1 hl
      have hy : y < n := hcur y (by rw [hpre]; simp)
      have hst : stepsOf n (nums (cur ++ [x])) = stepsOf n (nums cur) ++ [(((x + n - y) % n : Nat) : Int)] := by
        rw [nums_snoc, hpre, nums_snoc, steps_snoc, modN_cast hn hy]
      have hs := h.s ((x + n - y) % n)
      rw [hst, List.nodup_append]
      simp only
      by_cases hm : (((x + n - y) % n : Nat) : Int) ∈ stepsOf n (nums cur)
      · rw [decide_eq_true hm] at hs
        rw [hs, if_pos rfl]
        exact ⟨fun h => (by cases h), fun h => absurd rfl (h.2.2.2 _ hm _ (by simp))⟩
      · rw [decide_eq_false hm] at hs
        rw [hs, if_neg (by decide)]
        exact ⟨fun _ => ⟨hx, h.e, by simp, fun a ha b hb e => hm (by rw [List.mem_singleton] at hb; rw [← hb, ← e]; exact ha)⟩, fun _ => rfl⟩
/-- both searches find the same -/
theorem whole_srch {n : Nat} (hn : 1 ≤ n) : ∀ (r : Nat) (cur : List Nat) (t s : Nat), (∀ y ∈ cur, y < n) → Come n cur t s → wholeF n r cur = (srch n r cur t s).head?
  | 0, cur, t, s, _, h => by rw [wholeF_zero, if_pos h.e]; rfl
  | r + 1, cur, t, s, hcur, h => by
    rw [wholeF_eq, if_pos h.e, srch, List.head?_flatMap]
    have key : ∀ x ∈ List.range n, (if x ∈ cur then none else wholeF n r (cur ++ [x])) = (match addS n cur t s x with
        | none => ([] : List (List Nat))
        | some p => srch n r (cur ++ [x]) p.1 p.2).head? := by
      intro x hx
      rw [List.mem_range] at hx
      have ha := add_take (x := x) hn hcur h
      cases ho : addS n cur t s x with
      | none =>
        rw [ho] at ha
        by_cases hm : x ∈ cur
        · rw [if_pos hm]; rfl
        · rw [if_neg hm]
          have hno : ¬ (stepsOf n (nums (cur ++ [x]))).Nodup := fun h2 => by have := ha.2 ⟨hm, h2⟩; cases this
          cases r with
          | zero => rw [wholeF_zero, if_neg hno]; rfl
          | succ r => rw [wholeF_eq, if_neg hno]; rfl
      | some p =>
        rw [ho] at ha
        have h2 := ha.1 rfl
        rw [if_neg h2.1]
        have hc2 := come_add hn hcur h (show addS n cur t s x = some (p.1, p.2) from ho)
        exact whole_srch hn r (cur ++ [x]) p.1 p.2 (fun y hy => by
          rcases List.mem_append.1 hy with h | h
          · exact hcur y h
          · rw [List.mem_singleton] at h; omega) hc2
    clear h hcur
    generalize List.range n = L at key
    induction L with
    | nil => rfl
    | cons a L ih =>
      rw [List.findSome?_cons, List.findSome?_cons, key a (by simp), ih (fun x hx => key x (by simp [hx]))]
      rfl

end Go.Proofs.Ytpfjnpbcnlbhaaa.P
namespace Go.Proofs.Ytpfjnpbcnlbhaaa.P
open Go.RowKit Go.Proofs.YtpfjnpbcnlbhaaaW.PrintWords Go.Proofs.YtpfjnpbcnlbhaaaW.PrintLast Go.Proofs.YtpfjnpbcnlbhaaaW.PrintMore
attribute [local go_sem] max2_int min2_int max_two min_two max_three min_three max_four min_four   -- for this text's walks alone
set_option linter.unusedVariables false
set_option linter.unusedSimpArgs false

theorem whole_srchA {n : Nat} (hn : 1 ≤ n) : ∀ (r : Nat) (cur : List Nat) (t s : Nat), (∀ y ∈ cur, y < n) → Come n cur t s → wholeA n r cur = srch n r cur t s
  | 0, cur, t, s, _, h => by rw [wholeA_zero, if_pos h.e]; rfl
  | r + 1, cur, t, s, hcur, h => by
    rw [wholeA_eq, if_pos h.e, srch]
    have key : ∀ x ∈ List.range n, (if x ∈ cur then [] else wholeA n r (cur ++ [x])) = (match addS n cur t s x with
        | none => ([] : List (List Nat))
        | some p => srch n r (cur ++ [x]) p.1 p.2) := by
      intro x hx
      rw [List.mem_range] at hx
      have ha := add_take (x := x) hn hcur h
      cases ho : addS n cur t s x with
      | none =>
        rw [ho] at ha
        by_cases hm : x ∈ cur
        · rw [if_pos hm]
        · rw [if_neg hm]
          have hno : ¬ (stepsOf n (nums (cur ++ [x]))).Nodup := fun h2 => by have := ha.2 ⟨hm, h2⟩; cases this
          cases r with
          | zero => rw [wholeA_zero, if_neg hno]
          | succ r => rw [wholeA_eq, if_neg hno]
      | some p =>
        rw [ho] at ha
        have h2 := ha.1 rfl
        rw [if_neg h2.1]
        have hc2 := come_add hn hcur h (show addS n cur t s x = some (p.1, p.2) from ho)
        exact whole_srchA hn r (cur ++ [x]) p.1 p.2 (fun y hy => by
          rcases List.mem_append.1 hy with h | h
          · exact hcur y h
          · rw [List.mem_singleton] at h; omega) hc2
    clear h hcur
    generalize List.range n = L at key
    induction L with
    | nil => rfl
    | cons a L ih =>
      rw [List.flatMap_cons, List.flatMap_cons, key a (by simp), ih (fun x hx => key x (by simp [hx]))]
      rfl
theorem come_zero {n : Nat} (hn : 1 ≤ n) : Come n [0] 1 0 := by
  have := come_add (n := n) (cur := []) (t := 0) (s := 0) (x := 0) (t' := 1) (s' := 0) hn (by simp) (come_nil n) (by unfold addS; simp)
  simpa using this
theorem RowsCounts : sackbutlaw05_RowsCounts.Pure := by
  intro a0 _
  refine Ev.rounds (g := fun k => sackbutlaw05_RowsCounts.f k a0) ?_
  unfold sackbutlaw05_RowsCounts.f
  by_cases hn : 2 ≤ a0 ∧ a0 ≤ 10
  · obtain ⟨n, rfl⟩ : ∃ n : Nat, a0 = (n : Int) := ⟨a0.toNat, by omega⟩
    have hC : rows_Count.f (n : Int) = some (wrap64 ((fromAll n).length : Int), 0) := by unfold rows_Count.f; rw [if_pos hn, Int.toNat_natCast]
    have hF : rows_First.f (n : Int) = some (optL (fromAll n).head?, if (fromAll n).head? = none then 4 else 0) := by unfold rows_First.f; rw [if_pos hn, Int.toNat_natCast]
    have hws := whole_srchA (n := n) (by omega) (n - 1) [0] 1 0 (fun y hy => by rw [List.mem_singleton] at hy; omega) (come_zero (by omega))
    have hwf := whole_srch (n := n) (by omega) (n - 1) [0] 1 0 (fun y hy => by rw [List.mem_singleton] at hy; omega) (come_zero (by omega))
    have e0 : srch n (n - 1) [0] 1 0 = fromAll n := rfl
    rw [e0] at hws hwf
    have hRF : sackbutref05_Fill.f [0] (n : Int) = some (optL (fromAll n).head?, if (fromAll n).head? = none then 4 else 0) := by
      unfold sackbutref05_Fill.f
      have hp : PartOf n [0] := ⟨fun x hx => by rw [List.mem_singleton] at hx; omega, by simp⟩
      rw [Int.toNat_natCast, if_pos ⟨hn.1, hn.2, by simp; omega, hp⟩, show toNats [0] = [0] from rfl, show ([0] : List Int).length = 1 from rfl, hwf]
    have hRC : sackbutref05_Count.f (n : Int) = some (wrap64 ((fromAll n).length : Int)) := by
      unfold sackbutref05_Count.f
      rw [if_pos hn, Int.toNat_natCast, hws]
    have hfl : (optL (fromAll n).head?).length < 9223372036854775807 := by
      have := optL_len (n := n) (r := n - 1) (cur := [0]) (t := 1) (s := 0) (by simp; omega)
      show (optL (srch n (n - 1) [0] 1 0).head?).length < _
      omega
    obtain ⟨L, hL⟩ : ∃ L, rows_List.f (n : Int) = some L := by unfold rows_List.f; split <;> exact ⟨_, rfl⟩
    refine Ev.bind_some hC ?_
    refine Ev.bind_some hF ?_
    refine Ev.bind_some hL ?_
    simp only [if_neg (show ¬ (n : Int) < 2 by omega), decide_eq_false (show ¬ (n : Int) > 10 by omega)]
    refine Ev.succ ?_
    simp only [sackbutlaw05_RowsCounts.j0, Bool.false_eq_true, if_false, if_true]
    refine Ev.bind_some hRF ?_
    refine Ev.bind_some hRC ?_
    simp only [if_true]
    refine Ev.bind (Equal_ev _ _ hfl) ?_
    rw [decide_eq_true rfl]
    simp only [if_true]
    refine Ev.bind awake_ev ?_
    refine Ev.succ ?_
    simp only [sackbutlaw05_RowsCounts.j1, Bool.not_true, Bool.false_eq_true, if_false]
    unfold rows_List.f at hL
    by_cases h8 : (n : Int) ≤ 8
    · rw [if_pos ⟨hn.1, h8⟩, Int.toNat_natCast] at hL
      have hL' := (Option.some.inj hL).symm
      subst hL'
      have hsm := fromAll_small n (by omega) (by omega)
      have hRL : sackbutref05_List.f (n : Int) = some (rowsOf (fromAll n)) := by
        unfold sackbutref05_List.f
        rw [if_pos hn, Int.toNat_natCast, hws, List.take_of_length_le hsm.1]
      rw [if_neg (show ¬ (n : Int) > 8 by omega)]
      refine Ev.bind_some hRL ?_
      have hEq : slices_EqualFunc_int_int_int_int.f (rowsOf (fromAll n)) (rowsOf (fromAll n)) = some true := by
        unfold slices_EqualFunc_int_int_int_int.f
        rw [if_pos (fun x hx => by
          unfold rowsOf at hx
          obtain ⟨y, hy, rfl⟩ := List.mem_map.1 hx
          have := hsm.2 y hy
          rw [nums_length]; omega), decide_eq_true rfl]
      refine Ev.bind_some hEq ?_
      simp only [if_true]
      exact Ev.some _
    · rw [if_neg (by omega)] at hL
      have hL' := (Option.some.inj hL).symm
      subst hL'
      rw [if_pos (show (n : Int) > 8 by omega)]
      simp only [List.length_nil]
      exact Ev.some _
  · have hC : rows_Count.f a0 = some (0, 2) := by unfold rows_Count.f; rw [if_neg hn]
    have hF : rows_First.f a0 = some ([], 2) := by unfold rows_First.f; rw [if_neg hn]
    have hL : rows_List.f a0 = some ([], 2) := by unfold rows_List.f; rw [if_neg (by omega)]
    refine Ev.bind_some hC ?_
    refine Ev.bind_some hF ?_
    refine Ev.bind_some hL ?_
    have bad : Ev (fun k => sackbutlaw05_RowsCounts.j0 k a0 0 2 [] 2 [] 2 true) true := by
      refine Ev.succ ?_
      have hz : wrap64 (((0 : Nat) : Int) + ((0 : Nat) : Int)) = 0 := wrap_id (by simp) (by simp)
      simp only [sackbutlaw05_RowsCounts.j0, if_true, List.length_nil, hz]
      exact Ev.bind awake_ev (Ev.some _)
    refine Ev.ite (fun h1 => bad) (fun h1 => ?_)
    rw [decide_eq_true (show a0 > 10 by omega)]
    exact bad

end Go.Proofs.Ytpfjnpbcnlbhaaa.P
namespace Go.Proofs.Ytpfjnpbcnlbhaaa.Pure
theorem RowsCounts : Go.Proofs.Ytpfjnpbcnlbhaaa.P.sackbutlaw05_RowsCounts.Pure := Go.Proofs.Ytpfjnpbcnlbhaaa.P.RowsCounts
end Go.Proofs.Ytpfjnpbcnlbhaaa.Pure
namespace Go.Proofs.Ytpfjnpbcnlbhaaa.rowsCounts
open Go.ChangeShapes Go.WideShapes Go.ChangeAt Go.RowKit
open Go.ChangeMaps (open_string shut_string)
set_option linter.unusedVariables false
theorem own : ownKnob Try.prog.godebug = none := by kernel_rfl
set_option maxRecDepth 100000 in
theorem lifted (os : Os) (started : os.Started) (H : Type) (enc : TypeId × Value → H) :
    ReturnsInHanded {} Try.checked os 14 .any (Rows.rowsCountsSpec.pre6 enc Try.prog Try.f14 Rows.rowsCountsRow.domain false) (Rows.rowsCountsSpec.post enc Try.prog Try.f14 false true false false) := by
  refine returnsInHanded_of_change_sized (C := Try.checked) own started (by kernel_rfl) Try.func14
    (ChangeSpec.witness6 (enc := enc) (C := Try.checked) false ⟨#[], #[.int .i64 0], []⟩ 8 (by kernel_rfl) (by kernel_rfl) (by kernel_rfl) (by kernel_rfl)) ?_
  intro W base args ds gs before hval0 hW hcnd hsz0 _
  have hsz : (DataW.weightsEach Try.prog (Try.f14.params.toList ++ Rows.rowsCountsSpec.plain.varTypes Try.prog) (ds ++ gs)).all (· ≤ reachBytes) = true := hsz0
  have hval : ∀ (j : Nat) t v, Try.f14.params[j]? = some t → args[j]? = some v → Value.okWide Try.prog W .any base t v := hval0
  have hW' := hW
  obtain ⟨p, q, hA0, hV, rfl, hfz, hnd⟩ := hW
  have hA : DataW.TrodAll enc Try.prog W 0 (fun _ => true) true Try.f14.params.toList args.toList ds p := hA0
  rw [Try.params14] at hA hval hsz
  obtain ⟨v0, vs0, d0, ds0, p0, q0, hargs, rfl, rfl, h0, r0⟩ := trodAll_cons hA
  obtain ⟨rfl, rfl, rfl⟩ := trodAll_nil r0
  obtain rfl : args = #[v0] := by cases args; simp_all
  obtain ⟨rfl, rfl⟩ := trodVars_none hV
  obtain ⟨a0, rfl, rfl, rfl, w0⟩ := open_int Try.underlying3 (hval 0 3 v0 rfl rfl) h0
  clear hA0 hval0 hsz0 hsz
  refine (P.sackbutlaw05_RowsCounts.walk Pure.RowsCounts a0 W w0).mono fun e W' ⟨he, bel⟩ => ?_
  subst he
  exact ⟨_, rfl, _, _, _, [], _, [], hW', trodAll_mk1 (shut_bool Try.underlying4 _), (trodAll_cons_mk (shut_int Try.underlying3 w0) trodAll_mk0), rfl, bel.frame _, fun h => by cases h⟩
theorem over : Rows.rowsCountsRow.holds Try.pinned (OpenSpec.ofChange Rows.rowsCountsSpec) :=
  OpenClaim.holds_of_wide 14 Try.f14 rfl rfl rfl rfl rfl rfl rfl ⟨rfl, rfl, rfl, rfl, rfl⟩ rfl rfl rfl rfl rfl (by kernel_rfl) Try.func14 (by kernel_rfl)
    (of_decide_eq_true (by kernel_rfl)) (by unfold Func.isWrapper; first | (rw [if_pos (by decide +kernel)]; kernel_rfl) | (rw [if_neg (by decide +kernel)]; exact ⟨rfl, rfl⟩))
    (fun os started H enc _ => lifted os started H enc)
theorem proved : Rows.RowsCountsSaid := over
#print axioms proved
end Go.Proofs.Ytpfjnpbcnlbhaaa.rowsCounts
namespace Go.Proofs.Ytpfjnpbcnlbhaaa
/-- The row, under a short name, for the claim. -/
theorem rowsCounts_holds : Rows.RowsCountsSaid := rowsCounts.proved
end Go.Proofs.Ytpfjnpbcnlbhaaa
