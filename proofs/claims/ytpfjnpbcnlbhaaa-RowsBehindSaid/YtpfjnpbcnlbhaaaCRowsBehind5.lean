/- Proved here: the Go function sackbutlaw05.RowsBehind returns true for every input (its printed form comes to true), whatever its arguments. Conditions: none beyond the row's own reach in memory. -/
import Derived.Test.YtpfjnpbcnlbhaaaRows
import Derived.WalkKit
import Derived.ProofKit
import Derived.OpenShut
import Derived.ShutString
import Derived.ChangeOld
import Derived.Below
import Derived.SizedLaws
import Derived.Test.YtpfjnpbcnlbhaaaWSized
import Derived.Test.YtpfjnpbcnlbhaaaCRowsBehind1
import Derived.Test.YtpfjnpbcnlbhaaaCRowsBehind2
import Derived.Test.YtpfjnpbcnlbhaaaCRowsBehind3
import Derived.Test.YtpfjnpbcnlbhaaaCRowsBehind4
namespace Go.Proofs.Ytpfjnpbcnlbhaaa.P
open Go.RowKit Go.Proofs.YtpfjnpbcnlbhaaaW.PrintWords Go.Proofs.YtpfjnpbcnlbhaaaW.PrintLast Go.Proofs.YtpfjnpbcnlbhaaaW.PrintMore
attribute [local go_sem] max2_int min2_int max_two min_two max_three min_three max_four min_four   -- for this text's walks alone
set_option linter.unusedVariables false
set_option linter.unusedSimpArgs false

/-! ### rows_Every: function 17 -/
def rows_Every.f (k : Nat) (l0 : List Int) : Option (Bool × Int) := (rows_row_valid.f k l0).bind fun t1001 => (if t1001 = true then ((rows_row_every.f k l0).bind fun t1002 => (some (t1002, 0))) else (some (false, 2)))
theorem rows_Every.mono : ∀ a0 k, LeO (rows_Every.f k a0) (rows_Every.f (k + 1) a0) := by
  intro a0 k
  unfold rows_Every.f
  repeat' first
      | (with_reducible exact rows_row_every.mono _ _)
      | (with_reducible exact rows_row_valid.mono _ _)
      | (with_reducible exact LeO.refl _)
      | (with_reducible exact LeO.none _)
      | (with_reducible refine LeO.ite ?_ ?_)
      | (with_reducible refine LeO.bind ?_ (fun _ => ?_))
      | exact rows_row_every.mono _ _
      | exact rows_row_valid.mono _ _
      | exact LeO.none _
      | refine LeO.ite ?_ ?_
      | refine LeO.bind ?_ (fun _ => ?_)
set_option maxHeartbeats 8000000 in
set_option maxRecDepth 100000 in
theorem rows_Every.calls (k : Nat) (A0 : Option Addr) (c0 : Nat) (l0 : List Int) (r1 : Bool) (r2 : Int) (w : World) (hr0 : Kd.C (Kd.int .i64) w A0 l0.length l0) (hc0 : l0.length ≤ c0) (h : rows_Every.f k l0 = some (r1, r2)) :
    Calls Try.prog 17 #[.slice A0 l0.length c0] w fun e w' => e = .returned (.tuple #[.bool r1, .int .i64 r2]) ∧ Below w.heap.size w w' := by
  have HR0 := Aside0.mk hr0
  have HC0 := Aside0.mk hc0
  clear hr0 hc0
  have HB := Aside0.mk (Below.refl w.heap.size w)
  have H : ((rows_row_valid.f k l0).bind fun t1001 => (if t1001 = true then ((rows_row_every.f k l0).bind fun t1002 => (some (t1002, 0))) else (some (false, 2)))) = some (r1, r2) := h
  clear h
  replace H := Option.bind_eq_some_iff.mp H
  obtain ⟨t1001, A20, H⟩ := H
  replace H : (if t1001 = true then ((rows_row_every.f k l0).bind fun t1002 => (some (t1002, 0))) else (some (false, 2))) = some (r1, r2) := H
  have A2 := Aside0.mk A20
  clear A20
  by_cases c3 : t1001 = true
  · subst c3
    have H1 : ((rows_row_every.f k l0).bind fun t1002 => (some (t1002, 0))) = some (r1, r2) := by rw [if_pos rfl] at H; exact H
    clear H
    have H := H1
    clear H1
    replace H := Option.bind_eq_some_iff.mp H
    obtain ⟨t1002, A40, H⟩ := H
    replace H : (some (t1002, 0)) = some (r1, r2) := H
    have A4 := Aside0.mk A40
    clear A40
    simp only [Option.some.injEq, Prod.mk.injEq] at H
    obtain ⟨rfl, rfl⟩ := H
    go_enter Try.func17, Try.ntmps17
    go_wp2_with (first | ((with_reducible refine gate_callee (f := 46) rfl ?_); refine goesL_ (some 5) rfl rfl Try.func46 (by kernel_rfl) rfl #[.slice A0 l0.length c0] rfl (by (try simp only [List.map_toArray, List.map_cons, List.map_nil]); first | done | rfl | (simp only [List.length_drop, List.length_take]; rfl)) ?_; (with_reducible refine (rows_row_valid.calls k _ _ l0 true _ ?side1 ?side2 A2.out).mono ?_); (case side1 => repeat (first | exact HR0.out | (with_reducible refine Kd.C_alloc ?_ _) | (with_reducible refine Kd.C_drewN ?_ _) | (with_reducible refine Kd.C_drew ?_))); (case side2 => exact HC0.out); rintro e w' ⟨rfl, ⟨nd, rfl⟩⟩; refine ⟨_, rfl, ?_⟩) | ((with_reducible refine gate_callee (f := 48) rfl ?_); refine goesL_ (some 8) rfl rfl Try.func48 (by kernel_rfl) rfl #[.slice A0 l0.length c0] rfl (by (try simp only [List.map_toArray, List.map_cons, List.map_nil]); first | done | rfl | (simp only [List.length_drop, List.length_take]; rfl)) ?_; (with_reducible refine (rows_row_every.calls k _ _ l0 t1002 _ ?side1 ?side2 A4.out).mono ?_); (case side1 => repeat (first | exact HR0.out | (with_reducible refine Kd.C_alloc ?_ _) | (with_reducible refine Kd.C_drewN ?_ _) | (with_reducible refine Kd.C_drew ?_))); (case side2 => exact HC0.out); rintro e w5 ⟨rfl, hb⟩; refine ⟨_, rfl, ?_⟩; have n0_ := Aside0.mk (below_step (by repeat (first | (with_reducible first | exact HB.out | apply below_alloc | apply pw_below_drewN | apply below_drew1) | exact HB.out)) hb); clear HB; have HB := n0_; clear n0_; (try clear hb); (try clear hb2); (try clear hk); (try clear hi)))
    go_ret2
    exact ⟨by first | rfl | (simp [errW_none, errW_some] <;> rfl) | (simp [*, errW_none, errW_some] <;> rfl), by repeat (first | (with_reducible first | exact HB.out | apply below_alloc | apply pw_below_drewN | apply below_drew1) | exact HB.out)⟩
  · replace c3 := Bool.eq_false_iff.mpr c3
    subst c3
    have H1 : (some (false, 2)) = some (r1, r2) := by rw [if_neg (show ¬ (false = true) by decide)] at H; exact H
    clear H
    have H := H1
    clear H1
    simp only [Option.some.injEq, Prod.mk.injEq] at H
    obtain ⟨rfl, rfl⟩ := H
    go_enter Try.func17, Try.ntmps17
    go_wp2_with (first | ((with_reducible refine gate_callee (f := 46) rfl ?_); refine goesL_ (some 5) rfl rfl Try.func46 (by kernel_rfl) rfl #[.slice A0 l0.length c0] rfl (by (try simp only [List.map_toArray, List.map_cons, List.map_nil]); first | done | rfl | (simp only [List.length_drop, List.length_take]; rfl)) ?_; (with_reducible refine (rows_row_valid.calls k _ _ l0 false _ ?side1 ?side2 A2.out).mono ?_); (case side1 => repeat (first | exact HR0.out | (with_reducible refine Kd.C_alloc ?_ _) | (with_reducible refine Kd.C_drewN ?_ _) | (with_reducible refine Kd.C_drew ?_))); (case side2 => exact HC0.out); rintro e w' ⟨rfl, ⟨nd, rfl⟩⟩; refine ⟨_, rfl, ?_⟩))
    go_ret2
    exact ⟨by first | rfl | (simp [errW_none, errW_some] <;> rfl) | (simp [*, errW_none, errW_some] <;> rfl), by repeat (first | (with_reducible first | exact HB.out | apply below_alloc | apply pw_below_drewN | apply below_drew1) | exact HB.out)⟩

end Go.Proofs.Ytpfjnpbcnlbhaaa.P
namespace Go.Proofs.Ytpfjnpbcnlbhaaa.P
open Go.RowKit Go.Proofs.YtpfjnpbcnlbhaaaW.PrintWords Go.Proofs.YtpfjnpbcnlbhaaaW.PrintLast Go.Proofs.YtpfjnpbcnlbhaaaW.PrintMore
attribute [local go_sem] max2_int min2_int max_two min_two max_three min_three max_four min_four   -- for this text's walks alone
set_option linter.unusedVariables false
set_option linter.unusedSimpArgs false

/-! ### sackbutref05_Steps: function 21 -/
def sackbutref05_Steps.l0 : Nat → List Int → Int → List Int → Int → Option (List Int)
  | 0, _, _, _, _ => none
  | k + 1, x0, x1, x5, x6 => if x6 < (x0.length : Int) then (if 0 ≤ x6 then (if 0 ≤ (wrap64 (x6 - 1)) then (if (wrap64 (x6 - 1)) < (x0.length : Int) then ((sackbutref05_mod.f (wrap64 ((rd x0 x6) - (rd x0 (wrap64 (x6 - 1))))) x1).bind fun t1003 => (if x5.length < 17592186044416 then (sackbutref05_Steps.l0 k x0 x1 (x5 ++ [t1003]) (wrap64 (x6 + 1))) else (none))) else (none)) else (none)) else (none)) else (some x5)
def sackbutref05_Steps.f (k : Nat) (l0 : List Int) (a1 : Int) : Option (List Int) := sackbutref05_Steps.l0 k l0 a1 ([] : List Int) 1
theorem sackbutref05_Steps.mono_l : ∀ k, (∀ y0 y1 y2 y3, LeO (sackbutref05_Steps.l0 k y0 y1 y2 y3) (sackbutref05_Steps.l0 (k + 1) y0 y1 y2 y3))
  | 0 => fun _ _ _ _ r h => by simp [sackbutref05_Steps.l0] at h
  | k + 1 => by
    have ih0 := sackbutref05_Steps.mono_l k
    · intro y0 y1 y2 y3
      unfold sackbutref05_Steps.l0
      repeat' first
      | (with_reducible exact ih0 _ _ _ _)
      | (with_reducible exact LeO.refl _)
      | (with_reducible exact LeO.none _)
      | (with_reducible refine LeO.ite ?_ ?_)
      | (with_reducible refine LeO.bind ?_ (fun _ => ?_))
      | exact ih0 _ _ _ _
      | exact LeO.none _
      | refine LeO.ite ?_ ?_
      | refine LeO.bind ?_ (fun _ => ?_)
theorem sackbutref05_Steps.mono : ∀ a0 a1 k, LeO (sackbutref05_Steps.f k a0 a1) (sackbutref05_Steps.f (k + 1) a0 a1) := by
  intro a0 a1 k
  have ih0 := sackbutref05_Steps.mono_l k
  unfold sackbutref05_Steps.f
  repeat' first
      | (with_reducible exact ih0 _ _ _ _)
      | (with_reducible exact LeO.refl _)
      | (with_reducible exact LeO.none _)
      | (with_reducible refine LeO.ite ?_ ?_)
      | (with_reducible refine LeO.bind ?_ (fun _ => ?_))
      | exact ih0 _ _ _ _
      | exact LeO.none _
      | refine LeO.ite ?_ ?_
      | refine LeO.bind ?_ (fun _ => ?_)
def sackbutref05_Steps.T5 : Bool × List (List Nat × List Nat) := (true, [([], []), ([], []), ([], []), ([1, 2], [1, 2]), ([3], [3]), ([], []), ([], []), ([6], [6]), ([5, 7], [5, 7]), ([8], [8]), ([4, 9], [4, 9]), ([], []), ([10, 11], [10, 11]), ([12], [12]), ([0, 13, 12], [0, 13]), ([14, 14, 0, 1, 2, 3, 4, 5, 6, 7, 8, 9, 10, 11, 12, 13, 14], [0, 14])])
def sackbutref05_Steps.B5 : List Nat := [0, 0, 0, 6, 14, 0, 0, 64, 224, 480, 1022, 0, 4094, 8190, 16383, 32767]
theorem sackbutref05_Steps.tab5 : rtab .any (opsOf Try.f21 5) = sackbutref05_Steps.T5 := by kernel_rfl
theorem sackbutref05_Steps.bits5 : waitsOk sackbutref05_Steps.T5.2 sackbutref05_Steps.B5 = true := by kernel_rfl
set_option maxHeartbeats 8000000 in
set_option maxRecDepth 100000 in
theorem sackbutref05_Steps.calls (k : Nat) (A0 : Option Addr) (c0 : Nat) (l0 : List Int) (a1 : Int) (r : List Int) (w : World) (hr0 : Kd.C (Kd.int .i64) w A0 l0.length l0) (hc0 : l0.length ≤ c0) (h : sackbutref05_Steps.f k l0 a1 = some r) :
    Calls Try.prog 21 #[.slice A0 l0.length c0, .int .i64 a1] w fun e w' => ∃ v0_ : Value, e = .returned (v0_) ∧ Kd.R (Kd.int .i64) 3 w' w.heap.size (fun _ => True) v0_ r ∧ Below w.heap.size w w' := by
  have HR0 := Aside0.mk hr0
  have HC0 := Aside0.mk hc0
  clear hr0 hc0
  have HB := Aside0.mk (Below.refl w.heap.size w)
  have H : (sackbutref05_Steps.l0 k l0 a1 ([] : List Int) 1) = some r := h
  clear h
  have H' := Aside0.mk H
  clear H
  go_enter Try.func21, Try.ntmps21
  go_wp2
  go_loopg [5, 6] k (fun kq v5 v6 w' => ∃ (x5_1 : List Int) (x6_1 : Int), v6 = .int .i64 x6_1 ∧ Aside0 (sackbutref05_Steps.l0 kq l0 a1 x5_1 x6_1 = some r) ∧ Aside0 (kq ≤ k) ∧ Aside0 (Kd.R (Kd.int .i64) 3 w' w.heap.size (fun _ => True) v5 x5_1) ∧ Aside0 (Below w.heap.size w w'))
  case atStart => exact ⟨(([] : List Int)), (1), (by first | rfl | (simp; done) | (simp [*]; done)), H', ⟨Nat.le_refl _⟩, ⟨by first | exact Kd.R_nil _ _ _ _ _ | exact Kd.N_nil _ _ _ _ _ | exact Kd.V_nil _ _ _ _ _ | exact Kd.Q_nil _ _ _ _ _ | exact Kd.S_nil _ _ _ _ _⟩, ⟨by repeat (first | (with_reducible first | exact HB.out | apply below_alloc | apply pw_below_drewN | apply below_drew1) | exact HB.out)⟩⟩
  case round =>
    clear H'
    try clear c2
    try clear p2
    obtain ⟨x5_1, x6_1, rfl, HA, HK1, HO_5, HB⟩ := hrel
    cases gk with
    | zero => exact absurd HA.out (by simp [sackbutref05_Steps.l0])
    | succ k1 =>
      have H := HA.out
      clear HA
      simp only [sackbutref05_Steps.l0] at H
      by_cases c3 : x6_1 < (l0.length : Int)
      · rw [if_pos c3] at H
        have c3b0 : decide (x6_1 < (l0.length : Int)) = true := decide_eq_true c3
        clear c3
        by_cases c4 : 0 ≤ x6_1
        · rw [if_pos c4] at H
          have c4b0 : decide (0 ≤ x6_1) = true := decide_eq_true c4
          clear c4
          obtain ⟨ji5, hji5⟩ : ∃ j_ : Int, (wrap64 (x6_1 - 1)) = j_ := ⟨_, rfl⟩
          replace H : (if 0 ≤ (ji5) then (if (ji5) < (l0.length : Int) then ((sackbutref05_mod.f (wrap64 ((rd l0 x6_1) - (rd l0 (ji5)))) a1).bind fun t1003 => (if x5_1.length < 17592186044416 then (sackbutref05_Steps.l0 k1 l0 a1 (x5_1 ++ [t1003]) (wrap64 (x6_1 + 1))) else (none))) else (none)) else (none)) = some r := by first | (rw [hji5] at H; exact H) | (simp only [hji5] at H ⊢; exact H)
          have hji5w : (IntKind.i64.wrap (x6_1 - 1)) = ji5 := (i64_w _).trans hji5
          by_cases c6 : 0 ≤ (ji5)
          · rw [if_pos c6] at H
            have c6b0 : decide (0 ≤ (ji5)) = true := decide_eq_true c6
            clear c6
            by_cases c7 : (ji5) < (l0.length : Int)
            · rw [if_pos c7] at H
              have c7b0 : decide ((ji5) < (l0.length : Int)) = true := decide_eq_true c7
              clear c7
              replace H := Option.bind_eq_some_iff.mp H
              obtain ⟨t1003, A80, H⟩ := H
              replace H : (if x5_1.length < 17592186044416 then (sackbutref05_Steps.l0 k1 l0 a1 (x5_1 ++ [t1003]) (wrap64 (x6_1 + 1))) else (none)) = some r := H
              have A8 := Aside0.mk A80
              clear A80
              by_cases c9 : x5_1.length < 17592186044416
              · rw [if_pos c9] at H
                have LMc9 := Aside0.mk c9
                clear c9
                obtain ⟨y1004, hy1004⟩ : ∃ y_ : List Int, y_ = (x5_1 ++ [t1003]) := ⟨_, rfl⟩
                replace H : (sackbutref05_Steps.l0 k1 l0 a1 y1004 (wrap64 (x6_1 + 1))) = some r := by first | (rw [hy1004]; with_reducible exact H) | (have H2_ := (Option.bind_some _ _).symm.trans H; rw [hy1004]; with_reducible exact H2_) | (have H2_ := (Option.bind_some _ _).symm.trans H; with_reducible exact H2_) | with_reducible exact H | (rw [hy1004]; exact H) | exact H
                have Ny1004 := Aside0.mk hy1004
                clear hy1004
                have H' := Aside0.mk H
                clear H
                try go_wp2
                have n0_ := Aside0.mk (Kd.R_drew HO_5.out)
                have n1_ := Aside0.mk (below_drew1 HB.out)
                clear HO_5
                clear HB
                have HO_5 := n0_
                have HB := n1_
                clear n0_ n1_
                have p1001 : 0 ≤ (x6_1 : Int) := of_decide_eq_true (by first | (with_reducible assumption) | assumption)
                have q1001 : x6_1 < (l0.length : Int) := of_decide_eq_true (by first | (with_reducible assumption) | assumption)
                obtain ⟨ad1001, e1001, hx1001_0⟩ := Kd.at_int HR0.out x6_1 p1001 q1001
                have hw1001_0 := hx1001_0
                cases e1001
                replace hx1001_0 := (HB.out.cell (World.block_lt_of_cell? w _ hx1001_0)).trans hx1001_0
                replace p1001 := eq_true p1001
                replace q1001 := eq_true q1001
                have p1002 : 0 ≤ ((ji5) : Int) := of_decide_eq_true (by first | (with_reducible assumption) | assumption)
                have q1002 : (ji5) < (l0.length : Int) := of_decide_eq_true (by first | (with_reducible assumption) | assumption)
                obtain ⟨ad1002, e1002, hx1002_0⟩ := Kd.at_int HR0.out (ji5) p1002 q1002
                have hw1002_0 := hx1002_0
                obtain rfl : ad1001 = ad1002 := (by injection e1002)
                replace hx1002_0 := (HB.out.cell (World.block_lt_of_cell? w _ hx1002_0)).trans hx1002_0
                replace p1002 := eq_true p1002
                replace q1002 := eq_true q1002
                refine start_ (n := 16) (S := fun w' => w'.cell? (ad1001.add (x6_1).toNat) = some (.int .i64 (rd l0 x6_1)) ∧ w'.cell? (ad1001.add ((ji5)).toNat) = some (.int .i64 (rd l0 (ji5)))) (ds := []) #[false, false, false, false, false, false, false, false, false, false, false, false, false, false, false, false] (by kernel_rfl) rfl rfl ⟨((HB.out.cell (World.block_lt_of_cell? w _ hw1001_0)).trans hw1001_0), ((HB.out.cell (World.block_lt_of_cell? w _ hw1002_0)).trans hw1002_0)⟩ (fun hHeld => ?_); refine with_tabW sackbutref05_Steps.tab5 sackbutref05_Steps.bits5 (fun HT_ HW_ => ?_)
                generalize wr.drew = w10 at HO_5 HB hx1001_0 hx1002_0 hHeld ⊢
                refine pure_ (i := 0) (N := some 13) (v := ?_) (a' := ?_) #[true, false, false, false, false, false, false, false, false, false, false, false, false, false, false, false] rfl rfl (any_of HT_.out (by kernel_rfl)) (fun _ _ _ h => h) (Or.inl ⟨by rfl, ?_⟩) ?_ ?_
                rotate_left
                · intro w'
                  go_simp
                  with_reducible rfl
                rotate_left
                · simp only [Act.put, List.setIfInBounds_toArray, List.set_cons_zero, List.set_cons_succ, i64_w, i32_w]
                  rfl
                refine pure_ (i := 1) (N := some 14) (v := ?_) (a' := ?_) #[true, true, false, false, false, false, false, false, false, false, false, false, false, false, false, false] rfl rfl (any_of HT_.out (by kernel_rfl)) (fun _ _ _ h => h) (Or.inl ⟨by rfl, ?_⟩) ?_ ?_
                rotate_left
                · intro w'
                  go_simp
                  with_reducible rfl
                rotate_left
                · simp only [Act.put, List.setIfInBounds_toArray, List.set_cons_zero, List.set_cons_succ, i64_w, i32_w]
                  rfl
                refine pure_ (i := 2) (N := some 15) (v := ?_) (a' := ?_) #[true, true, true, false, false, false, false, false, false, false, false, false, false, false, false, false] rfl rfl (any_of HT_.out (by kernel_rfl)) (fun _ _ _ h => h) (Or.inl ⟨by rfl, ?_⟩) ?_ ?_
                rotate_left
                · intro w'
                  go_simp
                  with_reducible rfl
                rotate_left
                · simp only [Act.put, List.setIfInBounds_toArray, List.set_cons_zero, List.set_cons_succ, i64_w, i32_w]
                  rfl
                refine pure_ (i := 3) (N := some 16) (v := ?_) (a' := ?_) #[true, true, true, true, false, false, false, false, false, false, false, false, false, false, false, false] rfl rfl (any_of HT_.out (by kernel_rfl)) (fun _ _ _ h => h) (Or.inl ⟨by rfl, ?_⟩) ?_ ?_
                rotate_left
                · intro w'
                  go_simp
                  with_reducible rfl
                rotate_left
                · simp only [Act.put, List.setIfInBounds_toArray, List.set_cons_zero, List.set_cons_succ, i64_w, i32_w]
                  rfl
                refine pure_ (i := 5) (N := some 18) (v := ?_) (a' := ?_) #[true, true, true, true, false, true, false, false, false, false, false, false, false, false, false, false] rfl rfl (any_of HT_.out (by kernel_rfl)) (fun _ _ _ h => h) (Or.inl ⟨by rfl, ?_⟩) ?_ ?_
                rotate_left
                · intro w'
                  go_simp
                  with_reducible rfl
                rotate_left
                · simp only [Act.put, List.setIfInBounds_toArray, List.set_cons_zero, List.set_cons_succ, i64_w, i32_w]
                  rfl
                refine pure_ (i := 6) (N := some 19) (v := ?_) (a' := ?_) #[true, true, true, true, false, true, true, false, false, false, false, false, false, false, false, false] rfl rfl (any_of HT_.out (by kernel_rfl)) (fun _ _ _ h => h) (Or.inl ⟨by rfl, ?_⟩) ?_ ?_
                rotate_left
                · intro w'
                  go_simp
                  with_reducible rfl
                rotate_left
                · simp only [Act.put, List.setIfInBounds_toArray, List.set_cons_zero, List.set_cons_succ, i64_w, i32_w]
                  rfl
                refine pure_ (i := 7) (N := some 20) (v := ?_) (a' := ?_) #[true, true, true, true, false, true, true, true, false, false, false, false, false, false, false, false] rfl rfl (any_of HT_.out (by kernel_rfl)) (fun _ _ _ h => h) (Or.inl ⟨by rfl, ?_⟩) ?_ ?_
                rotate_left
                · intro w'
                  go_simp
                  with_reducible rfl
                rotate_left
                · simp only [Act.put, List.setIfInBounds_toArray, List.set_cons_zero, List.set_cons_succ, i64_w, i32_w]
                  rfl
                refine pure_ (i := 8) (N := some 21) (v := ?_) (a' := ?_) #[true, true, true, true, false, true, true, true, true, false, false, false, false, false, false, false] rfl rfl (any_of HT_.out (by kernel_rfl)) (fun _ _ _ h => h) (Or.inl ⟨by rfl, ?_⟩) ?_ ?_
                rotate_left
                · intro w'
                  go_simp
                  with_reducible rfl
                rotate_left
                · simp only [Act.put, List.setIfInBounds_toArray, List.set_cons_zero, List.set_cons_succ, i64_w, i32_w]
                  rfl
                refine pure_ (i := 11) (N := some 24) (v := ?_) (a' := ?_) #[true, true, true, true, false, true, true, true, true, false, false, true, false, false, false, false] rfl rfl (any_of HT_.out (by kernel_rfl)) (fun _ _ _ h => h) (Or.inl ⟨by rfl, ?_⟩) ?_ ?_
                rotate_left
                · intro w'
                  go_simp
                  with_reducible rfl
                rotate_left
                · simp only [Act.put, List.setIfInBounds_toArray, List.set_cons_zero, List.set_cons_succ, i64_w, i32_w]
                  rfl
                refine take_ (i := 4) (N := some 17) (v := ?_) (a' := ?_) #[true, true, true, true, true, true, true, true, true, false, false, true, false, false, false, false] rfl rfl (take_ofW HT_.out HW_.out (by kernel_rfl)) (fun _ _ _ h => h) (Or.inl ⟨by rfl, ?_⟩) hHeld ?_ ?_
                rotate_left
                · rintro w' ⟨s0, s1⟩
                  go_simp
                  with_reducible rfl
                rotate_left
                · simp only [Act.put, List.setIfInBounds_toArray, List.set_cons_zero, List.set_cons_succ, i64_w, i32_w]
                  rfl
                refine take_ (i := 9) (N := some 22) (v := ?_) (a' := ?_) #[true, true, true, true, true, true, true, true, true, true, false, true, false, false, false, false] rfl rfl (take_ofW HT_.out HW_.out (by kernel_rfl)) (fun _ _ _ h => h) (Or.inl ⟨by rfl, ?_⟩) hHeld ?_ ?_
                rotate_left
                · rintro w' ⟨s0, s1⟩
                  go_simp
                  with_reducible rfl
                rotate_left
                · simp only [Act.put, List.setIfInBounds_toArray, List.set_cons_zero, List.set_cons_succ, i64_w, i32_w]
                  rfl
                refine pure_ (i := 10) (N := some 23) (v := ?_) (a' := ?_) #[true, true, true, true, true, true, true, true, true, true, true, true, false, false, false, false] rfl rfl (any_of HT_.out (by kernel_rfl)) (fun _ _ _ h => h) (Or.inl ⟨by rfl, ?_⟩) ?_ ?_
                rotate_left
                · intro w'
                  go_simp
                  with_reducible rfl
                rotate_left
                · simp only [Act.put, List.setIfInBounds_toArray, List.set_cons_zero, List.set_cons_succ, i64_w, i32_w]
                  rfl
                refine one_ (i := 12) (N := some 25) #[true, true, true, true, true, true, true, true, true, true, true, true, true, false, false, false] rfl rfl (one_of HT_.out (by kernel_rfl)) (by decide) (fun K hK => ?_)
                refine goes_ Try.func49 (by kernel_rfl) rfl #[.int .i64 (wrap64 ((rd l0 x6_1) - (rd l0 (ji5)))), .int .i64 a1] (by rfl) rfl rfl (by (try simp only [List.map_toArray, List.map_cons, List.map_nil]); first | done | (simp only [hji5]; rfl) | rfl | (simp only [List.length_drop, List.length_take]; rfl)) ?_
                with_reducible refine (sackbutref05_mod.calls (wrap64 ((rd l0 x6_1) - (rd l0 (ji5)))) a1 t1003 _ A8.out).mono ?_
                rintro e w' ⟨rfl, ⟨nd, rfl⟩⟩
                refine ⟨_, rfl, ?_⟩
                refine hK.out _ _ ⟨((HB.out.cell (World.block_lt_of_cell? w _ hw1001_0)).trans hw1001_0), ((HB.out.cell (World.block_lt_of_cell? w _ hw1002_0)).trans hw1002_0)⟩ (fun hHeld => ?_)
                clear hK K
                refine norm_ (a' := ?_) ?_ ?_
                rotate_left
                · show Act.put _ (some 25) _ = _
                  simp only [Act.put, List.setIfInBounds_toArray, List.set_cons_zero, List.set_cons_succ, i64_w, i32_w]
                  rfl
                refine one_ (i := 13) (N := some 26) #[true, true, true, true, true, true, true, true, true, true, true, true, true, true, false, false] rfl rfl (one_of HT_.out (by kernel_rfl)) (by decide) (fun K hK => ?_)
                refine value_ (w1 := ?_) (v := ?_) (by rfl) rfl ?_ ?_
                rotate_left 2
                · go_simp
                  constructor
                  · rfl
                  · rfl
                refine hK.out _ _ ⟨(World.cell?_alloc_lt _ _ _ (World.block_lt_of_cell? _ _ (((HB.out.cell (World.block_lt_of_cell? w _ hw1001_0)).trans hw1001_0)))).trans (((HB.out.cell (World.block_lt_of_cell? w _ hw1001_0)).trans hw1001_0)), (World.cell?_alloc_lt _ _ _ (World.block_lt_of_cell? _ _ (((HB.out.cell (World.block_lt_of_cell? w _ hw1002_0)).trans hw1002_0)))).trans (((HB.out.cell (World.block_lt_of_cell? w _ hw1002_0)).trans hw1002_0))⟩ (fun hHeld => ?_)
                clear hK K
                refine norm_ (a' := ?_) ?_ ?_
                rotate_left
                · show Act.put _ (some 26) _ = _
                  simp only [Act.put, List.setIfInBounds_toArray, List.set_cons_zero, List.set_cons_succ, i64_w, i32_w]
                  rfl
                refine one_ (i := 14) (N := some 27) #[true, true, true, true, true, true, true, true, true, true, true, true, true, true, true, false] rfl rfl (one_of HT_.out (by kernel_rfl)) (by decide) (fun K hK => ?_)
                refine Kd.R_append_step (Kd.int .i64) (w0 := w) w.heap.size (by rfl) (.tmp 13) (.tmp 26) 22 3 (.int .i64 0) 8 rfl Try.underlying22 info3 rfl (by decide) (by omega) u5 x5_1 t1003 [.int .i64 t1003] (fun _ => True) (fun _ => False) rfl rfl ?aP (fun _ hk => hk.elim) ?aF ?aO ?aB ?aS ?aL ?_
                (case aP => exact rfl)
                (case aB => exact (by repeat (first | (with_reducible first | exact HB.out | apply below_alloc | apply pw_below_drewN | apply below_drew1) | exact HB.out)))
                (case aF => exact (fun _ _ => trivial))
                (case aO => exact (by (with_reducible repeat (first | apply Kd.R_alloc | apply Kd.R_drewN | apply Kd.R_drew)); exact HO_5.out))
                (case aS => exact (below_size (by repeat (first | (with_reducible first | exact HB.out | apply below_alloc | apply pw_below_drewN | apply below_drew1) | exact HB.out))))
                (case aL => have := LMc9.out; omega)
                intro v1005 w11 ho hb hg hat
                rw [← Ny1004.out] at ho
                have n0_ := Aside0.mk (hb)
                have n1_ := Aside0.mk (ho)
                clear HB
                clear HO_5
                have HB := n0_
                have HO1006 := n1_
                clear n0_ n1_
                clear ho hb hg hat
                refine hK.out _ _ ⟨((HB.out.cell (World.block_lt_of_cell? w _ hw1001_0)).trans hw1001_0), ((HB.out.cell (World.block_lt_of_cell? w _ hw1002_0)).trans hw1002_0)⟩ (fun hHeld => ?_)
                clear hK K
                refine norm_ (a' := ?_) ?_ ?_
                rotate_left
                · show Act.put _ (some 27) _ = _
                  simp only [Act.put, List.setIfInBounds_toArray, List.set_cons_zero, List.set_cons_succ, i64_w, i32_w]
                  rfl
                refine pure_ (i := 15) (N := some 5) (v := ?_) (a' := ?_) #[true, true, true, true, true, true, true, true, true, true, true, true, true, true, true, true] rfl rfl (any_of HT_.out (by kernel_rfl)) (fun _ _ _ h => h) (Or.inl ⟨by rfl, ?_⟩) ?_ ?_
                rotate_left
                · intro w'
                  go_simp
                  with_reducible rfl
                rotate_left
                · simp only [Act.put, List.setIfInBounds_toArray, List.set_cons_zero, List.set_cons_succ, i64_w, i32_w]
                  rfl
                refine done_ (done_of HT_.out (by kernel_rfl)) ?_
                try go_wp2
                go_roundg k1
                case measure => have := HK1.out; omega
                case rel => exact ⟨(y1004), (wrap64 (x6_1 + 1)), (by first | rfl | (simp; done) | (simp [*]; done)), H', ⟨by have := HK1.out; omega⟩, ⟨by (with_reducible repeat (first | apply Kd.R_alloc | apply Kd.R_drewN | apply Kd.R_drew)); exact HO1006.out⟩, ⟨by repeat (first | (with_reducible first | exact HB.out | apply below_alloc | apply pw_below_drewN | apply below_drew1) | exact HB.out)⟩⟩
              · rw [if_neg c9] at H
                exact absurd H (by simp)
            · rw [if_neg c7] at H
              exact absurd H (by simp)
          · rw [if_neg c6] at H
            exact absurd H (by simp)
        · rw [if_neg c4] at H
          exact absurd H (by simp)
      · rw [if_neg c3] at H
        have c3b0 : decide (x6_1 < (l0.length : Int)) = false := decide_eq_false c3
        clear c3
        obtain rfl := Option.some.inj H
        go_wp2
        go_ret
        exact ⟨_, by first | rfl | (simp [errW_none, errW_some] <;> rfl) | (simp [*, errW_none, errW_some] <;> rfl), by (with_reducible repeat (first | apply Kd.R_alloc | apply Kd.R_drewN | apply Kd.R_drew)); exact HO_5.out, by repeat (first | (with_reducible first | exact HB.out | apply below_alloc | apply pw_below_drewN | apply below_drew1) | exact HB.out)⟩

end Go.Proofs.Ytpfjnpbcnlbhaaa.P
namespace Go.Proofs.Ytpfjnpbcnlbhaaa.P
open Go.RowKit Go.Proofs.YtpfjnpbcnlbhaaaW.PrintWords Go.Proofs.YtpfjnpbcnlbhaaaW.PrintLast Go.Proofs.YtpfjnpbcnlbhaaaW.PrintMore
attribute [local go_sem] max2_int min2_int max_two min_two max_three min_three max_four min_four   -- for this text's walks alone
set_option linter.unusedVariables false
set_option linter.unusedSimpArgs false

/-! ### sackbutref05_Every: function 22 -/
def sackbutref05_Every.l0 : Nat → Int → List Int → Int → Int → Option (Bool)
  | 0, _, _, _, _ => none
  | k + 1, x5, x10, x11, x12 => if x12 < x11 then (if 0 ≤ x12 then (if x12 < (x10.length : Int) then (if 0 ≤ (rd x10 x12) then (if (Go.bits .and .i64 (shr .i64 x5 (rd x10 x12)) 1) = 1 then (some false) else (sackbutref05_Every.l0 k (Go.bits .or .i64 x5 (shl .i64 1 (rd x10 x12))) x10 x11 (wrap64 (x12 + 1)))) else (none)) else (none)) else (none)) else (some true)
def sackbutref05_Every.f (k : Nat) (l0 : List Int) (a1 : Int) : Option (Bool) := (sackbutref05_Steps.f k l0 a1).bind fun t1001 => (sackbutref05_Every.l0 k 0 t1001 (t1001.length : Int) 0)
theorem sackbutref05_Every.mono_l : ∀ k, (∀ y0 y1 y2 y3, LeO (sackbutref05_Every.l0 k y0 y1 y2 y3) (sackbutref05_Every.l0 (k + 1) y0 y1 y2 y3))
  | 0 => fun _ _ _ _ r h => by simp [sackbutref05_Every.l0] at h
  | k + 1 => by
    have ih0 := sackbutref05_Every.mono_l k
    · intro y0 y1 y2 y3
      unfold sackbutref05_Every.l0
      repeat' first
      | (with_reducible exact ih0 _ _ _ _)
      | (with_reducible exact sackbutref05_Steps.mono _ _ _)
      | (with_reducible exact LeO.refl _)
      | (with_reducible exact LeO.none _)
      | (with_reducible refine LeO.ite ?_ ?_)
      | (with_reducible refine LeO.bind ?_ (fun _ => ?_))
      | exact ih0 _ _ _ _
      | exact sackbutref05_Steps.mono _ _ _
      | exact LeO.none _
      | refine LeO.ite ?_ ?_
      | refine LeO.bind ?_ (fun _ => ?_)
theorem sackbutref05_Every.mono : ∀ a0 a1 k, LeO (sackbutref05_Every.f k a0 a1) (sackbutref05_Every.f (k + 1) a0 a1) := by
  intro a0 a1 k
  have ih0 := sackbutref05_Every.mono_l k
  unfold sackbutref05_Every.f
  repeat' first
      | (with_reducible exact ih0 _ _ _ _)
      | (with_reducible exact sackbutref05_Steps.mono _ _ _)
      | (with_reducible exact LeO.refl _)
      | (with_reducible exact LeO.none _)
      | (with_reducible refine LeO.ite ?_ ?_)
      | (with_reducible refine LeO.bind ?_ (fun _ => ?_))
      | exact ih0 _ _ _ _
      | exact sackbutref05_Steps.mono _ _ _
      | exact LeO.none _
      | refine LeO.ite ?_ ?_
      | refine LeO.bind ?_ (fun _ => ?_)
set_option maxHeartbeats 8000000 in
set_option maxRecDepth 100000 in
theorem sackbutref05_Every.calls (k : Nat) (A0 : Option Addr) (c0 : Nat) (l0 : List Int) (a1 : Int) (r : Bool) (w : World) (hr0 : Kd.C (Kd.int .i64) w A0 l0.length l0) (hc0 : l0.length ≤ c0) (h : sackbutref05_Every.f k l0 a1 = some r) :
    Calls Try.prog 22 #[.slice A0 l0.length c0, .int .i64 a1] w fun e w' => e = .returned (.bool r) ∧ Below w.heap.size w w' := by
  have HR0 := Aside0.mk hr0
  have HC0 := Aside0.mk hc0
  clear hr0 hc0
  have HB := Aside0.mk (Below.refl w.heap.size w)
  have H : ((sackbutref05_Steps.f k l0 a1).bind fun t1001 => (sackbutref05_Every.l0 k 0 t1001 (t1001.length : Int) 0)) = some r := h
  clear h
  replace H := Option.bind_eq_some_iff.mp H
  obtain ⟨t1001, A30, H⟩ := H
  replace H : (sackbutref05_Every.l0 k 0 t1001 (t1001.length : Int) 0) = some r := H
  have A3 := Aside0.mk A30
  clear A30
  have H' := Aside0.mk H
  clear H
  go_enter Try.func22, Try.ntmps22
  go_wp2_with (first | ((with_reducible refine gate_callee (f := 21) rfl ?_); refine goesL_ (some 10) rfl rfl Try.func21 (by kernel_rfl) rfl #[.slice A0 l0.length c0, .int .i64 a1] rfl (by (try simp only [List.map_toArray, List.map_cons, List.map_nil]); first | done | rfl | (simp only [List.length_drop, List.length_take]; rfl)) ?_; (with_reducible refine (sackbutref05_Steps.calls k _ _ l0 a1 t1001 _ ?side1 ?side2 A3.out).mono ?_); (case side1 => repeat (first | exact HR0.out | (with_reducible refine Kd.C_alloc ?_ _) | (with_reducible refine Kd.C_drewN ?_ _) | (with_reducible refine Kd.C_drew ?_))); (case side2 => exact HC0.out); rintro e w4 ⟨v1002, rfl, ho0, hb⟩; refine ⟨_, rfl, ?_⟩; have n0_ := Aside0.mk (Kd.R_lower ho0 (below_size (by repeat (first | (with_reducible first | exact HB.out | apply below_alloc | apply pw_below_drewN | apply below_drew1) | exact HB.out)))); have n1_ := Aside0.mk (below_step (by repeat (first | (with_reducible first | exact HB.out | apply below_alloc | apply pw_below_drewN | apply below_drew1) | exact HB.out)) hb); clear HB; have HO1003 := n0_; have HB := n1_; clear n0_ n1_; (try clear hb); (try clear hb2); (try clear hk); (try clear hi); (try clear ho0); obtain ⟨Ao5, co5, eo5⟩ := Kd.R_slice HO1003.out; subst eo5))
  go_loopg [5, 12] k (fun kq v5 v12 w' => ∃ (x5_1 : Int) (x12_1 : Int), v5 = .int .i64 x5_1 ∧ v12 = .int .i64 x12_1 ∧ Aside0 (sackbutref05_Every.l0 kq x5_1 t1001 (t1001.length : Int) x12_1 = some r) ∧ Aside0 (kq ≤ k) ∧ Aside0 (Kd.R (Kd.int .i64) 3 w' w.heap.size (fun _ => True) (.slice Ao5 t1001.length co5) t1001) ∧ Aside0 (Below w.heap.size w w'))
  case atStart => exact ⟨(0), (0), (by first | rfl | (simp; done) | (simp [*]; done)), (by first | rfl | (simp; done) | (simp [*]; done)), H', ⟨Nat.le_refl _⟩, ⟨by (with_reducible repeat (first | apply Kd.R_alloc | apply Kd.R_drewN | apply Kd.R_drew)); exact HO1003.out⟩, ⟨by repeat (first | (with_reducible first | exact HB.out | apply below_alloc | apply pw_below_drewN | apply below_drew1) | exact HB.out)⟩⟩
  case round =>
    clear H'
    try clear c2
    try clear p2
    obtain ⟨x5_1, x12_1, rfl, rfl, HA, HK1, HO_10, HB⟩ := hrel
    cases gk with
    | zero => exact absurd HA.out (by simp [sackbutref05_Every.l0])
    | succ k1 =>
      have H := HA.out
      clear HA
      simp only [sackbutref05_Every.l0] at H
      by_cases c6 : x12_1 < (t1001.length : Int)
      · rw [if_pos c6] at H
        have c6b0 : decide (x12_1 < (t1001.length : Int)) = true := decide_eq_true c6
        clear c6
        by_cases c7 : 0 ≤ x12_1
        · rw [if_pos c7] at H
          have c7b0 : decide (0 ≤ x12_1) = true := decide_eq_true c7
          clear c7
          by_cases c8 : x12_1 < (t1001.length : Int)
          · rw [if_pos c8] at H
            have c8b0 : decide (x12_1 < (t1001.length : Int)) = true := decide_eq_true c8
            clear c8
            by_cases c9 : 0 ≤ (rd t1001 x12_1)
            · rw [if_pos c9] at H
              have c9b0 := eq_true c9
              have c9b1 : decide (0 ≤ (rd t1001 x12_1)) = true := decide_eq_true c9
              clear c9
              obtain ⟨ji10, hji10⟩ : ∃ j_ : Int, (shr .i64 x5_1 (rd t1001 x12_1)) = j_ := ⟨_, rfl⟩
              replace H : (if (Go.bits .and .i64 (ji10) 1) = 1 then (some false) else (sackbutref05_Every.l0 k1 (Go.bits .or .i64 x5_1 (shl .i64 1 (rd t1001 x12_1))) t1001 (t1001.length : Int) (wrap64 (x12_1 + 1)))) = some r := by first | (rw [hji10] at H; exact H) | (simp only [hji10] at H ⊢; exact H)
              have hji10_ : (x5_1 / 2 ^ min (rd t1001 x12_1).toNat 64) = ji10 := hji10
              have hji10z : (rd t1001 x12_1) ≤ 64 → (x5_1 / 2 ^ (rd t1001 x12_1).toNat) = ji10 := shr_small hji10
              by_cases c11 : (Go.bits .and .i64 (ji10) 1) = 1
              · rw [if_pos c11] at H
                have c11b0 : ((Go.bits .and .i64 (ji10) 1) == 1) = true := beq_iff_eq.mpr c11
                have c11b1 : ((Go.bits .and .i64 (ji10) 1) != 1) = false := bne_eq_false_iff_eq.mpr c11
                clear c11
                obtain rfl := Option.some.inj H
                have p1004 : 0 ≤ (x12_1 : Int) := of_decide_eq_true (by first | (with_reducible assumption) | assumption)
                have q1004 : x12_1 < (t1001.length : Int) := of_decide_eq_true (by first | (with_reducible assumption) | assumption)
                obtain ⟨ad1004, e1004, hx1004_0⟩ := Kd.at_int (Kd.R_reads' HO_10.out).2.2 x12_1 p1004 q1004
                cases e1004
                replace p1004 := eq_true p1004
                replace q1004 := eq_true q1004
                go_wp2
                go_ret
                exact ⟨by first | rfl | (simp [errW_none, errW_some] <;> rfl) | (simp only [← hji10]; first | rfl | (simp [errW_none, errW_some] <;> rfl)) | (simp [*, errW_none, errW_some] <;> rfl), by repeat (first | (with_reducible first | exact HB.out | apply below_alloc | apply pw_below_drewN | apply below_drew1) | exact HB.out)⟩
              · rw [if_neg c11] at H
                have c11b0 : ((Go.bits .and .i64 (ji10) 1) == 1) = false := beq_eq_false_iff_ne.mpr c11
                have c11b1 : ((Go.bits .and .i64 (ji10) 1) != 1) = true := bne_iff_ne.mpr c11
                have c12b0 := eq_true (of_decide_eq_true (by first | (with_reducible assumption) | assumption) : 0 ≤ (rd t1001 x12_1))
                obtain ⟨ji13, hji13⟩ : ∃ j_ : Int, (shl .i64 1 (rd t1001 x12_1)) = j_ := ⟨_, rfl⟩
                replace H : (sackbutref05_Every.l0 k1 (Go.bits .or .i64 x5_1 (ji13)) t1001 (t1001.length : Int) (wrap64 (x12_1 + 1))) = some r := by first | (rw [hji13] at H; exact H) | (simp only [hji13] at H ⊢; exact H)
                have hji13_ : (IntKind.i64.wrap (1 * 2 ^ min (rd t1001 x12_1).toNat 64)) = ji13 := hji13
                have hji13z : (rd t1001 x12_1) ≤ 64 → (IntKind.i64.wrap (1 * 2 ^ (rd t1001 x12_1).toNat)) = ji13 := shl_small hji13
                have hji13u : (IntKind.i64.wrap (2 ^ min (rd t1001 x12_1).toNat 64)) = ji13 := by have h_ := hji13_; rw [Int.one_mul] at h_; exact h_
                have hji13v : (rd t1001 x12_1) ≤ 64 → (IntKind.i64.wrap (2 ^ (rd t1001 x12_1).toNat)) = ji13 := fun hle_ => by have h_ := hji13z hle_; rw [Int.one_mul] at h_; exact h_
                have hji13y : (wrap64 (1 * 2 ^ min (rd t1001 x12_1).toNat 64)) = ji13 := (i64_w _).symm.trans hji13_
                have hji13x : (rd t1001 x12_1) ≤ 64 → (wrap64 (1 * 2 ^ (rd t1001 x12_1).toNat)) = ji13 := fun h_ => (i64_w _).symm.trans (hji13z h_)
                have H' := Aside0.mk H
                clear H
                have p1004 : 0 ≤ (x12_1 : Int) := of_decide_eq_true (by first | (with_reducible assumption) | assumption)
                have q1004 : x12_1 < (t1001.length : Int) := of_decide_eq_true (by first | (with_reducible assumption) | assumption)
                obtain ⟨ad1004, e1004, hx1004_0⟩ := Kd.at_int (Kd.R_reads' HO_10.out).2.2 x12_1 p1004 q1004
                cases e1004
                replace p1004 := eq_true p1004
                replace q1004 := eq_true q1004
                go_wp2
                go_roundg k1
                case measure => have := HK1.out; omega
                case rel => exact ⟨(Go.bits .or .i64 x5_1 (ji13)), (wrap64 (x12_1 + 1)), (by first | rfl | (simp; done) | (simp only [← hji13] <;> (first | rfl | simp)) | (simp [*]; done)), (by first | rfl | (simp; done) | (simp [*]; done)), H', ⟨by have := HK1.out; omega⟩, ⟨by (with_reducible repeat (first | apply Kd.R_alloc | apply Kd.R_drewN | apply Kd.R_drew)); exact HO_10.out⟩, ⟨by repeat (first | (with_reducible first | exact HB.out | apply below_alloc | apply pw_below_drewN | apply below_drew1) | exact HB.out)⟩⟩
            · rw [if_neg c9] at H
              exact absurd H (by simp)
          · rw [if_neg c8] at H
            exact absurd H (by simp)
        · rw [if_neg c7] at H
          exact absurd H (by simp)
      · rw [if_neg c6] at H
        have c6b0 : decide (x12_1 < (t1001.length : Int)) = false := decide_eq_false c6
        clear c6
        obtain rfl := Option.some.inj H
        go_wp2
        go_ret
        exact ⟨by first | rfl | (simp [errW_none, errW_some] <;> rfl) | (simp [*, errW_none, errW_some] <;> rfl), by repeat (first | (with_reducible first | exact HB.out | apply below_alloc | apply pw_below_drewN | apply below_drew1) | exact HB.out)⟩

end Go.Proofs.Ytpfjnpbcnlbhaaa.P
namespace Go.Proofs.Ytpfjnpbcnlbhaaa.P
open Go.RowKit Go.Proofs.YtpfjnpbcnlbhaaaW.PrintWords Go.Proofs.YtpfjnpbcnlbhaaaW.PrintLast Go.Proofs.YtpfjnpbcnlbhaaaW.PrintMore
attribute [local go_sem] max2_int min2_int max_two min_two max_three min_three max_four min_four   -- for this text's walks alone
set_option linter.unusedVariables false
set_option linter.unusedSimpArgs false

/-! What the functions on rows come to. -/
def IsRow (l : List Int) : Prop := 2 ≤ l.length ∧ l.length ≤ 10 ∧ (∀ x ∈ l, 0 ≤ x ∧ x < l.length) ∧ l.Nodup
instance (l : List Int) : Decidable (IsRow l) := by unfold IsRow; infer_instance
def PartOf (n : Nat) (l : List Int) : Prop := (∀ x ∈ l, 0 ≤ x ∧ x < n) ∧ l.Nodup
instance (n : Nat) (l : List Int) : Decidable (PartOf n l) := by unfold PartOf; infer_instance
def stepsOf (n : Int) : List Int → List Int
  | x :: y :: r => (y - x) % n :: stepsOf n (y :: r)
  | _ => []

theorem rows_mod_f {a n : Int} (hn : 0 < n) (hb : n < 4611686018427387904) : rows_mod.f a n = some (a % n) := by
  unfold rows_mod.f
  rw [if_neg (by omega), tmod_mod hn hb]

/-! slices.Equal -/
theorem Equal_loop (l0 l1 : List Int) (hlen : l0.length = l1.length) (hb : l0.length < 9223372036854775807) : ∀ (xs ys pre pre1 : List Int), l0 = pre ++ xs → l1 = pre1 ++ ys → pre.length = pre1.length →
    Ev (fun k => slices_Equal_int_int.l0 k l0 l1 (l0.length : Int) (pre.length : Int)) (decide (xs = ys)) := by
  intro xs
  induction xs with
  | nil =>
    intro ys pre pre1 h0 h1 hp
    have hy : ys = [] := by
      have := congrArg List.length h0; have := congrArg List.length h1
      simp at *
      exact List.eq_nil_of_length_eq_zero (by omega)
    subst hy
    refine Ev.succ ?_
    simp only [slices_Equal_int_int.l0, if_neg (mid_end h0)]
    simpa using Ev.some true
  | cons x xs ih =>
    intro ys pre pre1 h0 h1 hp
    cases ys with
    | nil => exfalso; have := congrArg List.length h0; have := congrArg List.length h1; simp at *; omega
    | cons y ys =>
      have r1 : rd l1 (pre.length : Int) = y := by rw [hp]; exact mid_rd h1
      have l1' : (pre.length : Int) < (l1.length : Int) := by rw [hp]; exact mid_lt h1
      refine Ev.succ ?_
      simp only [slices_Equal_int_int.l0, if_pos (mid_lt h0), if_pos (show (0 : Int) ≤ (pre.length : Int) by omega), if_pos l1', mid_rd h0, r1, mid_next h0 hb]
      refine Ev.ite (fun e => ?_) (fun e => ?_)
      · have := ih ys (pre ++ [x]) (pre1 ++ [y]) (mid_mv h0) (mid_mv h1) (by simp [hp])
        simpa [e] using this
      · simpa [e] using Ev.some false
theorem Equal_ev (l0 l1 : List Int) (hb : l0.length < 9223372036854775807) : Ev (fun k => slices_Equal_int_int.f k l0 l1) (decide (l0 = l1)) := by
  unfold slices_Equal_int_int.f
  refine Ev.ite (fun e => ?_) (fun e => ?_)
  · exact Equal_loop l0 l1 (by omega) hb l0 l1 [] [] rfl rfl rfl
  · have : l0 ≠ l1 := fun h => e (by rw [h])
    simpa [this] using Ev.some false

/-! a row is valid -/
def validRun (n : Nat) : Nat → List Int → Bool
  | s, [] => decide (s = 2 ^ n - 1)
  | s, x :: xs => if x < 0 then false else if x ≥ n then false else validRun n (s ||| 2 ^ x.toNat) xs
theorem valid_loop (l : List Int) (hl : l.length ≤ 10) : ∀ (xs pre : List Int) (s : Nat), l = pre ++ xs → s < 2 ^ l.length →
    Ev (fun k => rows_row_valid.l0 k (l.length : Int) (s : Int) l (l.length : Int) (pre.length : Int)) (validRun l.length s xs) := by
  intro xs
  induction xs with
  | nil =>
    intro pre s h0 hs
    refine Ev.succ ?_
    have hsh := shl1_i64 (x := l.length) (by omega)
    have hp := Nat.two_pow_pos l.length
    have hp2 := two_pow_lt63 (x := l.length) (by omega)
    have hw : wrap64 (shl .i64 1 (l.length : Int) - 1) = ((2 ^ l.length - 1 : Nat) : Int) := by
      rw [hsh, wrap_id (by omega) (by have : (2 : Nat) ^ 63 = 9223372036854775808 := by decide
                                      omega)]
      omega
    simp only [rows_row_valid.l0, if_neg (mid_end h0), if_pos (show (0 : Int) ≤ (l.length : Int) by omega), hw]
    have e : ((s : Int) == ((2 ^ l.length - 1 : Nat) : Int)) = decide (s = 2 ^ l.length - 1) := by
      by_cases h : s = 2 ^ l.length - 1
      · simp only [← h]; simp
      · simp only [h, decide_false, beq_eq_false_iff_ne]; omega
    rw [e]
    exact Ev.some _
  | cons x xs ih =>
    intro pre s h0 hs
    refine Ev.succ ?_
    simp only [rows_row_valid.l0, if_pos (mid_lt h0), if_pos (show (0 : Int) ≤ (pre.length : Int) by omega), mid_rd h0, mid_next h0 (by omega), validRun]
    refine Ev.ite (fun e => by simpa [e] using Ev.some false) (fun e => ?_)
    refine Ev.ite (fun e2 => by simpa [e, e2] using Ev.some false) (fun e2 => ?_)
    obtain ⟨m, rfl⟩ := Int.eq_ofNat_of_zero_le (show 0 ≤ x by omega)
    have hp2 := two_pow_lt63 (x := l.length) (by omega)
    have hm2 : 2 ^ m < 2 ^ l.length := Nat.pow_lt_pow_right (by omega) (by omega)
    have hs2 : s ||| 2 ^ m < 2 ^ l.length := Nat.or_lt_two_pow hs hm2
    simp only [if_pos (show (0 : Int) ≤ (m : Int) by omega), shl1_i64 (x := m) (by omega), or_i64 (a := s) (b := 2 ^ m) (by omega) (by omega), if_neg e, if_neg e2, Int.toNat_natCast]
    exact ih (pre ++ [(m : Int)]) (s ||| 2 ^ m) (mid_mv h0) hs2
theorem validRun_iff (n : Nat) : ∀ (xs : List Int) (s : Nat), validRun n s xs = decide ((∀ x ∈ xs, 0 ≤ x ∧ x < n) ∧ orAll s (xs.map Int.toNat) = 2 ^ n - 1) := by
  intro xs
  induction xs with
  | nil => intro s; simp [validRun, orAll]
  | cons x xs ih =>
    intro s
    simp only [validRun, List.map_cons, orAll_cons, ih, List.forall_mem_cons]
    by_cases h1 : x < 0
    · simp [h1]; intro h; omega
    · by_cases h2 : x ≥ n
      · simp [h1, h2]; intro _ h; omega
      · simp only [h1, h2, if_false]
        congr 1
        rw [eq_iff_iff]
        constructor
        · rintro ⟨a, b⟩; exact ⟨⟨⟨by omega, by omega⟩, a⟩, b⟩
        · rintro ⟨⟨_, a⟩, b⟩; exact ⟨a, b⟩
theorem nodup_toNat {xs : List Int} (h : ∀ x ∈ xs, 0 ≤ x) : (xs.map Int.toNat).Nodup ↔ xs.Nodup := by
  induction xs with
  | nil => simp
  | cons x xs ih =>
    have h' := ih (fun y hy => h y (List.mem_cons_of_mem _ hy))
    simp only [List.map_cons, List.nodup_cons, h']
    have : x.toNat ∈ xs.map Int.toNat ↔ x ∈ xs := by
      simp only [List.mem_map]
      constructor
      · rintro ⟨y, hy, e⟩
        have := h y (List.mem_cons_of_mem _ hy); have := h x List.mem_cons_self
        obtain rfl : y = x := by omega
        exact hy
      · intro hx; exact ⟨x, hx, rfl⟩
    rw [this]
theorem row_full {l : List Int} (hr : ∀ x ∈ l, 0 ≤ x ∧ x < l.length) : orAll 0 (l.map Int.toNat) = 2 ^ l.length - 1 ↔ l.Nodup := by
  have hr' : ∀ x ∈ l.map Int.toNat, x < l.length := by
    intro x hx
    obtain ⟨y, hy, rfl⟩ := List.mem_map.1 hx
    have := hr y hy
    omega
  rw [orAll_full _ hr', ← nodup_toNat (fun x hx => (hr x hx).1)]
  exact ⟨fun h => nodup_of_full (by simp) h, fun h => full_of_nodup (by simp) hr' h⟩
theorem valid_ev (l : List Int) : Ev (fun k => rows_row_valid.f k l) (decide (IsRow l)) := by
  unfold rows_row_valid.f
  refine Ev.ite (fun e => ?_) (fun e => ?_)
  · refine Ev.succ ?_
    have : ¬ IsRow l := fun h => by have := h.1; omega
    simp only [rows_row_valid.j0, if_true]
    simpa [this] using Ev.some false
  · refine Ev.succ ?_
    simp only [rows_row_valid.j0]
    refine Ev.ite (fun e2 => ?_) (fun e2 => ?_)
    · have e2' : (l.length : Int) > 10 := of_decide_eq_true e2
      have : ¬ IsRow l := fun h => by have := h.2.1; omega
      simpa [this] using Ev.some false
    · have e2' : ¬ (l.length : Int) > 10 := fun h => e2 (decide_eq_true h)
      have hv := valid_loop l (by omega) l [] 0 rfl (Nat.two_pow_pos _)
      have ev : validRun l.length 0 l = decide (IsRow l) := by
        rw [validRun_iff]
        congr 1
        rw [eq_iff_iff]
        unfold IsRow
        constructor
        · rintro ⟨a, b⟩; exact ⟨by omega, by omega, a, (row_full a).1 b⟩
        · rintro ⟨_, _, a, b⟩; exact ⟨a, (row_full a).2 b⟩
      rw [← ev]
      exact hv

/-! the reference's Part and Row -/
def partRun (n : Nat) : Nat → List Int → Bool
  | _, [] => true
  | s, x :: xs => if x < 0 then false else if x ≥ n then false else if s.testBit x.toNat then false else partRun n (s ||| 2 ^ x.toNat) xs
theorem Part_loop (l : List Int) (n : Nat) (hn : n ≤ 62) (hl : l.length < 9223372036854775807) : ∀ (xs pre : List Int) (s : Nat), l = pre ++ xs → s < 2 ^ n →
    Ev (fun k => sackbutref05_Part.l0 k (n : Int) (s : Int) l (l.length : Int) (pre.length : Int)) (partRun n s xs) := by
  intro xs
  induction xs with
  | nil =>
    intro pre s h0 hs
    refine Ev.succ ?_
    simp only [sackbutref05_Part.l0, if_neg (mid_end h0)]
    exact Ev.some _
  | cons x xs ih =>
    intro pre s h0 hs
    refine Ev.succ ?_
    simp only [sackbutref05_Part.l0, if_pos (mid_lt h0), if_pos (show (0 : Int) ≤ (pre.length : Int) by omega), mid_rd h0, mid_next h0 hl, partRun]
    refine Ev.ite (fun e => by simpa [e] using Ev.some false) (fun e => ?_)
    refine Ev.ite (fun e2 => by simpa [e, e2] using Ev.some false) (fun e2 => ?_)
    obtain ⟨m, rfl⟩ := Int.eq_ofNat_of_zero_le (show 0 ≤ x by omega)
    have hp2 := two_pow_lt63 (x := n) (by omega)
    have hm2 : 2 ^ m < 2 ^ n := Nat.pow_lt_pow_right (by omega) (by omega)
    have hs2 : s ||| 2 ^ m < 2 ^ n := Nat.or_lt_two_pow hs hm2
    simp only [if_pos (show (0 : Int) ≤ (m : Int) by omega), bit1_i64 (a := s) (x := m) (by omega) (by omega), shl1_i64 (x := m) (by omega), or_i64 (a := s) (b := 2 ^ m) (by omega) (by omega), if_neg e, if_neg e2, Int.toNat_natCast]
    refine Ev.ite (fun e3 => by simpa [e3] using Ev.some false) (fun e3 => ?_)
    simpa [e3] using ih (pre ++ [(m : Int)]) (s ||| 2 ^ m) (mid_mv h0) hs2
theorem partRun_iff (n : Nat) : ∀ (xs : List Int) (s : Nat), partRun n s xs = decide ((∀ x ∈ xs, 0 ≤ x ∧ x < n ∧ s.testBit x.toNat = false) ∧ xs.Nodup) := by
  intro xs
  induction xs with
  | nil => intro s; simp [partRun]
  | cons x xs ih =>
    intro s
    simp only [partRun, ih, List.forall_mem_cons, List.nodup_cons]
    by_cases h1 : x < 0
    · simp [h1]; intro h; omega
    · by_cases h2 : x ≥ n
      · simp [h1, h2]; intro _ h; omega
      · by_cases h3 : s.testBit x.toNat = true
        · simp [h1, h2, h3]
        · rw [if_neg h1, if_neg h2, if_neg h3, decide_eq_decide]
          simp only [testBit_or_two_pow, Bool.or_eq_false_iff, decide_eq_false_iff_not]
          constructor
          · rintro ⟨a, b⟩
            refine ⟨⟨⟨by omega, by omega, by simpa using h3⟩, fun y hy => ⟨(a y hy).1, (a y hy).2.1, (a y hy).2.2.1⟩⟩, fun hx => (a x hx).2.2.2 rfl, b⟩
          · rintro ⟨⟨_, a⟩, b, c⟩
            refine ⟨fun y hy => ⟨(a y hy).1, (a y hy).2.1, (a y hy).2.2, fun e => b ?_⟩, c⟩
            have := (a y hy).1
            obtain rfl : x = y := by omega
            exact hy
theorem Part_ev (l : List Int) (n : Nat) (hn : n ≤ 62) (hl : l.length < 9223372036854775807) : Ev (fun k => sackbutref05_Part.f k l (n : Int)) (decide (PartOf n l)) := by
  have h := Part_loop l n hn hl l [] 0 rfl (Nat.two_pow_pos _)
  rw [partRun_iff] at h
  have e : ((∀ x ∈ l, 0 ≤ x ∧ x < (n : Int) ∧ (0 : Nat).testBit x.toNat = false) ∧ l.Nodup) = PartOf n l := by
    unfold PartOf; simp
  simp only [e] at h
  exact h
theorem Row_ev (l : List Int) : Ev (fun k => sackbutref05_Row.f k l) (decide (IsRow l)) := by
  unfold sackbutref05_Row.f
  refine Ev.ite (fun e => ?_) (fun e => ?_)
  · refine Ev.ite (fun e2 => ?_) (fun e2 => ?_)
    · refine Ev.bind (Part_ev l l.length (by omega) (by omega)) ?_
      have : decide (PartOf l.length l) = decide (IsRow l) := by
        congr 1; rw [eq_iff_iff]; unfold PartOf IsRow
        exact ⟨fun h => ⟨by omega, by omega, h⟩, fun h => h.2.2⟩
      rw [this]; exact Ev.some _
    · have : ¬ IsRow l := fun h => by have := h.2.1; omega
      simpa [this] using Ev.some false
  · have : ¬ IsRow l := fun h => by have := h.1; omega
    simpa [this] using Ev.some false

/-! list -/
theorem list_f (l : List Int) : sackbutlaw05_list.f l = some (l.take 13) := by
  unfold sackbutlaw05_list.f
  rw [mn_eq, if_pos (by omega), if_pos (by omega)]
  have e : (min (l.length : Int) 13).toNat = min l.length 13 := by omega
  have e2 : l.take (min l.length 13) = l.take 13 := by
    rw [Nat.min_comm]; exact (List.take_eq_take_min ..).symm
  rw [e, e2]
  unfold slices_Clone_int_int.f
  rw [if_pos (by rw [List.length_take]; omega)]
  rfl
theorem isRow_take (l : List Int) : IsRow (l.take 13) ↔ IsRow l := by
  rcases Nat.lt_or_ge 13 l.length with h | h
  · constructor
    · intro hr; have := hr.2.1; rw [List.length_take] at this; omega
    · intro hr; have := hr.2.1; omega
  · rw [List.take_of_length_le h]
theorem row_take {l : List Int} (h : IsRow l) : l.take 13 = l := List.take_of_length_le (by have := h.2.1; omega)

/-! steps -/
theorem steps_loop (l : List Int) (n : Nat) (hn : n = l.length) (h1 : 1 ≤ n) (hb : n ≤ 62) (hr : ∀ x ∈ l, 0 ≤ x ∧ x < 4611686018427387904) : ∀ (xs pre : List Int) (p : Int) (acc : List Int), l = pre ++ p :: xs → acc.length = pre.length →
    Ev (fun k => rows_row_steps.l0 k l acc ((pre.length : Int) + 1)) (acc ++ stepsOf n (p :: xs)) := by
  intro xs
  induction xs with
  | nil =>
    intro pre p acc h0 ha
    refine Ev.succ ?_
    have : ¬ ((pre.length : Int) + 1 < (l.length : Int)) := by subst h0; simp
    simp only [rows_row_steps.l0, if_neg this, stepsOf, List.append_nil]
    exact Ev.some _
  | cons x xs ih =>
    intro pre p acc h0 ha
    have hm : l = (pre ++ [p]) ++ x :: xs := mid_mv h0
    have hi : ((pre.length : Int) + 1) = ((pre ++ [p]).length : Int) := by simp
    have hlen : pre.length + 1 < l.length := by rw [h0]; simp
    have hw : wrap64 ((pre.length : Int) + 1 - 1) = (pre.length : Int) := by rw [wrap_id (by omega) (by omega)]; omega
    have hx := hr x (by rw [hm]; simp)
    have hp := hr p (by rw [h0]; simp)
    have hs : wrap64 (x - p) = x - p := wrap_id (by omega) (by omega)
    have hlt : ((pre.length : Int) + 1 < (l.length : Int)) := by omega
    refine Ev.succ ?_
    simp only [rows_row_steps.l0, if_pos hlt, if_pos (show (0 : Int) ≤ (pre.length : Int) + 1 by omega), hw, if_pos (show (0 : Int) ≤ (pre.length : Int) by omega), if_pos (mid_lt h0), mid_rd h0]
    rw [hi]
    simp only [mid_rd hm, hs, rows_mod_f (show (0 : Int) < (l.length : Int) by omega) (show (l.length : Int) < 4611686018427387904 by omega), Option.bind_some, if_pos (show acc.length < 17592186044416 by omega), mid_next hm (by omega)]
    have := ih (pre ++ [p]) x (acc ++ [(x - p) % (l.length : Int)]) hm (by simp [ha])
    have e : ((pre ++ [p] ++ [x]).length : Int) = ((pre ++ [p]).length : Int) + 1 := by simp; omega
    rw [e]
    simpa [stepsOf, hn] using this
theorem steps_ev (l : List Int) (h1 : 1 ≤ l.length) (hb : l.length ≤ 62) (hr : ∀ x ∈ l, 0 ≤ x ∧ x < 4611686018427387904) : Ev (fun k => rows_row_steps.f k l) (stepsOf l.length l) := by
  cases l with
  | nil => simp at h1
  | cons p xs => exact steps_loop (p :: xs) _ rfl h1 hb hr xs [] p [] rfl rfl

theorem refSteps_loop (l : List Int) (n : Nat) (h1 : 1 ≤ n) (hb : n ≤ 62) (hlb : l.length < 17592186044416) (hr : ∀ x ∈ l, 0 ≤ x ∧ x < 4611686018427387904) : ∀ (xs pre : List Int) (p : Int) (acc : List Int), l = pre ++ p :: xs → acc.length = pre.length →
    Ev (fun k => sackbutref05_Steps.l0 k l (n : Int) acc ((pre.length : Int) + 1)) (acc ++ stepsOf n (p :: xs)) := by
  intro xs
  induction xs with
  | nil =>
    intro pre p acc h0 ha
    refine Ev.succ ?_
    have : ¬ ((pre.length : Int) + 1 < (l.length : Int)) := by subst h0; simp
    simp only [sackbutref05_Steps.l0, if_neg this, stepsOf, List.append_nil]
    exact Ev.some _
  | cons x xs ih =>
    intro pre p acc h0 ha
    have hm : l = (pre ++ [p]) ++ x :: xs := mid_mv h0
    have hi : ((pre.length : Int) + 1) = ((pre ++ [p]).length : Int) := by simp
    have hlen : pre.length + 1 < l.length := by rw [h0]; simp
    have hw : wrap64 ((pre.length : Int) + 1 - 1) = (pre.length : Int) := by rw [wrap_id (by omega) (by omega)]; omega
    have hx := hr x (by rw [hm]; simp)
    have hp := hr p (by rw [h0]; simp)
    have hs : wrap64 (x - p) = x - p := wrap_id (by omega) (by omega)
    have hlt : ((pre.length : Int) + 1 < (l.length : Int)) := by omega
    have hmod : sackbutref05_mod.f (x - p) (n : Int) = some ((x - p) % (n : Int)) := by
      unfold sackbutref05_mod.f
      rw [if_neg (by omega), tmod_mod (by omega) (by omega)]
    refine Ev.succ ?_
    simp only [sackbutref05_Steps.l0, if_pos hlt, if_pos (show (0 : Int) ≤ (pre.length : Int) + 1 by omega), hw, if_pos (show (0 : Int) ≤ (pre.length : Int) by omega), if_pos (mid_lt h0), mid_rd h0]
    rw [hi]
    simp only [mid_rd hm, hs, hmod, Option.bind_some, if_pos (show acc.length < 17592186044416 by omega), mid_next hm (by omega)]
    have := ih (pre ++ [p]) x (acc ++ [(x - p) % (n : Int)]) hm (by simp [ha])
    have e : ((pre ++ [p] ++ [x]).length : Int) = ((pre ++ [p]).length : Int) + 1 := by simp; omega
    rw [e]
    simpa [stepsOf] using this
theorem refSteps_ev (l : List Int) (n : Nat) (h1 : 1 ≤ n) (hb : n ≤ 62) (hlb : l.length < 17592186044416) (hr : ∀ x ∈ l, 0 ≤ x ∧ x < 4611686018427387904) : Ev (fun k => sackbutref05_Steps.f k l (n : Int)) (stepsOf n l) := by
  cases l with
  | nil =>
    unfold sackbutref05_Steps.f
    refine Ev.succ ?_
    simp only [sackbutref05_Steps.l0]
    simpa [stepsOf] using Ev.some _
  | cons p xs => exact refSteps_loop (p :: xs) n h1 hb hlb hr xs [] p [] rfl rfl

theorem stepsOf_range {n : Int} (hn : 0 < n) : ∀ (l : List Int), ∀ s ∈ stepsOf n l, 0 ≤ s ∧ s < n
  | x :: y :: r => by
    intro s hs
    rcases List.mem_cons.1 hs with rfl | hs
    · exact ⟨Int.emod_nonneg _ (by omega), Int.emod_lt_of_pos _ hn⟩
    · exact stepsOf_range hn (y :: r) s hs
  | [] => by simp [stepsOf]
  | [x] => by simp [stepsOf]
theorem stepsOf_length (n : Int) : ∀ (l : List Int), (stepsOf n l).length = l.length - 1
  | x :: y :: r => by have := stepsOf_length n (y :: r); simp [stepsOf] at *; omega
  | [] => by simp [stepsOf]
  | [x] => by simp [stepsOf]
/-- the steps of different tones are none of them 0 -/
theorem stepsOf_pos {n : Int} (hn : 0 < n) : ∀ (l : List Int), (∀ x ∈ l, 0 ≤ x ∧ x < n) → l.Nodup → ∀ s ∈ stepsOf n l, 1 ≤ s
  | x :: y :: r => by
    intro hr hd s hs
    rcases List.mem_cons.1 hs with rfl | hs
    · have hx := hr x (by simp); have hy := hr y (by simp)
      have hne : x ≠ y := fun e => by subst e; simp at hd
      have h0 := Int.emod_nonneg (y - x) (show n ≠ 0 by omega)
      rcases Int.lt_or_eq_of_le h0 with h | h
      · omega
      · exfalso
        have := Int.emod_add_mul_ediv (y - x) n
        rw [← h] at this
        have hq : -1 < (y - x) / n ∨ (y - x) / n ≤ -1 := by omega
        have hq2 : (y - x) / n = 0 ∨ 1 ≤ (y - x) / n ∨ (y - x) / n ≤ -1 := by omega
        rcases hq2 with h2 | h2 | h2
        · rw [h2] at this; omega
        · have : n * 1 ≤ n * ((y - x) / n) := Int.mul_le_mul_of_nonneg_left h2 (by omega)
          omega
        · have : n * ((y - x) / n) ≤ n * (-1) := Int.mul_le_mul_of_nonneg_left h2 (by omega)
          omega
    · exact stepsOf_pos hn (y :: r) (fun z hz => hr z (List.mem_cons_of_mem _ hz)) (List.nodup_cons.1 hd).2 s hs
  | [] => by simp [stepsOf]
  | [x] => by simp [stepsOf]

/-! every -/
theorem every_loop (l0 l : List Int) (hl0 : 1 ≤ l0.length ∧ l0.length ≤ 62) (hl : l.length < 9223372036854775807) (hr : ∀ x ∈ l, 0 ≤ x ∧ x < l0.length) : ∀ (xs pre : List Int) (s : Nat), l = pre ++ xs → s < 2 ^ l0.length →
    Ev (fun k => rows_row_every.l0 k l0 (s : Int) l (l.length : Int) (pre.length : Int)) (decide (orAll s (xs.map Int.toNat) = 2 ^ l0.length - 2)) := by
  intro xs
  induction xs with
  | nil =>
    intro pre s h0 hs
    refine Ev.succ ?_
    have hsh := shl1_i64 (x := l0.length) (by omega)
    have hp : 2 ≤ 2 ^ l0.length := Nat.pow_le_pow_right (show 0 < 2 by omega) hl0.1
    have hp2 := two_pow_lt63 (x := l0.length) (by omega)
    have hw : wrap64 (shl .i64 1 (l0.length : Int) - 2) = ((2 ^ l0.length - 2 : Nat) : Int) := by
      rw [hsh, wrap_id (by omega) (by have : (2 : Nat) ^ 63 = 9223372036854775808 := by decide
                                      omega)]
      omega
    simp only [rows_row_every.l0, if_neg (mid_end h0), hw, List.map_nil, orAll_nil]
    have e : ((s : Int) == ((2 ^ l0.length - 2 : Nat) : Int)) = decide (s = 2 ^ l0.length - 2) := by
      by_cases h : s = 2 ^ l0.length - 2
      · simp only [← h]; simp
      · simp only [h, decide_false, beq_eq_false_iff_ne]; omega
    rw [e]
    exact Ev.some _
  | cons x xs ih =>
    intro pre s h0 hs
    refine Ev.succ ?_
    have hx := hr x (by rw [h0]; simp)
    obtain ⟨m, rfl⟩ := Int.eq_ofNat_of_zero_le (show 0 ≤ x by omega)
    have hp2 := two_pow_lt63 (x := l0.length) (by omega)
    have hm2 : 2 ^ m < 2 ^ l0.length := Nat.pow_lt_pow_right (by omega) (by omega)
    have hs2 : s ||| 2 ^ m < 2 ^ l0.length := Nat.or_lt_two_pow hs hm2
    simp only [rows_row_every.l0, if_pos (mid_lt h0), if_pos (show (0 : Int) ≤ (pre.length : Int) by omega), mid_rd h0, mid_next h0 hl, if_pos (show (0 : Int) ≤ (m : Int) by omega), shl1_i64 (x := m) (by omega), or_i64 (a := s) (b := 2 ^ m) (by omega) (by omega), List.map_cons, orAll_cons, Int.toNat_natCast]
    exact ih (pre ++ [(m : Int)]) (s ||| 2 ^ m) (mid_mv h0) hs2
/-- every step comes: all are different -/
theorem every_iff {l : List Int} (h : IsRow l) : orAll 0 ((stepsOf l.length l).map Int.toNat) = 2 ^ l.length - 2 ↔ (stepsOf l.length l).Nodup := by
  have hn : 0 < (l.length : Int) := by have := h.1; omega
  have h1 := stepsOf_range hn l
  have h2 := stepsOf_pos hn l h.2.2.1 h.2.2.2
  have hr : ∀ x ∈ (stepsOf l.length l).map Int.toNat, 1 ≤ x ∧ x < l.length := by
    intro x hx
    obtain ⟨y, hy, rfl⟩ := List.mem_map.1 hx
    have := h1 y hy; have := h2 y hy
    omega
  rw [orAll_full2 (by have := h.1; omega) _ hr, ← nodup_toNat (fun x hx => (h1 x hx).1)]
  have hl : ((stepsOf l.length l).map Int.toNat).length = l.length - 1 := by rw [List.length_map, stepsOf_length]
  generalize (stepsOf l.length l).map Int.toNat = ys at hl hr ⊢
  -- with 0 before them they are a whole row
  have hy : ∀ i, i < l.length → (i ∈ 0 :: ys ↔ i = 0 ∨ i ∈ ys) := fun i _ => List.mem_cons
  constructor
  · intro hf
    have hd : (0 :: ys).Nodup := nodup_of_full (n := l.length) (by simp [hl]; have := h.1; omega) (fun i hi => by
      rcases Nat.eq_zero_or_pos i with e | e
      · simp [e]
      · exact List.mem_cons_of_mem _ (hf i e hi))
    exact (List.nodup_cons.1 hd).2
  · intro hd i hi1 hi2
    have hd0 : (0 :: ys).Nodup := List.nodup_cons.2 ⟨fun h0 => by have := (hr 0 h0).1; omega, hd⟩
    have := full_of_nodup (n := l.length) (by simp [hl]; have := h.1; omega) (fun x hx => by
      rcases List.mem_cons.1 hx with e | e
      · have := h.1; omega
      · exact (hr x e).2) hd0 i hi2
    rcases List.mem_cons.1 this with e | e
    · omega
    · exact e
theorem row_bounds {l : List Int} (h : IsRow l) : ∀ x ∈ l, 0 ≤ x ∧ x < 4611686018427387904 := fun x hx => by have := h.2.2.1 x hx; have := h.2.1; omega
theorem every_ev {l : List Int} (h : IsRow l) : Ev (fun k => rows_row_every.f k l) (decide (stepsOf l.length l).Nodup) := by
  unfold rows_row_every.f
  have h1 := h.1; have h2 := h.2.1
  refine Ev.bind (steps_ev l (by omega) (by omega) (row_bounds h)) ?_
  have := every_loop l (stepsOf l.length l) ⟨by omega, by omega⟩ (by rw [stepsOf_length]; omega) (stepsOf_range (by omega) l) (stepsOf l.length l) [] 0 rfl (Nat.two_pow_pos _)
  have e : decide (orAll 0 ((stepsOf l.length l).map Int.toNat) = 2 ^ l.length - 2) = decide (stepsOf l.length l).Nodup := by congr 1; rw [eq_iff_iff]; exact every_iff h
  rw [e] at this
  exact this

/-! the reference's Every: of different tones modulo n -/
def seenRun : Nat → List Int → Bool
  | _, [] => true
  | s, x :: xs => if s.testBit x.toNat then false else seenRun (s ||| 2 ^ x.toNat) xs
theorem refEvery_loop (l : List Int) (n : Nat) (hn : n ≤ 62) (hl : l.length < 9223372036854775807) (hr : ∀ x ∈ l, 0 ≤ x ∧ x < n) : ∀ (xs pre : List Int) (s : Nat), l = pre ++ xs → s < 2 ^ n →
    Ev (fun k => sackbutref05_Every.l0 k (s : Int) l (l.length : Int) (pre.length : Int)) (seenRun s xs) := by
  intro xs
  induction xs with
  | nil =>
    intro pre s h0 hs
    refine Ev.succ ?_
    simp only [sackbutref05_Every.l0, if_neg (mid_end h0)]
    exact Ev.some _
  | cons x xs ih =>
    intro pre s h0 hs
    refine Ev.succ ?_
    have hx := hr x (by rw [h0]; simp)
    obtain ⟨m, rfl⟩ := Int.eq_ofNat_of_zero_le (show 0 ≤ x by omega)
    have hp2 := two_pow_lt63 (x := n) (by omega)
    have hm2 : 2 ^ m < 2 ^ n := Nat.pow_lt_pow_right (by omega) (by omega)
    have hs2 : s ||| 2 ^ m < 2 ^ n := Nat.or_lt_two_pow hs hm2
    simp only [sackbutref05_Every.l0, if_pos (mid_lt h0), if_pos (show (0 : Int) ≤ (pre.length : Int) by omega), mid_rd h0, mid_next h0 hl, if_pos (show (0 : Int) ≤ (m : Int) by omega), bit1_i64 (a := s) (x := m) (by omega) (by omega), shl1_i64 (x := m) (by omega), or_i64 (a := s) (b := 2 ^ m) (by omega) (by omega), seenRun, Int.toNat_natCast]
    refine Ev.ite (fun e3 => by simpa [e3] using Ev.some false) (fun e3 => ?_)
    simpa [e3] using ih (pre ++ [(m : Int)]) (s ||| 2 ^ m) (mid_mv h0) hs2
theorem seenRun_iff : ∀ (xs : List Int) (s : Nat), (∀ x ∈ xs, 0 ≤ x) → seenRun s xs = decide ((∀ x ∈ xs, s.testBit x.toNat = false) ∧ xs.Nodup) := by
  intro xs
  induction xs with
  | nil => intro s _; simp [seenRun]
  | cons x xs ih =>
    intro s h
    have hx := h x (by simp)
    have h' : ∀ y ∈ xs, 0 ≤ y := fun y hy => h y (List.mem_cons_of_mem _ hy)
    simp only [seenRun, ih _ h', List.forall_mem_cons, List.nodup_cons]
    by_cases h3 : s.testBit x.toNat = true
    · simp [h3]
    · rw [if_neg h3, decide_eq_decide]
      simp only [testBit_or_two_pow, Bool.or_eq_false_iff, decide_eq_false_iff_not]
      constructor
      · rintro ⟨a, b⟩
        exact ⟨⟨by simpa using h3, fun y hy => (a y hy).1⟩, fun hx => (a x hx).2 rfl, b⟩
      · rintro ⟨⟨_, a⟩, b, c⟩
        refine ⟨fun y hy => ⟨a y hy, fun e => b ?_⟩, c⟩
        have := h' y hy
        obtain rfl : x = y := by omega
        exact hy
theorem refEvery_ev (l : List Int) (n : Nat) (h1 : 1 ≤ n) (hb : n ≤ 62) (hlb : l.length < 17592186044416) (hr : ∀ x ∈ l, 0 ≤ x ∧ x < 4611686018427387904) : Ev (fun k => sackbutref05_Every.f k l (n : Int)) (decide (stepsOf n l).Nodup) := by
  unfold sackbutref05_Every.f
  refine Ev.bind (refSteps_ev l n h1 hb hlb hr) ?_
  have hs := stepsOf_range (n := (n : Int)) (by omega) l
  have := refEvery_loop (stepsOf n l) n hb (by rw [stepsOf_length]; omega) hs (stepsOf n l) [] 0 rfl (Nat.two_pow_pos _)
  rw [seenRun_iff _ _ (fun x hx => (hs x hx).1)] at this
  simpa using this

theorem Steps_ev (l : List Int) : Ev (fun k => rows_Steps.f k l) (if IsRow l then (stepsOf l.length l, 0) else ([], 2)) := by
  unfold rows_Steps.f
  refine Ev.bind (valid_ev l) ?_
  by_cases h : IsRow l
  · simp only [h, decide_true, if_true]
    have h1 := h.1; have h2 := h.2.1
    exact Ev.bind (steps_ev l (by omega) (by omega) (row_bounds h)) (Ev.some _)
  · simp only [h, decide_false, if_false]
    exact Ev.some _
theorem Every_ev (l : List Int) : Ev (fun k => rows_Every.f k l) (if IsRow l then (decide (stepsOf l.length l).Nodup, 0) else (false, 2)) := by
  unfold rows_Every.f
  refine Ev.bind (valid_ev l) ?_
  by_cases h : IsRow l
  · simp only [h, decide_true, if_true]
    exact Ev.bind (every_ev h) (Ev.some _)
  · simp only [h, decide_false, if_false]
    exact Ev.some _
theorem awake_ev : Ev (fun k => sackbutlaw05_awake.f k) true := by
  unfold sackbutlaw05_awake.f
  refine Ev.bind (Steps_ev [0, 1, 3, 2]) ?_
  have h : IsRow [0, 1, 3, 2] := by decide
  have e : stepsOf ([0, 1, 3, 2] : List Int).length [0, 1, 3, 2] = [1, 2, 3] := by decide
  simp only [h, if_true, e]
  exact Ev.bind (Equal_ev [1, 2, 3] [1, 2, 3] (by decide)) (Ev.some _)

end Go.Proofs.Ytpfjnpbcnlbhaaa.P
namespace Go.Proofs.Ytpfjnpbcnlbhaaa.P
open Go.RowKit Go.Proofs.YtpfjnpbcnlbhaaaW.PrintWords Go.Proofs.YtpfjnpbcnlbhaaaW.PrintLast Go.Proofs.YtpfjnpbcnlbhaaaW.PrintMore
attribute [local go_sem] max2_int min2_int max_two min_two max_three min_three max_four min_four   -- for this text's walks alone
set_option linter.unusedVariables false
set_option linter.unusedSimpArgs false

/-! slices.Index, slices.Contains at ints -/
theorem Index_loop (l : List Int) (v : Int) (hb : l.length < 9223372036854775807) : ∀ (xs pre : List Int), l = pre ++ xs →
    Ev (fun k => slices_Index_int_int.l0 k l v (l.length : Int) (pre.length : Int)) (if v ∈ xs then ((pre.length + xs.idxOf v : Nat) : Int) else -1) := by
  intro xs
  induction xs with
  | nil =>
    intro pre h0
    refine Ev.succ ?_
    simp only [slices_Index_int_int.l0, if_neg (mid_end h0)]
    simpa using Ev.some (-1 : Int)
  | cons x xs ih =>
    intro pre h0
    refine Ev.succ ?_
    simp only [slices_Index_int_int.l0, if_pos (mid_lt h0), if_pos (show (0 : Int) ≤ (pre.length : Int) by omega), mid_rd h0, mid_next h0 hb]
    refine Ev.ite (fun e => ?_) (fun e => ?_)
    · subst e
      simpa using Ev.some _
    · have h := ih (pre ++ [x]) (mid_mv h0)
      have e1 : (v ∈ x :: xs) ↔ v ∈ xs := by simp [e]
      have e2 : (x :: xs).idxOf v = xs.idxOf v + 1 := by
        rw [List.idxOf_cons]
        have : (x == v) = false := by simpa using fun h => e h.symm
        rw [this]; rfl
      have e3 : ((pre ++ [x]).length + xs.idxOf v : Nat) = pre.length + (xs.idxOf v + 1) := by simp; omega
      simp only [e1, e2]
      rw [e3] at h
      exact h
theorem Index_ev (l : List Int) (v : Int) (hb : l.length < 9223372036854775807) : Ev (fun k => slices_Index_int_int.f k l v) (if v ∈ l then (l.idxOf v : Int) else -1) := by
  have := Index_loop l v hb l [] rfl
  simpa [slices_Index_int_int.f] using this
theorem Contains_ev (l : List Int) (v : Int) (hb : l.length < 9223372036854775807) : Ev (fun k => slices_Contains_int_int.f k l v) (decide (v ∈ l)) := by
  unfold slices_Contains_int_int.f
  refine Ev.bind (Index_ev l v hb) ?_
  have : decide ((if v ∈ l then (l.idxOf v : Int) else -1) ≥ 0) = decide (v ∈ l) := by
    rw [decide_eq_decide]; split <;> simp_all
  rw [this]
  exact Ev.some _

end Go.Proofs.Ytpfjnpbcnlbhaaa.P
namespace Go.Proofs.Ytpfjnpbcnlbhaaa.P
open Go.RowKit Go.Proofs.YtpfjnpbcnlbhaaaW.PrintWords Go.Proofs.YtpfjnpbcnlbhaaaW.PrintLast Go.Proofs.YtpfjnpbcnlbhaaaW.PrintMore
attribute [local go_sem] max2_int min2_int max_two min_two max_three min_three max_four min_four   -- for this text's walks alone
set_option linter.unusedVariables false
set_option linter.unusedSimpArgs false

/-! how many tones have the one k above them behind them -/
def followOf (n k : Int) : List Int → Nat
  | [] => 0
  | x :: xs => (if (x + k) % n ∈ xs then 1 else 0) + followOf n k xs
def refFollow (n k : Int) : List Int → List Int → Nat
  | _, [] => 0
  | pre, y :: r => pre.countP (fun x => (x + k) % n = y) + refFollow n k (pre ++ [y]) r
def crossF (n k : Int) (pre : List Int) : List Int → Nat
  | [] => 0
  | y :: r => pre.countP (fun x => (x + k) % n = y) + crossF n k pre r
theorem crossF_snoc (n k : Int) (pre : List Int) (z : Int) : ∀ r : List Int, r.Nodup → crossF n k (pre ++ [z]) r = crossF n k pre r + (if (z + k) % n ∈ r then 1 else 0)
  | [], _ => by simp [crossF]
  | y :: r, hd => by
    have hd' := List.nodup_cons.1 hd
    simp only [crossF, crossF_snoc n k pre z r hd'.2, List.countP_append, List.countP_singleton]
    by_cases h : (z + k) % n = y
    · have : (z + k) % n ∉ r := by rw [h]; exact hd'.1
      simp [h, hd'.1]; omega
    · simp [h]; omega
theorem refFollow_eq (n k : Int) : ∀ (r pre : List Int), r.Nodup → refFollow n k pre r = crossF n k pre r + followOf n k r
  | [], pre, _ => rfl
  | y :: r, pre, hd => by
    have hd' := List.nodup_cons.1 hd
    simp only [refFollow, crossF, followOf, refFollow_eq n k r (pre ++ [y]) hd'.2, crossF_snoc n k pre y r hd'.2]
    omega
theorem crossF_nil (n k : Int) : ∀ r : List Int, crossF n k [] r = 0
  | [] => rfl
  | _ :: r => by simp [crossF, crossF_nil n k r]
theorem refFollow_row {n k : Int} {l : List Int} (hd : l.Nodup) : refFollow n k [] l = followOf n k l := by rw [refFollow_eq n k l [] hd, crossF_nil]; omega
theorem followOf_le (n k : Int) : ∀ l : List Int, followOf n k l ≤ l.length
  | [] => Nat.le_refl _
  | x :: xs => by have := followOf_le n k xs; simp only [followOf, List.length_cons]; split <;> omega
/-- a tone is not the one k above it -/
theorem above_ne {n k x : Int} (hk : 1 ≤ k) (hk2 : k < n) (hx : 0 ≤ x) (hx2 : x < n) : (x + k) % n ≠ x := by
  intro h
  rcases Int.lt_or_le (x + k) n with h1 | h1
  · rw [Int.emod_eq_of_lt (by omega) h1] at h; omega
  · have h2 : (x + k) % n = x + k - n := by
      rw [← Int.sub_emod_right, Int.emod_eq_of_lt (by omega) (by omega)]
    omega

theorem Follow_loop (l : List Int) (k : Int) (hk : 1 ≤ k) (hk2 : k < l.length) (hl : l.length ≤ 62) (hr : ∀ x ∈ l, 0 ≤ x ∧ x < l.length) : ∀ (xs pre : List Int) (c : Nat), l = pre ++ xs → c ≤ pre.length →
    Ev (fun q => rows_Follow.l0 q l k (l.length : Int) (c : Int) l (l.length : Int) (pre.length : Int)) (((c + followOf l.length k xs : Nat) : Int), 0) := by
  intro xs
  induction xs with
  | nil =>
    intro pre c h0 hc
    refine Ev.succ ?_
    simp only [rows_Follow.l0, if_neg (mid_end h0), followOf, Nat.add_zero]
    exact Ev.some _
  | cons x xs ih =>
    intro pre c h0 hc
    have hx := hr x (by rw [h0]; simp)
    have hw : wrap64 (x + k) = x + k := wrap_id (by omega) (by omega)
    have hdrop : l.drop ((pre.length : Int)).toNat = x :: xs := by rw [Int.toNat_natCast, h0]; simp
    have hlen : pre.length < l.length := by rw [h0]; simp
    have hne := above_ne hk hk2 hx.1 hx.2
    refine Ev.succ ?_
    simp only [rows_Follow.l0, if_pos (mid_lt h0), if_pos (show (0 : Int) ≤ (pre.length : Int) by omega), if_pos (show (pre.length : Int) ≤ (l.length : Int) by omega), mid_rd h0, mid_next h0 (by omega), hw, rows_mod_f (show (0 : Int) < (l.length : Int) by omega) (show (l.length : Int) < 4611686018427387904 by omega), Option.bind_some, hdrop]
    refine Ev.bind (Contains_ev (x :: xs) _ (by rw [← hdrop]; simp only [List.length_drop]; omega)) ?_
    have hmem : ((x + k) % (l.length : Int) ∈ x :: xs) ↔ (x + k) % (l.length : Int) ∈ xs := by simp [hne]
    simp only [hmem, followOf]
    by_cases hm : (x + k) % (l.length : Int) ∈ xs
    · have hw2 : wrap64 ((c : Int) + 1) = ((c + 1 : Nat) : Int) := by rw [wrap_id (by omega) (by omega)]; omega
      simp only [hm, decide_true, if_true, hw2]
      have := ih (pre ++ [x]) (c + 1) (mid_mv h0) (by simp; omega)
      rw [← Nat.add_assoc]
      exact this
    · simp only [hm, decide_false, if_false, Nat.zero_add]
      exact ih (pre ++ [x]) c (mid_mv h0) (by simp; omega)
def FollowOk (l : List Int) (k : Int) : Prop := IsRow l ∧ 1 ≤ k ∧ k < l.length
instance (l : List Int) (k : Int) : Decidable (FollowOk l k) := by unfold FollowOk; infer_instance
theorem Follow_ev (l : List Int) (k : Int) : Ev (fun q => rows_Follow.f q l k) (if FollowOk l k then ((followOf l.length k l : Int), 0) else (0, 2)) := by
  unfold rows_Follow.f
  refine Ev.bind (valid_ev l) ?_
  by_cases h : IsRow l
  · have h1 := h.1; have h2 := h.2.1
    simp only [h, decide_true, if_true]
    refine Ev.ite (fun e => ?_) (fun e => ?_)
    · have hn : ¬ FollowOk l k := fun hh => by have := hh.2.1; omega
      refine Ev.succ ?_
      simp only [rows_Follow.j0, if_true, hn, if_false]
      exact Ev.some _
    · refine Ev.succ ?_
      simp only [rows_Follow.j0]
      refine Ev.ite (fun e2 => ?_) (fun e2 => ?_)
      · have e2' : k ≥ (l.length : Int) := of_decide_eq_true e2
        have hn : ¬ FollowOk l k := fun hh => by have := hh.2.2; omega
        simp only [hn, if_false]
        exact Ev.some _
      · have e2' : ¬ k ≥ (l.length : Int) := fun h => e2 (decide_eq_true h)
        have hy : FollowOk l k := ⟨h, by omega, by omega⟩
        simp only [hy, if_true]
        have := Follow_loop l k (by omega) (by omega) (by omega) h.2.2.1 l [] 0 rfl (Nat.le_refl _)
        simpa using this
  · have hn : ¬ FollowOk l k := fun hh => h hh.1
    simp only [h, decide_false, Bool.false_eq_true, if_false, hn]
    refine Ev.succ ?_
    simp only [rows_Follow.j0, if_true]
    exact Ev.some _

theorem refFollow_loop (l : List Int) (k : Int) (hk : 1 ≤ k) (hk2 : k < l.length) (hl : l.length ≤ 62) (hr : ∀ x ∈ l, 0 ≤ x ∧ x < l.length) : ∀ (xs pre : List Int) (c : Nat), l = pre ++ xs → c + xs.length * 62 + refFollow l.length k pre xs ≤ 1000000 →
    Ev (fun q => sackbutref05_Follow.l0 q l k (c : Int) l (l.length : Int) (pre.length : Int)) (((c + refFollow l.length k pre xs : Nat) : Int)) := by
  intro xs
  induction xs with
  | nil =>
    intro pre c h0 hc
    refine Ev.succ ?_
    simp only [sackbutref05_Follow.l0, if_neg (mid_end h0), refFollow, Nat.add_zero]
    exact Ev.some _
  | cons y xs ih =>
    intro pre c h0 hc
    have hlen : pre.length < l.length := by rw [h0]; simp
    have htake : l.take ((pre.length : Int)).toNat = pre := by rw [Int.toNat_natCast, h0]; simp
    refine Ev.succ ?_
    simp only [sackbutref05_Follow.l0, if_pos (mid_lt h0), if_pos (show (0 : Int) ≤ (pre.length : Int) by omega), if_pos (show (pre.length : Int) ≤ (l.length : Int) by omega), mid_rd h0, htake]
    simp only [refFollow] at hc ⊢
    -- the inner loop
    have inner : ∀ (zs p2 : List Int) (c2 : Nat), pre = p2 ++ zs → c2 + zs.countP (fun x => (x + k) % (l.length : Int) = y) + xs.length * 62 + refFollow l.length k (pre ++ [y]) xs ≤ 1000000 →
        Ev (fun q => sackbutref05_Follow.l1 q l k (c2 : Int) y l (l.length : Int) (pre.length : Int) pre (pre.length : Int) (p2.length : Int)) (((c2 + zs.countP (fun x => (x + k) % (l.length : Int) = y) + refFollow l.length k (pre ++ [y]) xs : Nat) : Int)) := by
      intro zs
      induction zs with
      | nil =>
        intro p2 c2 hp hc2
        refine Ev.succ ?_
        simp only [sackbutref05_Follow.l1, if_neg (mid_end hp), List.countP_nil, Nat.add_zero, mid_next h0 (by omega)]
        exact ih (pre ++ [y]) c2 (mid_mv h0) (by simp at hc2; omega)
      | cons z zs ih2 =>
        intro p2 c2 hp hc2
        have hz := hr z (by rw [h0, hp]; simp)
        have hw : wrap64 (z + k) = z + k := wrap_id (by omega) (by omega)
        have hmod : sackbutref05_mod.f (z + k) (l.length : Int) = some ((z + k) % (l.length : Int)) := by
          unfold sackbutref05_mod.f
          rw [if_neg (by omega), tmod_mod (by omega) (by omega)]
        refine Ev.succ ?_
        simp only [sackbutref05_Follow.l1, if_pos (mid_lt hp), if_pos (show (0 : Int) ≤ (p2.length : Int) by omega), mid_rd hp, hw, hmod, Option.bind_some, mid_next hp (by omega)]
        rw [List.countP_cons] at hc2 ⊢
        refine Ev.ite (fun e => ?_) (fun e => ?_)
        · have hw2 : wrap64 ((c2 : Int) + 1) = ((c2 + 1 : Nat) : Int) := by rw [wrap_id (by omega) (by simp [e] at hc2; omega)]; omega
          rw [hw2]
          have := ih2 (p2 ++ [z]) (c2 + 1) (mid_mv hp) (by simp [e] at hc2; omega)
          have e1 : c2 + 1 + zs.countP (fun x => (x + k) % (l.length : Int) = y) + refFollow l.length k (pre ++ [y]) xs = c2 + (zs.countP (fun x => (x + k) % (l.length : Int) = y) + if decide ((z + k) % (l.length : Int) = y) = true then 1 else 0) + refFollow l.length k (pre ++ [y]) xs := by
            rw [if_pos (by simpa using e)]; omega
          rw [← e1]
          exact this
        · have := ih2 (p2 ++ [z]) c2 (mid_mv hp) (by simp [e] at hc2; omega)
          have e1 : c2 + zs.countP (fun x => (x + k) % (l.length : Int) = y) + refFollow l.length k (pre ++ [y]) xs = c2 + (zs.countP (fun x => (x + k) % (l.length : Int) = y) + if decide ((z + k) % (l.length : Int) = y) = true then 1 else 0) + refFollow l.length k (pre ++ [y]) xs := by
            rw [if_neg (by simpa using e)]; omega
          rw [← e1]
          exact this
    have := inner pre [] c rfl (by simp at hc; omega)
    have e1 : c + pre.countP (fun x => (x + k) % (l.length : Int) = y) + refFollow l.length k (pre ++ [y]) xs = c + (pre.countP (fun x => (x + k) % (l.length : Int) = y) + refFollow l.length k (pre ++ [y]) xs) := by omega
    rw [← e1]
    exact this
theorem refFollow_ev {l : List Int} {k : Int} (h : FollowOk l k) : Ev (fun q => sackbutref05_Follow.f q l k) (followOf l.length k l : Int) := by
  obtain ⟨hr, hk, hk2⟩ := h
  have h1 := hr.1; have h2 := hr.2.1
  have hle := followOf_le l.length k l
  have := refFollow_loop l k hk hk2 (by omega) hr.2.2.1 l [] 0 rfl (by rw [refFollow_row hr.2.2.2]; omega)
  rw [refFollow_row hr.2.2.2] at this
  simpa [sackbutref05_Follow.f] using this
theorem followOk_take (l : List Int) (k : Int) : FollowOk (l.take 13) k ↔ FollowOk l k := by
  constructor
  · intro h
    have hr := (isRow_take l).1 h.1
    rw [row_take hr] at h
    exact h
  · intro h
    rw [row_take h.1]
    exact h

end Go.Proofs.Ytpfjnpbcnlbhaaa.P
namespace Go.Proofs.Ytpfjnpbcnlbhaaa.P
open Go.RowKit Go.Proofs.YtpfjnpbcnlbhaaaW.PrintWords Go.Proofs.YtpfjnpbcnlbhaaaW.PrintLast Go.Proofs.YtpfjnpbcnlbhaaaW.PrintMore
attribute [local go_sem] max2_int min2_int max_two min_two max_three min_three max_four min_four   -- for this text's walks alone
set_option linter.unusedVariables false
set_option linter.unusedSimpArgs false

/-! slices.Reverse and the forms -/
theorem Reverse_loop : ∀ (d : Nat) (M A B : List Int), M.length ≤ d → (A ++ M ++ B).length < 9223372036854775807 →
    Ev (fun k => slices_Reverse_int_int.l0 k (A ++ M ++ B) (A.length : Int) ((A.length : Int) + M.length - 1)) (A ++ M.reverse ++ B) := by
  intro d
  induction d with
  | zero =>
    intro M A B hd hb
    obtain rfl : M = [] := List.eq_nil_of_length_eq_zero (by omega)
    refine Ev.succ ?_
    have : ¬ (A.length : Int) < (A.length : Int) + (([] : List Int).length : Int) - 1 := by simp; omega
    simp only [slices_Reverse_int_int.l0, if_neg this]
    exact Ev.some _
  | succ d ih =>
    intro M A B hd hb
    match M, hd with
    | [], _ => exact ih [] A B (by simp) hb
    | [x], _ =>
      refine Ev.succ ?_
      have : ¬ (A.length : Int) < (A.length : Int) + (([x] : List Int).length : Int) - 1 := by simp
      simp only [slices_Reverse_int_int.l0, if_neg this, List.reverse_singleton]
      exact Ev.some _
    | x :: y :: M', hd =>
      obtain ⟨M2, z, hM⟩ : ∃ M2 z, y :: M' = M2 ++ [z] := ⟨(y :: M').dropLast, (y :: M').getLast (by simp), (List.dropLast_concat_getLast (by simp)).symm⟩
      rw [hM] at hd hb ⊢
      have hl : (A ++ x :: (M2 ++ [z]) ++ B).length = A.length + M2.length + 2 + B.length := by simp; omega
      have hj : (A.length : Int) + ((x :: (M2 ++ [z])).length : Int) - 1 = ((A.length + M2.length + 1 : Nat) : Int) := by simp; omega
      have e1 : A ++ x :: (M2 ++ [z]) ++ B = (A ++ x :: M2) ++ z :: B := by simp
      have r1 : rd (A ++ x :: (M2 ++ [z]) ++ B) (A.length : Int) = x := by
        rw [show A ++ x :: (M2 ++ [z]) ++ B = A ++ x :: (M2 ++ [z] ++ B) by simp]
        exact mid_rd rfl
      have r2 : rd (A ++ x :: (M2 ++ [z]) ++ B) ((A.length + M2.length + 1 : Nat) : Int) = z := by
        rw [e1, show A.length + M2.length + 1 = (A ++ x :: M2).length by simp; omega]
        exact mid_rd rfl
      have s1 : ((A ++ x :: (M2 ++ [z]) ++ B).set A.length z).set (A.length + M2.length + 1) x = (A ++ [z]) ++ M2 ++ (x :: B) := by
        rw [show A ++ x :: (M2 ++ [z]) ++ B = A ++ x :: (M2 ++ z :: B) by simp, List.set_append_right _ _ (Nat.le_refl _)]
        rw [Nat.sub_self, List.set_cons_zero]
        rw [show A ++ z :: (M2 ++ z :: B) = (A ++ z :: M2) ++ z :: B by simp, List.set_append_right _ _ (by simp; omega)]
        rw [show A.length + M2.length + 1 - (A ++ z :: M2).length = 0 by simp; omega, List.set_cons_zero]
        simp
      refine Ev.succ ?_
      rw [hj]
      have c1 : (A.length : Int) < ((A.length + M2.length + 1 : Nat) : Int) := by omega
      have c2 : (0 : Int) ≤ ((A.length + M2.length + 1 : Nat) : Int) := by omega
      have c3 : ((A.length + M2.length + 1 : Nat) : Int) < ((A ++ x :: (M2 ++ [z]) ++ B).length : Int) := by rw [hl]; omega
      have c4 : (A.length : Int) < ((A ++ x :: (M2 ++ [z]) ++ B).length : Int) := by rw [hl]; omega
      have w1 : wrap64 ((A.length : Int) + 1) = ((A ++ [z]).length : Int) := by rw [wrap_id (by omega) (by omega)]; simp
      have w2 : wrap64 (((A.length + M2.length + 1 : Nat) : Int) - 1) = ((A ++ [z]).length : Int) + M2.length - 1 := by rw [wrap_id (by omega) (by omega)]; simp; omega
      simp only [slices_Reverse_int_int.l0, if_pos c1, if_pos c2, if_pos c3, if_pos c4, if_pos (show (0 : Int) ≤ (A.length : Int) by omega), r1, r2, Int.toNat_natCast, s1, w1, w2]
      have := ih M2 (A ++ [z]) (x :: B) (by simp at hd; omega) (by simp at hb ⊢; omega)
      have e2 : A ++ [z] ++ M2.reverse ++ x :: B = A ++ (x :: (M2 ++ [z])).reverse ++ B := by simp
      rw [← e2]
      exact this
theorem Reverse_ev (l : List Int) (hb : l.length < 9223372036854775807) : Ev (fun k => slices_Reverse_int_int.f k l) l.reverse := by
  have h := Reverse_loop l.length l [] [] (Nat.le_refl _) (by simpa using hb)
  have w : wrap64 ((l.length : Int) - 1) = ((([] : List Int).length : Nat) : Int) + l.length - 1 := by rw [wrap_id (by omega) (by omega)]; simp
  unfold slices_Reverse_int_int.f
  rw [w]
  simpa using h

/-- a tone of a form -/
def toneOf (n kind k : Int) (x : Int) : Int := ((if kind % 2 = 1 then -x else x) + k % n) % n
def formOf (n kind k : Int) (l : List Int) : List Int := if kind / 2 % 2 = 1 then (l.map (toneOf n kind k)).reverse else l.map (toneOf n kind k)
theorem kind_bits {kind : Int} (h0 : 0 ≤ kind) (h3 : kind < 4) : (Go.bits .and .i64 kind 1 = 0 ↔ ¬ kind % 2 = 1) ∧ (Go.bits .and .i64 kind 2 = 0 ↔ ¬ kind / 2 % 2 = 1) := by
  have : kind = 0 ∨ kind = 1 ∨ kind = 2 ∨ kind = 3 := by omega
  rcases this with rfl | rfl | rfl | rfl <;> decide
theorem form_loop (n : Nat) (hn : 1 ≤ n) (hn2 : n ≤ 62) (kind k : Int) (hk0 : 0 ≤ kind) (hk3 : kind < 4) (l : List Int) (hl : l.length < 9223372036854775807) (hr : ∀ x ∈ l, 0 ≤ x ∧ x < 62) : ∀ (xs pre : List Int), l = pre ++ xs →
    Ev (fun q => rows_piece_form.l0 q kind k (pre.map (toneOf n kind k) ++ xs) (l.length : Int) (pre.length : Int) (n : Int) l) (formOf n kind k l) := by
  have hb := kind_bits hk0 hk3
  intro xs
  induction xs with
  | nil =>
    intro pre h0
    have hp : pre = l := by simpa using h0.symm
    subst hp
    refine Ev.succ ?_
    simp only [rows_piece_form.l0, if_neg (show ¬ (pre.length : Int) < (pre.length : Int) by omega), List.append_nil, hb.2]
    refine Ev.ite (fun e => ?_) (fun e => ?_)
    · unfold formOf
      rw [if_neg e]
      exact Ev.some _
    · unfold formOf
      rw [if_pos (Classical.not_not.1 e)]
      exact Ev.bind (Reverse_ev _ (by simpa using hl)) (Ev.some _)
  | cons x xs ih =>
    intro pre h0
    have hx := hr x (by rw [h0]; simp)
    have hlen : pre.length < l.length := by rw [h0]; simp
    have hlen2 : (pre.length : Int) < ((pre.map (toneOf n kind k) ++ x :: xs).length : Int) := by simp; omega
    have hrd : rd (pre.map (toneOf n kind k) ++ x :: xs) (pre.length : Int) = x := by
      have := mid_rd (l := pre.map (toneOf n kind k) ++ x :: xs) (pre := pre.map (toneOf n kind k)) rfl
      simpa using this
    have hset : ∀ v, (pre.map (toneOf n kind k) ++ x :: xs).set pre.length v = pre.map (toneOf n kind k) ++ v :: xs := by
      intro v
      rw [List.set_append_right _ _ (by simp)]
      simp
    have hm0 := Int.emod_nonneg k (show (n : Int) ≠ 0 by omega)
    have hm1 := Int.emod_lt_of_pos k (show (0 : Int) < n by omega)
    have go : ∀ v, v = toneOf n kind k x → Ev (fun q => rows_piece_form.l0 q kind k (pre.map (toneOf n kind k) ++ v :: xs) (l.length : Int) ((pre ++ [x]).length : Int) (n : Int) l) (formOf n kind k l) := by
      rintro v rfl
      have := ih (pre ++ [x]) (mid_mv h0)
      simpa using this
    refine Ev.succ ?_
    simp only [rows_piece_form.l0, if_pos (mid_lt h0), if_pos (show (0 : Int) ≤ (pre.length : Int) by omega), if_pos hlen2, hrd, Int.toNat_natCast, hset, mid_next h0 hl, rows_mod_f (show (0 : Int) < (n : Int) by omega) (show (n : Int) < 4611686018427387904 by omega), Option.bind_some, hb.1]
    refine Ev.ite (fun e => ?_) (fun e => ?_)
    · rw [wrap_id (by omega) (by omega)]
      exact go _ (by unfold toneOf; rw [if_neg e])
    · rw [wrap_id (n := -x) (by omega) (by omega), wrap_id (by omega) (by omega)]
      exact go _ (by unfold toneOf; rw [if_pos (Classical.not_not.1 e)])
theorem pieceForm_ev (n : Nat) (hn : 1 ≤ n) (hn2 : n ≤ 62) (kind k : Int) (hk0 : 0 ≤ kind) (hk3 : kind < 4) (l : List Int) (hl : l.length < 17592186044416) (hr : ∀ x ∈ l, 0 ≤ x ∧ x < 62) :
    Ev (fun q => rows_piece_form.f q (n : Int) l kind k) (formOf n kind k l) := by
  unfold rows_piece_form.f
  refine Ev.bind_some (show slices_Clone_int_int.f l = some l by unfold slices_Clone_int_int.f; rw [if_pos hl]) ?_
  simpa using form_loop n hn hn2 kind k hk0 hk3 l (by omega) hr l [] rfl
theorem row_small {l : List Int} (h : IsRow l) : ∀ x ∈ l, 0 ≤ x ∧ x < 62 := fun x hx => by have := h.2.2.1 x hx; have := h.2.1; omega
theorem Form_ev (l : List Int) (kind k : Int) : Ev (fun q => rows_Form.f q l kind k) (if IsRow l ∧ 0 ≤ kind ∧ kind < 4 then (formOf l.length kind k l, 0) else ([], 2)) := by
  unfold rows_Form.f
  refine Ev.bind (valid_ev l) ?_
  have bad : ∀ (r : List Int × Int), r = ([], 2) → Ev (fun q => rows_Form.j0 q l kind k true) r := by
    rintro r rfl
    refine Ev.succ ?_
    simp only [rows_Form.j0, if_true]
    exact Ev.some _
  by_cases h : IsRow l
  · have h1 := h.1; have h2 := h.2.1
    simp only [h, decide_true, if_true, true_and]
    refine Ev.ite (fun e => bad _ (if_neg (by omega))) (fun e => ?_)
    by_cases e2 : kind ≥ 4
    · simp only [decide_eq_true e2]
      exact bad _ (if_neg (by omega))
    · simp only [decide_eq_false e2]
      rw [if_pos (show 0 ≤ kind ∧ kind < 4 by omega)]
      refine Ev.succ ?_
      simp only [rows_Form.j0, Bool.false_eq_true, if_false, rows_row_whole.f, Option.bind_some]
      exact Ev.bind (pieceForm_ev l.length (by omega) (by omega) kind k (by omega) (by omega) l (by omega) (row_small h)) (Ev.some _)
  · simp only [h, decide_false, Bool.false_eq_true, if_false, false_and]
    exact bad _ rfl

end Go.Proofs.Ytpfjnpbcnlbhaaa.P
namespace Go.Proofs.Ytpfjnpbcnlbhaaa.P
open Go.RowKit Go.Proofs.YtpfjnpbcnlbhaaaW.PrintWords Go.Proofs.YtpfjnpbcnlbhaaaW.PrintLast Go.Proofs.YtpfjnpbcnlbhaaaW.PrintMore
attribute [local go_sem] max2_int min2_int max_two min_two max_three min_three max_four min_four   -- for this text's walks alone
set_option linter.unusedVariables false
set_option linter.unusedSimpArgs false

/-! of each tone and the one k above it one is behind the other one -/
theorem nodup_rev {l : List Int} : l.reverse.Nodup ↔ l.Nodup := (List.reverse_perm l).nodup_iff
theorem followOf_pairs (n k : Int) : ∀ l : List Int, l.Nodup → followOf n k l = pairsOf (fun x y => decide ((x + k) % n = y)) l
  | [], _ => rfl
  | x :: r, hd => by
    have hd' := List.nodup_cons.1 hd
    simp only [followOf, pairsOf, countP_eq_nodup hd'.2, followOf_pairs n k r hd'.2]
theorem above_back {n k x y : Int} (hk : 1 ≤ k) (hk2 : k < n) (hx : 0 ≤ x) (hx2 : x < n) (hy : 0 ≤ y) (hy2 : y < n) : ((y + (n - k)) % n = x) ↔ ((x + k) % n = y) := by
  have e1 : ∀ a, 0 ≤ a → a < n → a % n = a := fun a h0 h1 => Int.emod_eq_of_lt h0 h1
  have e2 : ∀ a, n ≤ a → a < 2 * n → a % n = a - n := fun a h0 h1 => by rw [← Int.sub_emod_right, Int.emod_eq_of_lt (by omega) (by omega)]
  rcases Int.lt_or_le (x + k) n with a | a <;> rcases Int.lt_or_le (y + (n - k)) n with b | b
  · rw [e1 _ (by omega) a, e1 _ (by omega) b]; omega
  · rw [e1 _ (by omega) a, e2 _ b (by omega)]; omega
  · rw [e2 _ a (by omega), e1 _ (by omega) b]; omega
  · rw [e2 _ a (by omega), e2 _ b (by omega)]; omega
theorem row_mem {l : List Int} (h : IsRow l) {v : Int} (h0 : 0 ≤ v) (h1 : v < l.length) : v ∈ l := by
  have hr' : ∀ x ∈ l.map Int.toNat, x < l.length := by
    intro x hx
    obtain ⟨y, hy, rfl⟩ := List.mem_map.1 hx
    have := h.2.2.1 y hy
    omega
  have hd := (nodup_toNat (fun x hx => (h.2.2.1 x hx).1)).2 h.2.2.2
  have := full_of_nodup (n := l.length) (by simp) hr' hd v.toNat (by omega)
  obtain ⟨y, hy, e⟩ := List.mem_map.1 this
  have := (h.2.2.1 y hy).1
  obtain rfl : y = v := by omega
  exact hy
theorem follow_other {l : List Int} {k : Int} (h : FollowOk l k) : followOf l.length (l.length - k) l = followOf l.length k l.reverse := by
  obtain ⟨hr, hk, hk2⟩ := h
  rw [followOf_pairs _ _ _ hr.2.2.2, followOf_pairs _ _ _ (nodup_rev.2 hr.2.2.2), pairsOf_reverse]
  refine pairsOf_congr l (fun x hx y hy => ?_)
  have a := hr.2.2.1 x hx; have b := hr.2.2.1 y hy
  rw [decide_eq_decide]
  exact above_back hk hk2 b.1 b.2 a.1 a.2
theorem follow_sum {l : List Int} {k : Int} (h : FollowOk l k) : followOf l.length k l + followOf l.length (l.length - k) l = l.length := by
  rw [follow_other h]
  obtain ⟨hr, hk, hk2⟩ := h
  rw [followOf_pairs _ _ _ hr.2.2.2, followOf_pairs _ _ _ (nodup_rev.2 hr.2.2.2), pairsOf_reverse]
  have hs := crossOf_self (fun x y => decide ((x + k) % (l.length : Int) = y)) l
  have hz : l.countP (fun x => decide ((x + k) % (l.length : Int) = x)) = 0 := by
    rw [List.countP_eq_zero]
    intro x hx
    have a := hr.2.2.1 x hx
    simpa using above_ne hk hk2 a.1 a.2
  have hc := crossOf_const (p := fun x y => decide ((x + k) % (l.length : Int) = y)) l l (fun x hx => by
    have a := hr.2.2.1 x hx
    rw [countP_eq_nodup hr.2.2.2, if_pos (row_mem hr (Int.emod_nonneg _ (by omega)) (Int.emod_lt_of_pos _ (by omega)))])
  omega
theorem reverse_row {l : List Int} (h : IsRow l) : IsRow l.reverse := by
  obtain ⟨a, b, c, d⟩ := h
  exact ⟨by simpa using a, by simpa using b, fun x hx => by have := c x (by simpa using hx); simpa using this, nodup_rev.2 d⟩
theorem formOf_back {l : List Int} (h : IsRow l) : formOf l.length 2 0 l = l.reverse := by
  have : l.map (toneOf l.length 2 0) = l := by
    rw [List.map_congr_left (g := id) (fun x hx => ?_), List.map_id]
    have := h.2.2.1 x hx
    unfold toneOf
    simp
    exact Int.emod_eq_of_lt this.1 this.2
  unfold formOf
  rw [if_pos (by decide), this]
theorem RowsBehind : sackbutlaw05_RowsBehind.Pure := by
  intro l k _ _ _ _
  refine Ev.rounds (g := fun q => sackbutlaw05_RowsBehind.f q l k) ?_
  unfold sackbutlaw05_RowsBehind.f
  refine Ev.bind_some (list_f l) ?_
  refine Ev.bind (Follow_ev (l.take 13) k) ?_
  simp only [followOk_take]
  by_cases h : FollowOk l k
  · obtain ⟨hr, hk, hk2⟩ := h
    have h1 := hr.1; have h2 := hr.2.1
    have hy : FollowOk l k := ⟨hr, hk, hk2⟩
    have hw : wrap64 ((l.length : Int) - 1) = (l.length : Int) - 1 := wrap_id (by omega) (by omega)
    simp only [hy, if_true, row_take hr]
    refine Ev.bind (Row_ev l) ?_
    simp only [hr, decide_true, if_true]
    simp only [if_neg (show ¬ k < 1 by omega), hw, decide_eq_false (show ¬ k > (l.length : Int) - 1 by omega)]
    refine Ev.succ ?_
    simp only [sackbutlaw05_RowsBehind.j0, Bool.false_eq_true, if_false]
    refine Ev.bind_some (list_f l) ?_
    have hw2 : wrap64 ((l.length : Int) - k) = (l.length : Int) - k := wrap_id (by omega) (by omega)
    rw [row_take hr, hw2]
    refine Ev.bind (Follow_ev l (l.length - k)) ?_
    have hy2 : FollowOk l (l.length - k) := ⟨hr, by omega, by omega⟩
    simp only [hy2, if_true]
    refine Ev.bind_some (list_f l) ?_
    rw [row_take hr]
    refine Ev.bind (Form_ev l 2 0) ?_
    rw [if_pos ⟨hr, by omega, by omega⟩, formOf_back hr]
    refine Ev.bind (Follow_ev l.reverse k) ?_
    have hy3 : FollowOk l.reverse k := ⟨reverse_row hr, hk, by simpa using hk2⟩
    have e := follow_other hy
    have s := follow_sum hy
    rw [e] at s
    have hw3 : wrap64 ((followOf l.length k l : Int) + (followOf l.length k l.reverse : Int)) = (l.length : Int) := by rw [wrap_id (by omega) (by omega)]; omega
    simp only [hy3, if_true, List.length_reverse, e, hw3]
    exact Ev.bind awake_ev (Ev.some _)
  · simp only [h, if_false]
    simp only [if_neg (show ¬ ((2 : Int) = 0) by decide)]
    refine Ev.succ ?_
    simp only [sackbutlaw05_RowsBehind.j0, if_true]
    exact Ev.bind awake_ev (Ev.some _)

end Go.Proofs.Ytpfjnpbcnlbhaaa.P
namespace Go.Proofs.Ytpfjnpbcnlbhaaa.Pure
theorem RowsBehind : Go.Proofs.Ytpfjnpbcnlbhaaa.P.sackbutlaw05_RowsBehind.Pure := Go.Proofs.Ytpfjnpbcnlbhaaa.P.RowsBehind
end Go.Proofs.Ytpfjnpbcnlbhaaa.Pure
namespace Go.Proofs.Ytpfjnpbcnlbhaaa.rowsBehind
open Go.ChangeShapes Go.WideShapes Go.ChangeAt Go.RowKit
open Go.ChangeMaps (open_string shut_string)
set_option linter.unusedVariables false
theorem own : ownKnob Try.prog.godebug = none := by kernel_rfl
theorem laidOut : laidOutB Try.prog = true := by kernel_rfl
def IsRow (k : IntKind) (w : World) (a : Option Addr) (len cap : Nat) (zs : List Int) : Prop :=
  (a = none ∧ len = 0 ∧ cap = 0 ∧ zs = []) ∨
  ∃ x, a = some x ∧ len ≤ cap ∧ cap ≤ maxLen ∧ zs.length = cap ∧ (∀ i, i < zs.length → w.cell? (x.add i) = some (.int k (zs.getD i 0))) ∧ ∀ n ∈ zs, (Lit.int k n).wf = true
set_option maxRecDepth 100000 in
theorem lifted (os : Os) (started : os.Started) (H : Type) (enc : TypeId × Value → H) :
    ReturnsInHanded {} Try.checked os 7 .any (Rows.rowsBehindSpec.pre6 enc Try.prog Try.f7 Rows.rowsBehindRow.domain false) (Rows.rowsBehindSpec.post enc Try.prog Try.f7 false true false false) := by
  refine returnsInHanded_of_change_sized (C := Try.checked) own started (by kernel_rfl) Try.func7
    (ChangeSpec.witness6 (enc := enc) (C := Try.checked) false ⟨#[], #[.slice none 0 0, .int .i64 0], []⟩ 8 (by kernel_rfl) (by kernel_rfl) (by kernel_rfl) (by kernel_rfl)) ?_
  intro W base args ds gs before hval0 hW hcnd hsz0 _
  have hsz : (DataW.weightsEach Try.prog (Try.f7.params.toList ++ Rows.rowsBehindSpec.plain.varTypes Try.prog) (ds ++ gs)).all (· ≤ reachBytes) = true := hsz0
  have hval : ∀ (j : Nat) t v, Try.f7.params[j]? = some t → args[j]? = some v → Value.okWide Try.prog W .any base t v := hval0
  have hW' := hW
  obtain ⟨p, q, hA0, hV, rfl, hfz, hnd⟩ := hW
  have hA : DataW.TrodAll enc Try.prog W 0 (fun _ => true) true Try.f7.params.toList args.toList ds p := hA0
  rw [Try.params7] at hA hval hsz
  obtain ⟨v0, vs0, d0, ds0, p0, q0, hargs, rfl, rfl, h0, r0⟩ := trodAll_cons hA
  obtain ⟨v1, vs1, d1, ds1, p1, q1, rfl, rfl, rfl, h1, r1⟩ := trodAll_cons r0
  obtain ⟨rfl, rfl, rfl⟩ := trodAll_nil r1
  obtain rfl : args = #[v0, v1] := by cases args; simp_all
  obtain ⟨rfl, rfl⟩ := trodVars_none hV
  obtain ⟨a0, len0, cap0, rfl⟩ := okWide_slice Try.underlying22 (hval 0 22 v0 rfl rfl)
  have k0 := h0
  have lt0 : ∀ x ∈ p0, x.block < W.heap.size := by obtain ⟨m, hm⟩ := k0; exact DataW.trod_lt m _ _ _ hm
  obtain ⟨z0, w0⟩ : ∃ zs, IsRow .i64 W a0 len0 cap0 zs := by
    obtain ⟨fuel, hf⟩ := h0
    rcases open_ints Try.underlying22 Try.underlying3 (by kernel_rfl) hf with ⟨hcs, _⟩ | ⟨x, l, c, zs, hcs, _, hl, hm, hz, _, hcell, hwz⟩
    · simp [Value.cells] at hcs
      obtain ⟨rfl, rfl, rfl⟩ := hcs
      exact ⟨[], .inl ⟨rfl, rfl, rfl, rfl⟩⟩
    · simp [Value.cells] at hcs
      obtain ⟨rfl, rfl, rfl⟩ := hcs
      exact ⟨zs, .inr ⟨_, rfl, hl, hm, by simpa using hz, hcell, hwz⟩⟩
  have y0 : len0 * 8 ≤ 140737488351232 := Go.Proofs.YtpfjnpbcnlbhaaaW.PrintWords.sized_ints hsz (j := 0) (t := 22) rfl rfl Try.underlying22 Try.underlying3 (by kernel_rfl) (by kernel_rfl) h0
  obtain ⟨a1, rfl, rfl, rfl, w1⟩ := open_int Try.underlying3 (hval 1 3 v1 rfl rfl) h1
  clear hA0 hval0 hsz0 hsz
  refine (P.sackbutlaw05_RowsBehind.walk Pure.RowsBehind a0 len0 cap0 z0 a1 W w0 y0 w1).mono fun e W' ⟨he, bel⟩ => ?_
  subst he
  exact ⟨_, rfl, _, _, _, [], _, [], hW', trodAll_mk1 (shut_bool Try.underlying4 _), (trodAll_cons_mk (Below.trod laidOut (by kernel_rfl) (of_decide_eq_true (by kernel_rfl)) k0 bel lt0) (trodAll_cons_mk (shut_int Try.underlying3 w1) trodAll_mk0)), rfl, bel.frame _, fun h => by cases h⟩
theorem over : Rows.rowsBehindRow.holds Try.pinned (OpenSpec.ofChange Rows.rowsBehindSpec) :=
  OpenClaim.holds_of_wide 7 Try.f7 rfl rfl rfl rfl rfl rfl rfl ⟨rfl, rfl, rfl, rfl, rfl⟩ rfl rfl rfl rfl rfl (by kernel_rfl) Try.func7 (by kernel_rfl)
    (of_decide_eq_true (by kernel_rfl)) (by unfold Func.isWrapper; first | (rw [if_pos (by decide +kernel)]; kernel_rfl) | (rw [if_neg (by decide +kernel)]; exact ⟨rfl, rfl⟩))
    (fun os started H enc _ => lifted os started H enc)
theorem proved : Rows.RowsBehindSaid := over
#print axioms proved
end Go.Proofs.Ytpfjnpbcnlbhaaa.rowsBehind
namespace Go.Proofs.Ytpfjnpbcnlbhaaa
/-- The row, under a short name, for the claim. -/
theorem rowsBehind_holds : Rows.RowsBehindSaid := rowsBehind.proved
end Go.Proofs.Ytpfjnpbcnlbhaaa
