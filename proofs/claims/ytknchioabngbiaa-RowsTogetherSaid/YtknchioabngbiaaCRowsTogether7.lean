/- Proved here: the Go function sackbutlaw05.RowsTogether returns true for every input (its printed form comes to true), whatever its arguments. Conditions: none beyond the row's own reach in memory. -/
import Derived.Test.YtknchioabngbiaaRows
import Derived.WalkKit
import Derived.ProofKit
import Derived.OpenShut
import Derived.ShutString
import Derived.ChangeOld
import Derived.Below
import Derived.SizedLaws
import Derived.Test.YtknchioabngbiaaWSized
import Derived.Test.YtknchioabngbiaaCRowsTogether1
import Derived.Test.YtknchioabngbiaaCRowsTogether2
import Derived.Test.YtknchioabngbiaaCRowsTogether3
import Derived.Test.YtknchioabngbiaaCRowsTogether4
import Derived.Test.YtknchioabngbiaaCRowsTogether5
import Derived.Test.YtknchioabngbiaaCRowsTogether6
namespace Go.Proofs.Ytknchioabngbiaa.P
open Go.RowKit Go.Proofs.YtknchioabngbiaaW.PrintWords Go.Proofs.YtknchioabngbiaaW.PrintLast Go.Proofs.YtknchioabngbiaaW.PrintMore
attribute [local go_sem] max2_int min2_int max_two min_two max_three min_three max_four min_four   -- for this text's walks alone
set_option linter.unusedVariables false
set_option linter.unusedSimpArgs false

/-! ### sackbutref05_Form: function 25 -/
def sackbutref05_Form.l0 : Nat → List Int → Int → Int → Int → List Int → List Int → Int → Int → Option (List Int)
  | 0, _, _, _, _, _, _, _, _ => none
  | k + 1, x0, x1, x2, x3, x9, x19, x20, x21 => if x21 < x20 then (if 0 ≤ x21 then (if x21 < (x19.length : Int) then (if (Int.tmod x2 2) = 1 then (if x2 ≥ 2 then ((sackbutref05_mod.f (wrap64 ((wrap64 (-(rd x19 x21))) + x3)) x1).bind fun t1006 => (if 0 ≤ (wrap64 ((wrap64 ((x0.length : Int) - 1)) - x21)) then (if (wrap64 ((wrap64 ((x0.length : Int) - 1)) - x21)) < (x9.length : Int) then (sackbutref05_Form.l0 k x0 x1 x2 x3 (x9.set ((wrap64 ((wrap64 ((x0.length : Int) - 1)) - x21)) : Int).toNat t1006) x19 x20 (wrap64 (x21 + 1))) else (none)) else (none))) else ((sackbutref05_mod.f (wrap64 ((wrap64 (-(rd x19 x21))) + x3)) x1).bind fun t1008 => (if x21 < (x9.length : Int) then (sackbutref05_Form.l0 k x0 x1 x2 x3 (x9.set (x21 : Int).toNat t1008) x19 x20 (wrap64 (x21 + 1))) else (none)))) else (if x2 ≥ 2 then ((sackbutref05_mod.f (wrap64 ((rd x19 x21) + x3)) x1).bind fun t1010 => (if 0 ≤ (wrap64 ((wrap64 ((x0.length : Int) - 1)) - x21)) then (if (wrap64 ((wrap64 ((x0.length : Int) - 1)) - x21)) < (x9.length : Int) then (sackbutref05_Form.l0 k x0 x1 x2 x3 (x9.set ((wrap64 ((wrap64 ((x0.length : Int) - 1)) - x21)) : Int).toNat t1010) x19 x20 (wrap64 (x21 + 1))) else (none)) else (none))) else ((sackbutref05_mod.f (wrap64 ((rd x19 x21) + x3)) x1).bind fun t1012 => (if x21 < (x9.length : Int) then (sackbutref05_Form.l0 k x0 x1 x2 x3 (x9.set (x21 : Int).toNat t1012) x19 x20 (wrap64 (x21 + 1))) else (none))))) else (none)) else (none)) else (some x9)
def sackbutref05_Form.f (k : Nat) (l0 : List Int) (a1 : Int) (a2 : Int) (a3 : Int) : Option (List Int) := (sackbutref05_mod.f a3 a1).bind fun t1001 => (if 0 ≤ (l0.length : Int) then (if ((l0.length : Int) : Int).toNat ≤ 35184372088832 then (sackbutref05_Form.l0 k l0 a1 a2 t1001 (List.replicate ((l0.length : Int) : Int).toNat 0) l0 (l0.length : Int) 0) else (none)) else (none))
theorem sackbutref05_Form.mono_l : ∀ k, (∀ y0 y1 y2 y3 y4 y5 y6 y7, LeO (sackbutref05_Form.l0 k y0 y1 y2 y3 y4 y5 y6 y7) (sackbutref05_Form.l0 (k + 1) y0 y1 y2 y3 y4 y5 y6 y7))
  | 0 => fun _ _ _ _ _ _ _ _ r h => by simp [sackbutref05_Form.l0] at h
  | k + 1 => by
    have ih0 := sackbutref05_Form.mono_l k
    · intro y0 y1 y2 y3 y4 y5 y6 y7
      unfold sackbutref05_Form.l0
      repeat' first
      | (with_reducible exact ih0 _ _ _ _ _ _ _ _)
      | (with_reducible exact LeO.refl _)
      | (with_reducible exact LeO.none _)
      | (with_reducible refine LeO.ite ?_ ?_)
      | (with_reducible refine LeO.bind ?_ (fun _ => ?_))
      | exact ih0 _ _ _ _ _ _ _ _
      | exact LeO.none _
      | refine LeO.ite ?_ ?_
      | refine LeO.bind ?_ (fun _ => ?_)
theorem sackbutref05_Form.mono : ∀ a0 a1 a2 a3 k, LeO (sackbutref05_Form.f k a0 a1 a2 a3) (sackbutref05_Form.f (k + 1) a0 a1 a2 a3) := by
  intro a0 a1 a2 a3 k
  have ih0 := sackbutref05_Form.mono_l k
  unfold sackbutref05_Form.f
  repeat' first
      | (with_reducible exact ih0 _ _ _ _ _ _ _ _)
      | (with_reducible exact LeO.refl _)
      | (with_reducible exact LeO.none _)
      | (with_reducible refine LeO.ite ?_ ?_)
      | (with_reducible refine LeO.bind ?_ (fun _ => ?_))
      | exact ih0 _ _ _ _ _ _ _ _
      | exact LeO.none _
      | refine LeO.ite ?_ ?_
      | refine LeO.bind ?_ (fun _ => ?_)
set_option maxHeartbeats 8000000 in
set_option maxRecDepth 100000 in
theorem sackbutref05_Form.calls (k : Nat) (A0 : Option Addr) (c0 : Nat) (l0 : List Int) (a1 : Int) (a2 : Int) (a3 : Int) (r : List Int) (w : World) (hr0 : Kd.C (Kd.int .i64) w A0 l0.length l0) (hc0 : l0.length ≤ c0) (h : sackbutref05_Form.f k l0 a1 a2 a3 = some r) :
    Calls Try.prog 25 #[.slice A0 l0.length c0, .int .i64 a1, .int .i64 a2, .int .i64 a3] w fun e w' => ∃ v0_ : Value, e = .returned (v0_) ∧ Kd.R (Kd.int .i64) 3 w' w.heap.size (fun _ => True) v0_ r ∧ Below w.heap.size w w' := by
  have HR0 := Aside0.mk hr0
  have HC0 := Aside0.mk hc0
  clear hr0 hc0
  have HB := Aside0.mk (Below.refl w.heap.size w)
  have H : ((sackbutref05_mod.f a3 a1).bind fun t1001 => (if 0 ≤ (l0.length : Int) then (if ((l0.length : Int) : Int).toNat ≤ 35184372088832 then (sackbutref05_Form.l0 k l0 a1 a2 t1001 (List.replicate ((l0.length : Int) : Int).toNat 0) l0 (l0.length : Int) 0) else (none)) else (none))) = some r := h
  clear h
  replace H := Option.bind_eq_some_iff.mp H
  obtain ⟨t1001, A50, H⟩ := H
  replace H : (if 0 ≤ (l0.length : Int) then (if ((l0.length : Int) : Int).toNat ≤ 35184372088832 then (sackbutref05_Form.l0 k l0 a1 a2 t1001 (List.replicate ((l0.length : Int) : Int).toNat 0) l0 (l0.length : Int) 0) else (none)) else (none)) = some r := H
  have A5 := Aside0.mk A50
  clear A50
  by_cases c6 : 0 ≤ (l0.length : Int)
  · rw [if_pos c6] at H
    have c6b0 := eq_true c6
    have c6b1 : decide (0 ≤ (l0.length : Int)) = true := decide_eq_true c6
    clear c6
    by_cases c7 : ((l0.length : Int) : Int).toNat ≤ 35184372088832
    · rw [if_pos c7] at H
      have c7b0 := eq_true c7
      have c7b1 : decide (((l0.length : Int) : Int).toNat ≤ 35184372088832) = true := decide_eq_true c7
      clear c7
      obtain ⟨y1002, hy1002⟩ : ∃ y_ : List Int, y_ = (List.replicate ((l0.length : Int) : Int).toNat 0) := ⟨_, rfl⟩
      replace H : (sackbutref05_Form.l0 k l0 a1 a2 t1001 y1002 l0 (l0.length : Int) 0) = some r := by first | (rw [hy1002]; with_reducible exact H) | (have H2_ := (Option.bind_some _ _).symm.trans H; rw [hy1002]; with_reducible exact H2_) | (have H2_ := (Option.bind_some _ _).symm.trans H; with_reducible exact H2_) | with_reducible exact H | (rw [hy1002]; exact H) | exact H
      have Ny1002 := Aside0.mk hy1002
      clear hy1002
      have H' := Aside0.mk H
      clear H
      go_enter Try.func25, Try.ntmps25
      go_wp2_with (first | ((with_reducible refine gate_callee (f := 50) rfl ?_); refine goesL_ (some 15) rfl rfl Try.func50 (by kernel_rfl) rfl #[.int .i64 a3, .int .i64 a1] rfl (by (try simp only [List.map_toArray, List.map_cons, List.map_nil]); first | done | rfl | (simp only [List.length_drop, List.length_take]; rfl)) ?_; (with_reducible refine (sackbutref05_mod.calls a3 a1 t1001 _ A5.out).mono ?_); rintro e w' ⟨rfl, ⟨nd, rfl⟩⟩; refine ⟨_, rfl, ?_⟩) | ((with_reducible refine gate_dst (N := 18) rfl ?_); refine Kd.R_make (Kd.int .i64) _ 3 rfl (N := 18) rfl 27 _ _ rfl (l0.length : Int) rfl rfl Try.underlying27 (.int .i64 0) 8 info3 rfl (by decide) (by omega) 0 (ok := fun _ => True) (okp := fun _ => True) rfl (fun _ hk => hk) trivial (of_decide_eq_true (by first | (with_reducible assumption) | assumption)) (Nat.le_trans (Nat.mul_le_mul_right _ (of_decide_eq_true (by first | (with_reducible assumption) | assumption) : (l0.length : Int).toNat ≤ 35184372088832)) (by omega)) (Below.refl _ _) (Nat.le_refl _) ?_; intro v1003 w8 ho9 hb hg_ hnew_; clear hg_ hnew_; (first | rw [← Ny1002.out] at ho9 | (simp only [Int.reduceToNat] at ho9; rw [← Ny1002.out] at ho9)); have n0_ := Aside0.mk (Kd.R_lower ho9 (below_size (by repeat (first | (with_reducible first | exact HB.out | apply below_alloc | apply pw_below_drewN | apply below_drew1) | exact HB.out)))); have n1_ := Aside0.mk (below_step (by repeat (first | (with_reducible first | exact HB.out | apply below_alloc | apply pw_below_drewN | apply below_drew1) | exact HB.out)) hb); clear HB; have HO1004 := n0_; have HB := n1_; clear n0_ n1_; clear hb ho9))
      go_loopg [21] k (fun kq v21 w' => ∃ (x9_1 : List Int) (x21_1 : Int), v21 = .int .i64 x21_1 ∧ Aside0 (sackbutref05_Form.l0 kq l0 a1 a2 t1001 x9_1 l0 (l0.length : Int) x21_1 = some r) ∧ Aside0 (kq ≤ k) ∧ Aside0 (Kd.R (Kd.int .i64) 3 w' w.heap.size (fun _ => True) v1003 x9_1) ∧ Aside0 (Below w.heap.size w w'))
      case atStart => exact ⟨(y1002), (0), (by first | rfl | (simp; done) | (simp [*]; done)), H', ⟨Nat.le_refl _⟩, ⟨by (with_reducible repeat (first | apply Kd.R_alloc | apply Kd.R_drewN | apply Kd.R_drew)); exact HO1004.out⟩, ⟨by repeat (first | (with_reducible first | exact HB.out | apply below_alloc | apply pw_below_drewN | apply below_drew1) | exact HB.out)⟩⟩
      case round =>
        clear H'
        try clear c2
        try clear p2
        try clear c5
        try clear c6
        try clear c6b0
        try clear c6b1
        try clear c7
        try clear c7b0
        try clear c7b1
        obtain ⟨x9_1, x21_1, rfl, HA, HK1, HO_9, HB⟩ := hrel
        cases gk with
        | zero => exact absurd HA.out (by simp [sackbutref05_Form.l0])
        | succ k1 =>
          have H := HA.out
          clear HA
          simp only [sackbutref05_Form.l0] at H
          by_cases c10 : x21_1 < (l0.length : Int)
          · rw [if_pos c10] at H
            have c10b0 : decide (x21_1 < (l0.length : Int)) = true := decide_eq_true c10
            clear c10
            by_cases c11 : 0 ≤ x21_1
            · rw [if_pos c11] at H
              have c11b0 : decide (0 ≤ x21_1) = true := decide_eq_true c11
              clear c11
              by_cases c12 : x21_1 < (l0.length : Int)
              · rw [if_pos c12] at H
                have c12b0 : decide (x21_1 < (l0.length : Int)) = true := decide_eq_true c12
                clear c12
                by_cases c13 : (Int.tmod a2 2) = 1
                · rw [if_pos c13] at H
                  have c13b0 : ((Int.tmod a2 2) == 1) = true := beq_iff_eq.mpr c13
                  have c13b1 : ((Int.tmod a2 2) != 1) = false := bne_eq_false_iff_eq.mpr c13
                  clear c13
                  by_cases c14 : a2 ≥ 2
                  · rw [if_pos c14] at H
                    have c14b0 : decide (2 ≤ a2) = true := decide_eq_true c14
                    clear c14
                    replace H := Option.bind_eq_some_iff.mp H
                    obtain ⟨t1006, A150, H⟩ := H
                    replace H : (if 0 ≤ (wrap64 ((wrap64 ((l0.length : Int) - 1)) - x21_1)) then (if (wrap64 ((wrap64 ((l0.length : Int) - 1)) - x21_1)) < (x9_1.length : Int) then (sackbutref05_Form.l0 k1 l0 a1 a2 t1001 (x9_1.set ((wrap64 ((wrap64 ((l0.length : Int) - 1)) - x21_1)) : Int).toNat t1006) l0 (l0.length : Int) (wrap64 (x21_1 + 1))) else (none)) else (none)) = some r := H
                    have A15 := Aside0.mk A150
                    clear A150
                    obtain ⟨ji16, hji16⟩ : ∃ j_ : Int, (wrap64 ((wrap64 ((l0.length : Int) - 1)) - x21_1)) = j_ := ⟨_, rfl⟩
                    replace H : (if 0 ≤ (ji16) then (if (ji16) < (x9_1.length : Int) then (sackbutref05_Form.l0 k1 l0 a1 a2 t1001 (x9_1.set ((ji16) : Int).toNat t1006) l0 (l0.length : Int) (wrap64 (x21_1 + 1))) else (none)) else (none)) = some r := by first | (rw [hji16] at H; exact H) | (simp only [hji16] at H ⊢; exact H)
                    (try rw [hji16] at A15)
                    have hji16w : (IntKind.i64.wrap ((wrap64 ((l0.length : Int) - 1)) - x21_1)) = ji16 := (i64_w _).trans hji16
                    by_cases c17 : 0 ≤ (ji16)
                    · rw [if_pos c17] at H
                      have c17b0 : decide (0 ≤ (ji16)) = true := decide_eq_true c17
                      clear c17
                      by_cases c18 : (ji16) < (x9_1.length : Int)
                      · rw [if_pos c18] at H
                        have c18b0 : decide ((ji16) < (x9_1.length : Int)) = true := decide_eq_true c18
                        clear c18
                        obtain ⟨y1007, hy1007⟩ : ∃ y_ : List Int, y_ = (x9_1.set ((ji16) : Int).toNat t1006) := ⟨_, rfl⟩
                        replace H : (sackbutref05_Form.l0 k1 l0 a1 a2 t1001 y1007 l0 (l0.length : Int) (wrap64 (x21_1 + 1))) = some r := by first | (rw [hy1007]; with_reducible exact H) | (have H2_ := (Option.bind_some _ _).symm.trans H; rw [hy1007]; with_reducible exact H2_) | (have H2_ := (Option.bind_some _ _).symm.trans H; with_reducible exact H2_) | with_reducible exact H | (rw [hy1007]; exact H) | exact H
                        have Ny1007 := Aside0.mk hy1007
                        clear hy1007
                        have H' := Aside0.mk H
                        clear H
                        have p1005 : 0 ≤ (x21_1 : Int) := of_decide_eq_true (by first | (with_reducible assumption) | assumption)
                        have q1005 : x21_1 < (l0.length : Int) := of_decide_eq_true (by first | (with_reducible assumption) | assumption)
                        obtain ⟨ad1005, e1005, hx1005_0⟩ := Kd.at_int HR0.out x21_1 p1005 q1005
                        cases e1005
                        replace hx1005_0 := (HB.out.cell (World.block_lt_of_cell? w _ hx1005_0)).trans hx1005_0
                        replace p1005 := eq_true p1005
                        replace q1005 := eq_true q1005
                        go_wp2_with (first | ((with_reducible refine gate_callee (f := 50) rfl ?_); refine goesL_ (some 45) rfl rfl Try.func50 (by kernel_rfl) rfl #[.int .i64 (wrap64 ((wrap64 (-(rd l0 x21_1))) + t1001)), .int .i64 a1] rfl (by (try simp only [List.map_toArray, List.map_cons, List.map_nil]); first | done | rfl | (simp only [List.length_drop, List.length_take]; rfl)) ?_; (with_reducible refine (sackbutref05_mod.calls (wrap64 ((wrap64 (-(rd l0 x21_1))) + t1001)) a1 t1006 _ A15.out).mono ?_); rintro e w' ⟨rfl, ⟨nd, rfl⟩⟩; refine ⟨_, rfl, ?_⟩; (try (rw [drewN_self wr]; generalize hq_ : World.drewN wr _ = wr; have n0_ : Aside0 (Kd.R (Kd.int .i64) 3 wr w.heap.size (fun _ => True) v1003 x9_1) := ⟨by rw [← hq_]; exact (by (with_reducible repeat (first | apply Kd.R_alloc | apply Kd.R_drewN | apply Kd.R_drew)); exact HO_9.out)⟩; have n1_ : Aside0 (Below w.heap.size w wr) := ⟨by rw [← hq_]; exact (by repeat (first | (with_reducible first | exact HB.out | apply below_alloc | apply pw_below_drewN | apply below_drew1) | exact HB.out))⟩; clear HO_9 HB hq_; have HO_9 := n0_; have HB := n1_; clear n0_ n1_)); have p19 : 0 ≤ ((ji16) : Int) := of_decide_eq_true (by first | (with_reducible assumption) | assumption); have q19 : ((ji16) : Int) < ((x9_1.length : Int) : Int) := of_decide_eq_true (by first | (with_reducible assumption) | assumption); obtain ⟨go19, co19, eo19, gb19, gl19, cl19, HG19⟩ := Kd.R_form HO_9.out (by omega); (first | cases eo19 | (injection eo19 with ea_ en_ ec_; (first | subst ea_ | (injection ea_ with ea_; subst ea_)); subst ec_; clear en_)); have GB19 := Aside0.mk gb19; have GG19 := Aside0.mk HG19; clear gb19 gl19 HG19; obtain ⟨hx19_0, hf19_0⟩ := Kd.R_celln 0 HO_9.out ((ji16) : Int) p19 q19; replace p19 := eq_true p19; replace q19 := eq_true q19; obtain ⟨hy20_, hz20_⟩ := Kd.R_celln 0 HO_9.out ((ji16) : Int) (of_decide_eq_true (by first | (with_reducible assumption) | assumption)) (of_decide_eq_true (by first | (with_reducible assumption) | assumption)); have HP20 := Kd.R_putg HO_9.out ((ji16) : Int) t1006) | ((with_reducible refine gate_store (t := 3) (p := 46) rfl ?_); refine store_event (t := 3) (p := 46) (v := ?vo_w21) (w1 := (wr.setCell ⟨go19, ((ji16) : Int).toNat, none⟩ (.int .i64 t1006))) ?hg ?ho ?hn ?hr ?_; (case ho => rfl); (case hg => rfl); (case hn => rfl); (case hr => first | (go_simp; done) | (go_simp; rfl)); intro w21 hw; have hg : wr.grownBy w21 (some go19) := (by rw [hw]; exact HP20.2); have hp_ : Kd.R (Kd.int .i64) 3 w21 w.heap.size (fun _ => True) (.slice (some ⟨go19, 0, none⟩) x9_1.length co19) y1007 := (by rw [hw, Ny1007.out]; exact HP20.1); clear HP20; have n0_ := Aside0.mk (hp_); have n1_ := Aside0.mk ((by rw [hw]; exact below_set (HB.out) GB19.out : Below w.heap.size w w21)); clear HO_9; clear HB; have HO_9 := n0_; have HB := n1_; clear n0_ n1_; clear hg hw hp_))
                        go_roundg k1
                        case measure => have := HK1.out; omega
                        case rel => exact ⟨(y1007), (wrap64 (x21_1 + 1)), (by first | rfl | (simp; done) | (simp [*]; done)), H', ⟨by have := HK1.out; omega⟩, ⟨by (with_reducible repeat (first | apply Kd.R_alloc | apply Kd.R_drewN | apply Kd.R_drew)); exact HO_9.out⟩, ⟨by repeat (first | (with_reducible first | exact HB.out | apply below_alloc | apply pw_below_drewN | apply below_drew1) | exact HB.out)⟩⟩
                      · rw [if_neg c18] at H
                        exact absurd H (by simp)
                    · rw [if_neg c17] at H
                      exact absurd H (by simp)
                  · rw [if_neg c14] at H
                    have c14b0 : decide (2 ≤ a2) = false := decide_eq_false c14
                    clear c14
                    replace H := Option.bind_eq_some_iff.mp H
                    obtain ⟨t1008, A220, H⟩ := H
                    replace H : (if x21_1 < (x9_1.length : Int) then (sackbutref05_Form.l0 k1 l0 a1 a2 t1001 (x9_1.set (x21_1 : Int).toNat t1008) l0 (l0.length : Int) (wrap64 (x21_1 + 1))) else (none)) = some r := H
                    have A22 := Aside0.mk A220
                    clear A220
                    by_cases c23 : x21_1 < (x9_1.length : Int)
                    · rw [if_pos c23] at H
                      have c23b0 : decide (x21_1 < (x9_1.length : Int)) = true := decide_eq_true c23
                      clear c23
                      obtain ⟨y1009, hy1009⟩ : ∃ y_ : List Int, y_ = (x9_1.set (x21_1 : Int).toNat t1008) := ⟨_, rfl⟩
                      replace H : (sackbutref05_Form.l0 k1 l0 a1 a2 t1001 y1009 l0 (l0.length : Int) (wrap64 (x21_1 + 1))) = some r := by first | (rw [hy1009]; with_reducible exact H) | (have H2_ := (Option.bind_some _ _).symm.trans H; rw [hy1009]; with_reducible exact H2_) | (have H2_ := (Option.bind_some _ _).symm.trans H; with_reducible exact H2_) | with_reducible exact H | (rw [hy1009]; exact H) | exact H
                      have Ny1009 := Aside0.mk hy1009
                      clear hy1009
                      have H' := Aside0.mk H
                      clear H
                      have p1005 : 0 ≤ (x21_1 : Int) := of_decide_eq_true (by first | (with_reducible assumption) | assumption)
                      have q1005 : x21_1 < (l0.length : Int) := of_decide_eq_true (by first | (with_reducible assumption) | assumption)
                      obtain ⟨ad1005, e1005, hx1005_0⟩ := Kd.at_int HR0.out x21_1 p1005 q1005
                      cases e1005
                      replace hx1005_0 := (HB.out.cell (World.block_lt_of_cell? w _ hx1005_0)).trans hx1005_0
                      replace p1005 := eq_true p1005
                      replace q1005 := eq_true q1005
                      go_wp2_with (first | ((with_reducible refine gate_callee (f := 50) rfl ?_); refine goesL_ (some 45) rfl rfl Try.func50 (by kernel_rfl) rfl #[.int .i64 (wrap64 ((wrap64 (-(rd l0 x21_1))) + t1001)), .int .i64 a1] rfl (by (try simp only [List.map_toArray, List.map_cons, List.map_nil]); first | done | rfl | (simp only [List.length_drop, List.length_take]; rfl)) ?_; (with_reducible refine (sackbutref05_mod.calls (wrap64 ((wrap64 (-(rd l0 x21_1))) + t1001)) a1 t1008 _ A22.out).mono ?_); rintro e w' ⟨rfl, ⟨nd, rfl⟩⟩; refine ⟨_, rfl, ?_⟩; (try (rw [drewN_self wr]; generalize hq_ : World.drewN wr _ = wr; have n0_ : Aside0 (Kd.R (Kd.int .i64) 3 wr w.heap.size (fun _ => True) v1003 x9_1) := ⟨by rw [← hq_]; exact (by (with_reducible repeat (first | apply Kd.R_alloc | apply Kd.R_drewN | apply Kd.R_drew)); exact HO_9.out)⟩; have n1_ : Aside0 (Below w.heap.size w wr) := ⟨by rw [← hq_]; exact (by repeat (first | (with_reducible first | exact HB.out | apply below_alloc | apply pw_below_drewN | apply below_drew1) | exact HB.out))⟩; clear HO_9 HB hq_; have HO_9 := n0_; have HB := n1_; clear n0_ n1_)); have p24 : 0 ≤ (x21_1 : Int) := of_decide_eq_true (by first | (with_reducible assumption) | assumption); have q24 : (x21_1 : Int) < ((x9_1.length : Int) : Int) := of_decide_eq_true (by first | (with_reducible assumption) | assumption); obtain ⟨go24, co24, eo24, gb24, gl24, cl24, HG24⟩ := Kd.R_form HO_9.out (by omega); (first | cases eo24 | (injection eo24 with ea_ en_ ec_; (first | subst ea_ | (injection ea_ with ea_; subst ea_)); subst ec_; clear en_)); have GB24 := Aside0.mk gb24; have GG24 := Aside0.mk HG24; clear gb24 gl24 HG24; obtain ⟨hx24_0, hf24_0⟩ := Kd.R_celln 0 HO_9.out (x21_1 : Int) p24 q24; replace p24 := eq_true p24; replace q24 := eq_true q24; obtain ⟨hy25_, hz25_⟩ := Kd.R_celln 0 HO_9.out (x21_1 : Int) (of_decide_eq_true (by first | (with_reducible assumption) | assumption)) (of_decide_eq_true (by first | (with_reducible assumption) | assumption)); have HP25 := Kd.R_putg HO_9.out (x21_1 : Int) t1008) | ((with_reducible refine gate_store (t := 3) (p := 46) rfl ?_); refine store_event (t := 3) (p := 46) (v := ?vo_w26) (w1 := (wr.setCell ⟨go24, (x21_1 : Int).toNat, none⟩ (.int .i64 t1008))) ?hg ?ho ?hn ?hr ?_; (case ho => rfl); (case hg => rfl); (case hn => rfl); (case hr => first | (go_simp; done) | (go_simp; rfl)); intro w26 hw; have hg : wr.grownBy w26 (some go24) := (by rw [hw]; exact HP25.2); have hp_ : Kd.R (Kd.int .i64) 3 w26 w.heap.size (fun _ => True) (.slice (some ⟨go24, 0, none⟩) x9_1.length co24) y1009 := (by rw [hw, Ny1009.out]; exact HP25.1); clear HP25; have n0_ := Aside0.mk (hp_); have n1_ := Aside0.mk ((by rw [hw]; exact below_set (HB.out) GB24.out : Below w.heap.size w w26)); clear HO_9; clear HB; have HO_9 := n0_; have HB := n1_; clear n0_ n1_; clear hg hw hp_))
                      go_roundg k1
                      case measure => have := HK1.out; omega
                      case rel => exact ⟨(y1009), (wrap64 (x21_1 + 1)), (by first | rfl | (simp; done) | (simp [*]; done)), H', ⟨by have := HK1.out; omega⟩, ⟨by (with_reducible repeat (first | apply Kd.R_alloc | apply Kd.R_drewN | apply Kd.R_drew)); exact HO_9.out⟩, ⟨by repeat (first | (with_reducible first | exact HB.out | apply below_alloc | apply pw_below_drewN | apply below_drew1) | exact HB.out)⟩⟩
                    · rw [if_neg c23] at H
                      exact absurd H (by simp)
                · rw [if_neg c13] at H
                  have c13b0 : ((Int.tmod a2 2) == 1) = false := beq_eq_false_iff_ne.mpr c13
                  have c13b1 : ((Int.tmod a2 2) != 1) = true := bne_iff_ne.mpr c13
                  by_cases c27 : a2 ≥ 2
                  · rw [if_pos c27] at H
                    have c27b0 : decide (2 ≤ a2) = true := decide_eq_true c27
                    clear c27
                    replace H := Option.bind_eq_some_iff.mp H
                    obtain ⟨t1010, A280, H⟩ := H
                    replace H : (if 0 ≤ (wrap64 ((wrap64 ((l0.length : Int) - 1)) - x21_1)) then (if (wrap64 ((wrap64 ((l0.length : Int) - 1)) - x21_1)) < (x9_1.length : Int) then (sackbutref05_Form.l0 k1 l0 a1 a2 t1001 (x9_1.set ((wrap64 ((wrap64 ((l0.length : Int) - 1)) - x21_1)) : Int).toNat t1010) l0 (l0.length : Int) (wrap64 (x21_1 + 1))) else (none)) else (none)) = some r := H
                    have A28 := Aside0.mk A280
                    clear A280
                    obtain ⟨ji29, hji29⟩ : ∃ j_ : Int, (wrap64 ((wrap64 ((l0.length : Int) - 1)) - x21_1)) = j_ := ⟨_, rfl⟩
                    replace H : (if 0 ≤ (ji29) then (if (ji29) < (x9_1.length : Int) then (sackbutref05_Form.l0 k1 l0 a1 a2 t1001 (x9_1.set ((ji29) : Int).toNat t1010) l0 (l0.length : Int) (wrap64 (x21_1 + 1))) else (none)) else (none)) = some r := by first | (rw [hji29] at H; exact H) | (simp only [hji29] at H ⊢; exact H)
                    (try rw [hji29] at A28)
                    have hji29w : (IntKind.i64.wrap ((wrap64 ((l0.length : Int) - 1)) - x21_1)) = ji29 := (i64_w _).trans hji29
                    by_cases c30 : 0 ≤ (ji29)
                    · rw [if_pos c30] at H
                      have c30b0 : decide (0 ≤ (ji29)) = true := decide_eq_true c30
                      clear c30
                      by_cases c31 : (ji29) < (x9_1.length : Int)
                      · rw [if_pos c31] at H
                        have c31b0 : decide ((ji29) < (x9_1.length : Int)) = true := decide_eq_true c31
                        clear c31
                        obtain ⟨y1011, hy1011⟩ : ∃ y_ : List Int, y_ = (x9_1.set ((ji29) : Int).toNat t1010) := ⟨_, rfl⟩
                        replace H : (sackbutref05_Form.l0 k1 l0 a1 a2 t1001 y1011 l0 (l0.length : Int) (wrap64 (x21_1 + 1))) = some r := by first | (rw [hy1011]; with_reducible exact H) | (have H2_ := (Option.bind_some _ _).symm.trans H; rw [hy1011]; with_reducible exact H2_) | (have H2_ := (Option.bind_some _ _).symm.trans H; with_reducible exact H2_) | with_reducible exact H | (rw [hy1011]; exact H) | exact H
                        have Ny1011 := Aside0.mk hy1011
                        clear hy1011
                        have H' := Aside0.mk H
                        clear H
                        have p1005 : 0 ≤ (x21_1 : Int) := of_decide_eq_true (by first | (with_reducible assumption) | assumption)
                        have q1005 : x21_1 < (l0.length : Int) := of_decide_eq_true (by first | (with_reducible assumption) | assumption)
                        obtain ⟨ad1005, e1005, hx1005_0⟩ := Kd.at_int HR0.out x21_1 p1005 q1005
                        cases e1005
                        replace hx1005_0 := (HB.out.cell (World.block_lt_of_cell? w _ hx1005_0)).trans hx1005_0
                        replace p1005 := eq_true p1005
                        replace q1005 := eq_true q1005
                        go_wp2_with (first | ((with_reducible refine gate_callee (f := 50) rfl ?_); refine goesL_ (some 45) rfl rfl Try.func50 (by kernel_rfl) rfl #[.int .i64 (wrap64 ((rd l0 x21_1) + t1001)), .int .i64 a1] rfl (by (try simp only [List.map_toArray, List.map_cons, List.map_nil]); first | done | rfl | (simp only [List.length_drop, List.length_take]; rfl)) ?_; (with_reducible refine (sackbutref05_mod.calls (wrap64 ((rd l0 x21_1) + t1001)) a1 t1010 _ A28.out).mono ?_); rintro e w' ⟨rfl, ⟨nd, rfl⟩⟩; refine ⟨_, rfl, ?_⟩; (try (rw [drewN_self wr]; generalize hq_ : World.drewN wr _ = wr; have n0_ : Aside0 (Kd.R (Kd.int .i64) 3 wr w.heap.size (fun _ => True) v1003 x9_1) := ⟨by rw [← hq_]; exact (by (with_reducible repeat (first | apply Kd.R_alloc | apply Kd.R_drewN | apply Kd.R_drew)); exact HO_9.out)⟩; have n1_ : Aside0 (Below w.heap.size w wr) := ⟨by rw [← hq_]; exact (by repeat (first | (with_reducible first | exact HB.out | apply below_alloc | apply pw_below_drewN | apply below_drew1) | exact HB.out))⟩; clear HO_9 HB hq_; have HO_9 := n0_; have HB := n1_; clear n0_ n1_)); have p32 : 0 ≤ ((ji29) : Int) := of_decide_eq_true (by first | (with_reducible assumption) | assumption); have q32 : ((ji29) : Int) < ((x9_1.length : Int) : Int) := of_decide_eq_true (by first | (with_reducible assumption) | assumption); obtain ⟨go32, co32, eo32, gb32, gl32, cl32, HG32⟩ := Kd.R_form HO_9.out (by omega); (first | cases eo32 | (injection eo32 with ea_ en_ ec_; (first | subst ea_ | (injection ea_ with ea_; subst ea_)); subst ec_; clear en_)); have GB32 := Aside0.mk gb32; have GG32 := Aside0.mk HG32; clear gb32 gl32 HG32; obtain ⟨hx32_0, hf32_0⟩ := Kd.R_celln 0 HO_9.out ((ji29) : Int) p32 q32; replace p32 := eq_true p32; replace q32 := eq_true q32; obtain ⟨hy33_, hz33_⟩ := Kd.R_celln 0 HO_9.out ((ji29) : Int) (of_decide_eq_true (by first | (with_reducible assumption) | assumption)) (of_decide_eq_true (by first | (with_reducible assumption) | assumption)); have HP33 := Kd.R_putg HO_9.out ((ji29) : Int) t1010) | ((with_reducible refine gate_store (t := 3) (p := 46) rfl ?_); refine store_event (t := 3) (p := 46) (v := ?vo_w34) (w1 := (wr.setCell ⟨go32, ((ji29) : Int).toNat, none⟩ (.int .i64 t1010))) ?hg ?ho ?hn ?hr ?_; (case ho => rfl); (case hg => rfl); (case hn => rfl); (case hr => first | (go_simp; done) | (go_simp; rfl)); intro w34 hw; have hg : wr.grownBy w34 (some go32) := (by rw [hw]; exact HP33.2); have hp_ : Kd.R (Kd.int .i64) 3 w34 w.heap.size (fun _ => True) (.slice (some ⟨go32, 0, none⟩) x9_1.length co32) y1011 := (by rw [hw, Ny1011.out]; exact HP33.1); clear HP33; have n0_ := Aside0.mk (hp_); have n1_ := Aside0.mk ((by rw [hw]; exact below_set (HB.out) GB32.out : Below w.heap.size w w34)); clear HO_9; clear HB; have HO_9 := n0_; have HB := n1_; clear n0_ n1_; clear hg hw hp_))
                        go_roundg k1
                        case measure => have := HK1.out; omega
                        case rel => exact ⟨(y1011), (wrap64 (x21_1 + 1)), (by first | rfl | (simp; done) | (simp [*]; done)), H', ⟨by have := HK1.out; omega⟩, ⟨by (with_reducible repeat (first | apply Kd.R_alloc | apply Kd.R_drewN | apply Kd.R_drew)); exact HO_9.out⟩, ⟨by repeat (first | (with_reducible first | exact HB.out | apply below_alloc | apply pw_below_drewN | apply below_drew1) | exact HB.out)⟩⟩
                      · rw [if_neg c31] at H
                        exact absurd H (by simp)
                    · rw [if_neg c30] at H
                      exact absurd H (by simp)
                  · rw [if_neg c27] at H
                    have c27b0 : decide (2 ≤ a2) = false := decide_eq_false c27
                    clear c27
                    replace H := Option.bind_eq_some_iff.mp H
                    obtain ⟨t1012, A350, H⟩ := H
                    replace H : (if x21_1 < (x9_1.length : Int) then (sackbutref05_Form.l0 k1 l0 a1 a2 t1001 (x9_1.set (x21_1 : Int).toNat t1012) l0 (l0.length : Int) (wrap64 (x21_1 + 1))) else (none)) = some r := H
                    have A35 := Aside0.mk A350
                    clear A350
                    by_cases c36 : x21_1 < (x9_1.length : Int)
                    · rw [if_pos c36] at H
                      have c36b0 : decide (x21_1 < (x9_1.length : Int)) = true := decide_eq_true c36
                      clear c36
                      obtain ⟨y1013, hy1013⟩ : ∃ y_ : List Int, y_ = (x9_1.set (x21_1 : Int).toNat t1012) := ⟨_, rfl⟩
                      replace H : (sackbutref05_Form.l0 k1 l0 a1 a2 t1001 y1013 l0 (l0.length : Int) (wrap64 (x21_1 + 1))) = some r := by first | (rw [hy1013]; with_reducible exact H) | (have H2_ := (Option.bind_some _ _).symm.trans H; rw [hy1013]; with_reducible exact H2_) | (have H2_ := (Option.bind_some _ _).symm.trans H; with_reducible exact H2_) | with_reducible exact H | (rw [hy1013]; exact H) | exact H
                      have Ny1013 := Aside0.mk hy1013
                      clear hy1013
                      have H' := Aside0.mk H
                      clear H
                      have p1005 : 0 ≤ (x21_1 : Int) := of_decide_eq_true (by first | (with_reducible assumption) | assumption)
                      have q1005 : x21_1 < (l0.length : Int) := of_decide_eq_true (by first | (with_reducible assumption) | assumption)
                      obtain ⟨ad1005, e1005, hx1005_0⟩ := Kd.at_int HR0.out x21_1 p1005 q1005
                      cases e1005
                      replace hx1005_0 := (HB.out.cell (World.block_lt_of_cell? w _ hx1005_0)).trans hx1005_0
                      replace p1005 := eq_true p1005
                      replace q1005 := eq_true q1005
                      go_wp2_with (first | ((with_reducible refine gate_callee (f := 50) rfl ?_); refine goesL_ (some 45) rfl rfl Try.func50 (by kernel_rfl) rfl #[.int .i64 (wrap64 ((rd l0 x21_1) + t1001)), .int .i64 a1] rfl (by (try simp only [List.map_toArray, List.map_cons, List.map_nil]); first | done | rfl | (simp only [List.length_drop, List.length_take]; rfl)) ?_; (with_reducible refine (sackbutref05_mod.calls (wrap64 ((rd l0 x21_1) + t1001)) a1 t1012 _ A35.out).mono ?_); rintro e w' ⟨rfl, ⟨nd, rfl⟩⟩; refine ⟨_, rfl, ?_⟩; (try (rw [drewN_self wr]; generalize hq_ : World.drewN wr _ = wr; have n0_ : Aside0 (Kd.R (Kd.int .i64) 3 wr w.heap.size (fun _ => True) v1003 x9_1) := ⟨by rw [← hq_]; exact (by (with_reducible repeat (first | apply Kd.R_alloc | apply Kd.R_drewN | apply Kd.R_drew)); exact HO_9.out)⟩; have n1_ : Aside0 (Below w.heap.size w wr) := ⟨by rw [← hq_]; exact (by repeat (first | (with_reducible first | exact HB.out | apply below_alloc | apply pw_below_drewN | apply below_drew1) | exact HB.out))⟩; clear HO_9 HB hq_; have HO_9 := n0_; have HB := n1_; clear n0_ n1_)); have p37 : 0 ≤ (x21_1 : Int) := of_decide_eq_true (by first | (with_reducible assumption) | assumption); have q37 : (x21_1 : Int) < ((x9_1.length : Int) : Int) := of_decide_eq_true (by first | (with_reducible assumption) | assumption); obtain ⟨go37, co37, eo37, gb37, gl37, cl37, HG37⟩ := Kd.R_form HO_9.out (by omega); (first | cases eo37 | (injection eo37 with ea_ en_ ec_; (first | subst ea_ | (injection ea_ with ea_; subst ea_)); subst ec_; clear en_)); have GB37 := Aside0.mk gb37; have GG37 := Aside0.mk HG37; clear gb37 gl37 HG37; obtain ⟨hx37_0, hf37_0⟩ := Kd.R_celln 0 HO_9.out (x21_1 : Int) p37 q37; replace p37 := eq_true p37; replace q37 := eq_true q37; obtain ⟨hy38_, hz38_⟩ := Kd.R_celln 0 HO_9.out (x21_1 : Int) (of_decide_eq_true (by first | (with_reducible assumption) | assumption)) (of_decide_eq_true (by first | (with_reducible assumption) | assumption)); have HP38 := Kd.R_putg HO_9.out (x21_1 : Int) t1012) | ((with_reducible refine gate_store (t := 3) (p := 46) rfl ?_); refine store_event (t := 3) (p := 46) (v := ?vo_w39) (w1 := (wr.setCell ⟨go37, (x21_1 : Int).toNat, none⟩ (.int .i64 t1012))) ?hg ?ho ?hn ?hr ?_; (case ho => rfl); (case hg => rfl); (case hn => rfl); (case hr => first | (go_simp; done) | (go_simp; rfl)); intro w39 hw; have hg : wr.grownBy w39 (some go37) := (by rw [hw]; exact HP38.2); have hp_ : Kd.R (Kd.int .i64) 3 w39 w.heap.size (fun _ => True) (.slice (some ⟨go37, 0, none⟩) x9_1.length co37) y1013 := (by rw [hw, Ny1013.out]; exact HP38.1); clear HP38; have n0_ := Aside0.mk (hp_); have n1_ := Aside0.mk ((by rw [hw]; exact below_set (HB.out) GB37.out : Below w.heap.size w w39)); clear HO_9; clear HB; have HO_9 := n0_; have HB := n1_; clear n0_ n1_; clear hg hw hp_))
                      go_roundg k1
                      case measure => have := HK1.out; omega
                      case rel => exact ⟨(y1013), (wrap64 (x21_1 + 1)), (by first | rfl | (simp; done) | (simp [*]; done)), H', ⟨by have := HK1.out; omega⟩, ⟨by (with_reducible repeat (first | apply Kd.R_alloc | apply Kd.R_drewN | apply Kd.R_drew)); exact HO_9.out⟩, ⟨by repeat (first | (with_reducible first | exact HB.out | apply below_alloc | apply pw_below_drewN | apply below_drew1) | exact HB.out)⟩⟩
                    · rw [if_neg c36] at H
                      exact absurd H (by simp)
              · rw [if_neg c12] at H
                exact absurd H (by simp)
            · rw [if_neg c11] at H
              exact absurd H (by simp)
          · rw [if_neg c10] at H
            have c10b0 : decide (x21_1 < (l0.length : Int)) = false := decide_eq_false c10
            clear c10
            obtain rfl := Option.some.inj H
            go_wp2
            go_ret
            exact ⟨_, by first | rfl | (simp [errW_none, errW_some] <;> rfl) | (simp [*, errW_none, errW_some] <;> rfl), by (with_reducible repeat (first | apply Kd.R_alloc | apply Kd.R_drewN | apply Kd.R_drew)); exact HO_9.out, by repeat (first | (with_reducible first | exact HB.out | apply below_alloc | apply pw_below_drewN | apply below_drew1) | exact HB.out)⟩
    · rw [if_neg c7] at H
      exact absurd H (by simp)
  · rw [if_neg c6] at H
    exact absurd H (by simp)

end Go.Proofs.Ytknchioabngbiaa.P
namespace Go.Proofs.Ytknchioabngbiaa.P
open Go.RowKit Go.Proofs.YtknchioabngbiaaW.PrintWords Go.Proofs.YtknchioabngbiaaW.PrintLast Go.Proofs.YtknchioabngbiaaW.PrintMore
attribute [local go_sem] max2_int min2_int max_two min_two max_three min_three max_four min_four   -- for this text's walks alone
set_option linter.unusedVariables false
set_option linter.unusedSimpArgs false

/-! ### sackbutref05_less: function 48 -/
def sackbutref05_less.l0 : Nat → List Int → List Int → Int → Int → Option (Bool)
  | 0, _, _, _, _ => none
  | k + 1, x1, x7, x8, x9 => if x9 < x8 then (if 0 ≤ x9 then (if x9 < (x7.length : Int) then (if x9 < (x1.length : Int) then (if (rd x7 x9) = (rd x1 x9) then (sackbutref05_less.l0 k x1 x7 x8 (wrap64 (x9 + 1))) else (some (decide ((rd x7 x9) < (rd x1 x9))))) else (none)) else (none)) else (none)) else (some false)
def sackbutref05_less.f (k : Nat) (l0 : List Int) (l1 : List Int) : Option (Bool) := sackbutref05_less.l0 k l1 l0 (l0.length : Int) 0
theorem sackbutref05_less.mono_l : ∀ k, (∀ y0 y1 y2 y3, LeO (sackbutref05_less.l0 k y0 y1 y2 y3) (sackbutref05_less.l0 (k + 1) y0 y1 y2 y3))
  | 0 => fun _ _ _ _ r h => by simp [sackbutref05_less.l0] at h
  | k + 1 => by
    have ih0 := sackbutref05_less.mono_l k
    · intro y0 y1 y2 y3
      unfold sackbutref05_less.l0
      repeat' first
      | (with_reducible exact ih0 _ _ _ _)
      | (with_reducible exact LeO.refl _)
      | (with_reducible exact LeO.none _)
      | (with_reducible refine LeO.ite ?_ ?_)
      | (with_reducible refine LeO.bind ?_ (fun _ => ?_))
      | exact ih0 _ _ _ _
      | exact LeO.none _
      | refine LeO.ite ?_ ?_
      | refine LeO.bind ?_ (fun _ => ?_)
theorem sackbutref05_less.mono : ∀ a0 a1 k, LeO (sackbutref05_less.f k a0 a1) (sackbutref05_less.f (k + 1) a0 a1) := by
  intro a0 a1 k
  have ih0 := sackbutref05_less.mono_l k
  unfold sackbutref05_less.f
  repeat' first
      | (with_reducible exact ih0 _ _ _ _)
      | (with_reducible exact LeO.refl _)
      | (with_reducible exact LeO.none _)
      | (with_reducible refine LeO.ite ?_ ?_)
      | (with_reducible refine LeO.bind ?_ (fun _ => ?_))
      | exact ih0 _ _ _ _
      | exact LeO.none _
      | refine LeO.ite ?_ ?_
      | refine LeO.bind ?_ (fun _ => ?_)
set_option maxHeartbeats 8000000 in
set_option maxRecDepth 100000 in
theorem sackbutref05_less.calls (k : Nat) (A0 : Option Addr) (c0 : Nat) (l0 : List Int) (A1 : Option Addr) (c1 : Nat) (l1 : List Int) (r : Bool) (w : World) (hr0 : Kd.C (Kd.int .i64) w A0 l0.length l0) (hc0 : l0.length ≤ c0) (hr1 : Kd.C (Kd.int .i64) w A1 l1.length l1) (hc1 : l1.length ≤ c1) (h : sackbutref05_less.f k l0 l1 = some r) :
    Calls Try.prog 48 #[.slice A0 l0.length c0, .slice A1 l1.length c1] w fun e w' => e = .returned (.bool r) ∧ Drawn0 w w' := by
  have HR0 := Aside0.mk hr0
  have HC0 := Aside0.mk hc0
  clear hr0 hc0
  have HR1 := Aside0.mk hr1
  have HC1 := Aside0.mk hc1
  clear hr1 hc1
  have H : (sackbutref05_less.l0 k l1 l0 (l0.length : Int) 0) = some r := h
  clear h
  have H' := Aside0.mk H
  clear H
  go_enter Try.func48, Try.ntmps48
  go_wp2
  go_loopg [9] k (fun kq v9 w' => ∃ (x9_1 : Int), v9 = .int .i64 x9_1 ∧ Aside0 (sackbutref05_less.l0 kq l1 l0 (l0.length : Int) x9_1 = some r) ∧ Aside0 (kq ≤ k) ∧ Drawn0 w w')
  case atStart => exact ⟨(0), (by first | rfl | (simp; done) | (simp [*]; done)), H', ⟨Nat.le_refl _⟩, by repeat (first | exact Drawn0.refl _ | apply Drawn0.step)⟩
  case round =>
    clear H'
    try clear c1
    try clear p2
    obtain ⟨x9_1, rfl, HA, HK1, ⟨m1, rfl⟩⟩ := hrel
    cases gk with
    | zero => exact absurd HA.out (by simp [sackbutref05_less.l0])
    | succ k1 =>
      have H := HA.out
      clear HA
      simp only [sackbutref05_less.l0] at H
      by_cases c3 : x9_1 < (l0.length : Int)
      · rw [if_pos c3] at H
        have c3b0 : decide (x9_1 < (l0.length : Int)) = true := decide_eq_true c3
        clear c3
        by_cases c4 : 0 ≤ x9_1
        · rw [if_pos c4] at H
          have c4b0 : decide (0 ≤ x9_1) = true := decide_eq_true c4
          clear c4
          by_cases c5 : x9_1 < (l0.length : Int)
          · rw [if_pos c5] at H
            have c5b0 : decide (x9_1 < (l0.length : Int)) = true := decide_eq_true c5
            clear c5
            by_cases c6 : x9_1 < (l1.length : Int)
            · rw [if_pos c6] at H
              have c6b0 : decide (x9_1 < (l1.length : Int)) = true := decide_eq_true c6
              clear c6
              by_cases c7 : (rd l0 x9_1) = (rd l1 x9_1)
              · rw [if_pos c7] at H
                have c7b0 : ((rd l0 x9_1) == (rd l1 x9_1)) = true := beq_iff_eq.mpr c7
                have c7b1 : ((rd l0 x9_1) != (rd l1 x9_1)) = false := bne_eq_false_iff_eq.mpr c7
                clear c7
                have H' := Aside0.mk H
                clear H
                have p1001 : 0 ≤ (x9_1 : Int) := of_decide_eq_true (by first | (with_reducible assumption) | assumption)
                have q1001 : x9_1 < (l0.length : Int) := of_decide_eq_true (by first | (with_reducible assumption) | assumption)
                obtain ⟨ad1001, e1001, hx1001_0⟩ := Kd.at_int HR0.out x9_1 p1001 q1001
                cases e1001
                replace p1001 := eq_true p1001
                replace q1001 := eq_true q1001
                have p1002 : 0 ≤ (x9_1 : Int) := of_decide_eq_true (by first | (with_reducible assumption) | assumption)
                have q1002 : x9_1 < (l1.length : Int) := of_decide_eq_true (by first | (with_reducible assumption) | assumption)
                obtain ⟨ad1002, e1002, hx1002_0⟩ := Kd.at_int HR1.out x9_1 p1002 q1002
                cases e1002
                replace p1002 := eq_true p1002
                replace q1002 := eq_true q1002
                go_wp2
                go_roundg k1
                case measure => have := HK1.out; omega
                case rel => exact ⟨(wrap64 (x9_1 + 1)), (by first | rfl | (simp; done) | (simp [*]; done)), H', ⟨by have := HK1.out; omega⟩, by repeat (first | exact Drawn0.refl _ | apply Drawn0.step)⟩
              · rw [if_neg c7] at H
                have c7b0 : ((rd l0 x9_1) == (rd l1 x9_1)) = false := beq_eq_false_iff_ne.mpr c7
                have c7b1 : ((rd l0 x9_1) != (rd l1 x9_1)) = true := bne_iff_ne.mpr c7
                obtain rfl := Option.some.inj H
                have p1001 : 0 ≤ (x9_1 : Int) := of_decide_eq_true (by first | (with_reducible assumption) | assumption)
                have q1001 : x9_1 < (l0.length : Int) := of_decide_eq_true (by first | (with_reducible assumption) | assumption)
                obtain ⟨ad1001, e1001, hx1001_0⟩ := Kd.at_int HR0.out x9_1 p1001 q1001
                cases e1001
                replace p1001 := eq_true p1001
                replace q1001 := eq_true q1001
                have p1002 : 0 ≤ (x9_1 : Int) := of_decide_eq_true (by first | (with_reducible assumption) | assumption)
                have q1002 : x9_1 < (l1.length : Int) := of_decide_eq_true (by first | (with_reducible assumption) | assumption)
                obtain ⟨ad1002, e1002, hx1002_0⟩ := Kd.at_int HR1.out x9_1 p1002 q1002
                cases e1002
                replace p1002 := eq_true p1002
                replace q1002 := eq_true q1002
                have p1003 : 0 ≤ (x9_1 : Int) := of_decide_eq_true (by first | (with_reducible assumption) | assumption)
                have q1003 : x9_1 < (l1.length : Int) := of_decide_eq_true (by first | (with_reducible assumption) | assumption)
                obtain ⟨ad1003, e1003, hx1003_0⟩ := Kd.at_int HR1.out x9_1 p1003 q1003
                obtain rfl : ad1002 = ad1003 := (by injection e1003)
                replace p1003 := eq_true p1003
                replace q1003 := eq_true q1003
                go_wp2
                go_ret
                exact ⟨by first | rfl | (simp; done) | (simp [*]; done), by repeat (first | exact Drawn0.refl _ | apply Drawn0.step)⟩
            · rw [if_neg c6] at H
              exact absurd H (by simp)
          · rw [if_neg c5] at H
            exact absurd H (by simp)
        · rw [if_neg c4] at H
          exact absurd H (by simp)
      · rw [if_neg c3] at H
        have c3b0 : decide (x9_1 < (l0.length : Int)) = false := decide_eq_false c3
        clear c3
        obtain rfl := Option.some.inj H
        go_wp2
        go_ret
        exact ⟨by first | rfl | (simp; done) | (simp [*]; done), by repeat (first | exact Drawn0.refl _ | apply Drawn0.step)⟩

end Go.Proofs.Ytknchioabngbiaa.P
namespace Go.Proofs.Ytknchioabngbiaa.P
open Go.RowKit Go.Proofs.YtknchioabngbiaaW.PrintWords Go.Proofs.YtknchioabngbiaaW.PrintLast Go.Proofs.YtknchioabngbiaaW.PrintMore
attribute [local go_sem] max2_int min2_int max_two min_two max_three min_three max_four min_four   -- for this text's walks alone
set_option linter.unusedVariables false
set_option linter.unusedSimpArgs false

/-! ### sackbutref05_same: function 49 -/
def sackbutref05_same.f (k : Nat) (l0 : List Int) (l1 : List Int) : Option (Bool) := (sackbutref05_less.f k l0 l1).bind fun t1001 => (if t1001 = true then (some false) else ((sackbutref05_less.f k l1 l0).bind fun t1002 => (some (!t1002))))
theorem sackbutref05_same.mono : ∀ a0 a1 k, LeO (sackbutref05_same.f k a0 a1) (sackbutref05_same.f (k + 1) a0 a1) := by
  intro a0 a1 k
  unfold sackbutref05_same.f
  repeat' first
      | (with_reducible exact sackbutref05_less.mono _ _ _)
      | (with_reducible exact LeO.refl _)
      | (with_reducible exact LeO.none _)
      | (with_reducible refine LeO.ite ?_ ?_)
      | (with_reducible refine LeO.bind ?_ (fun _ => ?_))
      | exact sackbutref05_less.mono _ _ _
      | exact LeO.none _
      | refine LeO.ite ?_ ?_
      | refine LeO.bind ?_ (fun _ => ?_)
set_option maxHeartbeats 8000000 in
set_option maxRecDepth 100000 in
theorem sackbutref05_same.calls (k : Nat) (A0 : Option Addr) (c0 : Nat) (l0 : List Int) (A1 : Option Addr) (c1 : Nat) (l1 : List Int) (r : Bool) (w : World) (hr0 : Kd.C (Kd.int .i64) w A0 l0.length l0) (hc0 : l0.length ≤ c0) (hr1 : Kd.C (Kd.int .i64) w A1 l1.length l1) (hc1 : l1.length ≤ c1) (h : sackbutref05_same.f k l0 l1 = some r) :
    Calls Try.prog 49 #[.slice A0 l0.length c0, .slice A1 l1.length c1] w fun e w' => e = .returned (.bool r) ∧ Drawn0 w w' := by
  have HR0 := Aside0.mk hr0
  have HC0 := Aside0.mk hc0
  clear hr0 hc0
  have HR1 := Aside0.mk hr1
  have HC1 := Aside0.mk hc1
  clear hr1 hc1
  have H : ((sackbutref05_less.f k l0 l1).bind fun t1001 => (if t1001 = true then (some false) else ((sackbutref05_less.f k l1 l0).bind fun t1002 => (some (!t1002))))) = some r := h
  clear h
  replace H := Option.bind_eq_some_iff.mp H
  obtain ⟨t1001, A30, H⟩ := H
  replace H : (if t1001 = true then (some false) else ((sackbutref05_less.f k l1 l0).bind fun t1002 => (some (!t1002)))) = some r := H
  have A3 := Aside0.mk A30
  clear A30
  by_cases c4 : t1001 = true
  · subst c4
    have H1 : (some false) = some r := by rw [if_pos rfl] at H; exact H
    clear H
    have H := H1
    clear H1
    obtain rfl := Option.some.inj H
    go_enter Try.func49, Try.ntmps49
    go_wp2_with (first | ((with_reducible refine gate_callee (f := 48) rfl ?_); refine goesL_ (some 7) rfl rfl Try.func48 (by kernel_rfl) rfl #[.slice A0 l0.length c0, .slice A1 l1.length c1] rfl (by (try simp only [List.map_toArray, List.map_cons, List.map_nil]); first | done | rfl | (simp only [List.length_drop, List.length_take]; rfl)) ?_; (with_reducible refine (sackbutref05_less.calls k _ _ l0 _ _ l1 true _ ?side1 ?side2 ?side3 ?side4 A3.out).mono ?_); (case side1 => repeat (first | exact HR0.out | (with_reducible refine Kd.C_alloc ?_ _) | (with_reducible refine Kd.C_drewN ?_ _) | (with_reducible refine Kd.C_drew ?_))); (case side2 => exact HC0.out); (case side3 => repeat (first | exact HR1.out | (with_reducible refine Kd.C_alloc ?_ _) | (with_reducible refine Kd.C_drewN ?_ _) | (with_reducible refine Kd.C_drew ?_))); (case side4 => exact HC1.out); rintro e w' ⟨rfl, ⟨nd, rfl⟩⟩; refine ⟨_, rfl, ?_⟩))
    go_ret
    exact ⟨by first | rfl | (simp; done) | (simp [*]; done), by repeat (first | exact Drawn0.refl _ | apply Drawn0.step)⟩
  · replace c4 := Bool.eq_false_iff.mpr c4
    subst c4
    have H1 : ((sackbutref05_less.f k l1 l0).bind fun t1002 => (some (!t1002))) = some r := by rw [if_neg (show ¬ (false = true) by decide)] at H; exact H
    clear H
    have H := H1
    clear H1
    replace H := Option.bind_eq_some_iff.mp H
    obtain ⟨t1002, A50, H⟩ := H
    replace H : (some (!t1002)) = some r := H
    have A5 := Aside0.mk A50
    clear A50
    obtain rfl := Option.some.inj H
    go_enter Try.func49, Try.ntmps49
    go_wp2_with (first | ((with_reducible refine gate_callee (f := 48) rfl ?_); refine goesL_ (some 7) rfl rfl Try.func48 (by kernel_rfl) rfl #[.slice A0 l0.length c0, .slice A1 l1.length c1] rfl (by (try simp only [List.map_toArray, List.map_cons, List.map_nil]); first | done | rfl | (simp only [List.length_drop, List.length_take]; rfl)) ?_; (with_reducible refine (sackbutref05_less.calls k _ _ l0 _ _ l1 false _ ?side1 ?side2 ?side3 ?side4 A3.out).mono ?_); (case side1 => repeat (first | exact HR0.out | (with_reducible refine Kd.C_alloc ?_ _) | (with_reducible refine Kd.C_drewN ?_ _) | (with_reducible refine Kd.C_drew ?_))); (case side2 => exact HC0.out); (case side3 => repeat (first | exact HR1.out | (with_reducible refine Kd.C_alloc ?_ _) | (with_reducible refine Kd.C_drewN ?_ _) | (with_reducible refine Kd.C_drew ?_))); (case side4 => exact HC1.out); rintro e w' ⟨rfl, ⟨nd, rfl⟩⟩; refine ⟨_, rfl, ?_⟩) | (go_at_call 48; (with_reducible refine (sackbutref05_less.calls k _ _ l1 _ _ l0 t1002 _ ?side1 ?side2 ?side3 ?side4 A5.out).mono ?_); (case side1 => repeat (first | exact HR1.out | (with_reducible refine Kd.C_alloc ?_ _) | (with_reducible refine Kd.C_drewN ?_ _) | (with_reducible refine Kd.C_drew ?_))); (case side2 => exact HC1.out); (case side3 => repeat (first | exact HR0.out | (with_reducible refine Kd.C_alloc ?_ _) | (with_reducible refine Kd.C_drewN ?_ _) | (with_reducible refine Kd.C_drew ?_))); (case side4 => exact HC0.out); rintro e w' ⟨rfl, ⟨nd, rfl⟩⟩))
    go_ret
    exact ⟨by first | rfl | (simp; done) | (simp [*]; done), by repeat (first | exact Drawn0.refl _ | apply Drawn0.step)⟩

end Go.Proofs.Ytknchioabngbiaa.P
namespace Go.Proofs.Ytknchioabngbiaa.P
open Go.RowKit Go.Proofs.YtknchioabngbiaaW.PrintWords Go.Proofs.YtknchioabngbiaaW.PrintLast Go.Proofs.YtknchioabngbiaaW.PrintMore
attribute [local go_sem] max2_int min2_int max_two min_two max_three min_three max_four min_four   -- for this text's walks alone
set_option linter.unusedVariables false
set_option linter.unusedSimpArgs false

/-! the reference's Form, less, same -/
theorem set_mid {α : Type} (A B : List α) (x v : α) : (A ++ x :: B).set A.length v = A ++ v :: B := by
  rw [List.set_append_right _ _ (Nat.le_refl _)]; simp
theorem refmod_f {a n : Int} (hn : 0 < n) (hb : n < 4611686018427387904) : sackbutref05_mod.f a n = some (a % n) := by
  unfold sackbutref05_mod.f
  rw [if_neg (by omega), tmod_mod hn hb]
theorem tone_w {n kind k x : Int} (hk : 0 ≤ k % n ∧ k % n < 62) (hx : 0 ≤ x ∧ x < 62) (b : Bool) : wrap64 ((if b = true then wrap64 (-x) else x) + k % n) = (if b = true then -x else x) + k % n := by
  cases b
  · simp only [Bool.false_eq_true, if_false]; exact wrap_id (by omega) (by omega)
  · simp only [if_true]; rw [wrap_id (n := -x) (by omega) (by omega)]; exact wrap_id (by omega) (by omega)
def formOut (n kind k : Int) (pre : List Int) (m : Nat) : List Int := if kind / 2 % 2 = 1 then List.replicate m 0 ++ (pre.map (toneOf n kind k)).reverse else pre.map (toneOf n kind k) ++ List.replicate m 0
theorem refForm_loop (n : Nat) (hn : 1 ≤ n) (hn2 : n ≤ 62) (kind k : Int) (hk0 : 0 ≤ kind) (hk3 : kind < 4) (l : List Int) (hl : l.length < 1000) (hr : ∀ x ∈ l, 0 ≤ x ∧ x < 62) : ∀ (xs pre : List Int), l = pre ++ xs →
    Ev (fun q => sackbutref05_Form.l0 q l (n : Int) kind (k % (n : Int)) (formOut n kind k pre xs.length) l (l.length : Int) (pre.length : Int)) (formOf n kind k l) := by
  have hkr : 0 ≤ k % (n : Int) ∧ k % (n : Int) < 62 := ⟨Int.emod_nonneg _ (by omega), by have := Int.emod_lt_of_pos k (show (0 : Int) < n by omega); omega⟩
  intro xs
  induction xs with
  | nil =>
    intro pre h0
    refine Ev.succ ?_
    simp only [sackbutref05_Form.l0, if_neg (mid_end h0)]
    have e : formOut n kind k pre 0 = formOf n kind k l := by
      have : pre = l := by rw [h0]; simp
      subst this
      unfold formOut formOf
      simp
    rw [List.length_nil, e]
    exact Ev.some _
  | cons x xs ih =>
    intro pre h0
    have hx := hr x (by rw [h0]; simp)
    have hlen : l.length = pre.length + (xs.length + 1) := by rw [h0]; simp
    have hw1 : wrap64 (wrap64 ((l.length : Int) - 1) - (pre.length : Int)) = (xs.length : Int) := by
      rw [wrap_id (n := (l.length : Int) - 1) (by omega) (by omega), wrap_id (by omega) (by omega)]; omega
    have hw2 : wrap64 (-x) = -x := wrap_id (by omega) (by omega)
    have hw3 : wrap64 (-x + k % (n : Int)) = -x + k % (n : Int) := wrap_id (by omega) (by omega)
    have hw4 : wrap64 (x + k % (n : Int)) = x + k % (n : Int) := wrap_id (by omega) (by omega)
    have hol : (formOut n kind k pre (xs.length + 1)).length = l.length := by unfold formOut; split <;> (simp; omega)
    have go := ih (pre ++ [x]) (mid_mv h0)
    have hm : ∀ a : Int, sackbutref05_mod.f a (n : Int) = some (a % (n : Int)) := fun a => refmod_f (by omega) (by omega)
    have hk2 : kind / 2 % 2 = 1 ↔ kind ≥ 2 := by omega
    have ht : Int.tmod kind 2 = kind % 2 := Int.tmod_eq_emod_of_nonneg hk0
    refine Ev.succ ?_
    simp only [sackbutref05_Form.l0, List.length_cons, if_pos (mid_lt h0), if_pos (show (0 : Int) ≤ (pre.length : Int) by omega), mid_rd h0, mid_next h0 (by omega), ht, hw1, hw2, hw3, hw4, hm, Option.bind_some, hol, if_pos (show (0 : Int) ≤ (xs.length : Int) by omega), if_pos (show (xs.length : Int) < (l.length : Int) by omega), Int.toNat_natCast]
    have s2 : kind ≥ 2 → ∀ v, v = toneOf n kind k x → (formOut n kind k pre (xs.length + 1)).set xs.length v = formOut n kind k (pre ++ [x]) xs.length := by
      rintro h2 v rfl
      unfold formOut
      rw [if_pos (hk2.2 h2), if_pos (hk2.2 h2), List.replicate_succ', List.append_assoc]
      have := set_mid (List.replicate xs.length (0 : Int)) (pre.map (toneOf n kind k)).reverse 0 (toneOf n kind k x)
      rw [List.length_replicate] at this
      simp [this]
    have s1 : ¬ kind ≥ 2 → ∀ v, v = toneOf n kind k x → (formOut n kind k pre (xs.length + 1)).set pre.length v = formOut n kind k (pre ++ [x]) xs.length := by
      rintro h2 v rfl
      unfold formOut
      rw [if_neg (fun h => h2 (hk2.1 h)), if_neg (fun h => h2 (hk2.1 h)), List.replicate_succ]
      have := set_mid (pre.map (toneOf n kind k)) (List.replicate xs.length (0 : Int)) 0 (toneOf n kind k x)
      rw [List.length_map] at this
      simp [this]
    have t1 : kind % 2 = 1 → (-x + k % (n : Int)) % (n : Int) = toneOf n kind k x := fun h => by unfold toneOf; rw [if_pos h]
    have t0 : ¬ kind % 2 = 1 → (x + k % (n : Int)) % (n : Int) = toneOf n kind k x := fun h => by unfold toneOf; rw [if_neg h]
    refine Ev.ite (fun e1 => ?_) (fun e1 => ?_)
    · refine Ev.ite (fun e2 => ?_) (fun e2 => ?_)
      · rw [s2 e2 _ (t1 e1)]; exact go
      · rw [s1 e2 _ (t1 e1)]; exact go
    · refine Ev.ite (fun e2 => ?_) (fun e2 => ?_)
      · rw [s2 e2 _ (t0 e1)]; exact go
      · rw [s1 e2 _ (t0 e1)]; exact go
theorem refForm_ev (n : Nat) (hn : 1 ≤ n) (hn2 : n ≤ 62) (kind k : Int) (hk0 : 0 ≤ kind) (hk3 : kind < 4) (l : List Int) (hl : l.length < 1000) (hr : ∀ x ∈ l, 0 ≤ x ∧ x < 62) :
    Ev (fun q => sackbutref05_Form.f q l (n : Int) kind k) (formOf n kind k l) := by
  unfold sackbutref05_Form.f
  refine Ev.bind_some (refmod_f (by omega) (by omega)) ?_
  simp only [if_pos (show (0 : Int) ≤ (l.length : Int) by omega), Int.toNat_natCast, if_pos (show l.length ≤ 35184372088832 by omega)]
  have := refForm_loop n hn hn2 kind k hk0 hk3 l hl hr l [] rfl
  have e : formOut n kind k [] l.length = List.replicate l.length 0 := by unfold formOut; split <;> simp
  rw [e] at this
  exact this
def lessL : List Int → List Int → Bool
  | x :: a, y :: b => if x = y then lessL a b else decide (x < y)
  | _, _ => false
theorem less_loop (l1 l0 : List Int) (hlen : l0.length = l1.length) (hb : l0.length < 9223372036854775807) : ∀ (xs ys pre pre1 : List Int), l0 = pre ++ xs → l1 = pre1 ++ ys → pre.length = pre1.length →
    Ev (fun k => sackbutref05_less.l0 k l1 l0 (l0.length : Int) (pre.length : Int)) (lessL xs ys) := by
  intro xs
  induction xs with
  | nil =>
    intro ys pre pre1 h0 h1 hp
    refine Ev.succ ?_
    simp only [sackbutref05_less.l0, if_neg (mid_end h0)]
    cases ys <;> exact Ev.some _
  | cons x xs ih =>
    intro ys pre pre1 h0 h1 hp
    match ys, h1 with
    | [], h1 => exfalso; rw [h0, h1] at hlen; simp at hlen; omega
    | y :: ys, h1 =>
      have hrd : rd l1 (pre.length : Int) = y := by rw [hp]; exact mid_rd h1
      refine Ev.succ ?_
      simp only [sackbutref05_less.l0, if_pos (mid_lt h0), if_pos (show (0 : Int) ≤ (pre.length : Int) by omega), mid_rd h0, hrd, mid_next h0 hb, if_pos (show (pre.length : Int) < (l1.length : Int) by rw [← hlen]; exact mid_lt h0), lessL]
      refine Ev.ite (fun e => ?_) (fun e => ?_)
      · rw [if_pos e]; exact ih ys (pre ++ [x]) (pre1 ++ [y]) (mid_mv h0) (mid_mv h1) (by simp [hp])
      · rw [if_neg e]; exact Ev.some _
theorem less_ev (l0 l1 : List Int) (hlen : l0.length = l1.length) (hb : l0.length < 9223372036854775807) : Ev (fun k => sackbutref05_less.f k l0 l1) (lessL l0 l1) := less_loop l1 l0 hlen hb l0 l1 [] [] rfl rfl rfl
theorem lessL_same : ∀ (a b : List Int), a.length = b.length → ((lessL a b = false ∧ lessL b a = false) ↔ a = b)
  | [], [], _ => by simp [lessL]
  | x :: a, y :: b, h => by
    have ih := lessL_same a b (by simpa using h)
    simp only [lessL, List.cons.injEq]
    by_cases e : x = y
    · subst e; simpa using ih
    · rw [if_neg e, if_neg (fun h => e h.symm)]
      simp only [decide_eq_false_iff_not]
      constructor
      · rintro ⟨h1, h2⟩; exact absurd (by omega) e
      · rintro ⟨h1, _⟩; exact absurd h1 e
  | [], _ :: _, h => by simp at h
  | _ :: _, [], h => by simp at h
theorem same_ev (l0 l1 : List Int) (hlen : l0.length = l1.length) (hb : l0.length < 9223372036854775807) : Ev (fun k => sackbutref05_same.f k l0 l1) (decide (l0 = l1)) := by
  unfold sackbutref05_same.f
  have hs := lessL_same l0 l1 hlen
  refine Ev.bind (less_ev l0 l1 hlen hb) ?_
  cases h1 : lessL l0 l1 with
  | true =>
    have : ¬ l0 = l1 := fun e => by have := (hs.2 e).1; rw [h1] at this; cases this
    simp only [if_true, this, decide_false]
    exact Ev.some _
  | false =>
    simp only [Bool.false_eq_true, if_false]
    refine Ev.bind (less_ev l1 l0 hlen.symm (by omega)) ?_
    cases h2 : lessL l1 l0 with
    | true =>
      have : ¬ l0 = l1 := fun e => by have := (hs.2 e).2; rw [h2] at this; cases this
      simp only [this, decide_false, Bool.not_true]
      exact Ev.some _
    | false =>
      simp only [hs.1 ⟨h1, h2⟩, decide_true, Bool.not_false]
      exact Ev.some _
theorem formOf_length (n kind k : Int) (l : List Int) : (formOf n kind k l).length = l.length := by unfold formOf; split <;> simp

end Go.Proofs.Ytknchioabngbiaa.P
namespace Go.Proofs.Ytknchioabngbiaa.P
open Go.RowKit Go.Proofs.YtknchioabngbiaaW.PrintWords Go.Proofs.YtknchioabngbiaaW.PrintLast Go.Proofs.YtknchioabngbiaaW.PrintMore
attribute [local go_sem] max2_int min2_int max_two min_two max_three min_three max_four min_four   -- for this text's walks alone
set_option linter.unusedVariables false
set_option linter.unusedSimpArgs false

/-! a row has every tone -/
theorem row_mem {l : List Int} (h : IsRow l) {v : Int} (h0 : 0 ≤ v) (h1 : v < l.length) : v ∈ l := by
  have hr' : ∀ x ∈ l.map Int.toNat, x < l.length := by
    intro x hx
    obtain ⟨y, hy, rfl⟩ := List.mem_map.1 hx
    have := h.2.2.1 y hy
    omega
  have hd := (nodup_toNat (fun x hx => (h.2.2.1 x hx).1)).2 h.2.2.2
  have := full_of_nodup (n := l.length) (by simp) hr' hd v.toNat (by omega)
  obtain ⟨y, hy, e⟩ := List.mem_map.1 this
  have := (h.2.2.1 y hy).1
  obtain rfl : y = v := by omega
  exact hy

end Go.Proofs.Ytknchioabngbiaa.P
namespace Go.Proofs.Ytknchioabngbiaa.P
open Go.RowKit Go.Proofs.YtknchioabngbiaaW.PrintWords Go.Proofs.YtknchioabngbiaaW.PrintLast Go.Proofs.YtknchioabngbiaaW.PrintMore
attribute [local go_sem] max2_int min2_int max_two min_two max_three min_three max_four min_four   -- for this text's walks alone
set_option linter.unusedVariables false
set_option linter.unusedSimpArgs false

/-! lengths of what goes with a row -/
theorem withTo_length (l : List Int) (ps : List (Nat × Nat)) : (withTo l ps).length ≤ ps.length := by unfold withTo; rw [List.length_map]; exact List.length_filter_le _ _
theorem pairsTo_length (n kind k : Nat) : (pairsTo n kind k).length = kind * n + k := by
  unfold pairsTo
  rw [List.length_append, List.length_map, List.length_range]
  congr 1
  induction kind with
  | zero => simp
  | succ q ih => rw [List.range_succ, List.flatMap_append, List.length_append, ih]; simp [Nat.succ_mul]
theorem withTo_small {l : List Int} (h : l.length ≤ 10) {kind k : Nat} (hk : kind ≤ 4) (hk2 : k ≤ l.length) : (withTo l (pairsTo l.length kind k)).length < 1000 := by
  have hpl := pairsTo_length l.length kind k
  have hwl := withTo_length l (pairsTo l.length kind k)
  have hkl : kind * l.length ≤ 4 * 10 := Nat.mul_le_mul hk h
  omega
theorem with_f (l : List Int) : rows_With.f l = some (if IsRow l ∧ l.length % 2 = 0 then (withTo l (formPairs l.length), 0) else ([], 2)) := by
  unfold rows_With.f; split <;> rfl

end Go.Proofs.Ytknchioabngbiaa.P
namespace Go.Proofs.Ytknchioabngbiaa.P
open Go.RowKit Go.Proofs.YtknchioabngbiaaW.PrintWords Go.Proofs.YtknchioabngbiaaW.PrintLast Go.Proofs.YtknchioabngbiaaW.PrintMore
attribute [local go_sem] max2_int min2_int max_two min_two max_three min_three max_four min_four   -- for this text's walks alone
set_option linter.unusedVariables false
set_option linter.unusedSimpArgs false

theorem Index37_loop (l : List S46) (a b : Int) (hl : l.length < 1000) : ∀ (m i : Nat), i + m = l.length → ∃ r, Ev (fun k => slices_Index_2_int_2_int.l0 k l (l.length : Int) (i : Int) a b) r ∧ decide (r ≥ 0) = (l.drop i).any fun x => a == x.f0 && b == x.f1 := by
  intro m
  induction m with
  | zero =>
    intro i hi
    refine ⟨-1, Ev.succ ?_, ?_⟩
    · simp only [slices_Index_2_int_2_int.l0, if_neg (show ¬ (i : Int) < (l.length : Int) by omega)]
      exact Ev.some _
    · rw [List.drop_eq_nil_of_le (by omega)]; rfl
  | succ m ih =>
    intro i hi
    have hil : i < l.length := by omega
    have hw : wrap64 ((i : Int) + 1) = ((i + 1 : Nat) : Int) := by rw [wrap_id (by omega) (by omega)]; omega
    have hrd : rd_T46 l (i : Int) = l[i] := by unfold rd_T46; rw [Int.toNat_natCast, List.getD_eq_getElem?_getD, List.getElem?_eq_getElem hil]; rfl
    obtain ⟨r, h1, h2⟩ := ih (i + 1) (by omega)
    rw [List.drop_eq_getElem_cons hil, List.any_cons]
    by_cases he : (a == l[i].f0 && b == l[i].f1) = true
    · refine ⟨(i : Int), Ev.succ ?_, ?_⟩
      · simp only [slices_Index_2_int_2_int.l0, if_pos (show (i : Int) < (l.length : Int) by omega), if_pos (show (0 : Int) ≤ (i : Int) by omega), hrd, he, if_true]
        exact Ev.some _
      · rw [he, Bool.true_or]; exact decide_eq_true (by omega)
    · refine ⟨r, Ev.succ ?_, ?_⟩
      · simp only [slices_Index_2_int_2_int.l0, if_pos (show (i : Int) < (l.length : Int) by omega), if_pos (show (0 : Int) ≤ (i : Int) by omega), hrd, he, Bool.false_eq_true, if_false, hw]
        exact h1
      · rw [h2]
        have : (a == l[i].f0 && b == l[i].f1) = false := by simpa using he
        rw [this, Bool.false_or]
theorem Contains37_ev (l : List S46) (a b : Int) (hl : l.length < 1000) : Ev (fun k => slices_Contains_2_int_2_int.f k l a b) (l.any fun x => a == x.f0 && b == x.f1) := by
  obtain ⟨r, h1, h2⟩ := Index37_loop l a b hl l.length 0 (by omega)
  unfold slices_Contains_2_int_2_int.f
  refine Ev.bind (show Ev (fun k => slices_Index_2_int_2_int.f k l a b) r from h1) ?_
  rw [h2]
  exact Ev.some _
theorem withTo_any (l : List Int) {kind k : Nat} (h4 : kind < 4) (hk : k < l.length) : ((withTo l (formPairs l.length)).any fun x => (kind : Int) == x.f0 && (k : Int) == x.f1) = togB l (kind, k) := by
  obtain ⟨rest, hr⟩ := formPairs_split (n := l.length) h4 hk
  have hm : (kind, k) ∈ formPairs l.length := by rw [hr]; simp
  rw [Bool.eq_iff_iff, List.any_eq_true]
  unfold withTo
  constructor
  · rintro ⟨x, hx, he⟩
    obtain ⟨p, hp, rfl⟩ := List.mem_map.1 hx
    simp only [Bool.and_eq_true, beq_iff_eq] at he
    have e1 : p.1 = kind := by omega
    have e2 : p.2 = k := by omega
    have := (List.mem_filter.1 hp).2
    rw [← e1, ← e2]; exact this
  · intro ht
    exact ⟨⟨(kind : Int), (k : Int)⟩, List.mem_map.2 ⟨(kind, k), List.mem_filter.2 ⟨hm, ht⟩, rfl⟩, by simp⟩
/-- a form of a row is a row -/
theorem tone_inj {n kind k x y : Int} (hn : 0 < n) (hx : 0 ≤ x ∧ x < n) (hy : 0 ≤ y ∧ y < n) (h : toneOf n kind k x = toneOf n kind k y) : x = y := by
  unfold toneOf at h
  have red : ∀ u v : Int, (u + k % n) % n = (v + k % n) % n → (u - v) % n = 0 := fun u v e => by
    have : u - v = (u + k % n) - (v + k % n) := by omega
    rw [this, Int.sub_emod, e]; simp
  have small : ∀ z : Int, -n < z → z < n → z % n = 0 → z = 0 := fun z h1 h2 h3 => by
    obtain ⟨t, ht⟩ := Int.dvd_of_emod_eq_zero h3
    have c1 : t < 1 := Int.lt_of_not_ge fun hge => by
      have : n * 1 ≤ n * t := Int.mul_le_mul_of_nonneg_left hge (by omega)
      omega
    have c2 : -1 < t := Int.lt_of_not_ge fun hge => by
      have : n * t ≤ n * (-1) := Int.mul_le_mul_of_nonneg_left hge (by omega)
      omega
    have : t = 0 := by omega
    rw [this] at ht; omega
  split at h
  · have := small _ (by omega) (by omega) (red _ _ h); omega
  · have := small _ (by omega) (by omega) (red _ _ h); omega
theorem nodup_map_on' {f : Int → Int} : ∀ {l : List Int}, (∀ x ∈ l, ∀ y ∈ l, f x = f y → x = y) → l.Nodup → (l.map f).Nodup
  | [], _, _ => by simp
  | a :: l, hi, hd => by
    rw [List.map_cons, List.nodup_cons]
    rw [List.nodup_cons] at hd
    refine ⟨fun hm => ?_, nodup_map_on' (fun x hx y hy => hi x (List.mem_cons_of_mem _ hx) y (List.mem_cons_of_mem _ hy)) hd.2⟩
    obtain ⟨y, hy, e⟩ := List.mem_map.1 hm
    have := hi y (List.mem_cons_of_mem _ hy) a (by simp) e
    subst this
    exact hd.1 hy
theorem form_row {l : List Int} (h : IsRow l) (kind k : Int) : IsRow (formOf l.length kind k l) := by
  have h1 := h.1
  have hl := formOf_length l.length kind k l
  refine ⟨by omega, by rw [hl]; exact h.2.1, ?_, ?_⟩
  · rw [hl]; exact formOf_range (by omega) kind k l
  · have hn := nodup_map_on' (f := toneOf l.length kind k) (fun x hx y hy e => tone_inj (by omega) (h.2.2.1 x hx) (h.2.2.1 y hy) e) h.2.2.2
    unfold formOf
    split
    · exact (List.reverse_perm _).nodup_iff.2 hn
    · exact hn
theorem formOf_turnback {l : List Int} (h : IsRow l) : formOf l.length 2 0 l = l.reverse := by
  have h1 := h.1
  have hm : l.map (toneOf l.length 2 0) = l := by
    have : ∀ x ∈ l, toneOf l.length 2 0 x = x := fun x hx => by
      have := h.2.2.1 x hx
      unfold toneOf
      rw [if_neg (by decide), Int.zero_emod, Int.add_zero, Int.emod_eq_of_lt this.1 this.2]
    exact (List.map_congr_left this).trans (List.map_id _)
  unfold formOf
  rw [if_pos (by decide), hm]
theorem sort_eq {a b : List Int} : (a.mergeSort fun x y => decide (x ≤ y)) = (b.mergeSort fun x y => decide (x ≤ y)) ↔ a.Perm b := by
  constructor
  · intro h
    exact (List.mergeSort_perm a _).symm.trans (h ▸ List.mergeSort_perm b _)
  · intro h
    refine List.Perm.eq_of_pairwise (le := fun x y => decide (x ≤ y) = true) ?_ (List.pairwise_mergeSort ?_ ?_ a) (List.pairwise_mergeSort ?_ ?_ b) ((List.mergeSort_perm a _).trans (h.trans (List.mergeSort_perm b _).symm))
    · intro x y _ _ h1 h2; simp at h1 h2; omega
    all_goals (intros; simp at *; omega)
/-- what has as many different elements is the same but for the order -/
theorem perm_of_sub {a b : List Int} (ha : a.Nodup) (hb : b.Nodup) (hl : a.length = b.length) (hs : ∀ x ∈ a, x ∈ b) : a.Perm b := by
  induction a generalizing b with
  | nil => have : b = [] := List.eq_nil_of_length_eq_zero (by simpa using hl.symm)
           subst this; exact List.Perm.refl _
  | cons x a ih =>
    have hx := hs x (by simp)
    obtain ⟨p, q, rfl⟩ := List.append_of_mem hx
    have hpm : (p ++ x :: q).Perm (x :: (p ++ q)) := List.perm_middle
    have hnd := hpm.nodup_iff.1 hb
    rw [List.nodup_cons] at ha hnd
    refine (List.Perm.cons x (ih ha.2 hnd.2 (by simp at hl ⊢; omega) (fun y hy => ?_))).trans hpm.symm
    have h1 := hs y (List.mem_cons_of_mem _ hy)
    have h2 := hpm.mem_iff.1 h1
    rcases List.mem_cons.1 h2 with e | e
    · subst e; exact absurd hy ha.1
    · exact e
theorem together_iff {a b : List Int} (ha : IsRow a) (hb : IsRow b) (hl : b.length = a.length) (hev : a.length % 2 = 0) : (a.take (a.length / 2)).Perm (b.drop (a.length / 2)) ↔ half5 b ||| half5 a = 2 ^ a.length - 1 := by
  have hu : half5 b ||| half5 a = orAll 0 ((b.take (a.length / 2) ++ a.take (a.length / 2)).map Int.toNat) := by
    apply Nat.eq_of_testBit_eq
    intro i
    unfold half5
    rw [Nat.testBit_or, testBit_orAll, testBit_orAll, testBit_orAll, hl]
    simp only [Nat.zero_testBit, Bool.false_or, List.map_append, List.mem_append, Bool.decide_or]
  rw [hu, orAll_full _ (fun x hx => by
    obtain ⟨y, hy, rfl⟩ := List.mem_map.1 hx
    rcases List.mem_append.1 hy with h | h
    · have := hb.2.2.1 y (List.mem_of_mem_take h); omega
    · have := ha.2.2.1 y (List.mem_of_mem_take h); omega)]
  have hbs : b.take (a.length / 2) ++ b.drop (a.length / 2) = b := List.take_append_drop _ _
  have hbn := hb.2.2.2
  rw [← hbs, List.nodup_append] at hbn
  constructor
  · intro hp i hi
    have hm := row_mem hb (v := (i : Int)) (by omega) (by omega)
    rw [← hbs] at hm
    refine List.mem_map.2 ⟨(i : Int), ?_, by simp⟩
    rcases List.mem_append.1 hm with h | h
    · exact List.mem_append.2 (.inl h)
    · exact List.mem_append.2 (.inr (hp.mem_iff.2 h))
  · intro hf
    refine (perm_of_sub hbn.2.1 (ha.2.2.2.sublist (List.take_sublist _ _)) (by rw [List.length_drop, List.length_take]; omega) (fun x hx => ?_)).symm
    have hxr := hb.2.2.1 x (List.mem_of_mem_drop hx)
    obtain ⟨y, hy, e⟩ := List.mem_map.1 (hf x.toNat (by omega))
    have hyr : 0 ≤ y := by
      rcases List.mem_append.1 hy with h | h
      · exact (hb.2.2.1 y (List.mem_of_mem_take h)).1
      · exact (ha.2.2.1 y (List.mem_of_mem_take h)).1
    have exy : y = x := by omega
    subst exy
    rcases List.mem_append.1 hy with h | h
    · exact absurd rfl (hbn.2.2 y h y hx)
    · exact h
theorem clone_small {x : List Int} (hx : x.length < 100) : slices_Clone_int_int.f x = some x := by
  unfold slices_Clone_int_int.f; rw [if_pos (by omega)]
theorem sort_small {x : List Int} (hx : x.length < 100) : slices_Sort_int_int.f x = some (x.mergeSort fun x y => decide (x ≤ y)) := by
  unfold slices_Sort_int_int.f; rw [if_pos (by omega)]
theorem umod_nat (a : Int) (n : Nat) (hn : 1 ≤ n) (hn2 : n ≤ 1000) : ∃ k : Nat, wrap64 (Int.tmod (IntKind.u64.wrap a) (n : Int)) = (k : Int) ∧ k < n := by
  have g0 : 0 ≤ IntKind.u64.wrap a := by rw [IntKind.wrap_u64]; omega
  rw [Int.tmod_eq_emod_of_nonneg g0]
  have g1 := Int.emod_nonneg (IntKind.u64.wrap a) (show (n : Int) ≠ 0 by omega)
  have g2 := Int.emod_lt_of_pos (IntKind.u64.wrap a) (show (0 : Int) < n by omega)
  generalize IntKind.u64.wrap a % (n : Int) = z at g1 g2
  refine ⟨z.toNat, ?_, by omega⟩
  rw [wrap_id (by omega) (by omega)]; omega
theorem u64_small {n : Nat} (h : n ≤ 1000) : IntKind.u64.wrap (n : Int) = (n : Int) := by rw [IntKind.wrap_u64]; omega
theorem half_w {n : Nat} (h : n ≤ 1000) : Int.tdiv (n : Int) 2 = ((n / 2 : Nat) : Int) ∧ wrap64 ((n / 2 : Nat) : Int) = ((n / 2 : Nat) : Int) ∧ (0 : Int) ≤ ((n / 2 : Nat) : Int) ∧ ((n / 2 : Nat) : Int) ≤ (n : Int) := by
  refine ⟨by rw [Int.tdiv_eq_ediv_of_nonneg (by omega)]; omega, wrap_id (by omega) (by omega), by omega, by omega⟩
theorem kind_ok {k : Nat} (h : k < 4) : (0 : Int) ≤ (k : Int) ∧ (k : Int) < 4 := by omega
theorem halves_100 {l f : List Int} (h : l.length ≤ 10) (hf : f.length = l.length) : (l.take (l.length / 2)).length < 100 ∧ (f.drop (l.length / 2)).length < 100 ∧ ((l.take (l.length / 2)).mergeSort fun x y => decide (x ≤ y)).length < 9223372036854775807 := by
  refine ⟨by rw [List.length_take]; omega, by rw [List.length_drop]; omega, by rw [List.length_mergeSort, List.length_take]; omega⟩
theorem half_back {n : Nat} (h : n % 2 = 0) : n - n / 2 = n / 2 := by omega
theorem RowsTogether : sackbutlaw05_RowsTogether.Pure := by
  intro l kind0 k0 _ _ _ _ _
  refine Ev.rounds (g := fun k => sackbutlaw05_RowsTogether.f k l kind0 k0) ?_
  unfold sackbutlaw05_RowsTogether.f
  refine Ev.bind_some (list_f l) ?_
  refine Ev.bind_some (with_f _) ?_
  have bad : ∀ b : Bool, b = true → Ev (fun k => sackbutlaw05_RowsTogether.j0 k l kind0 k0 [] 2 b) true := by
    rintro b rfl
    refine Ev.succ ?_
    simp only [sackbutlaw05_RowsTogether.j0, if_true]
    exact Ev.bind awake_ev (Ev.some _)
  by_cases h : IsRow l ∧ l.length % 2 = 0
  · obtain ⟨hr, hev⟩ := h
    have h1 := hr.1; have h2 := hr.2.1
    have hne : ((l.length : Int) % 2 == 1) = false := beq_eq_false_iff_ne.2 (by omega)
    simp only [isRow_take, hr, row_take hr, hev, and_self, if_true]
    refine Ev.bind (Row_ev l) ?_
    simp only [hr, decide_true, if_true, hne]
    refine Ev.succ ?_
    simp only [sackbutlaw05_RowsTogether.j0, Bool.false_eq_true, if_false]
    have hn0 : ¬ (l.length : Int) = 0 := by omega
    simp only [u64_small (show l.length ≤ 1000 by omega), if_neg hn0]
    obtain ⟨kind, hkw, hk4⟩ := umod_nat kind0 4 (by omega) (by omega)
    obtain ⟨k, hkw2, hkl⟩ := umod_nat k0 l.length (by omega) (by omega)
    rw [show ((4 : Nat) : Int) = 4 from rfl] at hkw
    simp only [hkw, hkw2]
    refine Ev.bind_some (list_f l) ?_
    rw [row_take hr]
    refine Ev.bind (Form_ev l kind k) ?_
    simp only [hr, true_and, if_pos (kind_ok hk4), if_true]
    have hfl := formOf_length l.length kind k l
    have hfr := form_row hr kind k
    have hnl : (((formOf l.length kind k l).length : Int) != (l.length : Int)) = false := by rw [hfl]; simp
    rw [hnl]
    refine Ev.succ ?_
    obtain ⟨hdv, hwd, hc1, hc2⟩ := half_w (n := l.length) (by omega)
    simp only [sackbutlaw05_RowsTogether.j1, Bool.false_eq_true, if_false, hdv, hwd, if_pos hc1, if_pos hc2, Int.toNat_natCast, hfl]
    obtain ⟨l1, l2, l3⟩ := halves_100 h2 hfl
    refine Ev.bind_some (clone_small l1) ?_
    refine Ev.bind_some (clone_small l2) ?_
    refine Ev.bind_some (sort_small l1) ?_
    refine Ev.bind_some (sort_small l2) ?_
    refine Ev.bind (Equal_ev _ _ l3) ?_
    have hsm := withTo_small h2 (kind := 4) (k := 0) (Nat.le_refl _) (Nat.zero_le _)
    refine Ev.bind (Contains37_ev _ _ _ hsm) ?_
    rw [withTo_any l hk4 hkl]
    have heq : decide ((l.take (l.length / 2)).mergeSort (fun x y => decide (x ≤ y)) = ((formOf l.length kind k l).drop (l.length / 2)).mergeSort (fun x y => decide (x ≤ y))) = togB l (kind, k) := by
      unfold togB
      rw [decide_eq_decide, sort_eq, together_iff hr hfr hfl hev]
    simp only [heq, beq_self_eq_true, if_true]
    refine Ev.bind (Contains37_ev _ 2 0 hsm) ?_
    have hback : ((withTo l (formPairs l.length)).any fun x => (2 : Int) == x.f0 && (0 : Int) == x.f1) = true := by
      have := withTo_any l (kind := 2) (k := 0) (by decide) (Nat.lt_of_lt_of_le (by decide) h1)
      rw [show ((2 : Nat) : Int) = 2 from rfl, show ((0 : Nat) : Int) = 0 from rfl] at this
      rw [this]
      unfold togB
      have hb := form_row hr 2 0
      rw [decide_eq_true_iff]
      refine (together_iff hr hb (formOf_length _ _ _ _) hev).1 ?_
      rw [formOf_turnback hr, List.drop_reverse]
      rw [half_back hev]
      exact (List.reverse_perm _).symm
    simp only [hback, if_true]
    exact Ev.bind awake_ev (Ev.some _)
  · have hc : ¬ (IsRow (l.take 13) ∧ (l.take 13).length % 2 = 0) := fun hh => by
      rw [isRow_take] at hh
      rw [row_take hh.1] at hh
      exact h hh
    simp only [hc, if_false, show ¬ ((2 : Int) = 0) by decide]
    exact bad true rfl

end Go.Proofs.Ytknchioabngbiaa.P
namespace Go.Proofs.Ytknchioabngbiaa.Pure
theorem RowsTogether : Go.Proofs.Ytknchioabngbiaa.P.sackbutlaw05_RowsTogether.Pure := Go.Proofs.Ytknchioabngbiaa.P.RowsTogether
end Go.Proofs.Ytknchioabngbiaa.Pure
namespace Go.Proofs.Ytknchioabngbiaa.rowsTogether
open Go.ChangeShapes Go.WideShapes Go.ChangeAt Go.RowKit
open Go.ChangeMaps (open_string shut_string)
set_option linter.unusedVariables false
theorem own : ownKnob Try.prog.godebug = none := by kernel_rfl
theorem laidOut : laidOutB Try.prog = true := by kernel_rfl
def IsRow (k : IntKind) (w : World) (a : Option Addr) (len cap : Nat) (zs : List Int) : Prop :=
  (a = none ∧ len = 0 ∧ cap = 0 ∧ zs = []) ∨
  ∃ x, a = some x ∧ len ≤ cap ∧ cap ≤ maxLen ∧ zs.length = cap ∧ (∀ i, i < zs.length → w.cell? (x.add i) = some (.int k (zs.getD i 0))) ∧ ∀ n ∈ zs, (Lit.int k n).wf = true
set_option maxRecDepth 100000 in
theorem lifted (os : Os) (started : os.Started) (H : Type) (enc : TypeId × Value → H) :
    ReturnsInHanded {} Try.checked os 4 .any (Rows.rowsTogetherSpec.pre6 enc Try.prog Try.f4 Rows.rowsTogetherRow.domain false) (Rows.rowsTogetherSpec.post enc Try.prog Try.f4 false true false false) := by
  refine returnsInHanded_of_change_sized (C := Try.checked) own started (by kernel_rfl) Try.func4
    (ChangeSpec.witness6 (enc := enc) (C := Try.checked) false ⟨#[], #[.slice none 0 0, .int .i64 0, .int .i64 0], []⟩ 8 (by kernel_rfl) (by kernel_rfl) (by kernel_rfl) (by kernel_rfl)) ?_
  intro W base args ds gs before hval0 hW hcnd hsz0 _
  have hsz : (DataW.weightsEach Try.prog (Try.f4.params.toList ++ Rows.rowsTogetherSpec.plain.varTypes Try.prog) (ds ++ gs)).all (· ≤ reachBytes) = true := hsz0
  have hval : ∀ (j : Nat) t v, Try.f4.params[j]? = some t → args[j]? = some v → Value.okWide Try.prog W .any base t v := hval0
  have hW' := hW
  obtain ⟨p, q, hA0, hV, rfl, hfz, hnd⟩ := hW
  have hA : DataW.TrodAll enc Try.prog W 0 (fun _ => true) true Try.f4.params.toList args.toList ds p := hA0
  rw [Try.params4] at hA hval hsz
  obtain ⟨v0, vs0, d0, ds0, p0, q0, hargs, rfl, rfl, h0, r0⟩ := trodAll_cons hA
  obtain ⟨v1, vs1, d1, ds1, p1, q1, rfl, rfl, rfl, h1, r1⟩ := trodAll_cons r0
  obtain ⟨v2, vs2, d2, ds2, p2, q2, rfl, rfl, rfl, h2, r2⟩ := trodAll_cons r1
  obtain ⟨rfl, rfl, rfl⟩ := trodAll_nil r2
  obtain rfl : args = #[v0, v1, v2] := by cases args; simp_all
  obtain ⟨rfl, rfl⟩ := trodVars_none hV
  obtain ⟨a0, len0, cap0, rfl⟩ := okWide_slice Try.underlying27 (hval 0 27 v0 rfl rfl)
  have k0 := h0
  have lt0 : ∀ x ∈ p0, x.block < W.heap.size := by obtain ⟨m, hm⟩ := k0; exact DataW.trod_lt m _ _ _ hm
  obtain ⟨z0, w0⟩ : ∃ zs, IsRow .i64 W a0 len0 cap0 zs := by
    obtain ⟨fuel, hf⟩ := h0
    rcases open_ints Try.underlying27 Try.underlying3 (by kernel_rfl) hf with ⟨hcs, _⟩ | ⟨x, l, c, zs, hcs, _, hl, hm, hz, _, hcell, hwz⟩
    · simp [Value.cells] at hcs
      obtain ⟨rfl, rfl, rfl⟩ := hcs
      exact ⟨[], .inl ⟨rfl, rfl, rfl, rfl⟩⟩
    · simp [Value.cells] at hcs
      obtain ⟨rfl, rfl, rfl⟩ := hcs
      exact ⟨zs, .inr ⟨_, rfl, hl, hm, by simpa using hz, hcell, hwz⟩⟩
  have y0 : len0 * 8 ≤ 140737488351232 := Go.Proofs.YtknchioabngbiaaW.PrintWords.sized_ints hsz (j := 0) (t := 27) rfl rfl Try.underlying27 Try.underlying3 (by kernel_rfl) (by kernel_rfl) h0
  obtain ⟨a1, rfl, rfl, rfl, w1⟩ := open_int Try.underlying3 (hval 1 3 v1 rfl rfl) h1
  obtain ⟨a2, rfl, rfl, rfl, w2⟩ := open_int Try.underlying3 (hval 2 3 v2 rfl rfl) h2
  clear hA0 hval0 hsz0 hsz
  refine (P.sackbutlaw05_RowsTogether.walk Pure.RowsTogether a0 len0 cap0 z0 a1 a2 W w0 y0 w1 w2).mono fun e W' ⟨he, bel⟩ => ?_
  subst he
  exact ⟨_, rfl, _, _, _, [], _, [], hW', trodAll_mk1 (shut_bool Try.underlying4 _), (trodAll_cons_mk (Below.trod laidOut (by kernel_rfl) (of_decide_eq_true (by kernel_rfl)) k0 bel lt0) (trodAll_cons_mk (shut_int Try.underlying3 w1) (trodAll_cons_mk (shut_int Try.underlying3 w2) trodAll_mk0))), rfl, bel.frame _, fun h => by cases h⟩
theorem over : Rows.rowsTogetherRow.holds Try.pinned (OpenSpec.ofChange Rows.rowsTogetherSpec) :=
  OpenClaim.holds_of_wide 4 Try.f4 rfl rfl rfl rfl rfl rfl rfl ⟨rfl, rfl, rfl, rfl, rfl⟩ rfl rfl rfl rfl rfl (by kernel_rfl) Try.func4 (by kernel_rfl)
    (of_decide_eq_true (by kernel_rfl)) (by unfold Func.isWrapper; first | (rw [if_pos (by decide +kernel)]; kernel_rfl) | (rw [if_neg (by decide +kernel)]; exact ⟨rfl, rfl⟩))
    (fun os started H enc _ => lifted os started H enc)
theorem proved : Rows.RowsTogetherSaid := over
#print axioms proved
end Go.Proofs.Ytknchioabngbiaa.rowsTogether
namespace Go.Proofs.Ytknchioabngbiaa
/-- The row, under a short name, for the claim. -/
theorem rowsTogether_holds : Rows.RowsTogetherSaid := rowsTogether.proved
end Go.Proofs.Ytknchioabngbiaa
