/- A part of a proof that a law's Go function returns true for every input, laid by this session's program mp.py (which drives the kit's print). Conditions: as each theorem states them. -/
import Derived.Test.YtpfjnpbcnlbhaaaCRowsParts1
import Derived.Test.YtpfjnpbcnlbhaaaCRowsParts3
import Derived.Test.YtpfjnpbcnlbhaaaCRowsParts4
import Derived.Test.YtpfjnpbcnlbhaaaCRowsParts5
namespace Go.Proofs.Ytpfjnpbcnlbhaaa.P
open Go.RowKit Go.Proofs.YtpfjnpbcnlbhaaaW.PrintWords Go.Proofs.YtpfjnpbcnlbhaaaW.PrintLast Go.Proofs.YtpfjnpbcnlbhaaaW.PrintMore
attribute [local go_sem] max2_int min2_int max_two min_two max_three min_three max_four min_four   -- for this text's walks alone
set_option linter.unusedVariables false
set_option linter.unusedSimpArgs false

/-! ### sackbutref05_Form: function 55 -/
def sackbutref05_Form.l0 : Nat → List Int → Int → Int → Int → List Int → List Int → Int → Int → Option (List Int)
  | 0, _, _, _, _, _, _, _, _ => none
  | k + 1, x0, x1, x2, x3, x9, x19, x20, x21 => if x21 < x20 then (if 0 ≤ x21 then (if x21 < (x19.length : Int) then (if (Int.tmod x2 2) = 1 then (if x2 ≥ 2 then ((sackbutref05_mod.f (wrap64 ((wrap64 (-(rd x19 x21))) + x3)) x1).bind fun t1006 => (if 0 ≤ (wrap64 ((wrap64 ((x0.length : Int) - 1)) - x21)) then (if (wrap64 ((wrap64 ((x0.length : Int) - 1)) - x21)) < (x9.length : Int) then (sackbutref05_Form.l0 k x0 x1 x2 x3 (x9.set ((wrap64 ((wrap64 ((x0.length : Int) - 1)) - x21)) : Int).toNat t1006) x19 x20 (wrap64 (x21 + 1))) else (none)) else (none))) else ((sackbutref05_mod.f (wrap64 ((wrap64 (-(rd x19 x21))) + x3)) x1).bind fun t1008 => (if x21 < (x9.length : Int) then (sackbutref05_Form.l0 k x0 x1 x2 x3 (x9.set (x21 : Int).toNat t1008) x19 x20 (wrap64 (x21 + 1))) else (none)))) else (if x2 ≥ 2 then ((sackbutref05_mod.f (wrap64 ((rd x19 x21) + x3)) x1).bind fun t1010 => (if 0 ≤ (wrap64 ((wrap64 ((x0.length : Int) - 1)) - x21)) then (if (wrap64 ((wrap64 ((x0.length : Int) - 1)) - x21)) < (x9.length : Int) then (sackbutref05_Form.l0 k x0 x1 x2 x3 (x9.set ((wrap64 ((wrap64 ((x0.length : Int) - 1)) - x21)) : Int).toNat t1010) x19 x20 (wrap64 (x21 + 1))) else (none)) else (none))) else ((sackbutref05_mod.f (wrap64 ((rd x19 x21) + x3)) x1).bind fun t1012 => (if x21 < (x9.length : Int) then (sackbutref05_Form.l0 k x0 x1 x2 x3 (x9.set (x21 : Int).toNat t1012) x19 x20 (wrap64 (x21 + 1))) else (none))))) else (none)) else (none)) else (some x9)
def sackbutref05_Form.f (k : Nat) (l0 : List Int) (a1 : Int) (a2 : Int) (a3 : Int) : Option (List Int) := (sackbutref05_mod.f a3 a1).bind fun t1001 => (if 0 ≤ (l0.length : Int) then (if ((l0.length : Int) : Int).toNat ≤ 35184372088832 then (sackbutref05_Form.l0 k l0 a1 a2 t1001 (List.replicate ((l0.length : Int) : Int).toNat 0) l0 (l0.length : Int) 0) else (none)) else (none))
theorem sackbutref05_Form.mono_l : ∀ k, (∀ y0 y1 y2 y3 y4 y5 y6 y7, LeO (sackbutref05_Form.l0 k y0 y1 y2 y3 y4 y5 y6 y7) (sackbutref05_Form.l0 (k + 1) y0 y1 y2 y3 y4 y5 y6 y7))
  | 0 => fun _ _ _ _ _ _ _ _ r h => by simp [sackbutref05_Form.l0] at h
  | k + 1 => by
    have ih0 := sackbutref05_Form.mono_l k
    · intro y0 y1 y2 y3 y4 y5 y6 y7
      unfold sackbutref05_Form.l0
      repeat' first
      | (with_reducible exact ih0 _ _ _ _ _ _ _ _)
      | (with_reducible exact LeO.refl _)
      | (with_reducible exact LeO.none _)
      | (with_reducible refine LeO.ite ?_ ?_)
      | (with_reducible refine LeO.bind ?_ (fun _ => ?_))
      | exact ih0 _ _ _ _ _ _ _ _
      | exact LeO.none _
      | refine LeO.ite ?_ ?_
      | refine LeO.bind ?_ (fun _ => ?_)
theorem sackbutref05_Form.mono : ∀ a0 a1 a2 a3 k, LeO (sackbutref05_Form.f k a0 a1 a2 a3) (sackbutref05_Form.f (k + 1) a0 a1 a2 a3) := by
  intro a0 a1 a2 a3 k
  have ih0 := sackbutref05_Form.mono_l k
  unfold sackbutref05_Form.f
  repeat' first
      | (with_reducible exact ih0 _ _ _ _ _ _ _ _)
      | (with_reducible exact LeO.refl _)
      | (with_reducible exact LeO.none _)
      | (with_reducible refine LeO.ite ?_ ?_)
      | (with_reducible refine LeO.bind ?_ (fun _ => ?_))
      | exact ih0 _ _ _ _ _ _ _ _
      | exact LeO.none _
      | refine LeO.ite ?_ ?_
      | refine LeO.bind ?_ (fun _ => ?_)
set_option maxHeartbeats 8000000 in
set_option maxRecDepth 100000 in
theorem sackbutref05_Form.calls (k : Nat) (A0 : Option Addr) (c0 : Nat) (l0 : List Int) (a1 : Int) (a2 : Int) (a3 : Int) (r : List Int) (w : World) (hr0 : Kd.C (Kd.int .i64) w A0 l0.length l0) (hc0 : l0.length ≤ c0) (h : sackbutref05_Form.f k l0 a1 a2 a3 = some r) :
    Calls Try.prog 55 #[.slice A0 l0.length c0, .int .i64 a1, .int .i64 a2, .int .i64 a3] w fun e w' => ∃ v0_ : Value, e = .returned (v0_) ∧ Kd.R (Kd.int .i64) 3 w' w.heap.size (fun _ => True) v0_ r ∧ Below w.heap.size w w' := by
  have HR0 := Aside0.mk hr0
  have HC0 := Aside0.mk hc0
  clear hr0 hc0
  have HB := Aside0.mk (Below.refl w.heap.size w)
  have H : ((sackbutref05_mod.f a3 a1).bind fun t1001 => (if 0 ≤ (l0.length : Int) then (if ((l0.length : Int) : Int).toNat ≤ 35184372088832 then (sackbutref05_Form.l0 k l0 a1 a2 t1001 (List.replicate ((l0.length : Int) : Int).toNat 0) l0 (l0.length : Int) 0) else (none)) else (none))) = some r := h
  clear h
  replace H := Option.bind_eq_some_iff.mp H
  obtain ⟨t1001, A50, H⟩ := H
  replace H : (if 0 ≤ (l0.length : Int) then (if ((l0.length : Int) : Int).toNat ≤ 35184372088832 then (sackbutref05_Form.l0 k l0 a1 a2 t1001 (List.replicate ((l0.length : Int) : Int).toNat 0) l0 (l0.length : Int) 0) else (none)) else (none)) = some r := H
  have A5 := Aside0.mk A50
  clear A50
  by_cases c6 : 0 ≤ (l0.length : Int)
  · rw [if_pos c6] at H
    have c6b0 := eq_true c6
    have c6b1 : decide (0 ≤ (l0.length : Int)) = true := decide_eq_true c6
    clear c6
    by_cases c7 : ((l0.length : Int) : Int).toNat ≤ 35184372088832
    · rw [if_pos c7] at H
      have c7b0 := eq_true c7
      have c7b1 : decide (((l0.length : Int) : Int).toNat ≤ 35184372088832) = true := decide_eq_true c7
      clear c7
      obtain ⟨y1002, hy1002⟩ : ∃ y_ : List Int, y_ = (List.replicate ((l0.length : Int) : Int).toNat 0) := ⟨_, rfl⟩
      replace H : (sackbutref05_Form.l0 k l0 a1 a2 t1001 y1002 l0 (l0.length : Int) 0) = some r := by first | (rw [hy1002]; with_reducible exact H) | (have H2_ := (Option.bind_some _ _).symm.trans H; rw [hy1002]; with_reducible exact H2_) | (have H2_ := (Option.bind_some _ _).symm.trans H; with_reducible exact H2_) | with_reducible exact H | (rw [hy1002]; exact H) | exact H
      have Ny1002 := Aside0.mk hy1002
      clear hy1002
      have H' := Aside0.mk H
      clear H
      go_enter Try.func55, Try.ntmps55
      go_wp2_with (first | ((with_reducible refine gate_callee (f := 49) rfl ?_); refine goesL_ (some 15) rfl rfl Try.func49 (by kernel_rfl) rfl #[.int .i64 a3, .int .i64 a1] rfl (by (try simp only [List.map_toArray, List.map_cons, List.map_nil]); first | done | rfl | (simp only [List.length_drop, List.length_take]; rfl)) ?_; (with_reducible refine (sackbutref05_mod.calls a3 a1 t1001 _ A5.out).mono ?_); rintro e w' ⟨rfl, ⟨nd, rfl⟩⟩; refine ⟨_, rfl, ?_⟩) | ((with_reducible refine gate_dst (N := 18) rfl ?_); refine Kd.R_make (Kd.int .i64) _ 3 rfl (N := 18) rfl 22 _ _ rfl (l0.length : Int) rfl rfl Try.underlying22 (.int .i64 0) 8 info3 rfl (by decide) (by omega) 0 (ok := fun _ => True) (okp := fun _ => True) rfl (fun _ hk => hk) trivial (of_decide_eq_true (by first | (with_reducible assumption) | assumption)) (Nat.le_trans (Nat.mul_le_mul_right _ (of_decide_eq_true (by first | (with_reducible assumption) | assumption) : (l0.length : Int).toNat ≤ 35184372088832)) (by omega)) (Below.refl _ _) (Nat.le_refl _) ?_; intro v1003 w8 ho9 hb hg_ hnew_; clear hg_ hnew_; (first | rw [← Ny1002.out] at ho9 | (simp only [Int.reduceToNat] at ho9; rw [← Ny1002.out] at ho9)); have n0_ := Aside0.mk (Kd.R_lower ho9 (below_size (by repeat (first | (with_reducible first | exact HB.out | apply below_alloc | apply pw_below_drewN | apply below_drew1) | exact HB.out)))); have n1_ := Aside0.mk (below_step (by repeat (first | (with_reducible first | exact HB.out | apply below_alloc | apply pw_below_drewN | apply below_drew1) | exact HB.out)) hb); clear HB; have HO1004 := n0_; have HB := n1_; clear n0_ n1_; clear hb ho9))
      go_loopg [21] k (fun kq v21 w' => ∃ (x9_1 : List Int) (x21_1 : Int), v21 = .int .i64 x21_1 ∧ Aside0 (sackbutref05_Form.l0 kq l0 a1 a2 t1001 x9_1 l0 (l0.length : Int) x21_1 = some r) ∧ Aside0 (kq ≤ k) ∧ Aside0 (Kd.R (Kd.int .i64) 3 w' w.heap.size (fun _ => True) v1003 x9_1) ∧ Aside0 (Below w.heap.size w w'))
      case atStart => exact ⟨(y1002), (0), (by first | rfl | (simp; done) | (simp [*]; done)), H', ⟨Nat.le_refl _⟩, ⟨by (with_reducible repeat (first | apply Kd.R_alloc | apply Kd.R_drewN | apply Kd.R_drew)); exact HO1004.out⟩, ⟨by repeat (first | (with_reducible first | exact HB.out | apply below_alloc | apply pw_below_drewN | apply below_drew1) | exact HB.out)⟩⟩
      case round =>
        clear H'
        try clear p2
        try clear c4
        try clear c5
        try clear c6
        try clear c6b0
        try clear c6b1
        try clear c7
        try clear c7b0
        try clear c7b1
        obtain ⟨x9_1, x21_1, rfl, HA, HK1, HO_9, HB⟩ := hrel
        cases gk with
        | zero => exact absurd HA.out (by simp [sackbutref05_Form.l0])
        | succ k1 =>
          have H := HA.out
          clear HA
          simp only [sackbutref05_Form.l0] at H
          by_cases c10 : x21_1 < (l0.length : Int)
          · rw [if_pos c10] at H
            have c10b0 : decide (x21_1 < (l0.length : Int)) = true := decide_eq_true c10
            clear c10
            by_cases c11 : 0 ≤ x21_1
            · rw [if_pos c11] at H
              have c11b0 : decide (0 ≤ x21_1) = true := decide_eq_true c11
              clear c11
              by_cases c12 : x21_1 < (l0.length : Int)
              · rw [if_pos c12] at H
                have c12b0 : decide (x21_1 < (l0.length : Int)) = true := decide_eq_true c12
                clear c12
                by_cases c13 : (Int.tmod a2 2) = 1
                · rw [if_pos c13] at H
                  have c13b0 : ((Int.tmod a2 2) == 1) = true := beq_iff_eq.mpr c13
                  have c13b1 : ((Int.tmod a2 2) != 1) = false := bne_eq_false_iff_eq.mpr c13
                  clear c13
                  by_cases c14 : a2 ≥ 2
                  · rw [if_pos c14] at H
                    have c14b0 : decide (2 ≤ a2) = true := decide_eq_true c14
                    clear c14
                    replace H := Option.bind_eq_some_iff.mp H
                    obtain ⟨t1006, A150, H⟩ := H
                    replace H : (if 0 ≤ (wrap64 ((wrap64 ((l0.length : Int) - 1)) - x21_1)) then (if (wrap64 ((wrap64 ((l0.length : Int) - 1)) - x21_1)) < (x9_1.length : Int) then (sackbutref05_Form.l0 k1 l0 a1 a2 t1001 (x9_1.set ((wrap64 ((wrap64 ((l0.length : Int) - 1)) - x21_1)) : Int).toNat t1006) l0 (l0.length : Int) (wrap64 (x21_1 + 1))) else (none)) else (none)) = some r := H
                    have A15 := Aside0.mk A150
                    clear A150
                    obtain ⟨ji16, hji16⟩ : ∃ j_ : Int, (wrap64 ((wrap64 ((l0.length : Int) - 1)) - x21_1)) = j_ := ⟨_, rfl⟩
                    replace H : (if 0 ≤ (ji16) then (if (ji16) < (x9_1.length : Int) then (sackbutref05_Form.l0 k1 l0 a1 a2 t1001 (x9_1.set ((ji16) : Int).toNat t1006) l0 (l0.length : Int) (wrap64 (x21_1 + 1))) else (none)) else (none)) = some r := by first | (rw [hji16] at H; exact H) | (simp only [hji16] at H ⊢; exact H)
                    (try rw [hji16] at A15)
                    have hji16w : (IntKind.i64.wrap ((wrap64 ((l0.length : Int) - 1)) - x21_1)) = ji16 := (i64_w _).trans hji16
                    by_cases c17 : 0 ≤ (ji16)
                    · rw [if_pos c17] at H
                      have c17b0 : decide (0 ≤ (ji16)) = true := decide_eq_true c17
                      clear c17
                      by_cases c18 : (ji16) < (x9_1.length : Int)
                      · rw [if_pos c18] at H
                        have c18b0 : decide ((ji16) < (x9_1.length : Int)) = true := decide_eq_true c18
                        clear c18
                        obtain ⟨y1007, hy1007⟩ : ∃ y_ : List Int, y_ = (x9_1.set ((ji16) : Int).toNat t1006) := ⟨_, rfl⟩
                        replace H : (sackbutref05_Form.l0 k1 l0 a1 a2 t1001 y1007 l0 (l0.length : Int) (wrap64 (x21_1 + 1))) = some r := by first | (rw [hy1007]; with_reducible exact H) | (have H2_ := (Option.bind_some _ _).symm.trans H; rw [hy1007]; with_reducible exact H2_) | (have H2_ := (Option.bind_some _ _).symm.trans H; with_reducible exact H2_) | with_reducible exact H | (rw [hy1007]; exact H) | exact H
                        have Ny1007 := Aside0.mk hy1007
                        clear hy1007
                        have H' := Aside0.mk H
                        clear H
                        have p1005 : 0 ≤ (x21_1 : Int) := of_decide_eq_true (by first | (with_reducible assumption) | assumption)
                        have q1005 : x21_1 < (l0.length : Int) := of_decide_eq_true (by first | (with_reducible assumption) | assumption)
                        obtain ⟨ad1005, e1005, hx1005_0⟩ := Kd.at_int HR0.out x21_1 p1005 q1005
                        cases e1005
                        replace hx1005_0 := (HB.out.cell (World.block_lt_of_cell? w _ hx1005_0)).trans hx1005_0
                        replace p1005 := eq_true p1005
                        replace q1005 := eq_true q1005
                        go_wp2_with (first | ((with_reducible refine gate_callee (f := 49) rfl ?_); refine goesL_ (some 45) rfl rfl Try.func49 (by kernel_rfl) rfl #[.int .i64 (wrap64 ((wrap64 (-(rd l0 x21_1))) + t1001)), .int .i64 a1] rfl (by (try simp only [List.map_toArray, List.map_cons, List.map_nil]); first | done | rfl | (simp only [List.length_drop, List.length_take]; rfl)) ?_; (with_reducible refine (sackbutref05_mod.calls (wrap64 ((wrap64 (-(rd l0 x21_1))) + t1001)) a1 t1006 _ A15.out).mono ?_); rintro e w' ⟨rfl, ⟨nd, rfl⟩⟩; refine ⟨_, rfl, ?_⟩; (try (rw [drewN_self wr]; generalize hq_ : World.drewN wr _ = wr; have n0_ : Aside0 (Kd.R (Kd.int .i64) 3 wr w.heap.size (fun _ => True) v1003 x9_1) := ⟨by rw [← hq_]; exact (by (with_reducible repeat (first | apply Kd.R_alloc | apply Kd.R_drewN | apply Kd.R_drew)); exact HO_9.out)⟩; have n1_ : Aside0 (Below w.heap.size w wr) := ⟨by rw [← hq_]; exact (by repeat (first | (with_reducible first | exact HB.out | apply below_alloc | apply pw_below_drewN | apply below_drew1) | exact HB.out))⟩; clear HO_9 HB hq_; have HO_9 := n0_; have HB := n1_; clear n0_ n1_)); have p19 : 0 ≤ ((ji16) : Int) := of_decide_eq_true (by first | (with_reducible assumption) | assumption); have q19 : ((ji16) : Int) < ((x9_1.length : Int) : Int) := of_decide_eq_true (by first | (with_reducible assumption) | assumption); obtain ⟨go19, co19, eo19, gb19, gl19, cl19, HG19⟩ := Kd.R_form HO_9.out (by omega); (first | cases eo19 | (injection eo19 with ea_ en_ ec_; (first | subst ea_ | (injection ea_ with ea_; subst ea_)); subst ec_; clear en_)); have GB19 := Aside0.mk gb19; have GG19 := Aside0.mk HG19; clear gb19 gl19 HG19; obtain ⟨hx19_0, hf19_0⟩ := Kd.R_celln 0 HO_9.out ((ji16) : Int) p19 q19; replace p19 := eq_true p19; replace q19 := eq_true q19; obtain ⟨hy20_, hz20_⟩ := Kd.R_celln 0 HO_9.out ((ji16) : Int) (of_decide_eq_true (by first | (with_reducible assumption) | assumption)) (of_decide_eq_true (by first | (with_reducible assumption) | assumption)); have HP20 := Kd.R_putg HO_9.out ((ji16) : Int) t1006) | ((with_reducible refine gate_store (t := 3) (p := 46) rfl ?_); refine store_event (t := 3) (p := 46) (v := ?vo_w21) (w1 := (wr.setCell ⟨go19, ((ji16) : Int).toNat, none⟩ (.int .i64 t1006))) ?hg ?ho ?hn ?hr ?_; (case ho => rfl); (case hg => rfl); (case hn => rfl); (case hr => first | (go_simp; done) | (go_simp; rfl)); intro w21 hw; have hg : wr.grownBy w21 (some go19) := (by rw [hw]; exact HP20.2); have hp_ : Kd.R (Kd.int .i64) 3 w21 w.heap.size (fun _ => True) (.slice (some ⟨go19, 0, none⟩) x9_1.length co19) y1007 := (by rw [hw, Ny1007.out]; exact HP20.1); clear HP20; have n0_ := Aside0.mk (hp_); have n1_ := Aside0.mk ((by rw [hw]; exact below_set (HB.out) GB19.out : Below w.heap.size w w21)); clear HO_9; clear HB; have HO_9 := n0_; have HB := n1_; clear n0_ n1_; clear hg hw hp_))
                        go_roundg k1
                        case measure => have := HK1.out; omega
                        case rel => exact ⟨(y1007), (wrap64 (x21_1 + 1)), (by first | rfl | (simp; done) | (simp [*]; done)), H', ⟨by have := HK1.out; omega⟩, ⟨by (with_reducible repeat (first | apply Kd.R_alloc | apply Kd.R_drewN | apply Kd.R_drew)); exact HO_9.out⟩, ⟨by repeat (first | (with_reducible first | exact HB.out | apply below_alloc | apply pw_below_drewN | apply below_drew1) | exact HB.out)⟩⟩
                      · rw [if_neg c18] at H
                        exact absurd H (by simp)
                    · rw [if_neg c17] at H
                      exact absurd H (by simp)
                  · rw [if_neg c14] at H
                    have c14b0 : decide (2 ≤ a2) = false := decide_eq_false c14
                    clear c14
                    replace H := Option.bind_eq_some_iff.mp H
                    obtain ⟨t1008, A220, H⟩ := H
                    replace H : (if x21_1 < (x9_1.length : Int) then (sackbutref05_Form.l0 k1 l0 a1 a2 t1001 (x9_1.set (x21_1 : Int).toNat t1008) l0 (l0.length : Int) (wrap64 (x21_1 + 1))) else (none)) = some r := H
                    have A22 := Aside0.mk A220
                    clear A220
                    by_cases c23 : x21_1 < (x9_1.length : Int)
                    · rw [if_pos c23] at H
                      have c23b0 : decide (x21_1 < (x9_1.length : Int)) = true := decide_eq_true c23
                      clear c23
                      obtain ⟨y1009, hy1009⟩ : ∃ y_ : List Int, y_ = (x9_1.set (x21_1 : Int).toNat t1008) := ⟨_, rfl⟩
                      replace H : (sackbutref05_Form.l0 k1 l0 a1 a2 t1001 y1009 l0 (l0.length : Int) (wrap64 (x21_1 + 1))) = some r := by first | (rw [hy1009]; with_reducible exact H) | (have H2_ := (Option.bind_some _ _).symm.trans H; rw [hy1009]; with_reducible exact H2_) | (have H2_ := (Option.bind_some _ _).symm.trans H; with_reducible exact H2_) | with_reducible exact H | (rw [hy1009]; exact H) | exact H
                      have Ny1009 := Aside0.mk hy1009
                      clear hy1009
                      have H' := Aside0.mk H
                      clear H
                      have p1005 : 0 ≤ (x21_1 : Int) := of_decide_eq_true (by first | (with_reducible assumption) | assumption)
                      have q1005 : x21_1 < (l0.length : Int) := of_decide_eq_true (by first | (with_reducible assumption) | assumption)
                      obtain ⟨ad1005, e1005, hx1005_0⟩ := Kd.at_int HR0.out x21_1 p1005 q1005
                      cases e1005
                      replace hx1005_0 := (HB.out.cell (World.block_lt_of_cell? w _ hx1005_0)).trans hx1005_0
                      replace p1005 := eq_true p1005
                      replace q1005 := eq_true q1005
                      go_wp2_with (first | ((with_reducible refine gate_callee (f := 49) rfl ?_); refine goesL_ (some 45) rfl rfl Try.func49 (by kernel_rfl) rfl #[.int .i64 (wrap64 ((wrap64 (-(rd l0 x21_1))) + t1001)), .int .i64 a1] rfl (by (try simp only [List.map_toArray, List.map_cons, List.map_nil]); first | done | rfl | (simp only [List.length_drop, List.length_take]; rfl)) ?_; (with_reducible refine (sackbutref05_mod.calls (wrap64 ((wrap64 (-(rd l0 x21_1))) + t1001)) a1 t1008 _ A22.out).mono ?_); rintro e w' ⟨rfl, ⟨nd, rfl⟩⟩; refine ⟨_, rfl, ?_⟩; (try (rw [drewN_self wr]; generalize hq_ : World.drewN wr _ = wr; have n0_ : Aside0 (Kd.R (Kd.int .i64) 3 wr w.heap.size (fun _ => True) v1003 x9_1) := ⟨by rw [← hq_]; exact (by (with_reducible repeat (first | apply Kd.R_alloc | apply Kd.R_drewN | apply Kd.R_drew)); exact HO_9.out)⟩; have n1_ : Aside0 (Below w.heap.size w wr) := ⟨by rw [← hq_]; exact (by repeat (first | (with_reducible first | exact HB.out | apply below_alloc | apply pw_below_drewN | apply below_drew1) | exact HB.out))⟩; clear HO_9 HB hq_; have HO_9 := n0_; have HB := n1_; clear n0_ n1_)); have p24 : 0 ≤ (x21_1 : Int) := of_decide_eq_true (by first | (with_reducible assumption) | assumption); have q24 : (x21_1 : Int) < ((x9_1.length : Int) : Int) := of_decide_eq_true (by first | (with_reducible assumption) | assumption); obtain ⟨go24, co24, eo24, gb24, gl24, cl24, HG24⟩ := Kd.R_form HO_9.out (by omega); (first | cases eo24 | (injection eo24 with ea_ en_ ec_; (first | subst ea_ | (injection ea_ with ea_; subst ea_)); subst ec_; clear en_)); have GB24 := Aside0.mk gb24; have GG24 := Aside0.mk HG24; clear gb24 gl24 HG24; obtain ⟨hx24_0, hf24_0⟩ := Kd.R_celln 0 HO_9.out (x21_1 : Int) p24 q24; replace p24 := eq_true p24; replace q24 := eq_true q24; obtain ⟨hy25_, hz25_⟩ := Kd.R_celln 0 HO_9.out (x21_1 : Int) (of_decide_eq_true (by first | (with_reducible assumption) | assumption)) (of_decide_eq_true (by first | (with_reducible assumption) | assumption)); have HP25 := Kd.R_putg HO_9.out (x21_1 : Int) t1008) | ((with_reducible refine gate_store (t := 3) (p := 46) rfl ?_); refine store_event (t := 3) (p := 46) (v := ?vo_w26) (w1 := (wr.setCell ⟨go24, (x21_1 : Int).toNat, none⟩ (.int .i64 t1008))) ?hg ?ho ?hn ?hr ?_; (case ho => rfl); (case hg => rfl); (case hn => rfl); (case hr => first | (go_simp; done) | (go_simp; rfl)); intro w26 hw; have hg : wr.grownBy w26 (some go24) := (by rw [hw]; exact HP25.2); have hp_ : Kd.R (Kd.int .i64) 3 w26 w.heap.size (fun _ => True) (.slice (some ⟨go24, 0, none⟩) x9_1.length co24) y1009 := (by rw [hw, Ny1009.out]; exact HP25.1); clear HP25; have n0_ := Aside0.mk (hp_); have n1_ := Aside0.mk ((by rw [hw]; exact below_set (HB.out) GB24.out : Below w.heap.size w w26)); clear HO_9; clear HB; have HO_9 := n0_; have HB := n1_; clear n0_ n1_; clear hg hw hp_))
                      go_roundg k1
                      case measure => have := HK1.out; omega
                      case rel => exact ⟨(y1009), (wrap64 (x21_1 + 1)), (by first | rfl | (simp; done) | (simp [*]; done)), H', ⟨by have := HK1.out; omega⟩, ⟨by (with_reducible repeat (first | apply Kd.R_alloc | apply Kd.R_drewN | apply Kd.R_drew)); exact HO_9.out⟩, ⟨by repeat (first | (with_reducible first | exact HB.out | apply below_alloc | apply pw_below_drewN | apply below_drew1) | exact HB.out)⟩⟩
                    · rw [if_neg c23] at H
                      exact absurd H (by simp)
                · rw [if_neg c13] at H
                  have c13b0 : ((Int.tmod a2 2) == 1) = false := beq_eq_false_iff_ne.mpr c13
                  have c13b1 : ((Int.tmod a2 2) != 1) = true := bne_iff_ne.mpr c13
                  by_cases c27 : a2 ≥ 2
                  · rw [if_pos c27] at H
                    have c27b0 : decide (2 ≤ a2) = true := decide_eq_true c27
                    clear c27
                    replace H := Option.bind_eq_some_iff.mp H
                    obtain ⟨t1010, A280, H⟩ := H
                    replace H : (if 0 ≤ (wrap64 ((wrap64 ((l0.length : Int) - 1)) - x21_1)) then (if (wrap64 ((wrap64 ((l0.length : Int) - 1)) - x21_1)) < (x9_1.length : Int) then (sackbutref05_Form.l0 k1 l0 a1 a2 t1001 (x9_1.set ((wrap64 ((wrap64 ((l0.length : Int) - 1)) - x21_1)) : Int).toNat t1010) l0 (l0.length : Int) (wrap64 (x21_1 + 1))) else (none)) else (none)) = some r := H
                    have A28 := Aside0.mk A280
                    clear A280
                    obtain ⟨ji29, hji29⟩ : ∃ j_ : Int, (wrap64 ((wrap64 ((l0.length : Int) - 1)) - x21_1)) = j_ := ⟨_, rfl⟩
                    replace H : (if 0 ≤ (ji29) then (if (ji29) < (x9_1.length : Int) then (sackbutref05_Form.l0 k1 l0 a1 a2 t1001 (x9_1.set ((ji29) : Int).toNat t1010) l0 (l0.length : Int) (wrap64 (x21_1 + 1))) else (none)) else (none)) = some r := by first | (rw [hji29] at H; exact H) | (simp only [hji29] at H ⊢; exact H)
                    (try rw [hji29] at A28)
                    have hji29w : (IntKind.i64.wrap ((wrap64 ((l0.length : Int) - 1)) - x21_1)) = ji29 := (i64_w _).trans hji29
                    by_cases c30 : 0 ≤ (ji29)
                    · rw [if_pos c30] at H
                      have c30b0 : decide (0 ≤ (ji29)) = true := decide_eq_true c30
                      clear c30
                      by_cases c31 : (ji29) < (x9_1.length : Int)
                      · rw [if_pos c31] at H
                        have c31b0 : decide ((ji29) < (x9_1.length : Int)) = true := decide_eq_true c31
                        clear c31
                        obtain ⟨y1011, hy1011⟩ : ∃ y_ : List Int, y_ = (x9_1.set ((ji29) : Int).toNat t1010) := ⟨_, rfl⟩
                        replace H : (sackbutref05_Form.l0 k1 l0 a1 a2 t1001 y1011 l0 (l0.length : Int) (wrap64 (x21_1 + 1))) = some r := by first | (rw [hy1011]; with_reducible exact H) | (have H2_ := (Option.bind_some _ _).symm.trans H; rw [hy1011]; with_reducible exact H2_) | (have H2_ := (Option.bind_some _ _).symm.trans H; with_reducible exact H2_) | with_reducible exact H | (rw [hy1011]; exact H) | exact H
                        have Ny1011 := Aside0.mk hy1011
                        clear hy1011
                        have H' := Aside0.mk H
                        clear H
                        have p1005 : 0 ≤ (x21_1 : Int) := of_decide_eq_true (by first | (with_reducible assumption) | assumption)
                        have q1005 : x21_1 < (l0.length : Int) := of_decide_eq_true (by first | (with_reducible assumption) | assumption)
                        obtain ⟨ad1005, e1005, hx1005_0⟩ := Kd.at_int HR0.out x21_1 p1005 q1005
                        cases e1005
                        replace hx1005_0 := (HB.out.cell (World.block_lt_of_cell? w _ hx1005_0)).trans hx1005_0
                        replace p1005 := eq_true p1005
                        replace q1005 := eq_true q1005
                        go_wp2_with (first | ((with_reducible refine gate_callee (f := 49) rfl ?_); refine goesL_ (some 45) rfl rfl Try.func49 (by kernel_rfl) rfl #[.int .i64 (wrap64 ((rd l0 x21_1) + t1001)), .int .i64 a1] rfl (by (try simp only [List.map_toArray, List.map_cons, List.map_nil]); first | done | rfl | (simp only [List.length_drop, List.length_take]; rfl)) ?_; (with_reducible refine (sackbutref05_mod.calls (wrap64 ((rd l0 x21_1) + t1001)) a1 t1010 _ A28.out).mono ?_); rintro e w' ⟨rfl, ⟨nd, rfl⟩⟩; refine ⟨_, rfl, ?_⟩; (try (rw [drewN_self wr]; generalize hq_ : World.drewN wr _ = wr; have n0_ : Aside0 (Kd.R (Kd.int .i64) 3 wr w.heap.size (fun _ => True) v1003 x9_1) := ⟨by rw [← hq_]; exact (by (with_reducible repeat (first | apply Kd.R_alloc | apply Kd.R_drewN | apply Kd.R_drew)); exact HO_9.out)⟩; have n1_ : Aside0 (Below w.heap.size w wr) := ⟨by rw [← hq_]; exact (by repeat (first | (with_reducible first | exact HB.out | apply below_alloc | apply pw_below_drewN | apply below_drew1) | exact HB.out))⟩; clear HO_9 HB hq_; have HO_9 := n0_; have HB := n1_; clear n0_ n1_)); have p32 : 0 ≤ ((ji29) : Int) := of_decide_eq_true (by first | (with_reducible assumption) | assumption); have q32 : ((ji29) : Int) < ((x9_1.length : Int) : Int) := of_decide_eq_true (by first | (with_reducible assumption) | assumption); obtain ⟨go32, co32, eo32, gb32, gl32, cl32, HG32⟩ := Kd.R_form HO_9.out (by omega); (first | cases eo32 | (injection eo32 with ea_ en_ ec_; (first | subst ea_ | (injection ea_ with ea_; subst ea_)); subst ec_; clear en_)); have GB32 := Aside0.mk gb32; have GG32 := Aside0.mk HG32; clear gb32 gl32 HG32; obtain ⟨hx32_0, hf32_0⟩ := Kd.R_celln 0 HO_9.out ((ji29) : Int) p32 q32; replace p32 := eq_true p32; replace q32 := eq_true q32; obtain ⟨hy33_, hz33_⟩ := Kd.R_celln 0 HO_9.out ((ji29) : Int) (of_decide_eq_true (by first | (with_reducible assumption) | assumption)) (of_decide_eq_true (by first | (with_reducible assumption) | assumption)); have HP33 := Kd.R_putg HO_9.out ((ji29) : Int) t1010) | ((with_reducible refine gate_store (t := 3) (p := 46) rfl ?_); refine store_event (t := 3) (p := 46) (v := ?vo_w34) (w1 := (wr.setCell ⟨go32, ((ji29) : Int).toNat, none⟩ (.int .i64 t1010))) ?hg ?ho ?hn ?hr ?_; (case ho => rfl); (case hg => rfl); (case hn => rfl); (case hr => first | (go_simp; done) | (go_simp; rfl)); intro w34 hw; have hg : wr.grownBy w34 (some go32) := (by rw [hw]; exact HP33.2); have hp_ : Kd.R (Kd.int .i64) 3 w34 w.heap.size (fun _ => True) (.slice (some ⟨go32, 0, none⟩) x9_1.length co32) y1011 := (by rw [hw, Ny1011.out]; exact HP33.1); clear HP33; have n0_ := Aside0.mk (hp_); have n1_ := Aside0.mk ((by rw [hw]; exact below_set (HB.out) GB32.out : Below w.heap.size w w34)); clear HO_9; clear HB; have HO_9 := n0_; have HB := n1_; clear n0_ n1_; clear hg hw hp_))
                        go_roundg k1
                        case measure => have := HK1.out; omega
                        case rel => exact ⟨(y1011), (wrap64 (x21_1 + 1)), (by first | rfl | (simp; done) | (simp [*]; done)), H', ⟨by have := HK1.out; omega⟩, ⟨by (with_reducible repeat (first | apply Kd.R_alloc | apply Kd.R_drewN | apply Kd.R_drew)); exact HO_9.out⟩, ⟨by repeat (first | (with_reducible first | exact HB.out | apply below_alloc | apply pw_below_drewN | apply below_drew1) | exact HB.out)⟩⟩
                      · rw [if_neg c31] at H
                        exact absurd H (by simp)
                    · rw [if_neg c30] at H
                      exact absurd H (by simp)
                  · rw [if_neg c27] at H
                    have c27b0 : decide (2 ≤ a2) = false := decide_eq_false c27
                    clear c27
                    replace H := Option.bind_eq_some_iff.mp H
                    obtain ⟨t1012, A350, H⟩ := H
                    replace H : (if x21_1 < (x9_1.length : Int) then (sackbutref05_Form.l0 k1 l0 a1 a2 t1001 (x9_1.set (x21_1 : Int).toNat t1012) l0 (l0.length : Int) (wrap64 (x21_1 + 1))) else (none)) = some r := H
                    have A35 := Aside0.mk A350
                    clear A350
                    by_cases c36 : x21_1 < (x9_1.length : Int)
                    · rw [if_pos c36] at H
                      have c36b0 : decide (x21_1 < (x9_1.length : Int)) = true := decide_eq_true c36
                      clear c36
                      obtain ⟨y1013, hy1013⟩ : ∃ y_ : List Int, y_ = (x9_1.set (x21_1 : Int).toNat t1012) := ⟨_, rfl⟩
                      replace H : (sackbutref05_Form.l0 k1 l0 a1 a2 t1001 y1013 l0 (l0.length : Int) (wrap64 (x21_1 + 1))) = some r := by first | (rw [hy1013]; with_reducible exact H) | (have H2_ := (Option.bind_some _ _).symm.trans H; rw [hy1013]; with_reducible exact H2_) | (have H2_ := (Option.bind_some _ _).symm.trans H; with_reducible exact H2_) | with_reducible exact H | (rw [hy1013]; exact H) | exact H
                      have Ny1013 := Aside0.mk hy1013
                      clear hy1013
                      have H' := Aside0.mk H
                      clear H
                      have p1005 : 0 ≤ (x21_1 : Int) := of_decide_eq_true (by first | (with_reducible assumption) | assumption)
                      have q1005 : x21_1 < (l0.length : Int) := of_decide_eq_true (by first | (with_reducible assumption) | assumption)
                      obtain ⟨ad1005, e1005, hx1005_0⟩ := Kd.at_int HR0.out x21_1 p1005 q1005
                      cases e1005
                      replace hx1005_0 := (HB.out.cell (World.block_lt_of_cell? w _ hx1005_0)).trans hx1005_0
                      replace p1005 := eq_true p1005
                      replace q1005 := eq_true q1005
                      go_wp2_with (first | ((with_reducible refine gate_callee (f := 49) rfl ?_); refine goesL_ (some 45) rfl rfl Try.func49 (by kernel_rfl) rfl #[.int .i64 (wrap64 ((rd l0 x21_1) + t1001)), .int .i64 a1] rfl (by (try simp only [List.map_toArray, List.map_cons, List.map_nil]); first | done | rfl | (simp only [List.length_drop, List.length_take]; rfl)) ?_; (with_reducible refine (sackbutref05_mod.calls (wrap64 ((rd l0 x21_1) + t1001)) a1 t1012 _ A35.out).mono ?_); rintro e w' ⟨rfl, ⟨nd, rfl⟩⟩; refine ⟨_, rfl, ?_⟩; (try (rw [drewN_self wr]; generalize hq_ : World.drewN wr _ = wr; have n0_ : Aside0 (Kd.R (Kd.int .i64) 3 wr w.heap.size (fun _ => True) v1003 x9_1) := ⟨by rw [← hq_]; exact (by (with_reducible repeat (first | apply Kd.R_alloc | apply Kd.R_drewN | apply Kd.R_drew)); exact HO_9.out)⟩; have n1_ : Aside0 (Below w.heap.size w wr) := ⟨by rw [← hq_]; exact (by repeat (first | (with_reducible first | exact HB.out | apply below_alloc | apply pw_below_drewN | apply below_drew1) | exact HB.out))⟩; clear HO_9 HB hq_; have HO_9 := n0_; have HB := n1_; clear n0_ n1_)); have p37 : 0 ≤ (x21_1 : Int) := of_decide_eq_true (by first | (with_reducible assumption) | assumption); have q37 : (x21_1 : Int) < ((x9_1.length : Int) : Int) := of_decide_eq_true (by first | (with_reducible assumption) | assumption); obtain ⟨go37, co37, eo37, gb37, gl37, cl37, HG37⟩ := Kd.R_form HO_9.out (by omega); (first | cases eo37 | (injection eo37 with ea_ en_ ec_; (first | subst ea_ | (injection ea_ with ea_; subst ea_)); subst ec_; clear en_)); have GB37 := Aside0.mk gb37; have GG37 := Aside0.mk HG37; clear gb37 gl37 HG37; obtain ⟨hx37_0, hf37_0⟩ := Kd.R_celln 0 HO_9.out (x21_1 : Int) p37 q37; replace p37 := eq_true p37; replace q37 := eq_true q37; obtain ⟨hy38_, hz38_⟩ := Kd.R_celln 0 HO_9.out (x21_1 : Int) (of_decide_eq_true (by first | (with_reducible assumption) | assumption)) (of_decide_eq_true (by first | (with_reducible assumption) | assumption)); have HP38 := Kd.R_putg HO_9.out (x21_1 : Int) t1012) | ((with_reducible refine gate_store (t := 3) (p := 46) rfl ?_); refine store_event (t := 3) (p := 46) (v := ?vo_w39) (w1 := (wr.setCell ⟨go37, (x21_1 : Int).toNat, none⟩ (.int .i64 t1012))) ?hg ?ho ?hn ?hr ?_; (case ho => rfl); (case hg => rfl); (case hn => rfl); (case hr => first | (go_simp; done) | (go_simp; rfl)); intro w39 hw; have hg : wr.grownBy w39 (some go37) := (by rw [hw]; exact HP38.2); have hp_ : Kd.R (Kd.int .i64) 3 w39 w.heap.size (fun _ => True) (.slice (some ⟨go37, 0, none⟩) x9_1.length co37) y1013 := (by rw [hw, Ny1013.out]; exact HP38.1); clear HP38; have n0_ := Aside0.mk (hp_); have n1_ := Aside0.mk ((by rw [hw]; exact below_set (HB.out) GB37.out : Below w.heap.size w w39)); clear HO_9; clear HB; have HO_9 := n0_; have HB := n1_; clear n0_ n1_; clear hg hw hp_))
                      go_roundg k1
                      case measure => have := HK1.out; omega
                      case rel => exact ⟨(y1013), (wrap64 (x21_1 + 1)), (by first | rfl | (simp; done) | (simp [*]; done)), H', ⟨by have := HK1.out; omega⟩, ⟨by (with_reducible repeat (first | apply Kd.R_alloc | apply Kd.R_drewN | apply Kd.R_drew)); exact HO_9.out⟩, ⟨by repeat (first | (with_reducible first | exact HB.out | apply below_alloc | apply pw_below_drewN | apply below_drew1) | exact HB.out)⟩⟩
                    · rw [if_neg c36] at H
                      exact absurd H (by simp)
              · rw [if_neg c12] at H
                exact absurd H (by simp)
            · rw [if_neg c11] at H
              exact absurd H (by simp)
          · rw [if_neg c10] at H
            have c10b0 : decide (x21_1 < (l0.length : Int)) = false := decide_eq_false c10
            clear c10
            obtain rfl := Option.some.inj H
            go_wp2
            go_ret
            exact ⟨_, by first | rfl | (simp [errW_none, errW_some] <;> rfl) | (simp [*, errW_none, errW_some] <;> rfl), by (with_reducible repeat (first | apply Kd.R_alloc | apply Kd.R_drewN | apply Kd.R_drew)); exact HO_9.out, by repeat (first | (with_reducible first | exact HB.out | apply below_alloc | apply pw_below_drewN | apply below_drew1) | exact HB.out)⟩
    · rw [if_neg c7] at H
      exact absurd H (by simp)
  · rw [if_neg c6] at H
    exact absurd H (by simp)

end Go.Proofs.Ytpfjnpbcnlbhaaa.P
namespace Go.Proofs.Ytpfjnpbcnlbhaaa.P
open Go.RowKit Go.Proofs.YtpfjnpbcnlbhaaaW.PrintWords Go.Proofs.YtpfjnpbcnlbhaaaW.PrintLast Go.Proofs.YtpfjnpbcnlbhaaaW.PrintMore
attribute [local go_sem] max2_int min2_int max_two min_two max_three min_three max_four min_four   -- for this text's walks alone
set_option linter.unusedVariables false
set_option linter.unusedSimpArgs false

/-! ### sackbutref05_Made: function 39 -/
mutual
def sackbutref05_Made.l0 : Nat → List Int → Int → Int → Int → Option (Bool)
  | 0, _, _, _, _ => none
  | k + 1, x0, x1, x5, x6 => if x6 < x5 then (sackbutref05_Made.l1 k x0 x1 x5 x6 false 0) else (some true)
def sackbutref05_Made.l1 : Nat → List Int → Int → Int → Int → Bool → Int → Option (Bool)
  | 0, _, _, _, _, _, _ => none
  | k + 1, x0, x1, x5, x6, x7, x18 => if x18 < 4 then (sackbutref05_Made.l2 k x0 x1 x5 x6 x7 x18 x18 x5 0) else (if x7 = true then (sackbutref05_Made.l0 k x0 x1 x5 (wrap64 (x6 + x1))) else (some false))
def sackbutref05_Made.l2 : Nat → List Int → Int → Int → Int → Bool → Int → Int → Int → Int → Option (Bool)
  | 0, _, _, _, _, _, _, _, _, _ => none
  | k + 1, x0, x1, x5, x6, x7, x8, x18, x21, x22 => if x22 < x21 then (if x7 = true then (sackbutref05_Made.l2 k x0 x1 x5 x6 true x8 x18 x21 (wrap64 (x22 + 1))) else (if 0 ≤ x1 then (if x1 ≤ (x0.length : Int) then ((sackbutref05_Form.f k (x0.take (x1 : Int).toNat) x5 x8 x22).bind fun t1003 => (if 0 ≤ x6 then (if x6 ≤ (wrap64 (x6 + x1)) then (if (wrap64 (x6 + x1)) ≤ (x0.length : Int) then ((sackbutref05_same.f k t1003 ((x0.take ((wrap64 (x6 + x1)) : Int).toNat).drop (x6 : Int).toNat)).bind fun t1008 => (sackbutref05_Made.l2 k x0 x1 x5 x6 t1008 x8 x18 x21 (wrap64 (x22 + 1)))) else (none)) else (none)) else (none))) else (none)) else (none))) else (sackbutref05_Made.l1 k x0 x1 x5 x6 x7 (wrap64 (x18 + 1)))
end
def sackbutref05_Made.f (k : Nat) (l0 : List Int) (a1 : Int) : Option (Bool) := sackbutref05_Made.l0 k l0 a1 (l0.length : Int) 0
theorem sackbutref05_Made.mono_l : ∀ k, (∀ y0 y1 y2 y3, LeO (sackbutref05_Made.l0 k y0 y1 y2 y3) (sackbutref05_Made.l0 (k + 1) y0 y1 y2 y3)) ∧ (∀ y0 y1 y2 y3 y4 y5, LeO (sackbutref05_Made.l1 k y0 y1 y2 y3 y4 y5) (sackbutref05_Made.l1 (k + 1) y0 y1 y2 y3 y4 y5)) ∧ (∀ y0 y1 y2 y3 y4 y5 y6 y7 y8, LeO (sackbutref05_Made.l2 k y0 y1 y2 y3 y4 y5 y6 y7 y8) (sackbutref05_Made.l2 (k + 1) y0 y1 y2 y3 y4 y5 y6 y7 y8))
  | 0 => ⟨fun _ _ _ _ r h => by simp [sackbutref05_Made.l0] at h, fun _ _ _ _ _ _ r h => by simp [sackbutref05_Made.l1] at h, fun _ _ _ _ _ _ _ _ _ r h => by simp [sackbutref05_Made.l2] at h⟩
  | k + 1 => by
    obtain ⟨ih0, ih1, ih2⟩ := sackbutref05_Made.mono_l k
    refine ⟨?_, ?_, ?_⟩
    · intro y0 y1 y2 y3
      unfold sackbutref05_Made.l0
      repeat' first
      | (with_reducible exact ih0 _ _ _ _)
      | (with_reducible exact ih1 _ _ _ _ _ _)
      | (with_reducible exact ih2 _ _ _ _ _ _ _ _ _)
      | (with_reducible exact sackbutref05_Form.mono _ _ _ _ _)
      | (with_reducible exact sackbutref05_same.mono _ _ _)
      | (with_reducible exact LeO.refl _)
      | (with_reducible exact LeO.none _)
      | (with_reducible refine LeO.ite ?_ ?_)
      | (with_reducible refine LeO.bind ?_ (fun _ => ?_))
      | exact ih0 _ _ _ _
      | exact ih1 _ _ _ _ _ _
      | exact ih2 _ _ _ _ _ _ _ _ _
      | exact sackbutref05_Form.mono _ _ _ _ _
      | exact sackbutref05_same.mono _ _ _
      | exact LeO.none _
      | refine LeO.ite ?_ ?_
      | refine LeO.bind ?_ (fun _ => ?_)
    · intro y0 y1 y2 y3 y4 y5
      unfold sackbutref05_Made.l1
      repeat' first
      | (with_reducible exact ih0 _ _ _ _)
      | (with_reducible exact ih1 _ _ _ _ _ _)
      | (with_reducible exact ih2 _ _ _ _ _ _ _ _ _)
      | (with_reducible exact sackbutref05_Form.mono _ _ _ _ _)
      | (with_reducible exact sackbutref05_same.mono _ _ _)
      | (with_reducible exact LeO.refl _)
      | (with_reducible exact LeO.none _)
      | (with_reducible refine LeO.ite ?_ ?_)
      | (with_reducible refine LeO.bind ?_ (fun _ => ?_))
      | exact ih0 _ _ _ _
      | exact ih1 _ _ _ _ _ _
      | exact ih2 _ _ _ _ _ _ _ _ _
      | exact sackbutref05_Form.mono _ _ _ _ _
      | exact sackbutref05_same.mono _ _ _
      | exact LeO.none _
      | refine LeO.ite ?_ ?_
      | refine LeO.bind ?_ (fun _ => ?_)
    · intro y0 y1 y2 y3 y4 y5 y6 y7 y8
      unfold sackbutref05_Made.l2
      repeat' first
      | (with_reducible exact ih0 _ _ _ _)
      | (with_reducible exact ih1 _ _ _ _ _ _)
      | (with_reducible exact ih2 _ _ _ _ _ _ _ _ _)
      | (with_reducible exact sackbutref05_Form.mono _ _ _ _ _)
      | (with_reducible exact sackbutref05_same.mono _ _ _)
      | (with_reducible exact LeO.refl _)
      | (with_reducible exact LeO.none _)
      | (with_reducible refine LeO.ite ?_ ?_)
      | (with_reducible refine LeO.bind ?_ (fun _ => ?_))
      | exact ih0 _ _ _ _
      | exact ih1 _ _ _ _ _ _
      | exact ih2 _ _ _ _ _ _ _ _ _
      | exact sackbutref05_Form.mono _ _ _ _ _
      | exact sackbutref05_same.mono _ _ _
      | exact LeO.none _
      | refine LeO.ite ?_ ?_
      | refine LeO.bind ?_ (fun _ => ?_)
theorem sackbutref05_Made.mono : ∀ a0 a1 k, LeO (sackbutref05_Made.f k a0 a1) (sackbutref05_Made.f (k + 1) a0 a1) := by
  intro a0 a1 k
  obtain ⟨ih0, ih1, ih2⟩ := sackbutref05_Made.mono_l k
  unfold sackbutref05_Made.f
  repeat' first
      | (with_reducible exact ih0 _ _ _ _)
      | (with_reducible exact ih1 _ _ _ _ _ _)
      | (with_reducible exact ih2 _ _ _ _ _ _ _ _ _)
      | (with_reducible exact sackbutref05_Form.mono _ _ _ _ _)
      | (with_reducible exact sackbutref05_same.mono _ _ _)
      | (with_reducible exact LeO.refl _)
      | (with_reducible exact LeO.none _)
      | (with_reducible refine LeO.ite ?_ ?_)
      | (with_reducible refine LeO.bind ?_ (fun _ => ?_))
      | exact ih0 _ _ _ _
      | exact ih1 _ _ _ _ _ _
      | exact ih2 _ _ _ _ _ _ _ _ _
      | exact sackbutref05_Form.mono _ _ _ _ _
      | exact sackbutref05_same.mono _ _ _
      | exact LeO.none _
      | refine LeO.ite ?_ ?_
      | refine LeO.bind ?_ (fun _ => ?_)
def sackbutref05_Made.T12 : Bool × List (List Nat × List Nat) := (true, [([], []), ([0], [0]), ([1], [1]), ([1], [1]), ([2, 3, 1], [1, 2, 3]), ([1], [1]), ([1], [1]), ([1], [1]), ([4, 5, 6, 7, 1, 1], [1, 4, 5, 6, 7]), ([1], [1]), ([1], [1]), ([1], [1]), ([1], [1]), ([11, 12, 1], [1, 11, 12]), ([9, 10, 13, 1], [1, 9, 10, 13]), ([8, 14, 8, 1], [1, 8, 14]), ([1, 15], [1, 15]), ([16, 15, 0, 1, 2, 3, 4, 5, 6, 7, 8, 9, 10, 11, 12, 13, 14, 15, 16], [0, 16])])
def sackbutref05_Made.B12 : List Nat := [0, 1, 3, 3, 15, 3, 3, 3, 255, 3, 3, 3, 3, 6147, 15875, 32767, 65535, 131071]
theorem sackbutref05_Made.tab12 : rtab .any (opsOf Try.f39 12) = sackbutref05_Made.T12 := by kernel_rfl
theorem sackbutref05_Made.bits12 : waitsOk sackbutref05_Made.T12.2 sackbutref05_Made.B12 = true := by kernel_rfl
set_option maxHeartbeats 8000000 in
set_option maxRecDepth 100000 in
theorem sackbutref05_Made.calls (k : Nat) (A0 : Option Addr) (c0 : Nat) (l0 : List Int) (a1 : Int) (r : Bool) (w : World) (hr0 : Kd.C (Kd.int .i64) w A0 l0.length l0) (hc0 : l0.length ≤ c0) (h : sackbutref05_Made.f k l0 a1 = some r) :
    Calls Try.prog 39 #[.slice A0 l0.length c0, .int .i64 a1] w fun e w' => e = .returned (.bool r) ∧ Below w.heap.size w w' := by
  have HR0 := Aside0.mk hr0
  have HC0 := Aside0.mk hc0
  clear hr0 hc0
  have HB := Aside0.mk (Below.refl w.heap.size w)
  have H : (sackbutref05_Made.l0 k l0 a1 (l0.length : Int) 0) = some r := h
  clear h
  have H' := Aside0.mk H
  clear H
  go_enter Try.func39, Try.ntmps39
  go_wp2
  go_loopg [6] k (fun kq v6 w' => ∃ (x6_1 : Int), v6 = .int .i64 x6_1 ∧ Aside0 (sackbutref05_Made.l0 kq l0 a1 (l0.length : Int) x6_1 = some r) ∧ Aside0 (kq ≤ k) ∧ Aside0 (Below w.heap.size w w'))
  case atStart => exact ⟨(0), (by first | rfl | (simp; done) | (simp [*]; done)), H', ⟨Nat.le_refl _⟩, ⟨by repeat (first | (with_reducible first | exact HB.out | apply below_alloc | apply pw_below_drewN | apply below_drew1) | exact HB.out)⟩⟩
  case round =>
    clear H'
    try clear p2
    obtain ⟨x6_1, rfl, HA, HK1, HB⟩ := hrel
    cases gk with
    | zero => exact absurd HA.out (by simp [sackbutref05_Made.l0])
    | succ k1 =>
      have H := HA.out
      clear HA
      simp only [sackbutref05_Made.l0] at H
      by_cases c3 : x6_1 < (l0.length : Int)
      · rw [if_pos c3] at H
        have c3b0 : decide (x6_1 < (l0.length : Int)) = true := decide_eq_true c3
        clear c3
        have H' := Aside0.mk H
        clear H
        go_wp2
        go_loopg [7, 18] k1 (fun kq v7 v18 w' => ∃ (x7_2 : Bool) (x18_2 : Int), v7 = .bool x7_2 ∧ v18 = .int .i64 x18_2 ∧ Aside0 (sackbutref05_Made.l1 kq l0 a1 (l0.length : Int) x6_1 x7_2 x18_2 = some r) ∧ Aside0 (kq ≤ k1) ∧ Aside0 (Below w.heap.size w w'))
        case atStart => exact ⟨(false), (0), (by first | rfl | (simp; done) | (simp [*]; done)), (by first | rfl | (simp; done) | (simp [*]; done)), H', ⟨Nat.le_refl _⟩, ⟨by repeat (first | (with_reducible first | exact HB.out | apply below_alloc | apply pw_below_drewN | apply below_drew1) | exact HB.out)⟩⟩
        case round =>
          clear H'
          try clear p2
          try clear c3
          try clear c3b0
          try clear p2
          obtain ⟨x7_2, x18_2, rfl, rfl, HA, HK2, HB⟩ := hrel
          cases gk with
          | zero => exact absurd HA.out (by simp [sackbutref05_Made.l1])
          | succ k2 =>
            have H := HA.out
            clear HA
            simp only [sackbutref05_Made.l1] at H
            by_cases c4 : x18_2 < 4
            · rw [if_pos c4] at H
              have c4b0 : decide (x18_2 < 4) = true := decide_eq_true c4
              clear c4
              have H' := Aside0.mk H
              clear H
              go_wp2
              go_loopg [7, 22] k2 (fun kq v7 v22 w' => ∃ (x7_3 : Bool) (x22_3 : Int), v7 = .bool x7_3 ∧ v22 = .int .i64 x22_3 ∧ Aside0 (sackbutref05_Made.l2 kq l0 a1 (l0.length : Int) x6_1 x7_3 x18_2 x18_2 (l0.length : Int) x22_3 = some r) ∧ Aside0 (kq ≤ k2) ∧ Aside0 (Below w.heap.size w w'))
              case atStart => exact ⟨(x7_2), (0), (by first | rfl | (simp; done) | (simp [*]; done)), (by first | rfl | (simp; done) | (simp [*]; done)), H', ⟨Nat.le_refl _⟩, ⟨by repeat (first | (with_reducible first | exact HB.out | apply below_alloc | apply pw_below_drewN | apply below_drew1) | exact HB.out)⟩⟩
              case round =>
                clear H'
                try clear p2
                try clear c3
                try clear c3b0
                try clear c4
                try clear c4b0
                try clear p2
                obtain ⟨x7_3, x22_3, rfl, rfl, HA, HK3, HB⟩ := hrel
                cases gk with
                | zero => exact absurd HA.out (by simp [sackbutref05_Made.l2])
                | succ k3 =>
                  have H := HA.out
                  clear HA
                  simp only [sackbutref05_Made.l2] at H
                  by_cases c5 : x22_3 < (l0.length : Int)
                  · rw [if_pos c5] at H
                    have c5b0 : decide (x22_3 < (l0.length : Int)) = true := decide_eq_true c5
                    clear c5
                    by_cases c6 : x7_3 = true
                    · subst c6
                      have H1 : (sackbutref05_Made.l2 k3 l0 a1 (l0.length : Int) x6_1 true x18_2 x18_2 (l0.length : Int) (wrap64 (x22_3 + 1))) = some r := by rw [if_pos rfl] at H; exact H
                      clear H
                      have H := H1
                      clear H1
                      have H' := Aside0.mk H
                      clear H
                      try go_wp2
                      have n0_ := Aside0.mk (below_drew1 HB.out)
                      clear HB
                      have HB := n0_
                      clear n0_
                      refine start_ (n := 18) (S := fun w' => True) (ds := []) #[false, false, false, false, false, false, false, false, false, false, false, false, false, false, false, false, false, false] (by kernel_rfl) rfl rfl trivial (fun hHeld => ?_); refine with_tabW sackbutref05_Made.tab12 sackbutref05_Made.bits12 (fun HT_ HW_ => ?_)
                      generalize wr.drew = w7 at HB hHeld ⊢
                      refine pure_ (i := 0) (N := some 25) (v := ?_) (a' := ?_) #[true, false, false, false, false, false, false, false, false, false, false, false, false, false, false, false, false, false] rfl rfl (any_of HT_.out (by kernel_rfl)) (fun _ _ _ h => h) (Or.inl ⟨by rfl, ?_⟩) ?_ ?_
                      rotate_left
                      · intro w'
                        go_simp
                        with_reducible rfl
                      rotate_left
                      · simp only [Act.put, List.setIfInBounds_toArray, List.set_cons_zero, List.set_cons_succ, i64_w, i32_w]
                        rfl
                      refine pure_ (i := 1) (N := some 26) (v := ?_) (a' := ?_) #[true, true, false, false, false, false, false, false, false, false, false, false, false, false, false, false, false, false] rfl rfl (any_of HT_.out (by kernel_rfl)) (fun _ _ _ h => h) (Or.inl ⟨by rfl, ?_⟩) ?_ ?_
                      rotate_left
                      · intro w'
                        go_simp
                        with_reducible rfl
                      rotate_left
                      · simp only [Act.put, List.setIfInBounds_toArray, List.set_cons_zero, List.set_cons_succ, i64_w, i32_w]
                        rfl
                      refine pure_ (i := 2) (N := some 27) (v := undef) (a' := ?_) #[true, true, true, false, false, false, false, false, false, false, false, false, false, false, false, false, false, false] rfl rfl (any_of HT_.out (by kernel_rfl)) (fun _ _ _ h => h) (Or.inr ⟨by rfl, rfl⟩) ?_ ?_
                      rotate_left
                      · simp only [Act.put, List.setIfInBounds_toArray, List.set_cons_zero, List.set_cons_succ, i64_w, i32_w]
                        rfl
                      refine pure_ (i := 3) (N := some 28) (v := undef) (a' := ?_) #[true, true, true, true, false, false, false, false, false, false, false, false, false, false, false, false, false, false] rfl rfl (any_of HT_.out (by kernel_rfl)) (fun _ _ _ h => h) (Or.inr ⟨by rfl, rfl⟩) ?_ ?_
                      rotate_left
                      · simp only [Act.put, List.setIfInBounds_toArray, List.set_cons_zero, List.set_cons_succ, i64_w, i32_w]
                        rfl
                      refine pure_ (i := 4) (N := some 29) (v := undef) (a' := ?_) #[true, true, true, true, true, false, false, false, false, false, false, false, false, false, false, false, false, false] rfl rfl (any_of HT_.out (by kernel_rfl)) (fun _ _ _ h => h) (Or.inr ⟨by rfl, rfl⟩) ?_ ?_
                      rotate_left
                      · simp only [Act.put, List.setIfInBounds_toArray, List.set_cons_zero, List.set_cons_succ, i64_w, i32_w]
                        rfl
                      refine pure_ (i := 5) (N := some 30) (v := undef) (a' := ?_) #[true, true, true, true, true, true, false, false, false, false, false, false, false, false, false, false, false, false] rfl rfl (any_of HT_.out (by kernel_rfl)) (fun _ _ _ h => h) (Or.inr ⟨by rfl, rfl⟩) ?_ ?_
                      rotate_left
                      · simp only [Act.put, List.setIfInBounds_toArray, List.set_cons_zero, List.set_cons_succ, i64_w, i32_w]
                        rfl
                      refine pure_ (i := 6) (N := some 31) (v := undef) (a' := ?_) #[true, true, true, true, true, true, true, false, false, false, false, false, false, false, false, false, false, false] rfl rfl (any_of HT_.out (by kernel_rfl)) (fun _ _ _ h => h) (Or.inr ⟨by rfl, rfl⟩) ?_ ?_
                      rotate_left
                      · simp only [Act.put, List.setIfInBounds_toArray, List.set_cons_zero, List.set_cons_succ, i64_w, i32_w]
                        rfl
                      refine pure_ (i := 7) (N := some 32) (v := undef) (a' := ?_) #[true, true, true, true, true, true, true, true, false, false, false, false, false, false, false, false, false, false] rfl rfl (any_of HT_.out (by kernel_rfl)) (fun _ _ _ h => h) (Or.inr ⟨by rfl, rfl⟩) ?_ ?_
                      rotate_left
                      · simp only [Act.put, List.setIfInBounds_toArray, List.set_cons_zero, List.set_cons_succ, i64_w, i32_w]
                        rfl
                      refine pure_ (i := 8) (N := some 33) (v := undef) (a' := ?_) #[true, true, true, true, true, true, true, true, true, false, false, false, false, false, false, false, false, false] rfl rfl (any_of HT_.out (by kernel_rfl)) (fun _ _ _ h => h) (Or.inr ⟨by rfl, rfl⟩) ?_ ?_
                      rotate_left
                      · simp only [Act.put, List.setIfInBounds_toArray, List.set_cons_zero, List.set_cons_succ, i64_w, i32_w]
                        rfl
                      refine pure_ (i := 9) (N := some 34) (v := undef) (a' := ?_) #[true, true, true, true, true, true, true, true, true, true, false, false, false, false, false, false, false, false] rfl rfl (any_of HT_.out (by kernel_rfl)) (fun _ _ _ h => h) (Or.inr ⟨by rfl, rfl⟩) ?_ ?_
                      rotate_left
                      · simp only [Act.put, List.setIfInBounds_toArray, List.set_cons_zero, List.set_cons_succ, i64_w, i32_w]
                        rfl
                      refine pure_ (i := 10) (N := some 35) (v := undef) (a' := ?_) #[true, true, true, true, true, true, true, true, true, true, true, false, false, false, false, false, false, false] rfl rfl (any_of HT_.out (by kernel_rfl)) (fun _ _ _ h => h) (Or.inr ⟨by rfl, rfl⟩) ?_ ?_
                      rotate_left
                      · simp only [Act.put, List.setIfInBounds_toArray, List.set_cons_zero, List.set_cons_succ, i64_w, i32_w]
                        rfl
                      refine pure_ (i := 11) (N := some 36) (v := undef) (a' := ?_) #[true, true, true, true, true, true, true, true, true, true, true, true, false, false, false, false, false, false] rfl rfl (any_of HT_.out (by kernel_rfl)) (fun _ _ _ h => h) (Or.inr ⟨by rfl, rfl⟩) ?_ ?_
                      rotate_left
                      · simp only [Act.put, List.setIfInBounds_toArray, List.set_cons_zero, List.set_cons_succ, i64_w, i32_w]
                        rfl
                      refine pure_ (i := 12) (N := some 37) (v := undef) (a' := ?_) #[true, true, true, true, true, true, true, true, true, true, true, true, true, false, false, false, false, false] rfl rfl (any_of HT_.out (by kernel_rfl)) (fun _ _ _ h => h) (Or.inr ⟨by rfl, rfl⟩) ?_ ?_
                      rotate_left
                      · simp only [Act.put, List.setIfInBounds_toArray, List.set_cons_zero, List.set_cons_succ, i64_w, i32_w]
                        rfl
                      refine pure_ (i := 13) (N := some 38) (v := undef) (a' := ?_) #[true, true, true, true, true, true, true, true, true, true, true, true, true, true, false, false, false, false] rfl rfl (any_of HT_.out (by kernel_rfl)) (fun _ _ _ h => h) (Or.inr ⟨by rfl, rfl⟩) ?_ ?_
                      rotate_left
                      · simp only [Act.put, List.setIfInBounds_toArray, List.set_cons_zero, List.set_cons_succ, i64_w, i32_w]
                        rfl
                      refine pure_ (i := 14) (N := some 39) (v := undef) (a' := ?_) #[true, true, true, true, true, true, true, true, true, true, true, true, true, true, true, false, false, false] rfl rfl (any_of HT_.out (by kernel_rfl)) (fun _ _ _ h => h) (Or.inr ⟨by rfl, rfl⟩) ?_ ?_
                      rotate_left
                      · simp only [Act.put, List.setIfInBounds_toArray, List.set_cons_zero, List.set_cons_succ, i64_w, i32_w]
                        rfl
                      refine pure_ (i := 15) (N := some 40) (v := undef) (a' := ?_) #[true, true, true, true, true, true, true, true, true, true, true, true, true, true, true, true, false, false] rfl rfl (any_of HT_.out (by kernel_rfl)) (fun _ _ _ h => h) (Or.inr ⟨by rfl, rfl⟩) ?_ ?_
                      rotate_left
                      · simp only [Act.put, List.setIfInBounds_toArray, List.set_cons_zero, List.set_cons_succ, i64_w, i32_w]
                        rfl
                      refine pure_ (i := 16) (N := some 41) (v := ?_) (a' := ?_) #[true, true, true, true, true, true, true, true, true, true, true, true, true, true, true, true, true, false] rfl rfl (any_of HT_.out (by kernel_rfl)) (fun _ _ _ h => h) (Or.inl ⟨by rfl, ?_⟩) ?_ ?_
                      rotate_left
                      · intro w'
                        go_simp
                        with_reducible rfl
                      rotate_left
                      · simp only [Act.put, List.setIfInBounds_toArray, List.set_cons_zero, List.set_cons_succ, i64_w, i32_w]
                        rfl
                      refine pure_ (i := 17) (N := some 7) (v := ?_) (a' := ?_) #[true, true, true, true, true, true, true, true, true, true, true, true, true, true, true, true, true, true] rfl rfl (any_of HT_.out (by kernel_rfl)) (fun _ _ _ h => h) (Or.inl ⟨by rfl, ?_⟩) ?_ ?_
                      rotate_left
                      · intro w'
                        go_simp
                        with_reducible rfl
                      rotate_left
                      · simp only [Act.put, List.setIfInBounds_toArray, List.set_cons_zero, List.set_cons_succ, i64_w, i32_w]
                        rfl
                      refine done_ (done_of HT_.out (by kernel_rfl)) ?_
                      try go_wp2
                      go_roundg k3
                      case measure => have := HK1.out; have := HK2.out; have := HK3.out; omega
                      case rel => exact ⟨(true), (wrap64 (x22_3 + 1)), (by first | rfl | (simp; done) | (simp [*]; done)), (by first | rfl | (simp; done) | (simp [*]; done)), H', ⟨by have := HK1.out; have := HK2.out; have := HK3.out; omega⟩, ⟨by repeat (first | (with_reducible first | exact HB.out | apply below_alloc | apply pw_below_drewN | apply below_drew1) | exact HB.out)⟩⟩
                    · replace c6 := Bool.eq_false_iff.mpr c6
                      subst c6
                      have H1 : (if 0 ≤ a1 then (if a1 ≤ (l0.length : Int) then ((sackbutref05_Form.f k3 (l0.take (a1 : Int).toNat) (l0.length : Int) x18_2 x22_3).bind fun t1003 => (if 0 ≤ x6_1 then (if x6_1 ≤ (wrap64 (x6_1 + a1)) then (if (wrap64 (x6_1 + a1)) ≤ (l0.length : Int) then ((sackbutref05_same.f k3 t1003 ((l0.take ((wrap64 (x6_1 + a1)) : Int).toNat).drop (x6_1 : Int).toNat)).bind fun t1008 => (sackbutref05_Made.l2 k3 l0 a1 (l0.length : Int) x6_1 t1008 x18_2 x18_2 (l0.length : Int) (wrap64 (x22_3 + 1)))) else (none)) else (none)) else (none))) else (none)) else (none)) = some r := by rw [if_neg (show ¬ (false = true) by decide)] at H; exact H
                      clear H
                      have H := H1
                      clear H1
                      by_cases c8 : 0 ≤ a1
                      · rw [if_pos c8] at H
                        have c8b0 := eq_true c8
                        have c8b1 : decide (0 ≤ a1) = true := decide_eq_true c8
                        clear c8
                        by_cases c9 : a1 ≤ (l0.length : Int)
                        · rw [if_pos c9] at H
                          have c9b0 := eq_true c9
                          have c9b1 : decide (a1 ≤ (l0.length : Int)) = true := decide_eq_true c9
                          clear c9
                          obtain ⟨y1001, hy1001⟩ : ∃ y_ : List Int, y_ = (l0.take (a1 : Int).toNat) := ⟨_, rfl⟩
                          replace H : ((sackbutref05_Form.f k3 y1001 (l0.length : Int) x18_2 x22_3).bind fun t1003 => (if 0 ≤ x6_1 then (if x6_1 ≤ (wrap64 (x6_1 + a1)) then (if (wrap64 (x6_1 + a1)) ≤ (l0.length : Int) then ((sackbutref05_same.f k3 t1003 ((l0.take ((wrap64 (x6_1 + a1)) : Int).toNat).drop (x6_1 : Int).toNat)).bind fun t1008 => (sackbutref05_Made.l2 k3 l0 a1 (l0.length : Int) x6_1 t1008 x18_2 x18_2 (l0.length : Int) (wrap64 (x22_3 + 1)))) else (none)) else (none)) else (none))) = some r := by first | (rw [hy1001]; with_reducible exact H) | (have H2_ := (Option.bind_some _ _).symm.trans H; rw [hy1001]; with_reducible exact H2_) | (have H2_ := (Option.bind_some _ _).symm.trans H; with_reducible exact H2_) | with_reducible exact H | (rw [hy1001]; exact H) | exact H
                          have Ny1001 := Aside0.mk hy1001
                          clear hy1001
                          replace H := Option.bind_eq_some_iff.mp H
                          obtain ⟨t1003, A100, H⟩ := H
                          replace H : (if 0 ≤ x6_1 then (if x6_1 ≤ (wrap64 (x6_1 + a1)) then (if (wrap64 (x6_1 + a1)) ≤ (l0.length : Int) then ((sackbutref05_same.f k3 t1003 ((l0.take ((wrap64 (x6_1 + a1)) : Int).toNat).drop (x6_1 : Int).toNat)).bind fun t1008 => (sackbutref05_Made.l2 k3 l0 a1 (l0.length : Int) x6_1 t1008 x18_2 x18_2 (l0.length : Int) (wrap64 (x22_3 + 1)))) else (none)) else (none)) else (none)) = some r := H
                          have A10 := Aside0.mk A100
                          clear A100
                          by_cases c11 : 0 ≤ x6_1
                          · rw [if_pos c11] at H
                            have c11b0 := eq_true c11
                            have c11b1 : decide (0 ≤ x6_1) = true := decide_eq_true c11
                            clear c11
                            by_cases c12 : x6_1 ≤ (wrap64 (x6_1 + a1))
                            · rw [if_pos c12] at H
                              have c12b0 := eq_true c12
                              have c12b1 : decide (x6_1 ≤ (wrap64 (x6_1 + a1))) = true := decide_eq_true c12
                              by_cases c13 : (wrap64 (x6_1 + a1)) ≤ (l0.length : Int)
                              · rw [if_pos c13] at H
                                have c13b0 := eq_true c13
                                have c13b1 : decide ((wrap64 (x6_1 + a1)) ≤ (l0.length : Int)) = true := decide_eq_true c13
                                obtain ⟨y1006, hy1006⟩ : ∃ y_ : List Int, y_ = ((l0.take ((wrap64 (x6_1 + a1)) : Int).toNat).drop (x6_1 : Int).toNat) := ⟨_, rfl⟩
                                replace H : ((sackbutref05_same.f k3 t1003 y1006).bind fun t1008 => (sackbutref05_Made.l2 k3 l0 a1 (l0.length : Int) x6_1 t1008 x18_2 x18_2 (l0.length : Int) (wrap64 (x22_3 + 1)))) = some r := by first | (rw [hy1006]; with_reducible exact H) | (have H2_ := (Option.bind_some _ _).symm.trans H; rw [hy1006]; with_reducible exact H2_) | (have H2_ := (Option.bind_some _ _).symm.trans H; with_reducible exact H2_) | with_reducible exact H | (rw [hy1006]; exact H) | exact H
                                have Ny1006 := Aside0.mk hy1006
                                clear hy1006
                                replace H := Option.bind_eq_some_iff.mp H
                                obtain ⟨t1008, A140, H⟩ := H
                                replace H : (sackbutref05_Made.l2 k3 l0 a1 (l0.length : Int) x6_1 t1008 x18_2 x18_2 (l0.length : Int) (wrap64 (x22_3 + 1))) = some r := H
                                have A14 := Aside0.mk A140
                                clear A140
                                have H' := Aside0.mk H
                                clear H
                                try go_wp2
                                have n0_ := Aside0.mk (below_drew1 HB.out)
                                clear HB
                                have HB := n0_
                                clear n0_
                                obtain ⟨i016, hi016, _, hsz16, _⟩ := info_parts info3
                                obtain ⟨hcut16, hA16, hC16⟩ := print_take_of (P := Try.prog) (Value.int .i64) 0 22 3 .i64 Try.underlying22 hi016 hsz16 A0 c0 l0 a1 (of_decide_eq_true (by first | (with_reducible assumption) | assumption)) (of_decide_eq_true (by first | (with_reducible assumption) | assumption)) HC0.out
                                (first | rw [← Ny1001.out] at hcut16 hA16 hC16 | (simp only [Int.reduceToNat] at hcut16 hA16 hC16; rw [← Ny1001.out] at hcut16 hA16 hC16))
                                have HR1002 := Aside0.mk (Kd.C_of_reads (h1 := fun _ => rfl) (hA16 _ (Kd.reads_of_C HR0.out)))
                                have HC1002 := Aside0.mk hC16
                                clear hA16 hC16 hi016 hsz16
                                obtain ⟨i017, hi017, _, hsz17, _⟩ := info_parts info3
                                obtain ⟨A17, hcut17, hA17, hC17⟩ := print_mid_of (P := Try.prog) (Value.int .i64) 0 22 3 .i64 .i64 Try.underlying22 hi017 hsz17 A0 c0 l0 x6_1 (wrap64 (x6_1 + a1)) (of_decide_eq_true (by first | (with_reducible assumption) | assumption)) (by first | omega | exact of_decide_eq_true (by first | (with_reducible assumption) | assumption)) (of_decide_eq_true (by first | (with_reducible assumption) | assumption)) HC0.out
                                (first | rw [← Ny1006.out] at hcut17 hA17 hC17 | (simp only [Int.reduceToNat] at hcut17 hA17 hC17; rw [← Ny1006.out] at hcut17 hA17 hC17))
                                have HR1007 := Aside0.mk (Kd.C_of_reads (h1 := fun _ => rfl) (hA17 _ (Kd.reads_of_C HR0.out)))
                                have HC1007 := Aside0.mk hC17
                                clear hA17 hC17 hi017 hsz17
                                refine start_ (n := 18) (S := fun w' => True) (ds := []) #[false, false, false, false, false, false, false, false, false, false, false, false, false, false, false, false, false, false] (by kernel_rfl) rfl rfl trivial (fun hHeld => ?_); refine with_tabW sackbutref05_Made.tab12 sackbutref05_Made.bits12 (fun HT_ HW_ => ?_)
                                generalize wr.drew = w15 at HB HR1002 HR1007 hHeld ⊢
                                refine pure_ (i := 0) (N := some 25) (v := ?_) (a' := ?_) #[true, false, false, false, false, false, false, false, false, false, false, false, false, false, false, false, false, false] rfl rfl (any_of HT_.out (by kernel_rfl)) (fun _ _ _ h => h) (Or.inl ⟨by rfl, ?_⟩) ?_ ?_
                                rotate_left
                                · intro w'
                                  go_simp
                                  with_reducible rfl
                                rotate_left
                                · simp only [Act.put, List.setIfInBounds_toArray, List.set_cons_zero, List.set_cons_succ, i64_w, i32_w]
                                  rfl
                                refine pure_ (i := 1) (N := some 26) (v := ?_) (a' := ?_) #[true, true, false, false, false, false, false, false, false, false, false, false, false, false, false, false, false, false] rfl rfl (any_of HT_.out (by kernel_rfl)) (fun _ _ _ h => h) (Or.inl ⟨by rfl, ?_⟩) ?_ ?_
                                rotate_left
                                · intro w'
                                  go_simp
                                  with_reducible rfl
                                rotate_left
                                · simp only [Act.put, List.setIfInBounds_toArray, List.set_cons_zero, List.set_cons_succ, i64_w, i32_w]
                                  rfl
                                refine pure_ (i := 2) (N := some 27) (v := ?_) (a' := ?_) #[true, true, true, false, false, false, false, false, false, false, false, false, false, false, false, false, false, false] rfl rfl (any_of HT_.out (by kernel_rfl)) (fun _ _ _ h => h) (Or.inl ⟨by rfl, ?_⟩) ?_ ?_
                                rotate_left
                                · intro w'
                                  go_simp
                                  with_reducible rfl
                                rotate_left
                                · simp only [Act.put, List.setIfInBounds_toArray, List.set_cons_zero, List.set_cons_succ, i64_w, i32_w]
                                  rfl
                                refine pure_ (i := 3) (N := some 28) (v := ?_) (a' := ?_) #[true, true, true, true, false, false, false, false, false, false, false, false, false, false, false, false, false, false] rfl rfl (any_of HT_.out (by kernel_rfl)) (fun _ _ _ h => h) (Or.inl ⟨by rfl, ?_⟩) ?_ ?_
                                rotate_left
                                · intro w'
                                  go_simp
                                  with_reducible rfl
                                rotate_left
                                · simp only [Act.put, List.setIfInBounds_toArray, List.set_cons_zero, List.set_cons_succ, i64_w, i32_w]
                                  rfl
                                refine pure_ (i := 4) (N := some 29) (v := ?_) (a' := ?_) #[true, true, true, true, true, false, false, false, false, false, false, false, false, false, false, false, false, false] rfl rfl (any_of HT_.out (by kernel_rfl)) (fun _ _ _ h => h) (Or.inl ⟨by rfl, ?_⟩) ?_ ?_
                                rotate_left
                                · intro w'
                                  go_simp
                                  with_reducible rfl
                                rotate_left
                                · simp only [Act.put, List.setIfInBounds_toArray, List.set_cons_zero, List.set_cons_succ, i64_w, i32_w]
                                  rfl
                                refine pure_ (i := 5) (N := some 30) (v := ?_) (a' := ?_) #[true, true, true, true, true, true, false, false, false, false, false, false, false, false, false, false, false, false] rfl rfl (any_of HT_.out (by kernel_rfl)) (fun _ _ _ h => h) (Or.inl ⟨by rfl, ?_⟩) ?_ ?_
                                rotate_left
                                · intro w'
                                  go_simp
                                  with_reducible rfl
                                rotate_left
                                · simp only [Act.put, List.setIfInBounds_toArray, List.set_cons_zero, List.set_cons_succ, i64_w, i32_w]
                                  rfl
                                refine pure_ (i := 6) (N := some 31) (v := ?_) (a' := ?_) #[true, true, true, true, true, true, true, false, false, false, false, false, false, false, false, false, false, false] rfl rfl (any_of HT_.out (by kernel_rfl)) (fun _ _ _ h => h) (Or.inl ⟨by rfl, ?_⟩) ?_ ?_
                                rotate_left
                                · intro w'
                                  go_simp
                                  with_reducible rfl
                                rotate_left
                                · simp only [Act.put, List.setIfInBounds_toArray, List.set_cons_zero, List.set_cons_succ, i64_w, i32_w]
                                  rfl
                                refine pure_ (i := 7) (N := some 32) (v := ?_) (a' := ?_) #[true, true, true, true, true, true, true, true, false, false, false, false, false, false, false, false, false, false] rfl rfl (any_of HT_.out (by kernel_rfl)) (fun _ _ _ h => h) (Or.inl ⟨by rfl, ?_⟩) ?_ ?_
                                rotate_left
                                · intro w'
                                  go_simp
                                  with_reducible rfl
                                rotate_left
                                · simp only [Act.put, List.setIfInBounds_toArray, List.set_cons_zero, List.set_cons_succ, i64_w, i32_w]
                                  rfl
                                refine pure_ (i := 9) (N := some 34) (v := ?_) (a' := ?_) #[true, true, true, true, true, true, true, true, false, true, false, false, false, false, false, false, false, false] rfl rfl (any_of HT_.out (by kernel_rfl)) (fun _ _ _ h => h) (Or.inl ⟨by rfl, ?_⟩) ?_ ?_
                                rotate_left
                                · intro w'
                                  go_simp
                                  with_reducible rfl
                                rotate_left
                                · simp only [Act.put, List.setIfInBounds_toArray, List.set_cons_zero, List.set_cons_succ, i64_w, i32_w]
                                  rfl
                                refine pure_ (i := 10) (N := some 35) (v := ?_) (a' := ?_) #[true, true, true, true, true, true, true, true, false, true, true, false, false, false, false, false, false, false] rfl rfl (any_of HT_.out (by kernel_rfl)) (fun _ _ _ h => h) (Or.inl ⟨by rfl, ?_⟩) ?_ ?_
                                rotate_left
                                · intro w'
                                  go_simp
                                  with_reducible rfl
                                rotate_left
                                · simp only [Act.put, List.setIfInBounds_toArray, List.set_cons_zero, List.set_cons_succ, i64_w, i32_w]
                                  rfl
                                refine pure_ (i := 11) (N := some 36) (v := ?_) (a' := ?_) #[true, true, true, true, true, true, true, true, false, true, true, true, false, false, false, false, false, false] rfl rfl (any_of HT_.out (by kernel_rfl)) (fun _ _ _ h => h) (Or.inl ⟨by rfl, ?_⟩) ?_ ?_
                                rotate_left
                                · intro w'
                                  go_simp
                                  with_reducible rfl
                                rotate_left
                                · simp only [Act.put, List.setIfInBounds_toArray, List.set_cons_zero, List.set_cons_succ, i64_w, i32_w]
                                  rfl
                                refine pure_ (i := 12) (N := some 37) (v := ?_) (a' := ?_) #[true, true, true, true, true, true, true, true, false, true, true, true, true, false, false, false, false, false] rfl rfl (any_of HT_.out (by kernel_rfl)) (fun _ _ _ h => h) (Or.inl ⟨by rfl, ?_⟩) ?_ ?_
                                rotate_left
                                · intro w'
                                  go_simp
                                  with_reducible rfl
                                rotate_left
                                · simp only [Act.put, List.setIfInBounds_toArray, List.set_cons_zero, List.set_cons_succ, i64_w, i32_w]
                                  rfl
                                refine pure_ (i := 13) (N := some 38) (v := ?_) (a' := ?_) #[true, true, true, true, true, true, true, true, false, true, true, true, true, true, false, false, false, false] rfl rfl (any_of HT_.out (by kernel_rfl)) (fun _ _ _ h => h) (Or.inl ⟨by rfl, ?_⟩) ?_ ?_
                                rotate_left
                                · intro w'
                                  go_simp
                                  with_reducible rfl
                                rotate_left
                                · simp only [Act.put, List.setIfInBounds_toArray, List.set_cons_zero, List.set_cons_succ, i64_w, i32_w]
                                  rfl
                                refine pure_ (i := 14) (N := some 39) (v := ?_) (a' := ?_) #[true, true, true, true, true, true, true, true, false, true, true, true, true, true, true, false, false, false] rfl rfl (any_of HT_.out (by kernel_rfl)) (fun _ _ _ h => h) (Or.inl ⟨by rfl, ?_⟩) ?_ ?_
                                rotate_left
                                · intro w'
                                  go_simp
                                  with_reducible rfl
                                rotate_left
                                · simp only [Act.put, List.setIfInBounds_toArray, List.set_cons_zero, List.set_cons_succ, i64_w, i32_w]
                                  rfl
                                refine one_ (i := 8) (N := some 33) #[true, true, true, true, true, true, true, true, true, true, true, true, true, true, true, false, false, false] rfl rfl (one_of HT_.out (by kernel_rfl)) (by decide) (fun K hK => ?_)
                                refine goes_ Try.func55 (by kernel_rfl) rfl #[.slice A0 y1001.length c0, .int .i64 (l0.length : Int), .int .i64 x18_2, .int .i64 x22_3] (by rfl) rfl rfl (by (try simp only [List.map_toArray, List.map_cons, List.map_nil]); first | done | rfl | (simp only [List.length_drop, List.length_take]; rfl)) ?_
                                with_reducible refine (sackbutref05_Form.calls k3 _ _ y1001 (l0.length : Int) x18_2 x22_3 t1003 _ ?side1 ?side2 A10.out).mono ?_
                                (case side1 => repeat (first | exact (Kd.C_below HR1002.out HB.out) | (with_reducible refine Kd.C_alloc ?_ _) | (with_reducible refine Kd.C_drewN ?_ _) | (with_reducible refine Kd.C_drew ?_)))
                                (case side2 => exact HC1002.out)
                                rintro e w18 ⟨v1004, rfl, ho0, hb⟩
                                refine ⟨_, rfl, ?_⟩
                                have n0_ := Aside0.mk (Kd.R_lower ho0 (below_size (by repeat (first | (with_reducible first | exact HB.out | apply below_alloc | apply pw_below_drewN | apply below_drew1) | exact HB.out))))
                                have n1_ := Aside0.mk (below_step (by repeat (first | (with_reducible first | exact HB.out | apply below_alloc | apply pw_below_drewN | apply below_drew1) | exact HB.out)) hb)
                                clear HB
                                have HO1005 := n0_
                                have HB := n1_
                                clear n0_ n1_
                                (try clear hb)
                                (try clear hb2)
                                (try clear hk)
                                (try clear hi)
                                (try clear ho0)
                                obtain ⟨Ao19, co19, eo19⟩ := Kd.R_slice HO1005.out
                                (first | subst eo19 | (injection eo19 with f1_ f2_ f3_; have f4_ := f1_.symm; have f5_ := f3_.symm; clear f1_ f2_ f3_; subst f4_; subst f5_))
                                refine hK.out _ _ trivial (fun hHeld => ?_)
                                clear hK K
                                refine norm_ (a' := ?_) ?_ ?_
                                rotate_left
                                · show Act.put _ (some 33) _ = _
                                  simp only [Act.put, List.setIfInBounds_toArray, List.set_cons_zero, List.set_cons_succ, i64_w, i32_w]
                                  rfl
                                refine one_ (i := 15) (N := some 40) #[true, true, true, true, true, true, true, true, true, true, true, true, true, true, true, true, false, false] rfl rfl (one_of HT_.out (by kernel_rfl)) (by decide) (fun K hK => ?_)
                                refine goes_ Try.func54 (by kernel_rfl) rfl #[.slice Ao19 t1003.length co19, .slice A17 y1006.length (c0 - x6_1.toNat)] (by rfl) rfl rfl (by (try simp only [List.map_toArray, List.map_cons, List.map_nil]); first | done | rfl | (simp only [List.length_drop, List.length_take]; rfl)) ?_
                                with_reducible refine (sackbutref05_same.calls k3 _ _ t1003 _ _ y1006 t1008 _ ?side1 ?side2 ?side3 ?side4 A14.out).mono ?_
                                (case side1 => repeat (first | exact (Kd.R_reads' HO1005.out).2.2 | (with_reducible refine Kd.C_alloc ?_ _) | (with_reducible refine Kd.C_drewN ?_ _) | (with_reducible refine Kd.C_drew ?_)))
                                (case side2 => exact (Kd.R_reads' HO1005.out).2.1)
                                (case side3 => repeat (first | exact (Kd.C_below HR1007.out HB.out) | (with_reducible refine Kd.C_alloc ?_ _) | (with_reducible refine Kd.C_drewN ?_ _) | (with_reducible refine Kd.C_drew ?_)))
                                (case side4 => exact HC1007.out)
                                rintro e w' ⟨rfl, ⟨nd, rfl⟩⟩
                                refine ⟨_, rfl, ?_⟩
                                refine hK.out _ _ trivial (fun hHeld => ?_)
                                clear hK K
                                refine norm_ (a' := ?_) ?_ ?_
                                rotate_left
                                · show Act.put _ (some 40) _ = _
                                  simp only [Act.put, List.setIfInBounds_toArray, List.set_cons_zero, List.set_cons_succ, i64_w, i32_w]
                                  rfl
                                refine pure_ (i := 16) (N := some 41) (v := ?_) (a' := ?_) #[true, true, true, true, true, true, true, true, true, true, true, true, true, true, true, true, true, false] rfl rfl (any_of HT_.out (by kernel_rfl)) (fun _ _ _ h => h) (Or.inl ⟨by rfl, ?_⟩) ?_ ?_
                                rotate_left
                                · intro w'
                                  go_simp
                                  with_reducible rfl
                                rotate_left
                                · simp only [Act.put, List.setIfInBounds_toArray, List.set_cons_zero, List.set_cons_succ, i64_w, i32_w]
                                  rfl
                                refine pure_ (i := 17) (N := some 7) (v := ?_) (a' := ?_) #[true, true, true, true, true, true, true, true, true, true, true, true, true, true, true, true, true, true] rfl rfl (any_of HT_.out (by kernel_rfl)) (fun _ _ _ h => h) (Or.inl ⟨by rfl, ?_⟩) ?_ ?_
                                rotate_left
                                · intro w'
                                  go_simp
                                  with_reducible rfl
                                rotate_left
                                · simp only [Act.put, List.setIfInBounds_toArray, List.set_cons_zero, List.set_cons_succ, i64_w, i32_w]
                                  rfl
                                refine done_ (done_of HT_.out (by kernel_rfl)) ?_
                                try go_wp2
                                go_roundg k3
                                case measure => have := HK1.out; have := HK2.out; have := HK3.out; omega
                                case rel => exact ⟨(t1008), (wrap64 (x22_3 + 1)), (by first | rfl | (simp; done) | (simp [*]; done)), (by first | rfl | (simp; done) | (simp [*]; done)), H', ⟨by have := HK1.out; have := HK2.out; have := HK3.out; omega⟩, ⟨by repeat (first | (with_reducible first | exact HB.out | apply below_alloc | apply pw_below_drewN | apply below_drew1) | exact HB.out)⟩⟩
                              · rw [if_neg c13] at H
                                exact absurd H (by simp)
                            · rw [if_neg c12] at H
                              exact absurd H (by simp)
                          · rw [if_neg c11] at H
                            exact absurd H (by simp)
                        · rw [if_neg c9] at H
                          exact absurd H (by simp)
                      · rw [if_neg c8] at H
                        exact absurd H (by simp)
                  · rw [if_neg c5] at H
                    have c5b0 : decide (x22_3 < (l0.length : Int)) = false := decide_eq_false c5
                    clear c5
                    have H' := Aside0.mk H
                    clear H
                    go_wp2
                    go_roundg k3
                    case measure => have := HK1.out; have := HK2.out; have := HK3.out; omega
                    case rel => exact ⟨(x7_3), (wrap64 (x18_2 + 1)), (by first | rfl | (simp; done) | (simp [*]; done)), (by first | rfl | (simp; done) | (simp [*]; done)), H', ⟨by have := HK1.out; have := HK2.out; have := HK3.out; omega⟩, ⟨by repeat (first | (with_reducible first | exact HB.out | apply below_alloc | apply pw_below_drewN | apply below_drew1) | exact HB.out)⟩⟩
            · rw [if_neg c4] at H
              have c4b0 : decide (x18_2 < 4) = false := decide_eq_false c4
              clear c4
              by_cases c20 : x7_2 = true
              · subst c20
                have H1 : (sackbutref05_Made.l0 k2 l0 a1 (l0.length : Int) (wrap64 (x6_1 + a1))) = some r := by rw [if_pos rfl] at H; exact H
                clear H
                have H := H1
                clear H1
                have H' := Aside0.mk H
                clear H
                go_wp2
                go_roundg k2
                case measure => have := HK1.out; have := HK2.out; omega
                case rel => exact ⟨(wrap64 (x6_1 + a1)), (by first | rfl | (simp; done) | (simp [*]; done)), H', ⟨by have := HK1.out; have := HK2.out; omega⟩, ⟨by repeat (first | (with_reducible first | exact HB.out | apply below_alloc | apply pw_below_drewN | apply below_drew1) | exact HB.out)⟩⟩
              · replace c20 := Bool.eq_false_iff.mpr c20
                subst c20
                have H1 : (some false) = some r := by rw [if_neg (show ¬ (false = true) by decide)] at H; exact H
                clear H
                have H := H1
                clear H1
                obtain rfl := Option.some.inj H
                go_wp2
                go_ret
                exact ⟨by first | rfl | (simp [errW_none, errW_some] <;> rfl) | (simp [*, errW_none, errW_some] <;> rfl), by repeat (first | (with_reducible first | exact HB.out | apply below_alloc | apply pw_below_drewN | apply below_drew1) | exact HB.out)⟩
      · rw [if_neg c3] at H
        have c3b0 : decide (x6_1 < (l0.length : Int)) = false := decide_eq_false c3
        clear c3
        obtain rfl := Option.some.inj H
        go_wp2
        go_ret
        exact ⟨by first | rfl | (simp [errW_none, errW_some] <;> rfl) | (simp [*, errW_none, errW_some] <;> rfl), by repeat (first | (with_reducible first | exact HB.out | apply below_alloc | apply pw_below_drewN | apply below_drew1) | exact HB.out)⟩

end Go.Proofs.Ytpfjnpbcnlbhaaa.P
namespace Go.Proofs.Ytpfjnpbcnlbhaaa.P
open Go.RowKit Go.Proofs.YtpfjnpbcnlbhaaaW.PrintWords Go.Proofs.YtpfjnpbcnlbhaaaW.PrintLast Go.Proofs.YtpfjnpbcnlbhaaaW.PrintMore
attribute [local go_sem] max2_int min2_int max_two min_two max_three min_three max_four min_four   -- for this text's walks alone
set_option linter.unusedVariables false
set_option linter.unusedSimpArgs false

/-! the reference's Form, less, same -/
theorem set_mid {α : Type} (A B : List α) (x v : α) : (A ++ x :: B).set A.length v = A ++ v :: B := by
  rw [List.set_append_right _ _ (Nat.le_refl _)]; simp
theorem refmod_f {a n : Int} (hn : 0 < n) (hb : n < 4611686018427387904) : sackbutref05_mod.f a n = some (a % n) := by
  unfold sackbutref05_mod.f
  rw [if_neg (by omega), tmod_mod hn hb]
theorem tone_w {n kind k x : Int} (hk : 0 ≤ k % n ∧ k % n < 62) (hx : 0 ≤ x ∧ x < 62) (b : Bool) : wrap64 ((if b = true then wrap64 (-x) else x) + k % n) = (if b = true then -x else x) + k % n := by
  cases b
  · simp only [Bool.false_eq_true, if_false]; exact wrap_id (by omega) (by omega)
  · simp only [if_true]; rw [wrap_id (n := -x) (by omega) (by omega)]; exact wrap_id (by omega) (by omega)
def formOut (n kind k : Int) (pre : List Int) (m : Nat) : List Int := if kind / 2 % 2 = 1 then List.replicate m 0 ++ (pre.map (toneOf n kind k)).reverse else pre.map (toneOf n kind k) ++ List.replicate m 0
theorem refForm_loop (n : Nat) (hn : 1 ≤ n) (hn2 : n ≤ 62) (kind k : Int) (hk0 : 0 ≤ kind) (hk3 : kind < 4) (l : List Int) (hl : l.length < 1000) (hr : ∀ x ∈ l, 0 ≤ x ∧ x < 62) : ∀ (xs pre : List Int), l = pre ++ xs →
    Ev (fun q => sackbutref05_Form.l0 q l (n : Int) kind (k % (n : Int)) (formOut n kind k pre xs.length) l (l.length : Int) (pre.length : Int)) (formOf n kind k l) := by
  have hkr : 0 ≤ k % (n : Int) ∧ k % (n : Int) < 62 := ⟨Int.emod_nonneg _ (by omega), by have := Int.emod_lt_of_pos k (show (0 : Int) < n by omega); omega⟩
  intro xs
  induction xs with
  | nil =>
    intro pre h0
    refine Ev.succ ?_
    simp only [sackbutref05_Form.l0, if_neg (mid_end h0)]
    have e : formOut n kind k pre 0 = formOf n kind k l := by
      have : pre = l := by rw [h0]; simp
      subst this
      unfold formOut formOf
      simp
    rw [List.length_nil, e]
    exact Ev.some _
  | cons x xs ih =>
    intro pre h0
    have hx := hr x (by rw [h0]; simp)
    have hlen : l.length = pre.length + (xs.length + 1) := by rw [h0]; simp
    have hw1 : wrap64 (wrap64 ((l.length : Int) - 1) - (pre.length : Int)) = (xs.length : Int) := by
      rw [wrap_id (n := (l.length : Int) - 1) (by omega) (by omega), wrap_id (by omega) (by omega)]; omega
    have hw2 : wrap64 (-x) = -x := wrap_id (by omega) (by omega)
    have hw3 : wrap64 (-x + k % (n : Int)) = -x + k % (n : Int) := wrap_id (by omega) (by omega)
    have hw4 : wrap64 (x + k % (n : Int)) = x + k % (n : Int) := wrap_id (by omega) (by omega)
    have hol : (formOut n kind k pre (xs.length + 1)).length = l.length := by unfold formOut; split <;> (simp; omega)
    have go := ih (pre ++ [x]) (mid_mv h0)
    have hm : ∀ a : Int, sackbutref05_mod.f a (n : Int) = some (a % (n : Int)) := fun a => refmod_f (by omega) (by omega)
    have hk2 : kind / 2 % 2 = 1 ↔ kind ≥ 2 := by omega
    have ht : Int.tmod kind 2 = kind % 2 := Int.tmod_eq_emod_of_nonneg hk0
    refine Ev.succ ?_
    simp only [sackbutref05_Form.l0, List.length_cons, if_pos (mid_lt h0), if_pos (show (0 : Int) ≤ (pre.length : Int) by omega), mid_rd h0, mid_next h0 (by omega), ht, hw1, hw2, hw3, hw4, hm, Option.bind_some, hol, if_pos (show (0 : Int) ≤ (xs.length : Int) by omega), if_pos (show (xs.length : Int) < (l.length : Int) by omega), Int.toNat_natCast]
    have s2 : kind ≥ 2 → ∀ v, v = toneOf n kind k x → (formOut n kind k pre (xs.length + 1)).set xs.length v = formOut n kind k (pre ++ [x]) xs.length := by
      rintro h2 v rfl
      unfold formOut
      rw [if_pos (hk2.2 h2), if_pos (hk2.2 h2), List.replicate_succ', List.append_assoc]
      have := set_mid (List.replicate xs.length (0 : Int)) (pre.map (toneOf n kind k)).reverse 0 (toneOf n kind k x)
      rw [List.length_replicate] at this
      simp [this]
    have s1 : ¬ kind ≥ 2 → ∀ v, v = toneOf n kind k x → (formOut n kind k pre (xs.length + 1)).set pre.length v = formOut n kind k (pre ++ [x]) xs.length := by
      rintro h2 v rfl
      unfold formOut
      rw [if_neg (fun h => h2 (hk2.1 h)), if_neg (fun h => h2 (hk2.1 h)), List.replicate_succ]
      have := set_mid (pre.map (toneOf n kind k)) (List.replicate xs.length (0 : Int)) 0 (toneOf n kind k x)
      rw [List.length_map] at this
      simp [this]
    have t1 : kind % 2 = 1 → (-x + k % (n : Int)) % (n : Int) = toneOf n kind k x := fun h => by unfold toneOf; rw [if_pos h]
    have t0 : ¬ kind % 2 = 1 → (x + k % (n : Int)) % (n : Int) = toneOf n kind k x := fun h => by unfold toneOf; rw [if_neg h]
    refine Ev.ite (fun e1 => ?_) (fun e1 => ?_)
    · refine Ev.ite (fun e2 => ?_) (fun e2 => ?_)
      · rw [s2 e2 _ (t1 e1)]; exact go
      · rw [s1 e2 _ (t1 e1)]; exact go
    · refine Ev.ite (fun e2 => ?_) (fun e2 => ?_)
      · rw [s2 e2 _ (t0 e1)]; exact go
      · rw [s1 e2 _ (t0 e1)]; exact go
theorem refForm_ev (n : Nat) (hn : 1 ≤ n) (hn2 : n ≤ 62) (kind k : Int) (hk0 : 0 ≤ kind) (hk3 : kind < 4) (l : List Int) (hl : l.length < 1000) (hr : ∀ x ∈ l, 0 ≤ x ∧ x < 62) :
    Ev (fun q => sackbutref05_Form.f q l (n : Int) kind k) (formOf n kind k l) := by
  unfold sackbutref05_Form.f
  refine Ev.bind_some (refmod_f (by omega) (by omega)) ?_
  simp only [if_pos (show (0 : Int) ≤ (l.length : Int) by omega), Int.toNat_natCast, if_pos (show l.length ≤ 35184372088832 by omega)]
  have := refForm_loop n hn hn2 kind k hk0 hk3 l hl hr l [] rfl
  have e : formOut n kind k [] l.length = List.replicate l.length 0 := by unfold formOut; split <;> simp
  rw [e] at this
  exact this
def lessL : List Int → List Int → Bool
  | x :: a, y :: b => if x = y then lessL a b else decide (x < y)
  | _, _ => false
theorem less_loop (l1 l0 : List Int) (hlen : l0.length = l1.length) (hb : l0.length < 9223372036854775807) : ∀ (xs ys pre pre1 : List Int), l0 = pre ++ xs → l1 = pre1 ++ ys → pre.length = pre1.length →
    Ev (fun k => sackbutref05_less.l0 k l1 l0 (l0.length : Int) (pre.length : Int)) (lessL xs ys) := by
  intro xs
  induction xs with
  | nil =>
    intro ys pre pre1 h0 h1 hp
    refine Ev.succ ?_
    simp only [sackbutref05_less.l0, if_neg (mid_end h0)]
    cases ys <;> exact Ev.some _
  | cons x xs ih =>
    intro ys pre pre1 h0 h1 hp
    match ys, h1 with
    | [], h1 => exfalso; rw [h0, h1] at hlen; simp at hlen; omega
    | y :: ys, h1 =>
      have hrd : rd l1 (pre.length : Int) = y := by rw [hp]; exact mid_rd h1
      refine Ev.succ ?_
      simp only [sackbutref05_less.l0, if_pos (mid_lt h0), if_pos (show (0 : Int) ≤ (pre.length : Int) by omega), mid_rd h0, hrd, mid_next h0 hb, if_pos (show (pre.length : Int) < (l1.length : Int) by rw [← hlen]; exact mid_lt h0), lessL]
      refine Ev.ite (fun e => ?_) (fun e => ?_)
      · rw [if_pos e]; exact ih ys (pre ++ [x]) (pre1 ++ [y]) (mid_mv h0) (mid_mv h1) (by simp [hp])
      · rw [if_neg e]; exact Ev.some _
theorem less_ev (l0 l1 : List Int) (hlen : l0.length = l1.length) (hb : l0.length < 9223372036854775807) : Ev (fun k => sackbutref05_less.f k l0 l1) (lessL l0 l1) := less_loop l1 l0 hlen hb l0 l1 [] [] rfl rfl rfl
theorem lessL_same : ∀ (a b : List Int), a.length = b.length → ((lessL a b = false ∧ lessL b a = false) ↔ a = b)
  | [], [], _ => by simp [lessL]
  | x :: a, y :: b, h => by
    have ih := lessL_same a b (by simpa using h)
    simp only [lessL, List.cons.injEq]
    by_cases e : x = y
    · subst e; simpa using ih
    · rw [if_neg e, if_neg (fun h => e h.symm)]
      simp only [decide_eq_false_iff_not]
      constructor
      · rintro ⟨h1, h2⟩; exact absurd (by omega) e
      · rintro ⟨h1, _⟩; exact absurd h1 e
  | [], _ :: _, h => by simp at h
  | _ :: _, [], h => by simp at h
theorem same_ev (l0 l1 : List Int) (hlen : l0.length = l1.length) (hb : l0.length < 9223372036854775807) : Ev (fun k => sackbutref05_same.f k l0 l1) (decide (l0 = l1)) := by
  unfold sackbutref05_same.f
  have hs := lessL_same l0 l1 hlen
  refine Ev.bind (less_ev l0 l1 hlen hb) ?_
  cases h1 : lessL l0 l1 with
  | true =>
    have : ¬ l0 = l1 := fun e => by have := (hs.2 e).1; rw [h1] at this; cases this
    simp only [if_true, this, decide_false]
    exact Ev.some _
  | false =>
    simp only [Bool.false_eq_true, if_false]
    refine Ev.bind (less_ev l1 l0 hlen.symm (by omega)) ?_
    cases h2 : lessL l1 l0 with
    | true =>
      have : ¬ l0 = l1 := fun e => by have := (hs.2 e).2; rw [h2] at this; cases this
      simp only [this, decide_false, Bool.not_true]
      exact Ev.some _
    | false =>
      simp only [hs.1 ⟨h1, h2⟩, decide_true, Bool.not_false]
      exact Ev.some _

end Go.Proofs.Ytpfjnpbcnlbhaaa.P
namespace Go.Proofs.Ytpfjnpbcnlbhaaa.P
open Go.RowKit Go.Proofs.YtpfjnpbcnlbhaaaW.PrintWords Go.Proofs.YtpfjnpbcnlbhaaaW.PrintLast Go.Proofs.YtpfjnpbcnlbhaaaW.PrintMore
attribute [local go_sem] max2_int min2_int max_two min_two max_three min_three max_four min_four   -- for this text's walks alone
set_option linter.unusedVariables false
set_option linter.unusedSimpArgs false

/-! the reference's Made and Length -/
theorem Length_f {n : Nat} (hn1 : 1 ≤ n) (hn : n ≤ 1000) (d : Int) : sackbutref05_Length.f (n : Int) d = some (decide (LenOk n d)) := by
  unfold sackbutref05_Length.f
  by_cases h2 : d ≥ 2
  · have ht : Int.tmod (n : Int) d = (n : Int) % d := Int.tmod_eq_emod_of_nonneg (by omega)
    have h0 : ¬ d = 0 := by omega
    simp only [if_pos h2, ht, if_neg h0]
    by_cases hb : d ≤ (n : Int)
    · have hw : wrap64 (2 * d) = 2 * d := wrap_id (by omega) (by omega)
      rw [hw]
      by_cases h3 : 2 * d ≤ (n : Int)
      · rw [if_pos h3]
        by_cases h4 : (n : Int) % d = 0
        · rw [decide_eq_true (show LenOk n d from ⟨by omega, h3, h4⟩), h4]; rfl
        · rw [decide_eq_false (fun h : LenOk n d => h4 h.2.2), beq_eq_false_iff_ne.2 h4]
      · rw [if_neg h3, decide_eq_false (fun h : LenOk n d => h3 h.2.1)]
    · rw [decide_eq_false (fun h : LenOk n d => hb (by have := h.2.1; omega))]
      have h4 : ¬ (n : Int) % d = 0 := by
        rw [Int.emod_eq_of_lt (by omega) (by omega)]
        omega
      rw [beq_eq_false_iff_ne.2 h4]
      split <;> rfl
  · rw [if_neg h2, decide_eq_false (fun h : LenOk n d => h2 h.1)]
def okTo (l : List Int) (d i kind k : Nat) : Bool := (pairsTo l.length kind k).any fun p => decide (formOf l.length p.1 p.2 (l.take d) = chunkAt l d i)
theorem okTo_next (l : List Int) (d i kind k : Nat) : okTo l d i kind (k + 1) = (okTo l d i kind k || decide (formOf l.length kind k (l.take d) = chunkAt l d i)) := by
  unfold okTo; rw [← pairsTo_next, List.any_append]; simp
theorem okTo_kind (l : List Int) (d i kind : Nat) : okTo l d i kind l.length = okTo l d i (kind + 1) 0 := by unfold okTo; rw [pairsTo_kind]
theorem chunk_cut (l : List Int) (d i : Nat) : (l.take (i * d + d)).drop (i * d) = chunkAt l d i := by
  unfold chunkAt; rw [List.drop_take]; congr 1; omega
theorem refMade_l2 (l : List Int) (hr : IsRow l) (d i : Nat) (hd : 1 ≤ d) (hi : i * d + d ≤ l.length) (kind : Nat) (hk : kind < 4) (r : Bool)
    (hend : Ev (fun q => sackbutref05_Made.l1 q l (d : Int) (l.length : Int) ((i * d : Nat) : Int) (okTo l d i (kind + 1) 0) (wrap64 ((kind : Int) + 1))) r) : ∀ (m k : Nat), k + m = l.length →
    Ev (fun q => sackbutref05_Made.l2 q l (d : Int) (l.length : Int) ((i * d : Nat) : Int) (okTo l d i kind k) (kind : Int) (kind : Int) (l.length : Int) (k : Int)) r := by
  have h1 := hr.1; have h2 := hr.2.1
  intro m
  induction m with
  | zero =>
    intro k hkm
    have hkn : k = l.length := by omega
    refine Ev.succ ?_
    simp only [sackbutref05_Made.l2, if_neg (show ¬ (k : Int) < (l.length : Int) by omega)]
    rw [hkn, okTo_kind]
    exact hend
  | succ m ih =>
    intro k hkm
    have hw : wrap64 ((k : Int) + 1) = ((k + 1 : Nat) : Int) := by rw [wrap_id (by omega) (by omega)]; omega
    have hw2 : wrap64 (((i * d : Nat) : Int) + (d : Int)) = ((i * d + d : Nat) : Int) := by rw [wrap_id (by omega) (by omega)]; omega
    have go := ih (k + 1) (by omega)
    rw [okTo_next] at go
    refine Ev.succ ?_
    simp only [sackbutref05_Made.l2, if_pos (show (k : Int) < (l.length : Int) by omega), hw]
    cases hok : okTo l d i kind k with
    | true =>
      rw [hok, Bool.true_or] at go
      simp only [if_true]
      exact go
    | false =>
      rw [hok, Bool.false_or] at go
      simp only [Bool.false_eq_true, if_false, if_pos (show (0 : Int) ≤ (d : Int) by omega), if_pos (show (d : Int) ≤ (l.length : Int) by omega), Int.toNat_natCast]
      have hxl : (l.take d).length = d := by rw [List.length_take]; omega
      have hcl : (chunkAt l d i).length = d := by unfold chunkAt; rw [List.length_take, List.length_drop]; omega
      refine Ev.bind (refForm_ev l.length (by omega) (by omega) kind k (by omega) (by omega) (l.take d) (by omega) (fun x hx => row_small hr x (List.mem_of_mem_take hx))) ?_
      simp only [hw2, if_pos (show (0 : Int) ≤ ((i * d : Nat) : Int) by omega), if_pos (show ((i * d : Nat) : Int) ≤ ((i * d + d : Nat) : Int) by omega), if_pos (show ((i * d + d : Nat) : Int) ≤ (l.length : Int) by omega), Int.toNat_natCast, chunk_cut]
      refine Ev.bind (same_ev _ _ (by rw [formOf_length, hxl, hcl]) (by rw [formOf_length]; omega)) ?_
      exact go
theorem refMade_l1 (l : List Int) (hr : IsRow l) (d i : Nat) (hd : 1 ≤ d) (hi : i * d + d ≤ l.length) (r : Bool) (hgood : partOk l d i = true → Ev (fun q => sackbutref05_Made.l0 q l (d : Int) (l.length : Int) ((i * d + d : Nat) : Int)) r) (hbad : partOk l d i = false → r = false) : ∀ (m kind : Nat), kind + m = 4 →
    Ev (fun q => sackbutref05_Made.l1 q l (d : Int) (l.length : Int) ((i * d : Nat) : Int) (okTo l d i kind 0) (kind : Int)) r := by
  have h1 := hr.1; have h2 := hr.2.1
  intro m
  induction m with
  | zero =>
    intro kind hk
    have : kind = 4 := by omega
    subst this
    have hw2 : wrap64 (((i * d : Nat) : Int) + (d : Int)) = ((i * d + d : Nat) : Int) := by rw [wrap_id (by omega) (by omega)]; omega
    refine Ev.succ ?_
    simp only [sackbutref05_Made.l1, if_neg (show ¬ ((4 : Nat) : Int) < 4 by decide), hw2]
    have e : okTo l d i 4 0 = partOk l d i := rfl
    rw [e]
    cases hp : partOk l d i with
    | true => simp only [if_true]; exact hgood hp
    | false => simp only [Bool.false_eq_true, if_false]; rw [hbad hp]; exact Ev.some _
  | succ m ih =>
    intro kind hk
    have hw : wrap64 ((kind : Int) + 1) = ((kind + 1 : Nat) : Int) := by rw [wrap_id (by omega) (by omega)]; omega
    refine Ev.succ ?_
    simp only [sackbutref05_Made.l1, if_pos (show (kind : Int) < 4 by omega)]
    refine refMade_l2 l hr d i hd hi kind (by omega) r ?_ l.length 0 (by omega)
    rw [hw]
    exact ih (kind + 1) (by omega)
theorem refMade_l0 (l : List Int) (hr : IsRow l) (d : Nat) (hd : 1 ≤ d) (M : Nat) (hM : M * d = l.length) : ∀ (m i : Nat), i + m = M →
    Ev (fun q => sackbutref05_Made.l0 q l (d : Int) (l.length : Int) ((i * d : Nat) : Int)) ((List.range' i m).all (partOk l d)) := by
  have h1 := hr.1; have h2 := hr.2.1
  intro m
  induction m with
  | zero =>
    intro i hi
    have : i = M := by omega
    subst this
    refine Ev.succ ?_
    simp only [sackbutref05_Made.l0, if_neg (show ¬ ((i * d : Nat) : Int) < (l.length : Int) by omega)]
    exact Ev.some _
  | succ m ih =>
    intro i hi
    have hle : i * d + d ≤ l.length := by
      have : (i + 1) * d ≤ M * d := Nat.mul_le_mul_right d (by omega)
      rw [Nat.add_mul, Nat.one_mul] at this; omega
    refine Ev.succ ?_
    simp only [sackbutref05_Made.l0, if_pos (show ((i * d : Nat) : Int) < (l.length : Int) by omega)]
    have e : okTo l d i 0 0 = false := by simp [okTo, pairsTo]
    rw [List.range'_succ, List.all_cons]
    have := refMade_l1 l hr d i hd hle (partOk l d i && (List.range' (i + 1) m).all (partOk l d)) (fun hp => by
      rw [hp, Bool.true_and]
      have := ih (i + 1) (by omega)
      rw [Nat.add_mul, Nat.one_mul] at this
      exact this) (fun hp => by rw [hp, Bool.false_and]) 4 0 (by omega)
    rw [e] at this
    exact this
theorem refMade_ev (l : List Int) (hr : IsRow l) (d : Nat) (hd : LenOk l.length d) : Ev (fun q => sackbutref05_Made.f q l (d : Int)) (madeL l d) := by
  unfold sackbutref05_Made.f madeL
  obtain ⟨h2, h3, h4⟩ := hd
  have hM : l.length / d * d = l.length := Nat.div_mul_cancel (Nat.dvd_of_mod_eq_zero (by omega))
  have := refMade_l0 l hr d (by omega) (l.length / d) hM (l.length / d) 0 (by omega)
  rw [List.range_eq_range']
  simpa using this
theorem Made_f (l : List Int) (d : Int) : rows_Made.f l d = some (if IsRow l ∧ LenOk l.length d then (madeL l d.toNat, 0) else (false, 2)) := by
  unfold rows_Made.f; split <;> rfl

end Go.Proofs.Ytpfjnpbcnlbhaaa.P
namespace Go.Proofs.Ytpfjnpbcnlbhaaa.P
open Go.RowKit Go.Proofs.YtpfjnpbcnlbhaaaW.PrintWords Go.Proofs.YtpfjnpbcnlbhaaaW.PrintLast Go.Proofs.YtpfjnpbcnlbhaaaW.PrintMore
attribute [local go_sem] max2_int min2_int max_two min_two max_three min_three max_four min_four   -- for this text's walks alone
set_option linter.unusedVariables false
set_option linter.unusedSimpArgs false

/-! steps -/
def stepsOf (n : Int) : List Int → List Int
  | x :: y :: r => (y - x) % n :: stepsOf n (y :: r)
  | _ => []
theorem row_bounds {l : List Int} (h : IsRow l) : ∀ x ∈ l, 0 ≤ x ∧ x < 4611686018427387904 := fun x hx => by have := h.2.2.1 x hx; have := h.2.1; omega
theorem steps_loop (l : List Int) (n : Nat) (hn : n = l.length) (h1 : 1 ≤ n) (hb : n ≤ 62) (hr : ∀ x ∈ l, 0 ≤ x ∧ x < 4611686018427387904) : ∀ (xs pre : List Int) (p : Int) (acc : List Int), l = pre ++ p :: xs → acc.length = pre.length →
    Ev (fun k => rows_row_steps.l0 k l acc ((pre.length : Int) + 1)) (acc ++ stepsOf n (p :: xs)) := by
  intro xs
  induction xs with
  | nil =>
    intro pre p acc h0 ha
    refine Ev.succ ?_
    have : ¬ ((pre.length : Int) + 1 < (l.length : Int)) := by subst h0; simp
    simp only [rows_row_steps.l0, if_neg this, stepsOf, List.append_nil]
    exact Ev.some _
  | cons x xs ih =>
    intro pre p acc h0 ha
    have hm : l = (pre ++ [p]) ++ x :: xs := mid_mv h0
    have hi : ((pre.length : Int) + 1) = ((pre ++ [p]).length : Int) := by simp
    have hlen : pre.length + 1 < l.length := by rw [h0]; simp
    have hw : wrap64 ((pre.length : Int) + 1 - 1) = (pre.length : Int) := by rw [wrap_id (by omega) (by omega)]; omega
    have hx := hr x (by rw [hm]; simp)
    have hp := hr p (by rw [h0]; simp)
    have hs : wrap64 (x - p) = x - p := wrap_id (by omega) (by omega)
    have hlt : ((pre.length : Int) + 1 < (l.length : Int)) := by omega
    refine Ev.succ ?_
    simp only [rows_row_steps.l0, if_pos hlt, if_pos (show (0 : Int) ≤ (pre.length : Int) + 1 by omega), hw, if_pos (show (0 : Int) ≤ (pre.length : Int) by omega), if_pos (mid_lt h0), mid_rd h0]
    rw [hi]
    simp only [mid_rd hm, hs, rows_mod_f (show (0 : Int) < (l.length : Int) by omega) (show (l.length : Int) < 4611686018427387904 by omega), Option.bind_some, if_pos (show acc.length < 17592186044416 by omega), mid_next hm (by omega)]
    have := ih (pre ++ [p]) x (acc ++ [(x - p) % (l.length : Int)]) hm (by simp [ha])
    have e : ((pre ++ [p] ++ [x]).length : Int) = ((pre ++ [p]).length : Int) + 1 := by simp; omega
    rw [e]
    simpa [stepsOf, hn] using this
theorem steps_ev (l : List Int) (h1 : 1 ≤ l.length) (hb : l.length ≤ 62) (hr : ∀ x ∈ l, 0 ≤ x ∧ x < 4611686018427387904) : Ev (fun k => rows_row_steps.f k l) (stepsOf l.length l) := by
  cases l with
  | nil => simp at h1
  | cons p xs => exact steps_loop (p :: xs) _ rfl h1 hb hr xs [] p [] rfl rfl
theorem Steps_ev (l : List Int) : Ev (fun k => rows_Steps.f k l) (if IsRow l then (stepsOf l.length l, 0) else ([], 2)) := by
  unfold rows_Steps.f
  refine Ev.bind (valid_ev l) ?_
  by_cases h : IsRow l
  · simp only [h, decide_true, if_true]
    have h1 := h.1; have h2 := h.2.1
    exact Ev.bind (steps_ev l (by omega) (by omega) (row_bounds h)) (Ev.some _)
  · simp only [h, decide_false, if_false]
    exact Ev.some _

end Go.Proofs.Ytpfjnpbcnlbhaaa.P
