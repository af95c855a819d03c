/- Proved here: the Go function sackbutlaw05.RowsWays returns true for every input (its printed form comes to true), whatever its arguments. Conditions: none beyond the row's own reach in memory. -/
import Derived.Test.YtpfjnpbcnlbhaaaRows
import Derived.WalkKit
import Derived.ProofKit
import Derived.OpenShut
import Derived.ShutString
import Derived.ChangeOld
import Derived.Below
import Derived.SizedLaws
import Derived.Test.YtpfjnpbcnlbhaaaWSized
import Derived.Test.YtpfjnpbcnlbhaaaCRowsWays1
import Derived.Test.YtpfjnpbcnlbhaaaCRowsWays2
import Derived.Test.YtpfjnpbcnlbhaaaCRowsWays3
import Derived.Test.YtpfjnpbcnlbhaaaCRowsWays4
import Derived.Test.YtpfjnpbcnlbhaaaCRowsWays5
namespace Go.Proofs.Ytpfjnpbcnlbhaaa.P
open Go.RowKit Go.Proofs.YtpfjnpbcnlbhaaaW.PrintWords Go.Proofs.YtpfjnpbcnlbhaaaW.PrintLast Go.Proofs.YtpfjnpbcnlbhaaaW.PrintMore
attribute [local go_sem] max2_int min2_int max_two min_two max_three min_three max_four min_four   -- for this text's walks alone
set_option linter.unusedVariables false
set_option linter.unusedSimpArgs false

attribute [local go_sem high] eqA37
/-! ### sackbutlaw05_RowsWays: function 5 -/
def sackbutlaw05_RowsWays.j0 : Nat → List Int → List Int → Int → Bool → Int → Int → Option (Bool)
  | 0, _, _, _, _, _, _ => none
  | k + 1, x0, x1, x6, x31, x1011000, x1011001 => if x31 = true then (if (x1011000 == 0 && (x1011001 == 0)) = true then (if x6 = 2 then ((sackbutlaw05_awake.f k).bind fun t1013 => (some t1013)) else (some false)) else (some false)) else ((sackbutref05_Way.f k x0 x1).bind fun bt1014 => (if (x1011000 == bt1014.1 && (x1011001 == bt1014.2.1)) = true then (if x6 = bt1014.2.2 then ((sackbutlaw05_awake.f k).bind fun t1018 => (some t1018)) else (some false)) else (some false)))
def sackbutlaw05_RowsWays.f (k : Nat) (l0 : List Int) (l1 : List Int) : Option (Bool) := (sackbutlaw05_list.f l0).bind fun t1001 => ((sackbutlaw05_list.f l1).bind fun t1004 => ((rows_Way.f t1001 t1004).bind fun bt1007 => ((sackbutref05_Row.f k l0).bind fun t1011 => (if t1011 = true then ((sackbutref05_Row.f k l1).bind fun t1012 => (if t1012 = true then (sackbutlaw05_RowsWays.j0 k l0 l1 bt1007.2.2 ((l0.length : Int) != (l1.length : Int)) bt1007.1 bt1007.2.1) else (sackbutlaw05_RowsWays.j0 k l0 l1 bt1007.2.2 true bt1007.1 bt1007.2.1))) else (sackbutlaw05_RowsWays.j0 k l0 l1 bt1007.2.2 true bt1007.1 bt1007.2.1)))))
theorem sackbutlaw05_RowsWays.mono_l : ∀ k, (∀ y0 y1 y2 y3 y4 y5, LeO (sackbutlaw05_RowsWays.j0 k y0 y1 y2 y3 y4 y5) (sackbutlaw05_RowsWays.j0 (k + 1) y0 y1 y2 y3 y4 y5))
  | 0 => fun _ _ _ _ _ _ r h => by simp [sackbutlaw05_RowsWays.j0] at h
  | k + 1 => by
    have ih0 := sackbutlaw05_RowsWays.mono_l k
    · intro y0 y1 y2 y3 y4 y5
      unfold sackbutlaw05_RowsWays.j0
      repeat' first
      | (with_reducible exact ih0 _ _ _ _ _ _)
      | (with_reducible exact sackbutlaw05_awake.mono _)
      | (with_reducible exact sackbutref05_Row.mono _ _)
      | (with_reducible exact sackbutref05_Way.mono _ _ _)
      | (with_reducible exact LeO.refl _)
      | (with_reducible exact LeO.none _)
      | (with_reducible refine LeO.ite ?_ ?_)
      | (with_reducible refine LeO.bind ?_ (fun _ => ?_))
      | exact ih0 _ _ _ _ _ _
      | exact sackbutlaw05_awake.mono _
      | exact sackbutref05_Row.mono _ _
      | exact sackbutref05_Way.mono _ _ _
      | exact LeO.none _
      | refine LeO.ite ?_ ?_
      | refine LeO.bind ?_ (fun _ => ?_)
theorem sackbutlaw05_RowsWays.mono : ∀ a0 a1 k, LeO (sackbutlaw05_RowsWays.f k a0 a1) (sackbutlaw05_RowsWays.f (k + 1) a0 a1) := by
  intro a0 a1 k
  have ih0 := sackbutlaw05_RowsWays.mono_l k
  unfold sackbutlaw05_RowsWays.f
  repeat' first
      | (with_reducible exact ih0 _ _ _ _ _ _)
      | (with_reducible exact sackbutlaw05_awake.mono _)
      | (with_reducible exact sackbutref05_Row.mono _ _)
      | (with_reducible exact sackbutref05_Way.mono _ _ _)
      | (with_reducible exact LeO.refl _)
      | (with_reducible exact LeO.none _)
      | (with_reducible refine LeO.ite ?_ ?_)
      | (with_reducible refine LeO.bind ?_ (fun _ => ?_))
      | exact ih0 _ _ _ _ _ _
      | exact sackbutlaw05_awake.mono _
      | exact sackbutref05_Row.mono _ _
      | exact sackbutref05_Way.mono _ _ _
      | exact LeO.none _
      | refine LeO.ite ?_ ?_
      | refine LeO.bind ?_ (fun _ => ?_)
set_option maxHeartbeats 8000000 in
set_option maxRecDepth 100000 in
theorem sackbutlaw05_RowsWays.calls (k : Nat) (A0 : Option Addr) (c0 : Nat) (l0 : List Int) (A1 : Option Addr) (c1 : Nat) (l1 : List Int) (r : Bool) (w : World) (hr0 : Kd.C (Kd.int .i64) w A0 l0.length l0) (hc0 : l0.length ≤ c0) (hr1 : Kd.C (Kd.int .i64) w A1 l1.length l1) (hc1 : l1.length ≤ c1) (h : sackbutlaw05_RowsWays.f k l0 l1 = some r) :
    Calls Try.prog 5 #[.slice A0 l0.length c0, .slice A1 l1.length c1] w fun e w' => e = .returned (.bool r) ∧ Below w.heap.size w w' := by
  have hu37 := Try.underlying37
  have HR0 := Aside0.mk hr0
  have HC0 := Aside0.mk hc0
  clear hr0 hc0
  have HR1 := Aside0.mk hr1
  have HC1 := Aside0.mk hc1
  clear hr1 hc1
  have HB := Aside0.mk (Below.refl w.heap.size w)
  have H : ((sackbutlaw05_list.f l0).bind fun t1001 => ((sackbutlaw05_list.f l1).bind fun t1004 => ((rows_Way.f t1001 t1004).bind fun bt1007 => ((sackbutref05_Row.f k l0).bind fun t1011 => (if t1011 = true then ((sackbutref05_Row.f k l1).bind fun t1012 => (if t1012 = true then (sackbutlaw05_RowsWays.j0 k l0 l1 bt1007.2.2 ((l0.length : Int) != (l1.length : Int)) bt1007.1 bt1007.2.1) else (sackbutlaw05_RowsWays.j0 k l0 l1 bt1007.2.2 true bt1007.1 bt1007.2.1))) else (sackbutlaw05_RowsWays.j0 k l0 l1 bt1007.2.2 true bt1007.1 bt1007.2.1)))))) = some r := h
  clear h
  replace H := Option.bind_eq_some_iff.mp H
  obtain ⟨t1001, A30, H⟩ := H
  replace H : ((sackbutlaw05_list.f l1).bind fun t1004 => ((rows_Way.f t1001 t1004).bind fun bt1007 => ((sackbutref05_Row.f k l0).bind fun t1011 => (if t1011 = true then ((sackbutref05_Row.f k l1).bind fun t1012 => (if t1012 = true then (sackbutlaw05_RowsWays.j0 k l0 l1 bt1007.2.2 ((l0.length : Int) != (l1.length : Int)) bt1007.1 bt1007.2.1) else (sackbutlaw05_RowsWays.j0 k l0 l1 bt1007.2.2 true bt1007.1 bt1007.2.1))) else (sackbutlaw05_RowsWays.j0 k l0 l1 bt1007.2.2 true bt1007.1 bt1007.2.1))))) = some r := H
  have A3 := Aside0.mk A30
  clear A30
  replace H := Option.bind_eq_some_iff.mp H
  obtain ⟨t1004, A40, H⟩ := H
  replace H : ((rows_Way.f t1001 t1004).bind fun bt1007 => ((sackbutref05_Row.f k l0).bind fun t1011 => (if t1011 = true then ((sackbutref05_Row.f k l1).bind fun t1012 => (if t1012 = true then (sackbutlaw05_RowsWays.j0 k l0 l1 bt1007.2.2 ((l0.length : Int) != (l1.length : Int)) bt1007.1 bt1007.2.1) else (sackbutlaw05_RowsWays.j0 k l0 l1 bt1007.2.2 true bt1007.1 bt1007.2.1))) else (sackbutlaw05_RowsWays.j0 k l0 l1 bt1007.2.2 true bt1007.1 bt1007.2.1)))) = some r := H
  have A4 := Aside0.mk A40
  clear A40
  replace H := Option.bind_eq_some_iff.mp H
  obtain ⟨⟨t1007, t1008, t1009⟩, A50, H⟩ := H
  replace H : ((sackbutref05_Row.f k l0).bind fun t1011 => (if t1011 = true then ((sackbutref05_Row.f k l1).bind fun t1012 => (if t1012 = true then (sackbutlaw05_RowsWays.j0 k l0 l1 t1009 ((l0.length : Int) != (l1.length : Int)) t1007 t1008) else (sackbutlaw05_RowsWays.j0 k l0 l1 t1009 true t1007 t1008))) else (sackbutlaw05_RowsWays.j0 k l0 l1 t1009 true t1007 t1008))) = some r := H
  have A5 := Aside0.mk A50
  clear A50
  have HC6 := Aside0.mk H
  clear H
  go_enter Try.func5, Try.ntmps5
  go_upto_region 2 with (first | ((with_reducible refine gate_callee (f := 16) rfl ?_); refine goesL_ (some 11) rfl rfl Try.func16 (by kernel_rfl) rfl #[.slice A0 l0.length c0] rfl (by (try simp only [List.map_toArray, List.map_cons, List.map_nil]); first | done | rfl | (simp only [List.length_drop, List.length_take]; rfl)) ?_; (with_reducible refine (sackbutlaw05_list.calls _ _ l0 t1001 _ ?side1 ?side2 A3.out).mono ?_); (case side1 => repeat (first | exact HR0.out | (with_reducible refine Kd.C_alloc ?_ _) | (with_reducible refine Kd.C_drewN ?_ _) | (with_reducible refine Kd.C_drew ?_))); (case side2 => exact HC0.out); rintro e w7 ⟨v1002, rfl, ho0, hb⟩; refine ⟨_, rfl, ?_⟩; have n0_ := Aside0.mk (Kd.R_lower ho0 (below_size (by repeat (first | (with_reducible first | exact HB.out | apply below_alloc | apply pw_below_drewN | apply below_drew1) | exact HB.out)))); have n1_ := Aside0.mk (below_step (by repeat (first | (with_reducible first | exact HB.out | apply below_alloc | apply pw_below_drewN | apply below_drew1) | exact HB.out)) hb); clear HB; have HO1003 := n0_; have HB := n1_; clear n0_ n1_; (try clear hb); (try clear hb2); (try clear hk); (try clear hi); (try clear ho0)) | ((with_reducible refine gate_callee (f := 16) rfl ?_); refine goesL_ (some 13) rfl rfl Try.func16 (by kernel_rfl) rfl #[.slice A1 l1.length c1] rfl (by (try simp only [List.map_toArray, List.map_cons, List.map_nil]); first | done | rfl | (simp only [List.length_drop, List.length_take]; rfl)) ?_; (with_reducible refine (sackbutlaw05_list.calls _ _ l1 t1004 _ ?side1 ?side2 A4.out).mono ?_); (case side1 => repeat (first | exact (Kd.C_below HR1.out HB.out) | (with_reducible refine Kd.C_alloc ?_ _) | (with_reducible refine Kd.C_drewN ?_ _) | (with_reducible refine Kd.C_drew ?_))); (case side2 => exact HC1.out); rintro e w8 ⟨v1005, rfl, ho0, hb⟩; refine ⟨_, rfl, ?_⟩; have n0_ := Aside0.mk (Kd.R_elder' (by (with_reducible repeat (first | apply Kd.R_alloc | apply Kd.R_drewN | apply Kd.R_drew)); exact HO1003.out) (Kd.R_base ho0) hb); have n1_ := Aside0.mk (Kd.R_lower (Kd.R_new' ho0 (Kd.R_lt (by (with_reducible repeat (first | apply Kd.R_alloc | apply Kd.R_drewN | apply Kd.R_drew)); exact HO1003.out))) (below_size (by repeat (first | (with_reducible first | exact HB.out | apply below_alloc | apply pw_below_drewN | apply below_drew1) | exact HB.out)))); have n2_ := Aside0.mk (below_step (by repeat (first | (with_reducible first | exact HB.out | apply below_alloc | apply pw_below_drewN | apply below_drew1) | exact HB.out)) hb); clear HO1003; clear HB; have HO1003 := n0_; have HO1006 := n1_; have HB := n2_; clear n0_ n1_ n2_; (try clear hb); (try clear hb2); (try clear hk); (try clear hi); (try clear ho0); obtain ⟨Ao9, co9, eo9⟩ := Kd.R_slice HO1003.out; subst eo9; obtain ⟨Ao10, co10, eo10⟩ := Kd.R_slice HO1006.out; subst eo10) | ((with_reducible refine gate_callee (f := 25) rfl ?_); refine goesL_ (some 14) rfl rfl Try.func25 (by kernel_rfl) rfl #[.slice Ao9 t1001.length co9, .slice Ao10 t1004.length co10] rfl (by (try simp only [List.map_toArray, List.map_cons, List.map_nil]); first | done | rfl | (simp only [List.length_drop, List.length_take]; rfl)) ?_; (with_reducible refine (rows_Way.calls _ _ t1001 _ _ t1004 t1007 t1008 t1009 _ ?side1 ?side2 ?side3 ?side4 A5.out).mono ?_); (case side1 => repeat (first | exact (Kd.R_reads' HO1003.out).2.2 | (with_reducible refine Kd.C_alloc ?_ _) | (with_reducible refine Kd.C_drewN ?_ _) | (with_reducible refine Kd.C_drew ?_))); (case side2 => exact (Kd.R_reads' HO1003.out).2.1); (case side3 => repeat (first | exact (Kd.R_reads' HO1006.out).2.2 | (with_reducible refine Kd.C_alloc ?_ _) | (with_reducible refine Kd.C_drewN ?_ _) | (with_reducible refine Kd.C_drew ?_))); (case side4 => exact (Kd.R_reads' HO1006.out).2.1); rintro e w11 ⟨rfl, hb⟩; refine ⟨_, rfl, ?_⟩; have n0_ := Aside0.mk (Kd.R_below (by (with_reducible repeat (first | apply Kd.R_alloc | apply Kd.R_drewN | apply Kd.R_drew)); exact HO1003.out) hb); have n1_ := Aside0.mk (Kd.R_below (by (with_reducible repeat (first | apply Kd.R_alloc | apply Kd.R_drewN | apply Kd.R_drew)); exact HO1006.out) hb); have n2_ := Aside0.mk (below_step (by repeat (first | (with_reducible first | exact HB.out | apply below_alloc | apply pw_below_drewN | apply below_drew1) | exact HB.out)) hb); clear HO1003; clear HO1006; clear HB; have HO1003 := n0_; have HO1006 := n1_; have HB := n2_; clear n0_ n1_ n2_; (try clear hb); (try clear hb2); (try clear hk); (try clear hi)) | ((with_reducible refine gate_dst (N := 5) rfl ?_); (try (refine gate_guard (by rfl) ?_; dsimp only)); refine box_event ?hg (N := 5) ?hd (cs := #[.int .i64 0, .int .i64 0]) (t := 37) ?hr ?_; (case hd => rfl); (case hg => rfl); (case hr => first | (go_simp; done) | (go_simp; rfl)); intro gb1010 hg w12 hbox hb; have n0_ := Aside0.mk (Kd.R_below (by (with_reducible repeat (first | apply Kd.R_alloc | apply Kd.R_drewN | apply Kd.R_drew)); exact HO1003.out) hb); have n1_ := Aside0.mk (Kd.R_below (by (with_reducible repeat (first | apply Kd.R_alloc | apply Kd.R_drewN | apply Kd.R_drew)); exact HO1006.out) hb); have n2_ := Aside0.mk (below_step (by repeat (first | (with_reducible first | exact HB.out | apply below_alloc | apply pw_below_drewN | apply below_drew1) | exact HB.out)) hb); have n3_ := Aside0.mk (hbox); have n4_ := Aside0.mk ((by rw [hg]; exact (below_size (by repeat (first | (with_reducible first | exact HB.out | apply below_alloc | apply pw_below_drewN | apply below_drew1) | exact HB.out))) : w.heap.size ≤ gb1010)); have n5_ := Aside0.mk ((by rw [hg]; exact (below_size (by repeat (first | (with_reducible first | exact HB.out | apply below_alloc | apply pw_below_drewN | apply below_drew1) | exact HB.out))) : w.heap.size ≤ gb1010)); clear HO1003; clear HO1006; clear HB; have HO1003 := n0_; have HO1006 := n1_; have HB := n2_; have BK1010 := n3_; have GW1010 := n4_; have GE1010 := n5_; clear n0_ n1_ n2_ n3_ n4_ n5_; clear hb hbox hg; have hcz13_0 : w12.cell? ⟨gb1010, 0, none⟩ = some (.int .i64 0) := (blk_cell BK1010.out 0).trans rfl; have hcz13_1 : w12.cell? ⟨gb1010, 1, none⟩ = some (.int .i64 0) := (blk_cell BK1010.out 1).trans rfl; have hfz13_0 := blk_frozen BK1010.out 0; have hfz13_1 := blk_frozen BK1010.out 1))
  (try simp only [Act.put, List.setIfInBounds_toArray, List.set_cons_zero, List.set_cons_succ])
  go_cut [31] (fun v31 wc => ∃ (kq : Nat) (x31_5 : Bool), v31 = .bool x31_5 ∧ Aside0 (sackbutlaw05_RowsWays.j0 kq l0 l1 t1009 x31_5 t1007 t1008 = some r) ∧ Aside0 (kq ≤ k) ∧ Aside0 (wc.heap[gb1010]? = some (.cells #[.int .i64 t1007, .int .i64 t1008] 37 (0, 0))) ∧ Aside0 (Below w.heap.size w wc))
  case first =>
    have H := HC6.out
    clear HC6
    replace H := Option.bind_eq_some_iff.mp H
    obtain ⟨t1011, A140, H⟩ := H
    replace H : (if t1011 = true then ((sackbutref05_Row.f k l1).bind fun t1012 => (if t1012 = true then (sackbutlaw05_RowsWays.j0 k l0 l1 t1009 ((l0.length : Int) != (l1.length : Int)) t1007 t1008) else (sackbutlaw05_RowsWays.j0 k l0 l1 t1009 true t1007 t1008))) else (sackbutlaw05_RowsWays.j0 k l0 l1 t1009 true t1007 t1008)) = some r := H
    have A14 := Aside0.mk A140
    clear A140
    by_cases c15 : t1011 = true
    · subst c15
      have H1 : ((sackbutref05_Row.f k l1).bind fun t1012 => (if t1012 = true then (sackbutlaw05_RowsWays.j0 k l0 l1 t1009 ((l0.length : Int) != (l1.length : Int)) t1007 t1008) else (sackbutlaw05_RowsWays.j0 k l0 l1 t1009 true t1007 t1008))) = some r := by rw [if_pos rfl] at H; exact H
      clear H
      have H := H1
      clear H1
      replace H := Option.bind_eq_some_iff.mp H
      obtain ⟨t1012, A160, H⟩ := H
      replace H : (if t1012 = true then (sackbutlaw05_RowsWays.j0 k l0 l1 t1009 ((l0.length : Int) != (l1.length : Int)) t1007 t1008) else (sackbutlaw05_RowsWays.j0 k l0 l1 t1009 true t1007 t1008)) = some r := H
      have A16 := Aside0.mk A160
      clear A160
      by_cases c17 : t1012 = true
      · subst c17
        have H1 : (sackbutlaw05_RowsWays.j0 k l0 l1 t1009 ((l0.length : Int) != (l1.length : Int)) t1007 t1008) = some r := by rw [if_pos rfl] at H; exact H
        clear H
        have H := H1
        clear H1
        have H' := Aside0.mk H
        clear H
        go_wp2_with (first | ((with_reducible refine gate_callee (f := 18) rfl ?_); refine goesL_ (some 18) rfl rfl Try.func18 (by kernel_rfl) rfl #[.slice A0 l0.length c0] rfl (by (try simp only [List.map_toArray, List.map_cons, List.map_nil]); first | done | rfl | (simp only [List.length_drop, List.length_take]; rfl)) ?_; (with_reducible refine (sackbutref05_Row.calls k _ _ l0 true _ ?side1 ?side2 A14.out).mono ?_); (case side1 => exact Kd.C_below HR0.out (by repeat (first | (with_reducible first | exact HB.out | apply below_alloc | apply pw_below_drewN | apply below_drew1 | refine below_set ?_ GE1010.out) | exact HB.out))); (case side2 => exact HC0.out); rintro e w' ⟨rfl, ⟨nd, rfl⟩⟩; refine ⟨_, rfl, ?_⟩) | (go_at_call 18; (with_reducible refine (sackbutref05_Row.calls k _ _ l1 true _ ?side1 ?side2 A16.out).mono ?_); (case side1 => exact Kd.C_below HR1.out (by repeat (first | (with_reducible first | exact HB.out | apply below_alloc | apply pw_below_drewN | apply below_drew1 | refine below_set ?_ GE1010.out) | exact HB.out))); (case side2 => exact HC1.out); rintro e w' ⟨rfl, ⟨nd, rfl⟩⟩))
        go_meet
        case rel => exact ⟨_, (((l0.length : Int) != (l1.length : Int))), (by first | rfl | (simp; done) | (simp [*]; done)), H', ⟨by first | omega | exact Nat.le_refl _⟩, ⟨by (with_reducible repeat (first | refine blk_drewN ?_ _ | refine blk_drew ?_ | refine blk_alloc ?_ _)); refine blk_put (cs := #[.int .i64 t1007, .int .i64 0]) ?_ 1 _ rfl; (with_reducible repeat (first | refine blk_drewN ?_ _ | refine blk_drew ?_ | refine blk_alloc ?_ _)); refine blk_put (cs := #[.int .i64 0, .int .i64 0]) ?_ 0 _ rfl; (with_reducible repeat (first | refine blk_drewN ?_ _ | refine blk_drew ?_ | refine blk_alloc ?_ _)); exact BK1010.out⟩, ⟨by repeat (first | (with_reducible first | exact HB.out | apply below_alloc | apply pw_below_drewN | apply below_drew1 | refine below_set ?_ GE1010.out) | exact HB.out)⟩⟩
      · replace c17 := Bool.eq_false_iff.mpr c17
        subst c17
        have H1 : (sackbutlaw05_RowsWays.j0 k l0 l1 t1009 true t1007 t1008) = some r := by rw [if_neg (show ¬ (false = true) by decide)] at H; exact H
        clear H
        have H := H1
        clear H1
        have H' := Aside0.mk H
        clear H
        go_wp2_with (first | ((with_reducible refine gate_callee (f := 18) rfl ?_); refine goesL_ (some 18) rfl rfl Try.func18 (by kernel_rfl) rfl #[.slice A0 l0.length c0] rfl (by (try simp only [List.map_toArray, List.map_cons, List.map_nil]); first | done | rfl | (simp only [List.length_drop, List.length_take]; rfl)) ?_; (with_reducible refine (sackbutref05_Row.calls k _ _ l0 true _ ?side1 ?side2 A14.out).mono ?_); (case side1 => exact Kd.C_below HR0.out (by repeat (first | (with_reducible first | exact HB.out | apply below_alloc | apply pw_below_drewN | apply below_drew1 | refine below_set ?_ GE1010.out) | exact HB.out))); (case side2 => exact HC0.out); rintro e w' ⟨rfl, ⟨nd, rfl⟩⟩; refine ⟨_, rfl, ?_⟩) | (go_at_call 18; (with_reducible refine (sackbutref05_Row.calls k _ _ l1 false _ ?side1 ?side2 A16.out).mono ?_); (case side1 => exact Kd.C_below HR1.out (by repeat (first | (with_reducible first | exact HB.out | apply below_alloc | apply pw_below_drewN | apply below_drew1 | refine below_set ?_ GE1010.out) | exact HB.out))); (case side2 => exact HC1.out); rintro e w' ⟨rfl, ⟨nd, rfl⟩⟩))
        go_meet
        case rel => exact ⟨_, (true), (by first | rfl | (simp; done) | (simp [*]; done)), H', ⟨by first | omega | exact Nat.le_refl _⟩, ⟨by (with_reducible repeat (first | refine blk_drewN ?_ _ | refine blk_drew ?_ | refine blk_alloc ?_ _)); refine blk_put (cs := #[.int .i64 t1007, .int .i64 0]) ?_ 1 _ rfl; (with_reducible repeat (first | refine blk_drewN ?_ _ | refine blk_drew ?_ | refine blk_alloc ?_ _)); refine blk_put (cs := #[.int .i64 0, .int .i64 0]) ?_ 0 _ rfl; (with_reducible repeat (first | refine blk_drewN ?_ _ | refine blk_drew ?_ | refine blk_alloc ?_ _)); exact BK1010.out⟩, ⟨by repeat (first | (with_reducible first | exact HB.out | apply below_alloc | apply pw_below_drewN | apply below_drew1 | refine below_set ?_ GE1010.out) | exact HB.out)⟩⟩
    · replace c15 := Bool.eq_false_iff.mpr c15
      subst c15
      have H1 : (sackbutlaw05_RowsWays.j0 k l0 l1 t1009 true t1007 t1008) = some r := by rw [if_neg (show ¬ (false = true) by decide)] at H; exact H
      clear H
      have H := H1
      clear H1
      have H' := Aside0.mk H
      clear H
      go_wp2_with (first | ((with_reducible refine gate_callee (f := 18) rfl ?_); refine goesL_ (some 18) rfl rfl Try.func18 (by kernel_rfl) rfl #[.slice A0 l0.length c0] rfl (by (try simp only [List.map_toArray, List.map_cons, List.map_nil]); first | done | rfl | (simp only [List.length_drop, List.length_take]; rfl)) ?_; (with_reducible refine (sackbutref05_Row.calls k _ _ l0 false _ ?side1 ?side2 A14.out).mono ?_); (case side1 => exact Kd.C_below HR0.out (by repeat (first | (with_reducible first | exact HB.out | apply below_alloc | apply pw_below_drewN | apply below_drew1 | refine below_set ?_ GE1010.out) | exact HB.out))); (case side2 => exact HC0.out); rintro e w' ⟨rfl, ⟨nd, rfl⟩⟩; refine ⟨_, rfl, ?_⟩))
      go_meet
      case rel => exact ⟨_, (true), (by first | rfl | (simp; done) | (simp [*]; done)), H', ⟨by first | omega | exact Nat.le_refl _⟩, ⟨by (with_reducible repeat (first | refine blk_drewN ?_ _ | refine blk_drew ?_ | refine blk_alloc ?_ _)); refine blk_put (cs := #[.int .i64 t1007, .int .i64 0]) ?_ 1 _ rfl; (with_reducible repeat (first | refine blk_drewN ?_ _ | refine blk_drew ?_ | refine blk_alloc ?_ _)); refine blk_put (cs := #[.int .i64 0, .int .i64 0]) ?_ 0 _ rfl; (with_reducible repeat (first | refine blk_drewN ?_ _ | refine blk_drew ?_ | refine blk_alloc ?_ _)); exact BK1010.out⟩, ⟨by repeat (first | (with_reducible first | exact HB.out | apply below_alloc | apply pw_below_drewN | apply below_drew1 | refine below_set ?_ GE1010.out) | exact HB.out)⟩⟩
  case rest =>
    clear HC6
    try clear c1
    try clear c2
    try clear p2
    try clear c5
    try clear c15
    try clear c16
    try clear c17
    try clear hcz13_0
    try clear hcz13_1
    try clear hfz13_0
    try clear hfz13_1
    obtain ⟨kq, x31_5, rfl, HA, HJ5, BK1010, HB⟩ := hcut
    cases kq with
    | zero => exact absurd HA.out (by simp [sackbutlaw05_RowsWays.j0])
    | succ kj5 =>
      have H := HA.out
      clear HA
      simp only [sackbutlaw05_RowsWays.j0] at H
      by_cases c18 : x31_5 = true
      · subst c18
        have H1 : (if (t1007 == 0 && (t1008 == 0)) = true then (if t1009 = 2 then ((sackbutlaw05_awake.f kj5).bind fun t1013 => (some t1013)) else (some false)) else (some false)) = some r := by rw [if_pos rfl] at H; exact H
        clear H
        have H := H1
        clear H1
        by_cases c19 : (t1007 == 0 && (t1008 == 0)) = true
        · rw [if_pos c19] at H
          have c19b0 : (t1007 == 0 && (t1008 == 0)) = true := c19
          (try (have c19b1 : decide (t1007 = 0 && (t1008 == 0)) = true := by simpa using c19))
          (try (have c19b2 : (t1007 == 0 && (t1008 == 0)) = true := by simpa using c19))
          clear c19
          by_cases c20 : t1009 = 2
          · rw [if_pos c20] at H
            have c20b0 : (t1009 == 2) = true := beq_iff_eq.mpr c20
            have c20b1 : (t1009 != 2) = false := bne_eq_false_iff_eq.mpr c20
            clear c20
            replace H := Option.bind_eq_some_iff.mp H
            obtain ⟨t1013, A210, H⟩ := H
            replace H : (some t1013) = some r := H
            have A21 := Aside0.mk A210
            clear A210
            obtain rfl := Option.some.inj H
            have hcz22_0 : wc.cell? ⟨gb1010, 0, none⟩ = some (.int .i64 t1007) := (blk_cell BK1010.out 0).trans rfl
            have hcz22_1 : wc.cell? ⟨gb1010, 1, none⟩ = some (.int .i64 t1008) := (blk_cell BK1010.out 1).trans rfl
            have hfz22_0 := blk_frozen BK1010.out 0
            have hfz22_1 := blk_frozen BK1010.out 1
            go_wp2_with (first | (go_at_call 19; (with_reducible refine (sackbutlaw05_awake.calls kj5  t1013 _ A21.out).mono ?_); rintro e w23 ⟨rfl, hb⟩; have n0_ := Aside0.mk (blk_below (g := gb1010) (o := .cells #[.int .i64 t1007, .int .i64 t1008] 37 (0, 0)) (by (with_reducible repeat (first | refine blk_drewN ?_ _ | refine blk_drew ?_ | refine blk_alloc ?_ _)); exact BK1010.out) hb); have n1_ := Aside0.mk (below_step (by repeat (first | (with_reducible first | exact HB.out | apply below_alloc | apply pw_below_drewN | apply below_drew1 | refine below_set ?_ GE1010.out) | exact HB.out)) hb); clear BK1010; clear HB; have BK1010 := n0_; have HB := n1_; clear n0_ n1_; (try clear hb); (try clear hb2); (try clear hk); (try clear hi)))
            go_ret
            exact ⟨by first | rfl | (simp [errW_none, errW_some] <;> rfl) | (simp [*, errW_none, errW_some] <;> rfl), by repeat (first | (with_reducible first | exact HB.out | apply below_alloc | apply pw_below_drewN | apply below_drew1 | refine below_set ?_ GE1010.out) | exact HB.out)⟩
          · rw [if_neg c20] at H
            have c20b0 : (t1009 == 2) = false := beq_eq_false_iff_ne.mpr c20
            have c20b1 : (t1009 != 2) = true := bne_iff_ne.mpr c20
            obtain rfl := Option.some.inj H
            have hcz24_0 : wc.cell? ⟨gb1010, 0, none⟩ = some (.int .i64 t1007) := (blk_cell BK1010.out 0).trans rfl
            have hcz24_1 : wc.cell? ⟨gb1010, 1, none⟩ = some (.int .i64 t1008) := (blk_cell BK1010.out 1).trans rfl
            have hfz24_0 := blk_frozen BK1010.out 0
            have hfz24_1 := blk_frozen BK1010.out 1
            go_wp2
            go_ret
            exact ⟨by first | rfl | (simp [errW_none, errW_some] <;> rfl) | (simp [*, errW_none, errW_some] <;> rfl), by repeat (first | (with_reducible first | exact HB.out | apply below_alloc | apply pw_below_drewN | apply below_drew1 | refine below_set ?_ GE1010.out) | exact HB.out)⟩
        · rw [if_neg c19] at H
          have c19b0 : (t1007 == 0 && (t1008 == 0)) = false := by simpa using c19
          (try (have c19b1 : decide (t1007 = 0 && (t1008 == 0)) = false := by simpa using c19))
          (try (have c19b2 : (t1007 == 0 && (t1008 == 0)) = false := by simpa using c19))
          (try (have c19b3 : ¬ (t1007 = 0 && (t1008 == 0)) := by simpa using c19))
          clear c19
          obtain rfl := Option.some.inj H
          have hcz25_0 : wc.cell? ⟨gb1010, 0, none⟩ = some (.int .i64 t1007) := (blk_cell BK1010.out 0).trans rfl
          have hcz25_1 : wc.cell? ⟨gb1010, 1, none⟩ = some (.int .i64 t1008) := (blk_cell BK1010.out 1).trans rfl
          have hfz25_0 := blk_frozen BK1010.out 0
          have hfz25_1 := blk_frozen BK1010.out 1
          go_wp2
          go_ret
          exact ⟨by first | rfl | (simp [errW_none, errW_some] <;> rfl) | (simp [*, errW_none, errW_some] <;> rfl), by repeat (first | (with_reducible first | exact HB.out | apply below_alloc | apply pw_below_drewN | apply below_drew1 | refine below_set ?_ GE1010.out) | exact HB.out)⟩
      · replace c18 := Bool.eq_false_iff.mpr c18
        subst c18
        have H1 : ((sackbutref05_Way.f kj5 l0 l1).bind fun bt1014 => (if (t1007 == bt1014.1 && (t1008 == bt1014.2.1)) = true then (if t1009 = bt1014.2.2 then ((sackbutlaw05_awake.f kj5).bind fun t1018 => (some t1018)) else (some false)) else (some false))) = some r := by rw [if_neg (show ¬ (false = true) by decide)] at H; exact H
        clear H
        have H := H1
        clear H1
        replace H := Option.bind_eq_some_iff.mp H
        obtain ⟨⟨t1014, t1015, t1016⟩, A260, H⟩ := H
        replace H : (if (t1007 == t1014 && (t1008 == t1015)) = true then (if t1009 = t1016 then ((sackbutlaw05_awake.f kj5).bind fun t1018 => (some t1018)) else (some false)) else (some false)) = some r := H
        have A26 := Aside0.mk A260
        clear A260
        by_cases c27 : (t1007 == t1014 && (t1008 == t1015)) = true
        · rw [if_pos c27] at H
          have c27b0 : (t1007 == t1014 && (t1008 == t1015)) = true := c27
          (try (have c27b1 : decide (t1007 = t1014 && (t1008 == t1015)) = true := by simpa using c27))
          (try (have c27b2 : (t1007 == t1014 && (t1008 == t1015)) = true := by simpa using c27))
          clear c27
          by_cases c28 : t1009 = t1016
          · rw [if_pos c28] at H
            have c28b0 : (t1009 == t1016) = true := beq_iff_eq.mpr c28
            have c28b1 : (t1009 != t1016) = false := bne_eq_false_iff_eq.mpr c28
            clear c28
            replace H := Option.bind_eq_some_iff.mp H
            obtain ⟨t1018, A290, H⟩ := H
            replace H : (some t1018) = some r := H
            have A29 := Aside0.mk A290
            clear A290
            obtain rfl := Option.some.inj H
            go_wp2_with (first | ((with_reducible refine gate_callee (f := 26) rfl ?_); refine goesL_ (some 45) rfl rfl Try.func26 (by kernel_rfl) rfl #[.slice A0 l0.length c0, .slice A1 l1.length c1] rfl (by (try simp only [List.map_toArray, List.map_cons, List.map_nil]); first | done | rfl | (simp only [List.length_drop, List.length_take]; rfl)) ?_; (with_reducible refine (sackbutref05_Way.calls kj5 _ _ l0 _ _ l1 t1014 t1015 t1016 _ ?side1 ?side2 ?side3 ?side4 A26.out).mono ?_); (case side1 => repeat (first | exact (Kd.C_below HR0.out HB.out) | (with_reducible refine Kd.C_alloc ?_ _) | (with_reducible refine Kd.C_drewN ?_ _) | (with_reducible refine Kd.C_drew ?_))); (case side2 => exact HC0.out); (case side3 => repeat (first | exact (Kd.C_below HR1.out HB.out) | (with_reducible refine Kd.C_alloc ?_ _) | (with_reducible refine Kd.C_drewN ?_ _) | (with_reducible refine Kd.C_drew ?_))); (case side4 => exact HC1.out); rintro e w30 ⟨rfl, hb⟩; refine ⟨_, rfl, ?_⟩; have n0_ := Aside0.mk (blk_below (g := gb1010) (o := .cells #[.int .i64 t1007, .int .i64 t1008] 37 (0, 0)) (by (with_reducible repeat (first | refine blk_drewN ?_ _ | refine blk_drew ?_ | refine blk_alloc ?_ _)); exact BK1010.out) hb); have n1_ := Aside0.mk (below_step (by repeat (first | (with_reducible first | exact HB.out | apply below_alloc | apply pw_below_drewN | apply below_drew1 | refine below_set ?_ GE1010.out) | exact HB.out)) hb); clear BK1010; clear HB; have BK1010 := n0_; have HB := n1_; clear n0_ n1_; (try clear hb); (try clear hb2); (try clear hk); (try clear hi)) | ((with_reducible refine gate_dst (N := 7) rfl ?_); (try (refine gate_guard (by rfl) ?_; dsimp only)); refine box_event ?hg (N := 7) ?hd (cs := #[.int .i64 0, .int .i64 0]) (t := 37) ?hr ?_; (case hd => rfl); (case hg => rfl); (case hr => first | (go_simp; done) | (go_simp; rfl)); intro gb1017 hg w31 hbox hb; have n0_ := Aside0.mk (blk_below (g := gb1010) (o := .cells #[.int .i64 t1007, .int .i64 t1008] 37 (0, 0)) (by (with_reducible repeat (first | refine blk_drewN ?_ _ | refine blk_drew ?_ | refine blk_alloc ?_ _)); exact BK1010.out) hb); have n1_ := Aside0.mk (below_step (by repeat (first | (with_reducible first | exact HB.out | apply below_alloc | apply pw_below_drewN | apply below_drew1 | refine below_set ?_ GE1010.out) | exact HB.out)) hb); have n2_ := Aside0.mk (hbox); have n3_ := Aside0.mk ((by rw [hg]; exact (below_size (by repeat (first | (with_reducible first | exact HB.out | apply below_alloc | apply pw_below_drewN | apply below_drew1 | refine below_set ?_ GE1010.out) | exact HB.out))) : w.heap.size ≤ gb1017)); have n4_ := Aside0.mk ((by rw [hg]; exact (below_size (by repeat (first | (with_reducible first | exact HB.out | apply below_alloc | apply pw_below_drewN | apply below_drew1 | refine below_set ?_ GE1010.out) | exact HB.out))) : w.heap.size ≤ gb1017)); have n5_ := Aside0.mk ((by rw [hg]; exact Nat.ne_of_lt (blk_lt (g := gb1010) (o := .cells #[.int .i64 t1007, .int .i64 t1008] 37 (0, 0)) (by (with_reducible repeat (first | refine blk_drewN ?_ _ | refine blk_drew ?_ | refine blk_alloc ?_ _)); exact BK1010.out)) : gb1010 ≠ gb1017)); have n6_ := Aside0.mk ((by rw [hg]; exact Nat.ne_of_gt (blk_lt (g := gb1010) (o := .cells #[.int .i64 t1007, .int .i64 t1008] 37 (0, 0)) (by (with_reducible repeat (first | refine blk_drewN ?_ _ | refine blk_drew ?_ | refine blk_alloc ?_ _)); exact BK1010.out)) : gb1017 ≠ gb1010)); clear BK1010; clear HB; have BK1010 := n0_; have HB := n1_; have BK1017 := n2_; have GW1017 := n3_; have GE1017 := n4_; have NB1010_1017 := n5_; have NB1017_1010 := n6_; clear n0_ n1_ n2_ n3_ n4_ n5_ n6_; clear hb hbox hg; have hnb32 := NB1017_1010.out; have hnc32 := NB1010_1017.out; have hcz33_0 : w31.cell? ⟨gb1017, 0, none⟩ = some (.int .i64 0) := (blk_cell BK1017.out 0).trans rfl; have hcz33_1 : w31.cell? ⟨gb1017, 1, none⟩ = some (.int .i64 0) := (blk_cell BK1017.out 1).trans rfl; have hfz33_0 := blk_frozen BK1017.out 0; have hfz33_1 := blk_frozen BK1017.out 1; have hcz34_0 : w31.cell? ⟨gb1010, 0, none⟩ = some (.int .i64 t1007) := (blk_cell BK1010.out 0).trans rfl; have hcz34_1 : w31.cell? ⟨gb1010, 1, none⟩ = some (.int .i64 t1008) := (blk_cell BK1010.out 1).trans rfl; have hfz34_0 := blk_frozen BK1010.out 0; have hfz34_1 := blk_frozen BK1010.out 1) | (go_at_call 19; (with_reducible refine (sackbutlaw05_awake.calls kj5  t1018 _ A29.out).mono ?_); rintro e w35 ⟨rfl, hb⟩; have n0_ := Aside0.mk (blk_below (g := gb1010) (o := .cells #[.int .i64 t1007, .int .i64 t1008] 37 (0, 0)) (by (with_reducible repeat (first | refine blk_drewN ?_ _ | refine blk_drew ?_ | refine blk_alloc ?_ _)); refine blk_far ?_ NB1010_1017.out _; (with_reducible repeat (first | refine blk_drewN ?_ _ | refine blk_drew ?_ | refine blk_alloc ?_ _)); refine blk_far ?_ NB1010_1017.out _; (with_reducible repeat (first | refine blk_drewN ?_ _ | refine blk_drew ?_ | refine blk_alloc ?_ _)); exact BK1010.out) hb); have n1_ := Aside0.mk (blk_below (g := gb1017) (o := .cells #[.int .i64 t1014, .int .i64 t1015] 37 (0, 0)) (by (with_reducible repeat (first | refine blk_drewN ?_ _ | refine blk_drew ?_ | refine blk_alloc ?_ _)); refine blk_put (cs := #[.int .i64 t1014, .int .i64 0]) ?_ 1 _ rfl; (with_reducible repeat (first | refine blk_drewN ?_ _ | refine blk_drew ?_ | refine blk_alloc ?_ _)); refine blk_put (cs := #[.int .i64 0, .int .i64 0]) ?_ 0 _ rfl; (with_reducible repeat (first | refine blk_drewN ?_ _ | refine blk_drew ?_ | refine blk_alloc ?_ _)); exact BK1017.out) hb); have n2_ := Aside0.mk (below_step (by repeat (first | (with_reducible first | exact HB.out | apply below_alloc | apply pw_below_drewN | apply below_drew1 | refine below_set ?_ GE1010.out | refine below_set ?_ GE1017.out) | exact HB.out)) hb); clear BK1010; clear BK1017; clear HB; have BK1010 := n0_; have BK1017 := n1_; have HB := n2_; clear n0_ n1_ n2_; (try clear hb); (try clear hb2); (try clear hk); (try clear hi)))
            go_ret
            exact ⟨by first | rfl | (simp [errW_none, errW_some] <;> rfl) | (simp [*, errW_none, errW_some] <;> rfl), by repeat (first | (with_reducible first | exact HB.out | apply below_alloc | apply pw_below_drewN | apply below_drew1 | refine below_set ?_ GE1010.out | refine below_set ?_ GE1017.out) | exact HB.out)⟩
          · rw [if_neg c28] at H
            have c28b0 : (t1009 == t1016) = false := beq_eq_false_iff_ne.mpr c28
            have c28b1 : (t1009 != t1016) = true := bne_iff_ne.mpr c28
            obtain rfl := Option.some.inj H
            go_wp2_with (first | ((with_reducible refine gate_callee (f := 26) rfl ?_); refine goesL_ (some 45) rfl rfl Try.func26 (by kernel_rfl) rfl #[.slice A0 l0.length c0, .slice A1 l1.length c1] rfl (by (try simp only [List.map_toArray, List.map_cons, List.map_nil]); first | done | rfl | (simp only [List.length_drop, List.length_take]; rfl)) ?_; (with_reducible refine (sackbutref05_Way.calls kj5 _ _ l0 _ _ l1 t1014 t1015 t1016 _ ?side1 ?side2 ?side3 ?side4 A26.out).mono ?_); (case side1 => repeat (first | exact (Kd.C_below HR0.out HB.out) | (with_reducible refine Kd.C_alloc ?_ _) | (with_reducible refine Kd.C_drewN ?_ _) | (with_reducible refine Kd.C_drew ?_))); (case side2 => exact HC0.out); (case side3 => repeat (first | exact (Kd.C_below HR1.out HB.out) | (with_reducible refine Kd.C_alloc ?_ _) | (with_reducible refine Kd.C_drewN ?_ _) | (with_reducible refine Kd.C_drew ?_))); (case side4 => exact HC1.out); rintro e w36 ⟨rfl, hb⟩; refine ⟨_, rfl, ?_⟩; have n0_ := Aside0.mk (blk_below (g := gb1010) (o := .cells #[.int .i64 t1007, .int .i64 t1008] 37 (0, 0)) (by (with_reducible repeat (first | refine blk_drewN ?_ _ | refine blk_drew ?_ | refine blk_alloc ?_ _)); exact BK1010.out) hb); have n1_ := Aside0.mk (below_step (by repeat (first | (with_reducible first | exact HB.out | apply below_alloc | apply pw_below_drewN | apply below_drew1 | refine below_set ?_ GE1010.out) | exact HB.out)) hb); clear BK1010; clear HB; have BK1010 := n0_; have HB := n1_; clear n0_ n1_; (try clear hb); (try clear hb2); (try clear hk); (try clear hi)) | ((with_reducible refine gate_dst (N := 7) rfl ?_); (try (refine gate_guard (by rfl) ?_; dsimp only)); refine box_event ?hg (N := 7) ?hd (cs := #[.int .i64 0, .int .i64 0]) (t := 37) ?hr ?_; (case hd => rfl); (case hg => rfl); (case hr => first | (go_simp; done) | (go_simp; rfl)); intro gb1017 hg w37 hbox hb; have n0_ := Aside0.mk (blk_below (g := gb1010) (o := .cells #[.int .i64 t1007, .int .i64 t1008] 37 (0, 0)) (by (with_reducible repeat (first | refine blk_drewN ?_ _ | refine blk_drew ?_ | refine blk_alloc ?_ _)); exact BK1010.out) hb); have n1_ := Aside0.mk (below_step (by repeat (first | (with_reducible first | exact HB.out | apply below_alloc | apply pw_below_drewN | apply below_drew1 | refine below_set ?_ GE1010.out) | exact HB.out)) hb); have n2_ := Aside0.mk (hbox); have n3_ := Aside0.mk ((by rw [hg]; exact (below_size (by repeat (first | (with_reducible first | exact HB.out | apply below_alloc | apply pw_below_drewN | apply below_drew1 | refine below_set ?_ GE1010.out) | exact HB.out))) : w.heap.size ≤ gb1017)); have n4_ := Aside0.mk ((by rw [hg]; exact (below_size (by repeat (first | (with_reducible first | exact HB.out | apply below_alloc | apply pw_below_drewN | apply below_drew1 | refine below_set ?_ GE1010.out) | exact HB.out))) : w.heap.size ≤ gb1017)); have n5_ := Aside0.mk ((by rw [hg]; exact Nat.ne_of_lt (blk_lt (g := gb1010) (o := .cells #[.int .i64 t1007, .int .i64 t1008] 37 (0, 0)) (by (with_reducible repeat (first | refine blk_drewN ?_ _ | refine blk_drew ?_ | refine blk_alloc ?_ _)); exact BK1010.out)) : gb1010 ≠ gb1017)); have n6_ := Aside0.mk ((by rw [hg]; exact Nat.ne_of_gt (blk_lt (g := gb1010) (o := .cells #[.int .i64 t1007, .int .i64 t1008] 37 (0, 0)) (by (with_reducible repeat (first | refine blk_drewN ?_ _ | refine blk_drew ?_ | refine blk_alloc ?_ _)); exact BK1010.out)) : gb1017 ≠ gb1010)); clear BK1010; clear HB; have BK1010 := n0_; have HB := n1_; have BK1017 := n2_; have GW1017 := n3_; have GE1017 := n4_; have NB1010_1017 := n5_; have NB1017_1010 := n6_; clear n0_ n1_ n2_ n3_ n4_ n5_ n6_; clear hb hbox hg; have hnb38 := NB1017_1010.out; have hnc38 := NB1010_1017.out; have hcz39_0 : w37.cell? ⟨gb1017, 0, none⟩ = some (.int .i64 0) := (blk_cell BK1017.out 0).trans rfl; have hcz39_1 : w37.cell? ⟨gb1017, 1, none⟩ = some (.int .i64 0) := (blk_cell BK1017.out 1).trans rfl; have hfz39_0 := blk_frozen BK1017.out 0; have hfz39_1 := blk_frozen BK1017.out 1; have hcz40_0 : w37.cell? ⟨gb1010, 0, none⟩ = some (.int .i64 t1007) := (blk_cell BK1010.out 0).trans rfl; have hcz40_1 : w37.cell? ⟨gb1010, 1, none⟩ = some (.int .i64 t1008) := (blk_cell BK1010.out 1).trans rfl; have hfz40_0 := blk_frozen BK1010.out 0; have hfz40_1 := blk_frozen BK1010.out 1))
            go_ret
            exact ⟨by first | rfl | (simp [errW_none, errW_some] <;> rfl) | (simp [*, errW_none, errW_some] <;> rfl), by repeat (first | (with_reducible first | exact HB.out | apply below_alloc | apply pw_below_drewN | apply below_drew1 | refine below_set ?_ GE1010.out | refine below_set ?_ GE1017.out) | exact HB.out)⟩
        · rw [if_neg c27] at H
          have c27b0 : (t1007 == t1014 && (t1008 == t1015)) = false := by simpa using c27
          (try (have c27b1 : decide (t1007 = t1014 && (t1008 == t1015)) = false := by simpa using c27))
          (try (have c27b2 : (t1007 == t1014 && (t1008 == t1015)) = false := by simpa using c27))
          (try (have c27b3 : ¬ (t1007 = t1014 && (t1008 == t1015)) := by simpa using c27))
          clear c27
          obtain rfl := Option.some.inj H
          go_wp2_with (first | ((with_reducible refine gate_callee (f := 26) rfl ?_); refine goesL_ (some 45) rfl rfl Try.func26 (by kernel_rfl) rfl #[.slice A0 l0.length c0, .slice A1 l1.length c1] rfl (by (try simp only [List.map_toArray, List.map_cons, List.map_nil]); first | done | rfl | (simp only [List.length_drop, List.length_take]; rfl)) ?_; (with_reducible refine (sackbutref05_Way.calls kj5 _ _ l0 _ _ l1 t1014 t1015 t1016 _ ?side1 ?side2 ?side3 ?side4 A26.out).mono ?_); (case side1 => repeat (first | exact (Kd.C_below HR0.out HB.out) | (with_reducible refine Kd.C_alloc ?_ _) | (with_reducible refine Kd.C_drewN ?_ _) | (with_reducible refine Kd.C_drew ?_))); (case side2 => exact HC0.out); (case side3 => repeat (first | exact (Kd.C_below HR1.out HB.out) | (with_reducible refine Kd.C_alloc ?_ _) | (with_reducible refine Kd.C_drewN ?_ _) | (with_reducible refine Kd.C_drew ?_))); (case side4 => exact HC1.out); rintro e w41 ⟨rfl, hb⟩; refine ⟨_, rfl, ?_⟩; have n0_ := Aside0.mk (blk_below (g := gb1010) (o := .cells #[.int .i64 t1007, .int .i64 t1008] 37 (0, 0)) (by (with_reducible repeat (first | refine blk_drewN ?_ _ | refine blk_drew ?_ | refine blk_alloc ?_ _)); exact BK1010.out) hb); have n1_ := Aside0.mk (below_step (by repeat (first | (with_reducible first | exact HB.out | apply below_alloc | apply pw_below_drewN | apply below_drew1 | refine below_set ?_ GE1010.out) | exact HB.out)) hb); clear BK1010; clear HB; have BK1010 := n0_; have HB := n1_; clear n0_ n1_; (try clear hb); (try clear hb2); (try clear hk); (try clear hi)) | ((with_reducible refine gate_dst (N := 7) rfl ?_); (try (refine gate_guard (by rfl) ?_; dsimp only)); refine box_event ?hg (N := 7) ?hd (cs := #[.int .i64 0, .int .i64 0]) (t := 37) ?hr ?_; (case hd => rfl); (case hg => rfl); (case hr => first | (go_simp; done) | (go_simp; rfl)); intro gb1017 hg w42 hbox hb; have n0_ := Aside0.mk (blk_below (g := gb1010) (o := .cells #[.int .i64 t1007, .int .i64 t1008] 37 (0, 0)) (by (with_reducible repeat (first | refine blk_drewN ?_ _ | refine blk_drew ?_ | refine blk_alloc ?_ _)); exact BK1010.out) hb); have n1_ := Aside0.mk (below_step (by repeat (first | (with_reducible first | exact HB.out | apply below_alloc | apply pw_below_drewN | apply below_drew1 | refine below_set ?_ GE1010.out) | exact HB.out)) hb); have n2_ := Aside0.mk (hbox); have n3_ := Aside0.mk ((by rw [hg]; exact (below_size (by repeat (first | (with_reducible first | exact HB.out | apply below_alloc | apply pw_below_drewN | apply below_drew1 | refine below_set ?_ GE1010.out) | exact HB.out))) : w.heap.size ≤ gb1017)); have n4_ := Aside0.mk ((by rw [hg]; exact (below_size (by repeat (first | (with_reducible first | exact HB.out | apply below_alloc | apply pw_below_drewN | apply below_drew1 | refine below_set ?_ GE1010.out) | exact HB.out))) : w.heap.size ≤ gb1017)); have n5_ := Aside0.mk ((by rw [hg]; exact Nat.ne_of_lt (blk_lt (g := gb1010) (o := .cells #[.int .i64 t1007, .int .i64 t1008] 37 (0, 0)) (by (with_reducible repeat (first | refine blk_drewN ?_ _ | refine blk_drew ?_ | refine blk_alloc ?_ _)); exact BK1010.out)) : gb1010 ≠ gb1017)); have n6_ := Aside0.mk ((by rw [hg]; exact Nat.ne_of_gt (blk_lt (g := gb1010) (o := .cells #[.int .i64 t1007, .int .i64 t1008] 37 (0, 0)) (by (with_reducible repeat (first | refine blk_drewN ?_ _ | refine blk_drew ?_ | refine blk_alloc ?_ _)); exact BK1010.out)) : gb1017 ≠ gb1010)); clear BK1010; clear HB; have BK1010 := n0_; have HB := n1_; have BK1017 := n2_; have GW1017 := n3_; have GE1017 := n4_; have NB1010_1017 := n5_; have NB1017_1010 := n6_; clear n0_ n1_ n2_ n3_ n4_ n5_ n6_; clear hb hbox hg; have hnb43 := NB1017_1010.out; have hnc43 := NB1010_1017.out; have hcz44_0 : w42.cell? ⟨gb1017, 0, none⟩ = some (.int .i64 0) := (blk_cell BK1017.out 0).trans rfl; have hcz44_1 : w42.cell? ⟨gb1017, 1, none⟩ = some (.int .i64 0) := (blk_cell BK1017.out 1).trans rfl; have hfz44_0 := blk_frozen BK1017.out 0; have hfz44_1 := blk_frozen BK1017.out 1; have hcz45_0 : w42.cell? ⟨gb1010, 0, none⟩ = some (.int .i64 t1007) := (blk_cell BK1010.out 0).trans rfl; have hcz45_1 : w42.cell? ⟨gb1010, 1, none⟩ = some (.int .i64 t1008) := (blk_cell BK1010.out 1).trans rfl; have hfz45_0 := blk_frozen BK1010.out 0; have hfz45_1 := blk_frozen BK1010.out 1))
          go_ret
          exact ⟨by first | rfl | (simp [errW_none, errW_some] <;> rfl) | (simp [*, errW_none, errW_some] <;> rfl), by repeat (first | (with_reducible first | exact HB.out | apply below_alloc | apply pw_below_drewN | apply below_drew1 | refine below_set ?_ GE1010.out | refine below_set ?_ GE1017.out) | exact HB.out)⟩

/-- THE ONE PURE STATEMENT of sackbutlaw05_RowsWays: yours. -/
def sackbutlaw05_RowsWays.Pure : Prop := ∀ (l0 : List Int) (l1 : List Int), l0.length ≤ maxLen → l0.length * 8 ≤ 140737488351232 → (∀ x ∈ l0, (Lit.int .i64 x).wf = true) → l1.length ≤ maxLen → l1.length * 8 ≤ 140737488351232 → (∀ x ∈ l1, (Lit.int .i64 x).wf = true) → ∃ k, sackbutlaw05_RowsWays.f k l0 l1 = some true
theorem sackbutlaw05_RowsWays.walk (P : sackbutlaw05_RowsWays.Pure) (a0 : Option Addr) (len0 cap0 : Nat) (z0 : List Int) (a1 : Option Addr) (len1 cap1 : Nat) (z1 : List Int) (w : World) (w0 : (a0 = none ∧ len0 = 0 ∧ cap0 = 0 ∧ z0 = []) ∨ ∃ x, a0 = some x ∧ len0 ≤ cap0 ∧ cap0 ≤ maxLen ∧ z0.length = cap0 ∧ (∀ i, i < z0.length → w.cell? (x.add i) = some (.int .i64 (z0.getD i 0))) ∧ ∀ n ∈ z0, (Lit.int .i64 n).wf = true) (y0 : len0 * 8 ≤ 140737488351232) (w1 : (a1 = none ∧ len1 = 0 ∧ cap1 = 0 ∧ z1 = []) ∨ ∃ x, a1 = some x ∧ len1 ≤ cap1 ∧ cap1 ≤ maxLen ∧ z1.length = cap1 ∧ (∀ i, i < z1.length → w.cell? (x.add i) = some (.int .i64 (z1.getD i 0))) ∧ ∀ n ∈ z1, (Lit.int .i64 n).wf = true) (y1 : len1 * 8 ≤ 140737488351232) :
    Calls Try.prog 5 #[.slice a0 len0 cap0, .slice a1 len1 cap1] w fun e w' => e = .returned (.bool true) ∧ Below w.heap.size w w' := by
  obtain ⟨l0, rfl, hr0, hm0, hw0, hc0⟩ := ReadsInt.ofRowC w0
  obtain ⟨l1, rfl, hr1, hm1, hw1, hc1⟩ := ReadsInt.ofRowC w1
  obtain ⟨k, h⟩ := P l0 l1 hm0 y0 hw0 hm1 y1 hw1
  refine (sackbutlaw05_RowsWays.calls k _ _ l0 _ _ l1 true w (Kd.C_of_reads (d := (0 : Int)) (h1 := fun _ => rfl) hr0) hc0 (Kd.C_of_reads (d := (0 : Int)) (h1 := fun _ => rfl) hr1) hc1 h).mono ?_
  rintro e w' ⟨rfl, hd⟩
  exact ⟨rfl, hd⟩

end Go.Proofs.Ytpfjnpbcnlbhaaa.P
namespace Go.Proofs.Ytpfjnpbcnlbhaaa.P
open Go.RowKit Go.Proofs.YtpfjnpbcnlbhaaaW.PrintWords Go.Proofs.YtpfjnpbcnlbhaaaW.PrintLast Go.Proofs.YtpfjnpbcnlbhaaaW.PrintMore
attribute [local go_sem] max2_int min2_int max_two min_two max_three min_three max_four min_four   -- for this text's walks alone
set_option linter.unusedVariables false
set_option linter.unusedSimpArgs false

/-! the reference's Form, less, same -/
theorem set_mid {α : Type} (A B : List α) (x v : α) : (A ++ x :: B).set A.length v = A ++ v :: B := by
  rw [List.set_append_right _ _ (Nat.le_refl _)]; simp
theorem refmod_f {a n : Int} (hn : 0 < n) (hb : n < 4611686018427387904) : sackbutref05_mod.f a n = some (a % n) := by
  unfold sackbutref05_mod.f
  rw [if_neg (by omega), tmod_mod hn hb]
theorem tone_w {n kind k x : Int} (hk : 0 ≤ k % n ∧ k % n < 62) (hx : 0 ≤ x ∧ x < 62) (b : Bool) : wrap64 ((if b = true then wrap64 (-x) else x) + k % n) = (if b = true then -x else x) + k % n := by
  cases b
  · simp only [Bool.false_eq_true, if_false]; exact wrap_id (by omega) (by omega)
  · simp only [if_true]; rw [wrap_id (n := -x) (by omega) (by omega)]; exact wrap_id (by omega) (by omega)
def formOut (n kind k : Int) (pre : List Int) (m : Nat) : List Int := if kind / 2 % 2 = 1 then List.replicate m 0 ++ (pre.map (toneOf n kind k)).reverse else pre.map (toneOf n kind k) ++ List.replicate m 0
theorem refForm_loop (n : Nat) (hn : 1 ≤ n) (hn2 : n ≤ 62) (kind k : Int) (hk0 : 0 ≤ kind) (hk3 : kind < 4) (l : List Int) (hl : l.length < 1000) (hr : ∀ x ∈ l, 0 ≤ x ∧ x < 62) : ∀ (xs pre : List Int), l = pre ++ xs →
    Ev (fun q => sackbutref05_Form.l0 q l (n : Int) kind (k % (n : Int)) (formOut n kind k pre xs.length) l (l.length : Int) (pre.length : Int)) (formOf n kind k l) := by
  have hkr : 0 ≤ k % (n : Int) ∧ k % (n : Int) < 62 := ⟨Int.emod_nonneg _ (by omega), by have := Int.emod_lt_of_pos k (show (0 : Int) < n by omega); omega⟩
  intro xs
  induction xs with
  | nil =>
    intro pre h0
    refine Ev.succ ?_
    simp only [sackbutref05_Form.l0, if_neg (mid_end h0)]
    have e : formOut n kind k pre 0 = formOf n kind k l := by
      have : pre = l := by rw [h0]; simp
      subst this
      unfold formOut formOf
      simp
    rw [List.length_nil, e]
    exact Ev.some _
  | cons x xs ih =>
    intro pre h0
    have hx := hr x (by rw [h0]; simp)
    have hlen : l.length = pre.length + (xs.length + 1) := by rw [h0]; simp
    have hw1 : wrap64 (wrap64 ((l.length : Int) - 1) - (pre.length : Int)) = (xs.length : Int) := by
      rw [wrap_id (n := (l.length : Int) - 1) (by omega) (by omega), wrap_id (by omega) (by omega)]; omega
    have hw2 : wrap64 (-x) = -x := wrap_id (by omega) (by omega)
    have hw3 : wrap64 (-x + k % (n : Int)) = -x + k % (n : Int) := wrap_id (by omega) (by omega)
    have hw4 : wrap64 (x + k % (n : Int)) = x + k % (n : Int) := wrap_id (by omega) (by omega)
    have hol : (formOut n kind k pre (xs.length + 1)).length = l.length := by unfold formOut; split <;> (simp; omega)
    have go := ih (pre ++ [x]) (mid_mv h0)
    have hm : ∀ a : Int, sackbutref05_mod.f a (n : Int) = some (a % (n : Int)) := fun a => refmod_f (by omega) (by omega)
    have hk2 : kind / 2 % 2 = 1 ↔ kind ≥ 2 := by omega
    have ht : Int.tmod kind 2 = kind % 2 := Int.tmod_eq_emod_of_nonneg hk0
    refine Ev.succ ?_
    simp only [sackbutref05_Form.l0, List.length_cons, if_pos (mid_lt h0), if_pos (show (0 : Int) ≤ (pre.length : Int) by omega), mid_rd h0, mid_next h0 (by omega), ht, hw1, hw2, hw3, hw4, hm, Option.bind_some, hol, if_pos (show (0 : Int) ≤ (xs.length : Int) by omega), if_pos (show (xs.length : Int) < (l.length : Int) by omega), Int.toNat_natCast]
    have s2 : kind ≥ 2 → ∀ v, v = toneOf n kind k x → (formOut n kind k pre (xs.length + 1)).set xs.length v = formOut n kind k (pre ++ [x]) xs.length := by
      rintro h2 v rfl
      unfold formOut
      rw [if_pos (hk2.2 h2), if_pos (hk2.2 h2), List.replicate_succ', List.append_assoc]
      have := set_mid (List.replicate xs.length (0 : Int)) (pre.map (toneOf n kind k)).reverse 0 (toneOf n kind k x)
      rw [List.length_replicate] at this
      simp [this]
    have s1 : ¬ kind ≥ 2 → ∀ v, v = toneOf n kind k x → (formOut n kind k pre (xs.length + 1)).set pre.length v = formOut n kind k (pre ++ [x]) xs.length := by
      rintro h2 v rfl
      unfold formOut
      rw [if_neg (fun h => h2 (hk2.1 h)), if_neg (fun h => h2 (hk2.1 h)), List.replicate_succ]
      have := set_mid (pre.map (toneOf n kind k)) (List.replicate xs.length (0 : Int)) 0 (toneOf n kind k x)
      rw [List.length_map] at this
      simp [this]
    have t1 : kind % 2 = 1 → (-x + k % (n : Int)) % (n : Int) = toneOf n kind k x := fun h => by unfold toneOf; rw [if_pos h]
    have t0 : ¬ kind % 2 = 1 → (x + k % (n : Int)) % (n : Int) = toneOf n kind k x := fun h => by unfold toneOf; rw [if_neg h]
    refine Ev.ite (fun e1 => ?_) (fun e1 => ?_)
    · refine Ev.ite (fun e2 => ?_) (fun e2 => ?_)
      · rw [s2 e2 _ (t1 e1)]; exact go
      · rw [s1 e2 _ (t1 e1)]; exact go
    · refine Ev.ite (fun e2 => ?_) (fun e2 => ?_)
      · rw [s2 e2 _ (t0 e1)]; exact go
      · rw [s1 e2 _ (t0 e1)]; exact go
theorem refForm_ev (n : Nat) (hn : 1 ≤ n) (hn2 : n ≤ 62) (kind k : Int) (hk0 : 0 ≤ kind) (hk3 : kind < 4) (l : List Int) (hl : l.length < 1000) (hr : ∀ x ∈ l, 0 ≤ x ∧ x < 62) :
    Ev (fun q => sackbutref05_Form.f q l (n : Int) kind k) (formOf n kind k l) := by
  unfold sackbutref05_Form.f
  refine Ev.bind_some (refmod_f (by omega) (by omega)) ?_
  simp only [if_pos (show (0 : Int) ≤ (l.length : Int) by omega), Int.toNat_natCast, if_pos (show l.length ≤ 35184372088832 by omega)]
  have := refForm_loop n hn hn2 kind k hk0 hk3 l hl hr l [] rfl
  have e : formOut n kind k [] l.length = List.replicate l.length 0 := by unfold formOut; split <;> simp
  rw [e] at this
  exact this
def lessL : List Int → List Int → Bool
  | x :: a, y :: b => if x = y then lessL a b else decide (x < y)
  | _, _ => false
theorem less_loop (l1 l0 : List Int) (hlen : l0.length = l1.length) (hb : l0.length < 9223372036854775807) : ∀ (xs ys pre pre1 : List Int), l0 = pre ++ xs → l1 = pre1 ++ ys → pre.length = pre1.length →
    Ev (fun k => sackbutref05_less.l0 k l1 l0 (l0.length : Int) (pre.length : Int)) (lessL xs ys) := by
  intro xs
  induction xs with
  | nil =>
    intro ys pre pre1 h0 h1 hp
    refine Ev.succ ?_
    simp only [sackbutref05_less.l0, if_neg (mid_end h0)]
    cases ys <;> exact Ev.some _
  | cons x xs ih =>
    intro ys pre pre1 h0 h1 hp
    match ys, h1 with
    | [], h1 => exfalso; rw [h0, h1] at hlen; simp at hlen; omega
    | y :: ys, h1 =>
      have hrd : rd l1 (pre.length : Int) = y := by rw [hp]; exact mid_rd h1
      refine Ev.succ ?_
      simp only [sackbutref05_less.l0, if_pos (mid_lt h0), if_pos (show (0 : Int) ≤ (pre.length : Int) by omega), mid_rd h0, hrd, mid_next h0 hb, if_pos (show (pre.length : Int) < (l1.length : Int) by rw [← hlen]; exact mid_lt h0), lessL]
      refine Ev.ite (fun e => ?_) (fun e => ?_)
      · rw [if_pos e]; exact ih ys (pre ++ [x]) (pre1 ++ [y]) (mid_mv h0) (mid_mv h1) (by simp [hp])
      · rw [if_neg e]; exact Ev.some _
theorem less_ev (l0 l1 : List Int) (hlen : l0.length = l1.length) (hb : l0.length < 9223372036854775807) : Ev (fun k => sackbutref05_less.f k l0 l1) (lessL l0 l1) := less_loop l1 l0 hlen hb l0 l1 [] [] rfl rfl rfl
theorem lessL_same : ∀ (a b : List Int), a.length = b.length → ((lessL a b = false ∧ lessL b a = false) ↔ a = b)
  | [], [], _ => by simp [lessL]
  | x :: a, y :: b, h => by
    have ih := lessL_same a b (by simpa using h)
    simp only [lessL, List.cons.injEq]
    by_cases e : x = y
    · subst e; simpa using ih
    · rw [if_neg e, if_neg (fun h => e h.symm)]
      simp only [decide_eq_false_iff_not]
      constructor
      · rintro ⟨h1, h2⟩; exact absurd (by omega) e
      · rintro ⟨h1, _⟩; exact absurd h1 e
  | [], _ :: _, h => by simp at h
  | _ :: _, [], h => by simp at h
theorem same_ev (l0 l1 : List Int) (hlen : l0.length = l1.length) (hb : l0.length < 9223372036854775807) : Ev (fun k => sackbutref05_same.f k l0 l1) (decide (l0 = l1)) := by
  unfold sackbutref05_same.f
  have hs := lessL_same l0 l1 hlen
  refine Ev.bind (less_ev l0 l1 hlen hb) ?_
  cases h1 : lessL l0 l1 with
  | true =>
    have : ¬ l0 = l1 := fun e => by have := (hs.2 e).1; rw [h1] at this; cases this
    simp only [if_true, this, decide_false]
    exact Ev.some _
  | false =>
    simp only [Bool.false_eq_true, if_false]
    refine Ev.bind (less_ev l1 l0 hlen.symm (by omega)) ?_
    cases h2 : lessL l1 l0 with
    | true =>
      have : ¬ l0 = l1 := fun e => by have := (hs.2 e).2; rw [h2] at this; cases this
      simp only [this, decide_false, Bool.not_true]
      exact Ev.some _
    | false =>
      simp only [hs.1 ⟨h1, h2⟩, decide_true, Bool.not_false]
      exact Ev.some _
theorem formOf_length (n kind k : Int) (l : List Int) : (formOf n kind k l).length = l.length := by unfold formOf; split <;> simp

end Go.Proofs.Ytpfjnpbcnlbhaaa.P
namespace Go.Proofs.Ytpfjnpbcnlbhaaa.P
open Go.RowKit Go.Proofs.YtpfjnpbcnlbhaaaW.PrintWords Go.Proofs.YtpfjnpbcnlbhaaaW.PrintLast Go.Proofs.YtpfjnpbcnlbhaaaW.PrintMore
attribute [local go_sem] max2_int min2_int max_two min_two max_three min_three max_four min_four   -- for this text's walks alone
set_option linter.unusedVariables false
set_option linter.unusedSimpArgs false

def wayRes : Option (Nat × Nat) → Int × Int × Int
  | some p => ((p.1 : Int), (p.2 : Int), 0)
  | none => (0, 0, 4)
theorem way_f (a b : List Int) : rows_Way.f a b = some (if IsRow a ∧ IsRow b ∧ a.length = b.length then wayRes (wayOf a b) else (0, 0, 2)) := by
  unfold rows_Way.f
  split
  · cases wayOf a b <;> rfl
  · rfl
theorem refWay_l1 (a b : List Int) (ha : IsRow a) (hb : IsRow b) (hlen : a.length = b.length) (kind : Nat) (hk : kind < 4) (hend : (∀ p ∈ pairsTo a.length (kind + 1) 0, formOf a.length p.1 p.2 a ≠ b) → Ev (fun q => sackbutref05_Way.l0 q a b ((kind + 1 : Nat) : Int)) (wayRes (wayOf a b))) : ∀ (m k : Nat), k + m = a.length → (∀ p ∈ pairsTo a.length kind k, formOf a.length p.1 p.2 a ≠ b) →
    Ev (fun q => sackbutref05_Way.l1 q a b (kind : Int) (kind : Int) (a.length : Int) (k : Int)) (wayRes (wayOf a b)) := by
  have h1 := ha.1; have h2 := ha.2.1
  intro m
  induction m with
  | zero =>
    intro k hkm hp
    have hkn : k = a.length := by omega
    refine Ev.succ ?_
    have hw : wrap64 ((kind : Int) + 1) = ((kind + 1 : Nat) : Int) := by rw [wrap_id (by omega) (by omega)]; omega
    simp only [sackbutref05_Way.l1, if_neg (show ¬ (k : Int) < (a.length : Int) by omega), hw]
    refine hend ?_
    rw [← pairsTo_kind]
    rw [hkn] at hp; exact hp
  | succ m ih =>
    intro k hkm hp
    have hw : wrap64 ((k : Int) + 1) = ((k + 1 : Nat) : Int) := by rw [wrap_id (by omega) (by omega)]; omega
    refine Ev.succ ?_
    simp only [sackbutref05_Way.l1, if_pos (show (k : Int) < (a.length : Int) by omega), hw]
    refine Ev.bind (refForm_ev a.length (by omega) (by omega) kind k (by omega) (by omega) a (by omega) (row_small ha)) ?_
    refine Ev.bind (same_ev _ _ (by rw [formOf_length]; exact hlen) (by rw [formOf_length]; omega)) ?_
    by_cases he : formOf a.length kind k a = b
    · simp only [he, decide_true, if_true]
      obtain ⟨rest, hr⟩ := formPairs_split (n := a.length) hk (show k < a.length by omega)
      have : wayOf a b = some (kind, k) := find_at hr (fun q hq => decide_eq_false (hp q hq)) (decide_eq_true he)
      rw [this]
      exact Ev.some _
    · simp only [he, decide_false, if_false, Bool.false_eq_true]
      refine ih (k + 1) (by omega) ?_
      rw [← pairsTo_next]
      intro p hpm
      rcases List.mem_append.1 hpm with h | h
      · exact hp p h
      · rw [List.mem_singleton] at h; subst h; exact he
theorem refWay_l0 (a b : List Int) (ha : IsRow a) (hb : IsRow b) (hlen : a.length = b.length) : ∀ (m kind : Nat), kind + m = 4 → (∀ p ∈ pairsTo a.length kind 0, formOf a.length p.1 p.2 a ≠ b) → Ev (fun q => sackbutref05_Way.l0 q a b (kind : Int)) (wayRes (wayOf a b)) := by
  intro m
  induction m with
  | zero =>
    intro kind hk hp
    have : kind = 4 := by omega
    subst this
    refine Ev.succ ?_
    simp only [sackbutref05_Way.l0, if_neg (show ¬ ((4 : Nat) : Int) < 4 by decide)]
    have : wayOf a b = none := List.find?_eq_none.2 (fun p hpm => by simp [hp p hpm])
    rw [this]
    exact Ev.some _
  | succ m ih =>
    intro kind hk hp
    refine Ev.succ ?_
    simp only [sackbutref05_Way.l0, if_pos (show (kind : Int) < 4 by omega)]
    exact refWay_l1 a b ha hb hlen kind (by omega) (fun h => ih (kind + 1) (by omega) h) a.length 0 (by omega) hp
theorem refWay_ev (a b : List Int) (ha : IsRow a) (hb : IsRow b) (hlen : a.length = b.length) : Ev (fun q => sackbutref05_Way.f q a b) (wayRes (wayOf a b)) := by
  unfold sackbutref05_Way.f
  exact refWay_l0 a b ha hb hlen 4 0 (by omega) (by simp [pairsTo])
theorem RowsWays : sackbutlaw05_RowsWays.Pure := by
  intro a b _ _ _ _ _ _
  refine Ev.rounds (g := fun k => sackbutlaw05_RowsWays.f k a b) ?_
  unfold sackbutlaw05_RowsWays.f
  refine Ev.bind_some (list_f a) ?_
  refine Ev.bind_some (list_f b) ?_
  refine Ev.bind_some (way_f _ _) ?_
  refine Ev.bind (Row_ev a) ?_
  have hbad : ¬ (IsRow a ∧ IsRow b ∧ a.length = b.length) → (if IsRow (a.take 13) ∧ IsRow (b.take 13) ∧ (a.take 13).length = (b.take 13).length then wayRes (wayOf (a.take 13) (b.take 13)) else ((0, 0, 2) : Int × Int × Int)) = (0, 0, 2) := by
    intro h
    rw [if_neg]
    rintro ⟨h1, h2, h3⟩
    rw [isRow_take] at h1 h2
    rw [row_take h1, row_take h2] at h3
    exact h ⟨h1, h2, h3⟩
  have bad : Ev (fun k => sackbutlaw05_RowsWays.j0 k a b 2 true 0 0) true := by
    refine Ev.succ ?_
    simp only [sackbutlaw05_RowsWays.j0, if_true, beq_self_eq_true, Bool.and_self]
    exact Ev.bind awake_ev (Ev.some _)
  by_cases ha : IsRow a
  · simp only [ha, decide_true, if_true]
    refine Ev.bind (Row_ev b) ?_
    by_cases hb : IsRow b
    · simp only [hb, decide_true, if_true]
      by_cases hlen : a.length = b.length
      · simp only [isRow_take, ha, hb, row_take ha, row_take hb, hlen, and_self, if_true, bne_self_eq_false]
        refine Ev.succ ?_
        simp only [sackbutlaw05_RowsWays.j0, Bool.false_eq_true, if_false]
        refine Ev.bind (refWay_ev a b ha hb hlen) ?_
        simp only [beq_self_eq_true, Bool.and_self, if_true]
        exact Ev.bind awake_ev (Ev.some _)
      · rw [hbad (fun h => hlen h.2.2)]
        have hne : ((a.length : Int) != (b.length : Int)) = true := bne_iff_ne.2 (by omega)
        rw [hne]
        exact bad
    · simp only [hb, decide_false, Bool.false_eq_true, if_false]
      rw [hbad (fun h => hb h.2.1)]
      exact bad
  · simp only [ha, decide_false, Bool.false_eq_true, if_false]
    rw [hbad (fun h => ha h.1)]
    exact bad

end Go.Proofs.Ytpfjnpbcnlbhaaa.P
namespace Go.Proofs.Ytpfjnpbcnlbhaaa.Pure
theorem RowsWays : Go.Proofs.Ytpfjnpbcnlbhaaa.P.sackbutlaw05_RowsWays.Pure := Go.Proofs.Ytpfjnpbcnlbhaaa.P.RowsWays
end Go.Proofs.Ytpfjnpbcnlbhaaa.Pure
namespace Go.Proofs.Ytpfjnpbcnlbhaaa.rowsWays
open Go.ChangeShapes Go.WideShapes Go.ChangeAt Go.RowKit
open Go.ChangeMaps (open_string shut_string)
set_option linter.unusedVariables false
theorem own : ownKnob Try.prog.godebug = none := by kernel_rfl
theorem laidOut : laidOutB Try.prog = true := by kernel_rfl
def IsRow (k : IntKind) (w : World) (a : Option Addr) (len cap : Nat) (zs : List Int) : Prop :=
  (a = none ∧ len = 0 ∧ cap = 0 ∧ zs = []) ∨
  ∃ x, a = some x ∧ len ≤ cap ∧ cap ≤ maxLen ∧ zs.length = cap ∧ (∀ i, i < zs.length → w.cell? (x.add i) = some (.int k (zs.getD i 0))) ∧ ∀ n ∈ zs, (Lit.int k n).wf = true
set_option maxRecDepth 100000 in
theorem lifted (os : Os) (started : os.Started) (H : Type) (enc : TypeId × Value → H) :
    ReturnsInHanded {} Try.checked os 5 .any (Rows.rowsWaysSpec.pre6 enc Try.prog Try.f5 Rows.rowsWaysRow.domain false) (Rows.rowsWaysSpec.post enc Try.prog Try.f5 false true false false) := by
  refine returnsInHanded_of_change_sized (C := Try.checked) own started (by kernel_rfl) Try.func5
    (ChangeSpec.witness6 (enc := enc) (C := Try.checked) false ⟨#[], #[.slice none 0 0, .slice none 0 0], []⟩ 8 (by kernel_rfl) (by kernel_rfl) (by kernel_rfl) (by kernel_rfl)) ?_
  intro W base args ds gs before hval0 hW hcnd hsz0 _
  have hsz : (DataW.weightsEach Try.prog (Try.f5.params.toList ++ Rows.rowsWaysSpec.plain.varTypes Try.prog) (ds ++ gs)).all (· ≤ reachBytes) = true := hsz0
  have hval : ∀ (j : Nat) t v, Try.f5.params[j]? = some t → args[j]? = some v → Value.okWide Try.prog W .any base t v := hval0
  have hW' := hW
  obtain ⟨p, q, hA0, hV, rfl, hfz, hnd⟩ := hW
  have hA : DataW.TrodAll enc Try.prog W 0 (fun _ => true) true Try.f5.params.toList args.toList ds p := hA0
  rw [Try.params5] at hA hval hsz
  obtain ⟨v0, vs0, d0, ds0, p0, q0, hargs, rfl, rfl, h0, r0⟩ := trodAll_cons hA
  obtain ⟨v1, vs1, d1, ds1, p1, q1, rfl, rfl, rfl, h1, r1⟩ := trodAll_cons r0
  obtain ⟨rfl, rfl, rfl⟩ := trodAll_nil r1
  obtain rfl : args = #[v0, v1] := by cases args; simp_all
  obtain ⟨rfl, rfl⟩ := trodVars_none hV
  obtain ⟨a0, len0, cap0, rfl⟩ := okWide_slice Try.underlying22 (hval 0 22 v0 rfl rfl)
  have k0 := h0
  have lt0 : ∀ x ∈ p0, x.block < W.heap.size := by obtain ⟨m, hm⟩ := k0; exact DataW.trod_lt m _ _ _ hm
  obtain ⟨z0, w0⟩ : ∃ zs, IsRow .i64 W a0 len0 cap0 zs := by
    obtain ⟨fuel, hf⟩ := h0
    rcases open_ints Try.underlying22 Try.underlying3 (by kernel_rfl) hf with ⟨hcs, _⟩ | ⟨x, l, c, zs, hcs, _, hl, hm, hz, _, hcell, hwz⟩
    · simp [Value.cells] at hcs
      obtain ⟨rfl, rfl, rfl⟩ := hcs
      exact ⟨[], .inl ⟨rfl, rfl, rfl, rfl⟩⟩
    · simp [Value.cells] at hcs
      obtain ⟨rfl, rfl, rfl⟩ := hcs
      exact ⟨zs, .inr ⟨_, rfl, hl, hm, by simpa using hz, hcell, hwz⟩⟩
  have y0 : len0 * 8 ≤ 140737488351232 := Go.Proofs.YtpfjnpbcnlbhaaaW.PrintWords.sized_ints hsz (j := 0) (t := 22) rfl rfl Try.underlying22 Try.underlying3 (by kernel_rfl) (by kernel_rfl) h0
  obtain ⟨a1, len1, cap1, rfl⟩ := okWide_slice Try.underlying22 (hval 1 22 v1 rfl rfl)
  have k1 := h1
  have lt1 : ∀ x ∈ p1, x.block < W.heap.size := by obtain ⟨m, hm⟩ := k1; exact DataW.trod_lt m _ _ _ hm
  obtain ⟨z1, w1⟩ : ∃ zs, IsRow .i64 W a1 len1 cap1 zs := by
    obtain ⟨fuel, hf⟩ := h1
    rcases open_ints Try.underlying22 Try.underlying3 (by kernel_rfl) hf with ⟨hcs, _⟩ | ⟨x, l, c, zs, hcs, _, hl, hm, hz, _, hcell, hwz⟩
    · simp [Value.cells] at hcs
      obtain ⟨rfl, rfl, rfl⟩ := hcs
      exact ⟨[], .inl ⟨rfl, rfl, rfl, rfl⟩⟩
    · simp [Value.cells] at hcs
      obtain ⟨rfl, rfl, rfl⟩ := hcs
      exact ⟨zs, .inr ⟨_, rfl, hl, hm, by simpa using hz, hcell, hwz⟩⟩
  have y1 : len1 * 8 ≤ 140737488351232 := Go.Proofs.YtpfjnpbcnlbhaaaW.PrintWords.sized_ints hsz (j := 1) (t := 22) rfl rfl Try.underlying22 Try.underlying3 (by kernel_rfl) (by kernel_rfl) h1
  clear hA0 hval0 hsz0 hsz
  refine (P.sackbutlaw05_RowsWays.walk Pure.RowsWays a0 len0 cap0 z0 a1 len1 cap1 z1 W w0 y0 w1 y1).mono fun e W' ⟨he, bel⟩ => ?_
  subst he
  exact ⟨_, rfl, _, _, _, [], _, [], hW', trodAll_mk1 (shut_bool Try.underlying4 _), (trodAll_cons_mk (Below.trod laidOut (by kernel_rfl) (of_decide_eq_true (by kernel_rfl)) k0 bel lt0) (trodAll_cons_mk (Below.trod laidOut (by kernel_rfl) (of_decide_eq_true (by kernel_rfl)) k1 bel lt1) trodAll_mk0)), rfl, bel.frame _, fun h => by cases h⟩
theorem over : Rows.rowsWaysRow.holds Try.pinned (OpenSpec.ofChange Rows.rowsWaysSpec) :=
  OpenClaim.holds_of_wide 5 Try.f5 rfl rfl rfl rfl rfl rfl rfl ⟨rfl, rfl, rfl, rfl, rfl⟩ rfl rfl rfl rfl rfl (by kernel_rfl) Try.func5 (by kernel_rfl)
    (of_decide_eq_true (by kernel_rfl)) (by unfold Func.isWrapper; first | (rw [if_pos (by decide +kernel)]; kernel_rfl) | (rw [if_neg (by decide +kernel)]; exact ⟨rfl, rfl⟩))
    (fun os started H enc _ => lifted os started H enc)
theorem proved : Rows.RowsWaysSaid := over
#print axioms proved
end Go.Proofs.Ytpfjnpbcnlbhaaa.rowsWays
namespace Go.Proofs.Ytpfjnpbcnlbhaaa
/-- The row, under a short name, for the claim. -/
theorem rowsWays_holds : Rows.RowsWaysSaid := rowsWays.proved
end Go.Proofs.Ytpfjnpbcnlbhaaa
