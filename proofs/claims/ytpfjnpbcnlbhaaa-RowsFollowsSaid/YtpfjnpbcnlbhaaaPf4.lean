/- A part of a proof that a law's Go function returns true for every input, laid by this session's program mp.py (which drives the kit's print). Conditions: as each theorem states them. -/
import Derived.Test.YtpfjnpbcnlbhaaaP0
import Derived.Test.YtpfjnpbcnlbhaaaPf16
import Derived.Test.YtpfjnpbcnlbhaaaPf18
import Derived.Test.YtpfjnpbcnlbhaaaPf19
import Derived.Test.YtpfjnpbcnlbhaaaPf23
import Derived.Test.YtpfjnpbcnlbhaaaPf24
namespace Go.Proofs.Ytpfjnpbcnlbhaaa.P
open Go.RowKit Go.Proofs.YtpfjnpbcnlbhaaaW.PrintWords Go.Proofs.YtpfjnpbcnlbhaaaW.PrintLast Go.Proofs.YtpfjnpbcnlbhaaaW.PrintMore
attribute [local go_sem] max2_int min2_int max_two min_two max_three min_three max_four min_four   -- for this text's walks alone
set_option linter.unusedVariables false
set_option linter.unusedSimpArgs false

/-! ### sackbutlaw05_RowsFollows: function 4 -/
def sackbutlaw05_RowsFollows.j0 : Nat → List Int → Int → Int → Int → Bool → Option (Bool)
  | 0, _, _, _, _, _ => none
  | k + 1, x0, x1, x5, x6, x27 => if x27 = true then (if x5 = 0 then (if x6 = 2 then ((sackbutlaw05_awake.f k).bind fun t1007 => (some t1007)) else (some false)) else (some false)) else ((sackbutref05_Follow.f k x0 x1).bind fun t1008 => (if x5 = t1008 then (if x6 = 0 then ((sackbutlaw05_awake.f k).bind fun t1009 => (some t1009)) else (some false)) else (some false)))
def sackbutlaw05_RowsFollows.f (k : Nat) (l0 : List Int) (a1 : Int) : Option (Bool) := (sackbutlaw05_list.f l0).bind fun t1001 => ((rows_Follow.f k t1001 a1).bind fun bt1004 => ((sackbutref05_Row.f k l0).bind fun t1006 => (if t1006 = true then (if a1 < 1 then (sackbutlaw05_RowsFollows.j0 k l0 a1 bt1004.1 bt1004.2 true) else (sackbutlaw05_RowsFollows.j0 k l0 a1 bt1004.1 bt1004.2 (decide (a1 > (wrap64 ((l0.length : Int) - 1)))))) else (sackbutlaw05_RowsFollows.j0 k l0 a1 bt1004.1 bt1004.2 true))))
theorem sackbutlaw05_RowsFollows.mono_l : ∀ k, (∀ y0 y1 y2 y3 y4, LeO (sackbutlaw05_RowsFollows.j0 k y0 y1 y2 y3 y4) (sackbutlaw05_RowsFollows.j0 (k + 1) y0 y1 y2 y3 y4))
  | 0 => fun _ _ _ _ _ r h => by simp [sackbutlaw05_RowsFollows.j0] at h
  | k + 1 => by
    have ih0 := sackbutlaw05_RowsFollows.mono_l k
    · intro y0 y1 y2 y3 y4
      unfold sackbutlaw05_RowsFollows.j0
      repeat' first
      | (with_reducible exact ih0 _ _ _ _ _)
      | (with_reducible exact rows_Follow.mono _ _ _)
      | (with_reducible exact sackbutlaw05_awake.mono _)
      | (with_reducible exact sackbutref05_Follow.mono _ _ _)
      | (with_reducible exact sackbutref05_Row.mono _ _)
      | (with_reducible exact LeO.refl _)
      | (with_reducible exact LeO.none _)
      | (with_reducible refine LeO.ite ?_ ?_)
      | (with_reducible refine LeO.bind ?_ (fun _ => ?_))
      | exact ih0 _ _ _ _ _
      | exact rows_Follow.mono _ _ _
      | exact sackbutlaw05_awake.mono _
      | exact sackbutref05_Follow.mono _ _ _
      | exact sackbutref05_Row.mono _ _
      | exact LeO.none _
      | refine LeO.ite ?_ ?_
      | refine LeO.bind ?_ (fun _ => ?_)
theorem sackbutlaw05_RowsFollows.mono : ∀ a0 a1 k, LeO (sackbutlaw05_RowsFollows.f k a0 a1) (sackbutlaw05_RowsFollows.f (k + 1) a0 a1) := by
  intro a0 a1 k
  have ih0 := sackbutlaw05_RowsFollows.mono_l k
  unfold sackbutlaw05_RowsFollows.f
  repeat' first
      | (with_reducible exact ih0 _ _ _ _ _)
      | (with_reducible exact rows_Follow.mono _ _ _)
      | (with_reducible exact sackbutlaw05_awake.mono _)
      | (with_reducible exact sackbutref05_Follow.mono _ _ _)
      | (with_reducible exact sackbutref05_Row.mono _ _)
      | (with_reducible exact LeO.refl _)
      | (with_reducible exact LeO.none _)
      | (with_reducible refine LeO.ite ?_ ?_)
      | (with_reducible refine LeO.bind ?_ (fun _ => ?_))
      | exact ih0 _ _ _ _ _
      | exact rows_Follow.mono _ _ _
      | exact sackbutlaw05_awake.mono _
      | exact sackbutref05_Follow.mono _ _ _
      | exact sackbutref05_Row.mono _ _
      | exact LeO.none _
      | refine LeO.ite ?_ ?_
      | refine LeO.bind ?_ (fun _ => ?_)
set_option maxHeartbeats 8000000 in
set_option maxRecDepth 100000 in
theorem sackbutlaw05_RowsFollows.calls (k : Nat) (A0 : Option Addr) (c0 : Nat) (l0 : List Int) (a1 : Int) (r : Bool) (w : World) (hr0 : Kd.C (Kd.int .i64) w A0 l0.length l0) (hc0 : l0.length ≤ c0) (h : sackbutlaw05_RowsFollows.f k l0 a1 = some r) :
    Calls Try.prog 4 #[.slice A0 l0.length c0, .int .i64 a1] w fun e w' => e = .returned (.bool r) ∧ Below w.heap.size w w' := by
  have HR0 := Aside0.mk hr0
  have HC0 := Aside0.mk hc0
  clear hr0 hc0
  have HB := Aside0.mk (Below.refl w.heap.size w)
  have H : ((sackbutlaw05_list.f l0).bind fun t1001 => ((rows_Follow.f k t1001 a1).bind fun bt1004 => ((sackbutref05_Row.f k l0).bind fun t1006 => (if t1006 = true then (if a1 < 1 then (sackbutlaw05_RowsFollows.j0 k l0 a1 bt1004.1 bt1004.2 true) else (sackbutlaw05_RowsFollows.j0 k l0 a1 bt1004.1 bt1004.2 (decide (a1 > (wrap64 ((l0.length : Int) - 1)))))) else (sackbutlaw05_RowsFollows.j0 k l0 a1 bt1004.1 bt1004.2 true))))) = some r := h
  clear h
  replace H := Option.bind_eq_some_iff.mp H
  obtain ⟨t1001, A30, H⟩ := H
  replace H : ((rows_Follow.f k t1001 a1).bind fun bt1004 => ((sackbutref05_Row.f k l0).bind fun t1006 => (if t1006 = true then (if a1 < 1 then (sackbutlaw05_RowsFollows.j0 k l0 a1 bt1004.1 bt1004.2 true) else (sackbutlaw05_RowsFollows.j0 k l0 a1 bt1004.1 bt1004.2 (decide (a1 > (wrap64 ((l0.length : Int) - 1)))))) else (sackbutlaw05_RowsFollows.j0 k l0 a1 bt1004.1 bt1004.2 true)))) = some r := H
  have A3 := Aside0.mk A30
  clear A30
  replace H := Option.bind_eq_some_iff.mp H
  obtain ⟨⟨t1004, t1005⟩, A40, H⟩ := H
  replace H : ((sackbutref05_Row.f k l0).bind fun t1006 => (if t1006 = true then (if a1 < 1 then (sackbutlaw05_RowsFollows.j0 k l0 a1 t1004 t1005 true) else (sackbutlaw05_RowsFollows.j0 k l0 a1 t1004 t1005 (decide (a1 > (wrap64 ((l0.length : Int) - 1)))))) else (sackbutlaw05_RowsFollows.j0 k l0 a1 t1004 t1005 true))) = some r := H
  have A4 := Aside0.mk A40
  clear A40
  have HC5 := Aside0.mk H
  clear H
  go_enter Try.func4, Try.ntmps4
  go_upto_region 2 with (first | ((with_reducible refine gate_callee (f := 16) rfl ?_); refine goesL_ (some 9) rfl rfl Try.func16 (by kernel_rfl) rfl #[.slice A0 l0.length c0] rfl (by (try simp only [List.map_toArray, List.map_cons, List.map_nil]); first | done | rfl | (simp only [List.length_drop, List.length_take]; rfl)) ?_; (with_reducible refine (sackbutlaw05_list.calls _ _ l0 t1001 _ ?side1 ?side2 A3.out).mono ?_); (case side1 => repeat (first | exact HR0.out | (with_reducible refine Kd.C_alloc ?_ _) | (with_reducible refine Kd.C_drewN ?_ _) | (with_reducible refine Kd.C_drew ?_))); (case side2 => exact HC0.out); rintro e w6 ⟨v1002, rfl, ho0, hb⟩; refine ⟨_, rfl, ?_⟩; have n0_ := Aside0.mk (Kd.R_lower ho0 (below_size (by repeat (first | (with_reducible first | exact HB.out | apply below_alloc | apply pw_below_drewN | apply below_drew1) | exact HB.out)))); have n1_ := Aside0.mk (below_step (by repeat (first | (with_reducible first | exact HB.out | apply below_alloc | apply pw_below_drewN | apply below_drew1) | exact HB.out)) hb); clear HB; have HO1003 := n0_; have HB := n1_; clear n0_ n1_; (try clear hb); (try clear hb2); (try clear hk); (try clear hi); (try clear ho0); obtain ⟨Ao7, co7, eo7⟩ := Kd.R_slice HO1003.out; subst eo7) | ((with_reducible refine gate_callee (f := 23) rfl ?_); refine goesL_ (some 11) rfl rfl Try.func23 (by kernel_rfl) rfl #[.slice Ao7 t1001.length co7, .int .i64 a1] rfl (by (try simp only [List.map_toArray, List.map_cons, List.map_nil]); first | done | rfl | (simp only [List.length_drop, List.length_take]; rfl)) ?_; (with_reducible refine (rows_Follow.calls k _ _ t1001 a1 t1004 t1005 _ ?side1 ?side2 A4.out).mono ?_); (case side1 => repeat (first | exact (Kd.R_reads' HO1003.out).2.2 | (with_reducible refine Kd.C_alloc ?_ _) | (with_reducible refine Kd.C_drewN ?_ _) | (with_reducible refine Kd.C_drew ?_))); (case side2 => exact (Kd.R_reads' HO1003.out).2.1); rintro e w' ⟨rfl, ⟨nd, rfl⟩⟩; refine ⟨_, rfl, ?_⟩))
  (try simp only [Act.put, List.setIfInBounds_toArray, List.set_cons_zero, List.set_cons_succ])
  go_cut [27] (fun v27 wc => ∃ (kq : Nat) (x27_4 : Bool), v27 = .bool x27_4 ∧ Aside0 (sackbutlaw05_RowsFollows.j0 kq l0 a1 t1004 t1005 x27_4 = some r) ∧ Aside0 (kq ≤ k) ∧ Aside0 (Below w.heap.size w wc))
  case first =>
    have H := HC5.out
    clear HC5
    replace H := Option.bind_eq_some_iff.mp H
    obtain ⟨t1006, A80, H⟩ := H
    replace H : (if t1006 = true then (if a1 < 1 then (sackbutlaw05_RowsFollows.j0 k l0 a1 t1004 t1005 true) else (sackbutlaw05_RowsFollows.j0 k l0 a1 t1004 t1005 (decide (a1 > (wrap64 ((l0.length : Int) - 1)))))) else (sackbutlaw05_RowsFollows.j0 k l0 a1 t1004 t1005 true)) = some r := H
    have A8 := Aside0.mk A80
    clear A80
    by_cases c9 : t1006 = true
    · subst c9
      have H1 : (if a1 < 1 then (sackbutlaw05_RowsFollows.j0 k l0 a1 t1004 t1005 true) else (sackbutlaw05_RowsFollows.j0 k l0 a1 t1004 t1005 (decide (a1 > (wrap64 ((l0.length : Int) - 1)))))) = some r := by rw [if_pos rfl] at H; exact H
      clear H
      have H := H1
      clear H1
      by_cases c10 : a1 < 1
      · rw [if_pos c10] at H
        have c10b0 : decide (a1 < 1) = true := decide_eq_true c10
        clear c10
        (first | rw [c10b0] | (simp only [i64_w, i32_w]; rw [c10b0]) | skip)
        have H' := Aside0.mk H
        clear H
        go_wp2_with (first | ((with_reducible refine gate_callee (f := 18) rfl ?_); refine goesL_ (some 15) rfl rfl Try.func18 (by kernel_rfl) rfl #[.slice A0 l0.length c0] rfl (by (try simp only [List.map_toArray, List.map_cons, List.map_nil]); first | done | rfl | (simp only [List.length_drop, List.length_take]; rfl)) ?_; (with_reducible refine (sackbutref05_Row.calls k _ _ l0 true _ ?side1 ?side2 A8.out).mono ?_); (case side1 => repeat (first | exact (Kd.C_below HR0.out HB.out) | (with_reducible refine Kd.C_alloc ?_ _) | (with_reducible refine Kd.C_drewN ?_ _) | (with_reducible refine Kd.C_drew ?_))); (case side2 => exact HC0.out); rintro e w' ⟨rfl, ⟨nd, rfl⟩⟩; refine ⟨_, rfl, ?_⟩))
        go_meet
        case rel => exact ⟨_, (true), (by first | rfl | (simp; done) | (simp [*]; done)), H', ⟨by first | omega | exact Nat.le_refl _⟩, ⟨by repeat (first | (with_reducible first | exact HB.out | apply below_alloc | apply pw_below_drewN | apply below_drew1) | exact HB.out)⟩⟩
      · rw [if_neg c10] at H
        have c10b0 : decide (a1 < 1) = false := decide_eq_false c10
        clear c10
        (first | rw [c10b0] | (simp only [i64_w, i32_w]; rw [c10b0]) | skip)
        have H' := Aside0.mk H
        clear H
        go_wp2_with (first | ((with_reducible refine gate_callee (f := 18) rfl ?_); refine goesL_ (some 15) rfl rfl Try.func18 (by kernel_rfl) rfl #[.slice A0 l0.length c0] rfl (by (try simp only [List.map_toArray, List.map_cons, List.map_nil]); first | done | rfl | (simp only [List.length_drop, List.length_take]; rfl)) ?_; (with_reducible refine (sackbutref05_Row.calls k _ _ l0 true _ ?side1 ?side2 A8.out).mono ?_); (case side1 => repeat (first | exact (Kd.C_below HR0.out HB.out) | (with_reducible refine Kd.C_alloc ?_ _) | (with_reducible refine Kd.C_drewN ?_ _) | (with_reducible refine Kd.C_drew ?_))); (case side2 => exact HC0.out); rintro e w' ⟨rfl, ⟨nd, rfl⟩⟩; refine ⟨_, rfl, ?_⟩))
        go_meet
        case rel => exact ⟨_, (decide (a1 > (wrap64 ((l0.length : Int) - 1)))), (by first | rfl | (simp; done) | (simp [*]; done)), H', ⟨by first | omega | exact Nat.le_refl _⟩, ⟨by repeat (first | (with_reducible first | exact HB.out | apply below_alloc | apply pw_below_drewN | apply below_drew1) | exact HB.out)⟩⟩
    · replace c9 := Bool.eq_false_iff.mpr c9
      subst c9
      have H1 : (sackbutlaw05_RowsFollows.j0 k l0 a1 t1004 t1005 true) = some r := by rw [if_neg (show ¬ (false = true) by decide)] at H; exact H
      clear H
      have H := H1
      clear H1
      have H' := Aside0.mk H
      clear H
      go_wp2_with (first | ((with_reducible refine gate_callee (f := 18) rfl ?_); refine goesL_ (some 15) rfl rfl Try.func18 (by kernel_rfl) rfl #[.slice A0 l0.length c0] rfl (by (try simp only [List.map_toArray, List.map_cons, List.map_nil]); first | done | rfl | (simp only [List.length_drop, List.length_take]; rfl)) ?_; (with_reducible refine (sackbutref05_Row.calls k _ _ l0 false _ ?side1 ?side2 A8.out).mono ?_); (case side1 => repeat (first | exact (Kd.C_below HR0.out HB.out) | (with_reducible refine Kd.C_alloc ?_ _) | (with_reducible refine Kd.C_drewN ?_ _) | (with_reducible refine Kd.C_drew ?_))); (case side2 => exact HC0.out); rintro e w' ⟨rfl, ⟨nd, rfl⟩⟩; refine ⟨_, rfl, ?_⟩))
      go_meet
      case rel => exact ⟨_, (true), (by first | rfl | (simp; done) | (simp [*]; done)), H', ⟨by first | omega | exact Nat.le_refl _⟩, ⟨by repeat (first | (with_reducible first | exact HB.out | apply below_alloc | apply pw_below_drewN | apply below_drew1) | exact HB.out)⟩⟩
  case rest =>
    clear HC5
    try clear c1
    try clear c2
    try clear p2
    try clear c4
    try clear p6
    try clear c9
    try clear c10
    try clear c10b0
    obtain ⟨kq, x27_4, rfl, HA, HJ4, HB⟩ := hcut
    cases kq with
    | zero => exact absurd HA.out (by simp [sackbutlaw05_RowsFollows.j0])
    | succ kj4 =>
      have H := HA.out
      clear HA
      simp only [sackbutlaw05_RowsFollows.j0] at H
      by_cases c11 : x27_4 = true
      · subst c11
        have H1 : (if t1004 = 0 then (if t1005 = 2 then ((sackbutlaw05_awake.f kj4).bind fun t1007 => (some t1007)) else (some false)) else (some false)) = some r := by rw [if_pos rfl] at H; exact H
        clear H
        have H := H1
        clear H1
        by_cases c12 : t1004 = 0
        · rw [if_pos c12] at H
          have c12b0 : (t1004 == 0) = true := beq_iff_eq.mpr c12
          have c12b1 : (t1004 != 0) = false := bne_eq_false_iff_eq.mpr c12
          clear c12
          by_cases c13 : t1005 = 2
          · rw [if_pos c13] at H
            have c13b0 : (t1005 == 2) = true := beq_iff_eq.mpr c13
            have c13b1 : (t1005 != 2) = false := bne_eq_false_iff_eq.mpr c13
            clear c13
            replace H := Option.bind_eq_some_iff.mp H
            obtain ⟨t1007, A140, H⟩ := H
            replace H : (some t1007) = some r := H
            have A14 := Aside0.mk A140
            clear A140
            obtain rfl := Option.some.inj H
            go_wp2_with (first | (go_at_call 19; (with_reducible refine (sackbutlaw05_awake.calls kj4  t1007 _ A14.out).mono ?_); rintro e w15 ⟨rfl, hb⟩; have n0_ := Aside0.mk (below_step (by repeat (first | (with_reducible first | exact HB.out | apply below_alloc | apply pw_below_drewN | apply below_drew1) | exact HB.out)) hb); clear HB; have HB := n0_; clear n0_; (try clear hb); (try clear hb2); (try clear hk); (try clear hi)))
            go_ret
            exact ⟨by first | rfl | (simp [errW_none, errW_some] <;> rfl) | (simp [*, errW_none, errW_some] <;> rfl), by repeat (first | (with_reducible first | exact HB.out | apply below_alloc | apply pw_below_drewN | apply below_drew1) | exact HB.out)⟩
          · rw [if_neg c13] at H
            have c13b0 : (t1005 == 2) = false := beq_eq_false_iff_ne.mpr c13
            have c13b1 : (t1005 != 2) = true := bne_iff_ne.mpr c13
            obtain rfl := Option.some.inj H
            go_wp2
            go_ret
            exact ⟨by first | rfl | (simp [errW_none, errW_some] <;> rfl) | (simp [*, errW_none, errW_some] <;> rfl), by repeat (first | (with_reducible first | exact HB.out | apply below_alloc | apply pw_below_drewN | apply below_drew1) | exact HB.out)⟩
        · rw [if_neg c12] at H
          have c12b0 : (t1004 == 0) = false := beq_eq_false_iff_ne.mpr c12
          have c12b1 : (t1004 != 0) = true := bne_iff_ne.mpr c12
          obtain rfl := Option.some.inj H
          go_wp2
          go_ret
          exact ⟨by first | rfl | (simp [errW_none, errW_some] <;> rfl) | (simp [*, errW_none, errW_some] <;> rfl), by repeat (first | (with_reducible first | exact HB.out | apply below_alloc | apply pw_below_drewN | apply below_drew1) | exact HB.out)⟩
      · replace c11 := Bool.eq_false_iff.mpr c11
        subst c11
        have H1 : ((sackbutref05_Follow.f kj4 l0 a1).bind fun t1008 => (if t1004 = t1008 then (if t1005 = 0 then ((sackbutlaw05_awake.f kj4).bind fun t1009 => (some t1009)) else (some false)) else (some false))) = some r := by rw [if_neg (show ¬ (false = true) by decide)] at H; exact H
        clear H
        have H := H1
        clear H1
        replace H := Option.bind_eq_some_iff.mp H
        obtain ⟨t1008, A160, H⟩ := H
        replace H : (if t1004 = t1008 then (if t1005 = 0 then ((sackbutlaw05_awake.f kj4).bind fun t1009 => (some t1009)) else (some false)) else (some false)) = some r := H
        have A16 := Aside0.mk A160
        clear A160
        by_cases c17 : t1004 = t1008
        · rw [if_pos c17] at H
          have c17b0 : (t1004 == t1008) = true := beq_iff_eq.mpr c17
          have c17b1 : (t1004 != t1008) = false := bne_eq_false_iff_eq.mpr c17
          clear c17
          by_cases c18 : t1005 = 0
          · rw [if_pos c18] at H
            have c18b0 : (t1005 == 0) = true := beq_iff_eq.mpr c18
            have c18b1 : (t1005 != 0) = false := bne_eq_false_iff_eq.mpr c18
            clear c18
            replace H := Option.bind_eq_some_iff.mp H
            obtain ⟨t1009, A190, H⟩ := H
            replace H : (some t1009) = some r := H
            have A19 := Aside0.mk A190
            clear A190
            obtain rfl := Option.some.inj H
            go_wp2_with (first | ((with_reducible refine gate_callee (f := 24) rfl ?_); refine goesL_ (some 40) rfl rfl Try.func24 (by kernel_rfl) rfl #[.slice A0 l0.length c0, .int .i64 a1] rfl (by (try simp only [List.map_toArray, List.map_cons, List.map_nil]); first | done | rfl | (simp only [List.length_drop, List.length_take]; rfl)) ?_; (with_reducible refine (sackbutref05_Follow.calls kj4 _ _ l0 a1 t1008 _ ?side1 ?side2 A16.out).mono ?_); (case side1 => repeat (first | exact (Kd.C_below HR0.out HB.out) | (with_reducible refine Kd.C_alloc ?_ _) | (with_reducible refine Kd.C_drewN ?_ _) | (with_reducible refine Kd.C_drew ?_))); (case side2 => exact HC0.out); rintro e w' ⟨rfl, ⟨nd, rfl⟩⟩; refine ⟨_, rfl, ?_⟩) | (go_at_call 19; (with_reducible refine (sackbutlaw05_awake.calls kj4  t1009 _ A19.out).mono ?_); rintro e w20 ⟨rfl, hb⟩; have n0_ := Aside0.mk (below_step (by repeat (first | (with_reducible first | exact HB.out | apply below_alloc | apply pw_below_drewN | apply below_drew1) | exact HB.out)) hb); clear HB; have HB := n0_; clear n0_; (try clear hb); (try clear hb2); (try clear hk); (try clear hi)))
            go_ret
            exact ⟨by first | rfl | (simp [errW_none, errW_some] <;> rfl) | (simp [*, errW_none, errW_some] <;> rfl), by repeat (first | (with_reducible first | exact HB.out | apply below_alloc | apply pw_below_drewN | apply below_drew1) | exact HB.out)⟩
          · rw [if_neg c18] at H
            have c18b0 : (t1005 == 0) = false := beq_eq_false_iff_ne.mpr c18
            have c18b1 : (t1005 != 0) = true := bne_iff_ne.mpr c18
            obtain rfl := Option.some.inj H
            go_wp2_with (first | ((with_reducible refine gate_callee (f := 24) rfl ?_); refine goesL_ (some 40) rfl rfl Try.func24 (by kernel_rfl) rfl #[.slice A0 l0.length c0, .int .i64 a1] rfl (by (try simp only [List.map_toArray, List.map_cons, List.map_nil]); first | done | rfl | (simp only [List.length_drop, List.length_take]; rfl)) ?_; (with_reducible refine (sackbutref05_Follow.calls kj4 _ _ l0 a1 t1008 _ ?side1 ?side2 A16.out).mono ?_); (case side1 => repeat (first | exact (Kd.C_below HR0.out HB.out) | (with_reducible refine Kd.C_alloc ?_ _) | (with_reducible refine Kd.C_drewN ?_ _) | (with_reducible refine Kd.C_drew ?_))); (case side2 => exact HC0.out); rintro e w' ⟨rfl, ⟨nd, rfl⟩⟩; refine ⟨_, rfl, ?_⟩))
            go_ret
            exact ⟨by first | rfl | (simp [errW_none, errW_some] <;> rfl) | (simp [*, errW_none, errW_some] <;> rfl), by repeat (first | (with_reducible first | exact HB.out | apply below_alloc | apply pw_below_drewN | apply below_drew1) | exact HB.out)⟩
        · rw [if_neg c17] at H
          have c17b0 : (t1004 == t1008) = false := beq_eq_false_iff_ne.mpr c17
          have c17b1 : (t1004 != t1008) = true := bne_iff_ne.mpr c17
          obtain rfl := Option.some.inj H
          go_wp2_with (first | ((with_reducible refine gate_callee (f := 24) rfl ?_); refine goesL_ (some 40) rfl rfl Try.func24 (by kernel_rfl) rfl #[.slice A0 l0.length c0, .int .i64 a1] rfl (by (try simp only [List.map_toArray, List.map_cons, List.map_nil]); first | done | rfl | (simp only [List.length_drop, List.length_take]; rfl)) ?_; (with_reducible refine (sackbutref05_Follow.calls kj4 _ _ l0 a1 t1008 _ ?side1 ?side2 A16.out).mono ?_); (case side1 => repeat (first | exact (Kd.C_below HR0.out HB.out) | (with_reducible refine Kd.C_alloc ?_ _) | (with_reducible refine Kd.C_drewN ?_ _) | (with_reducible refine Kd.C_drew ?_))); (case side2 => exact HC0.out); rintro e w' ⟨rfl, ⟨nd, rfl⟩⟩; refine ⟨_, rfl, ?_⟩))
          go_ret
          exact ⟨by first | rfl | (simp [errW_none, errW_some] <;> rfl) | (simp [*, errW_none, errW_some] <;> rfl), by repeat (first | (with_reducible first | exact HB.out | apply below_alloc | apply pw_below_drewN | apply below_drew1) | exact HB.out)⟩

/-- THE ONE PURE STATEMENT of sackbutlaw05_RowsFollows: yours. -/
def sackbutlaw05_RowsFollows.Pure : Prop := ∀ (l0 : List Int) (a1 : Int), l0.length ≤ maxLen → l0.length * 8 ≤ 140737488351232 → (∀ x ∈ l0, (Lit.int .i64 x).wf = true) → (Lit.int .i64 a1).wf = true → ∃ k, sackbutlaw05_RowsFollows.f k l0 a1 = some true
theorem sackbutlaw05_RowsFollows.walk (P : sackbutlaw05_RowsFollows.Pure) (a0 : Option Addr) (len0 cap0 : Nat) (z0 : List Int) (a1 : Int) (w : World) (w0 : (a0 = none ∧ len0 = 0 ∧ cap0 = 0 ∧ z0 = []) ∨ ∃ x, a0 = some x ∧ len0 ≤ cap0 ∧ cap0 ≤ maxLen ∧ z0.length = cap0 ∧ (∀ i, i < z0.length → w.cell? (x.add i) = some (.int .i64 (z0.getD i 0))) ∧ ∀ n ∈ z0, (Lit.int .i64 n).wf = true) (y0 : len0 * 8 ≤ 140737488351232) (w1 : (Lit.int .i64 a1).wf = true) :
    Calls Try.prog 4 #[.slice a0 len0 cap0, .int .i64 a1] w fun e w' => e = .returned (.bool true) ∧ Below w.heap.size w w' := by
  obtain ⟨l0, rfl, hr0, hm0, hw0, hc0⟩ := ReadsInt.ofRowC w0
  obtain ⟨k, h⟩ := P l0 a1 hm0 y0 hw0 w1
  refine (sackbutlaw05_RowsFollows.calls k _ _ l0 a1 true w (Kd.C_of_reads (d := (0 : Int)) (h1 := fun _ => rfl) hr0) hc0 h).mono ?_
  rintro e w' ⟨rfl, hd⟩
  exact ⟨rfl, hd⟩

end Go.Proofs.Ytpfjnpbcnlbhaaa.P
