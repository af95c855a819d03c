/- A part of a proof that a law's Go function returns true for every input, laid by this session's program mp.py (which drives the kit's print). Conditions: as each theorem states them. -/
import Derived.LaidMore
import Derived.Stop.Joined
import Derived.ProofKit
import Derived.OpenShut
import Derived.Test.YtnjmiodnkjabgaaDoorRows
import Derived.Test.YtnjmiodnkjabgaaDoorCChordsStill1
import Derived.Test.YtnjmiodnkjabgaaDoorCChordsStill2
namespace Go.Proofs.YtnjmiodnkjabgaaDoor.P
open Go.RowKit Go.Proofs.YtnjmiodnkjabgaaDoorW.PrintWords Go.Proofs.YtnjmiodnkjabgaaDoorW.PrintLast Go.Proofs.YtnjmiodnkjabgaaDoorW.PrintMore
attribute [local go_sem] max2_int min2_int max_two min_two max_three min_three max_four min_four   -- for this text's walks alone
set_option linter.unusedVariables false
set_option linter.unusedSimpArgs false

/-! ### sackbutlaw01_ChordsStill: function 3 -/
def sackbutlaw01_ChordsStill.f (k : Nat) (a0 : Int) (a1 : Int) : Option (Bool) := (chords_Still.f k a0 a1).bind fun bt1001 => ((sackbutref01_Valid.f a0 a1).bind fun t1004 => (if t1004 = true then ((sackbutref01_Still.f k a0 a1).bind fun bt1005 => (if bt1001.1 = bt1005.1 then (if bt1001.2.1 = bt1005.2 then (if bt1001.2.2 = 0 then ((sackbutlaw01_awake.f).bind fun t1007 => (some t1007)) else (some false)) else (some false)) else (some false))) else (if bt1001.1 = 0 then (if bt1001.2.1 = 0 then (if bt1001.2.2 = 2 then ((sackbutlaw01_awake.f).bind fun t1008 => (some t1008)) else (some false)) else (some false)) else (some false))))
theorem sackbutlaw01_ChordsStill.mono : ∀ a0 a1 k, LeO (sackbutlaw01_ChordsStill.f k a0 a1) (sackbutlaw01_ChordsStill.f (k + 1) a0 a1) := by
  intro a0 a1 k
  unfold sackbutlaw01_ChordsStill.f
  repeat' first
      | (with_reducible exact chords_Still.mono _ _ _)
      | (with_reducible exact sackbutref01_Still.mono _ _ _)
      | (with_reducible exact LeO.refl _)
      | (with_reducible exact LeO.none _)
      | (with_reducible refine LeO.ite ?_ ?_)
      | (with_reducible refine LeO.bind ?_ (fun _ => ?_))
      | exact chords_Still.mono _ _ _
      | exact sackbutref01_Still.mono _ _ _
      | exact LeO.none _
      | refine LeO.ite ?_ ?_
      | refine LeO.bind ?_ (fun _ => ?_)
set_option maxHeartbeats 8000000 in
set_option maxRecDepth 100000 in
theorem sackbutlaw01_ChordsStill.calls (k : Nat) (a0 : Int) (a1 : Int) (r : Bool) (w : World) (hT : Tabs w) (h : sackbutlaw01_ChordsStill.f k a0 a1 = some r) :
    Calls Tryd.prog 3 #[.int .i64 a0, .int .i64 a1] w fun e w' => e = .returned (.bool r) ∧ Below w.heap.size w w' := by
  have HB := Aside0.mk (Below.refl w.heap.size w)
  have HT0 := Aside0.mk hT
  clear hT
  have H : ((chords_Still.f k a0 a1).bind fun bt1001 => ((sackbutref01_Valid.f a0 a1).bind fun t1004 => (if t1004 = true then ((sackbutref01_Still.f k a0 a1).bind fun bt1005 => (if bt1001.1 = bt1005.1 then (if bt1001.2.1 = bt1005.2 then (if bt1001.2.2 = 0 then ((sackbutlaw01_awake.f).bind fun t1007 => (some t1007)) else (some false)) else (some false)) else (some false))) else (if bt1001.1 = 0 then (if bt1001.2.1 = 0 then (if bt1001.2.2 = 2 then ((sackbutlaw01_awake.f).bind fun t1008 => (some t1008)) else (some false)) else (some false)) else (some false))))) = some r := h
  clear h
  replace H := Option.bind_eq_some_iff.mp H
  obtain ⟨⟨t1001, t1002, t1003⟩, A30, H⟩ := H
  replace H : ((sackbutref01_Valid.f a0 a1).bind fun t1004 => (if t1004 = true then ((sackbutref01_Still.f k a0 a1).bind fun bt1005 => (if t1001 = bt1005.1 then (if t1002 = bt1005.2 then (if t1003 = 0 then ((sackbutlaw01_awake.f).bind fun t1007 => (some t1007)) else (some false)) else (some false)) else (some false))) else (if t1001 = 0 then (if t1002 = 0 then (if t1003 = 2 then ((sackbutlaw01_awake.f).bind fun t1008 => (some t1008)) else (some false)) else (some false)) else (some false)))) = some r := H
  have A3 := Aside0.mk A30
  clear A30
  replace H := Option.bind_eq_some_iff.mp H
  obtain ⟨t1004, A40, H⟩ := H
  replace H : (if t1004 = true then ((sackbutref01_Still.f k a0 a1).bind fun bt1005 => (if t1001 = bt1005.1 then (if t1002 = bt1005.2 then (if t1003 = 0 then ((sackbutlaw01_awake.f).bind fun t1007 => (some t1007)) else (some false)) else (some false)) else (some false))) else (if t1001 = 0 then (if t1002 = 0 then (if t1003 = 2 then ((sackbutlaw01_awake.f).bind fun t1008 => (some t1008)) else (some false)) else (some false)) else (some false))) = some r := H
  have A4 := Aside0.mk A40
  clear A40
  by_cases c5 : t1004 = true
  · subst c5
    have H1 : ((sackbutref01_Still.f k a0 a1).bind fun bt1005 => (if t1001 = bt1005.1 then (if t1002 = bt1005.2 then (if t1003 = 0 then ((sackbutlaw01_awake.f).bind fun t1007 => (some t1007)) else (some false)) else (some false)) else (some false))) = some r := by rw [if_pos rfl] at H; exact H
    clear H
    have H := H1
    clear H1
    replace H := Option.bind_eq_some_iff.mp H
    obtain ⟨⟨t1005, t1006⟩, A60, H⟩ := H
    replace H : (if t1001 = t1005 then (if t1002 = t1006 then (if t1003 = 0 then ((sackbutlaw01_awake.f).bind fun t1007 => (some t1007)) else (some false)) else (some false)) else (some false)) = some r := H
    have A6 := Aside0.mk A60
    clear A60
    by_cases c7 : t1001 = t1005
    · rw [if_pos c7] at H
      have c7b0 : (t1001 == t1005) = true := beq_iff_eq.mpr c7
      have c7b1 : (t1001 != t1005) = false := bne_eq_false_iff_eq.mpr c7
      clear c7
      by_cases c8 : t1002 = t1006
      · rw [if_pos c8] at H
        have c8b0 : (t1002 == t1006) = true := beq_iff_eq.mpr c8
        have c8b1 : (t1002 != t1006) = false := bne_eq_false_iff_eq.mpr c8
        clear c8
        by_cases c9 : t1003 = 0
        · rw [if_pos c9] at H
          have c9b0 : (t1003 == 0) = true := beq_iff_eq.mpr c9
          have c9b1 : (t1003 != 0) = false := bne_eq_false_iff_eq.mpr c9
          clear c9
          replace H := Option.bind_eq_some_iff.mp H
          obtain ⟨t1007, A100, H⟩ := H
          replace H : (some t1007) = some r := H
          have A10 := Aside0.mk A100
          clear A100
          obtain rfl := Option.some.inj H
          go_enter Tryd.func3, Tryd.ntmps3
          go_wp2_with (first | ((with_reducible refine gate_callee (f := 12) rfl ?_); refine goesL_ (some 13) rfl rfl Tryd.func12 (by kernel_rfl) rfl #[.int .i64 a0, .int .i64 a1] rfl (by (try simp only [List.map_toArray, List.map_cons, List.map_nil]); first | done | rfl | (simp only [List.length_drop, List.length_take]; rfl)) ?_; (with_reducible refine (chords_Still.calls k a0 a1 t1001 t1002 t1003 _ ?side1 A3.out).mono ?_); (case side1 => exact Tabs.below HT0.out (by repeat (first | (with_reducible first | exact HB.out | apply below_alloc | apply pw_below_drewN | apply below_drew1) | exact HB.out))); rintro e w11 ⟨rfl, hb⟩; refine ⟨_, rfl, ?_⟩; have n0_ := Aside0.mk (below_step (by repeat (first | (with_reducible first | exact HB.out | apply below_alloc | apply pw_below_drewN | apply below_drew1) | exact HB.out)) hb); clear HB; have HB := n0_; clear n0_; (try clear hb); (try clear hb2); (try clear hk); (try clear hi)) | ((with_reducible refine gate_callee (f := 13) rfl ?_); refine goesL_ (some 19) rfl rfl Tryd.func13 (by kernel_rfl) rfl #[.int .i64 a0, .int .i64 a1] rfl (by (try simp only [List.map_toArray, List.map_cons, List.map_nil]); first | done | rfl | (simp only [List.length_drop, List.length_take]; rfl)) ?_; (with_reducible refine (sackbutref01_Valid.calls a0 a1 true _ A4.out).mono ?_); rintro e w' ⟨rfl, ⟨nd, rfl⟩⟩; refine ⟨_, rfl, ?_⟩) | ((with_reducible refine gate_callee (f := 15) rfl ?_); refine goesL_ (some 37) rfl rfl Tryd.func15 (by kernel_rfl) rfl #[.int .i64 a0, .int .i64 a1] rfl (by (try simp only [List.map_toArray, List.map_cons, List.map_nil]); first | done | rfl | (simp only [List.length_drop, List.length_take]; rfl)) ?_; (with_reducible refine (sackbutref01_Still.calls k a0 a1 t1005 t1006 _ A6.out).mono ?_); rintro e w' ⟨rfl, ⟨nd, rfl⟩⟩; refine ⟨_, rfl, ?_⟩) | (go_at_call 14; (with_reducible refine (sackbutlaw01_awake.calls  t1007 _ A10.out).mono ?_); rintro e w12 ⟨rfl, hb⟩; have n0_ := Aside0.mk (below_step (by repeat (first | (with_reducible first | exact HB.out | apply below_alloc | apply pw_below_drewN | apply below_drew1) | exact HB.out)) hb); clear HB; have HB := n0_; clear n0_; (try clear hb); (try clear hb2); (try clear hk); (try clear hi)))
          go_ret
          exact ⟨by first | rfl | (simp [errW_none, errW_some] <;> rfl) | (simp [*, errW_none, errW_some] <;> rfl), by repeat (first | (with_reducible first | exact HB.out | apply below_alloc | apply pw_below_drewN | apply below_drew1) | exact HB.out)⟩
        · rw [if_neg c9] at H
          have c9b0 : (t1003 == 0) = false := beq_eq_false_iff_ne.mpr c9
          have c9b1 : (t1003 != 0) = true := bne_iff_ne.mpr c9
          obtain rfl := Option.some.inj H
          go_enter Tryd.func3, Tryd.ntmps3
          go_wp2_with (first | ((with_reducible refine gate_callee (f := 12) rfl ?_); refine goesL_ (some 13) rfl rfl Tryd.func12 (by kernel_rfl) rfl #[.int .i64 a0, .int .i64 a1] rfl (by (try simp only [List.map_toArray, List.map_cons, List.map_nil]); first | done | rfl | (simp only [List.length_drop, List.length_take]; rfl)) ?_; (with_reducible refine (chords_Still.calls k a0 a1 t1001 t1002 t1003 _ ?side1 A3.out).mono ?_); (case side1 => exact Tabs.below HT0.out (by repeat (first | (with_reducible first | exact HB.out | apply below_alloc | apply pw_below_drewN | apply below_drew1) | exact HB.out))); rintro e w13 ⟨rfl, hb⟩; refine ⟨_, rfl, ?_⟩; have n0_ := Aside0.mk (below_step (by repeat (first | (with_reducible first | exact HB.out | apply below_alloc | apply pw_below_drewN | apply below_drew1) | exact HB.out)) hb); clear HB; have HB := n0_; clear n0_; (try clear hb); (try clear hb2); (try clear hk); (try clear hi)) | ((with_reducible refine gate_callee (f := 13) rfl ?_); refine goesL_ (some 19) rfl rfl Tryd.func13 (by kernel_rfl) rfl #[.int .i64 a0, .int .i64 a1] rfl (by (try simp only [List.map_toArray, List.map_cons, List.map_nil]); first | done | rfl | (simp only [List.length_drop, List.length_take]; rfl)) ?_; (with_reducible refine (sackbutref01_Valid.calls a0 a1 true _ A4.out).mono ?_); rintro e w' ⟨rfl, ⟨nd, rfl⟩⟩; refine ⟨_, rfl, ?_⟩) | ((with_reducible refine gate_callee (f := 15) rfl ?_); refine goesL_ (some 37) rfl rfl Tryd.func15 (by kernel_rfl) rfl #[.int .i64 a0, .int .i64 a1] rfl (by (try simp only [List.map_toArray, List.map_cons, List.map_nil]); first | done | rfl | (simp only [List.length_drop, List.length_take]; rfl)) ?_; (with_reducible refine (sackbutref01_Still.calls k a0 a1 t1005 t1006 _ A6.out).mono ?_); rintro e w' ⟨rfl, ⟨nd, rfl⟩⟩; refine ⟨_, rfl, ?_⟩))
          go_ret
          exact ⟨by first | rfl | (simp [errW_none, errW_some] <;> rfl) | (simp [*, errW_none, errW_some] <;> rfl), by repeat (first | (with_reducible first | exact HB.out | apply below_alloc | apply pw_below_drewN | apply below_drew1) | exact HB.out)⟩
      · rw [if_neg c8] at H
        have c8b0 : (t1002 == t1006) = false := beq_eq_false_iff_ne.mpr c8
        have c8b1 : (t1002 != t1006) = true := bne_iff_ne.mpr c8
        obtain rfl := Option.some.inj H
        go_enter Tryd.func3, Tryd.ntmps3
        go_wp2_with (first | ((with_reducible refine gate_callee (f := 12) rfl ?_); refine goesL_ (some 13) rfl rfl Tryd.func12 (by kernel_rfl) rfl #[.int .i64 a0, .int .i64 a1] rfl (by (try simp only [List.map_toArray, List.map_cons, List.map_nil]); first | done | rfl | (simp only [List.length_drop, List.length_take]; rfl)) ?_; (with_reducible refine (chords_Still.calls k a0 a1 t1001 t1002 t1003 _ ?side1 A3.out).mono ?_); (case side1 => exact Tabs.below HT0.out (by repeat (first | (with_reducible first | exact HB.out | apply below_alloc | apply pw_below_drewN | apply below_drew1) | exact HB.out))); rintro e w14 ⟨rfl, hb⟩; refine ⟨_, rfl, ?_⟩; have n0_ := Aside0.mk (below_step (by repeat (first | (with_reducible first | exact HB.out | apply below_alloc | apply pw_below_drewN | apply below_drew1) | exact HB.out)) hb); clear HB; have HB := n0_; clear n0_; (try clear hb); (try clear hb2); (try clear hk); (try clear hi)) | ((with_reducible refine gate_callee (f := 13) rfl ?_); refine goesL_ (some 19) rfl rfl Tryd.func13 (by kernel_rfl) rfl #[.int .i64 a0, .int .i64 a1] rfl (by (try simp only [List.map_toArray, List.map_cons, List.map_nil]); first | done | rfl | (simp only [List.length_drop, List.length_take]; rfl)) ?_; (with_reducible refine (sackbutref01_Valid.calls a0 a1 true _ A4.out).mono ?_); rintro e w' ⟨rfl, ⟨nd, rfl⟩⟩; refine ⟨_, rfl, ?_⟩) | ((with_reducible refine gate_callee (f := 15) rfl ?_); refine goesL_ (some 37) rfl rfl Tryd.func15 (by kernel_rfl) rfl #[.int .i64 a0, .int .i64 a1] rfl (by (try simp only [List.map_toArray, List.map_cons, List.map_nil]); first | done | rfl | (simp only [List.length_drop, List.length_take]; rfl)) ?_; (with_reducible refine (sackbutref01_Still.calls k a0 a1 t1005 t1006 _ A6.out).mono ?_); rintro e w' ⟨rfl, ⟨nd, rfl⟩⟩; refine ⟨_, rfl, ?_⟩))
        go_ret
        exact ⟨by first | rfl | (simp [errW_none, errW_some] <;> rfl) | (simp [*, errW_none, errW_some] <;> rfl), by repeat (first | (with_reducible first | exact HB.out | apply below_alloc | apply pw_below_drewN | apply below_drew1) | exact HB.out)⟩
    · rw [if_neg c7] at H
      have c7b0 : (t1001 == t1005) = false := beq_eq_false_iff_ne.mpr c7
      have c7b1 : (t1001 != t1005) = true := bne_iff_ne.mpr c7
      obtain rfl := Option.some.inj H
      go_enter Tryd.func3, Tryd.ntmps3
      go_wp2_with (first | ((with_reducible refine gate_callee (f := 12) rfl ?_); refine goesL_ (some 13) rfl rfl Tryd.func12 (by kernel_rfl) rfl #[.int .i64 a0, .int .i64 a1] rfl (by (try simp only [List.map_toArray, List.map_cons, List.map_nil]); first | done | rfl | (simp only [List.length_drop, List.length_take]; rfl)) ?_; (with_reducible refine (chords_Still.calls k a0 a1 t1001 t1002 t1003 _ ?side1 A3.out).mono ?_); (case side1 => exact Tabs.below HT0.out (by repeat (first | (with_reducible first | exact HB.out | apply below_alloc | apply pw_below_drewN | apply below_drew1) | exact HB.out))); rintro e w15 ⟨rfl, hb⟩; refine ⟨_, rfl, ?_⟩; have n0_ := Aside0.mk (below_step (by repeat (first | (with_reducible first | exact HB.out | apply below_alloc | apply pw_below_drewN | apply below_drew1) | exact HB.out)) hb); clear HB; have HB := n0_; clear n0_; (try clear hb); (try clear hb2); (try clear hk); (try clear hi)) | ((with_reducible refine gate_callee (f := 13) rfl ?_); refine goesL_ (some 19) rfl rfl Tryd.func13 (by kernel_rfl) rfl #[.int .i64 a0, .int .i64 a1] rfl (by (try simp only [List.map_toArray, List.map_cons, List.map_nil]); first | done | rfl | (simp only [List.length_drop, List.length_take]; rfl)) ?_; (with_reducible refine (sackbutref01_Valid.calls a0 a1 true _ A4.out).mono ?_); rintro e w' ⟨rfl, ⟨nd, rfl⟩⟩; refine ⟨_, rfl, ?_⟩) | ((with_reducible refine gate_callee (f := 15) rfl ?_); refine goesL_ (some 37) rfl rfl Tryd.func15 (by kernel_rfl) rfl #[.int .i64 a0, .int .i64 a1] rfl (by (try simp only [List.map_toArray, List.map_cons, List.map_nil]); first | done | rfl | (simp only [List.length_drop, List.length_take]; rfl)) ?_; (with_reducible refine (sackbutref01_Still.calls k a0 a1 t1005 t1006 _ A6.out).mono ?_); rintro e w' ⟨rfl, ⟨nd, rfl⟩⟩; refine ⟨_, rfl, ?_⟩))
      go_ret
      exact ⟨by first | rfl | (simp [errW_none, errW_some] <;> rfl) | (simp [*, errW_none, errW_some] <;> rfl), by repeat (first | (with_reducible first | exact HB.out | apply below_alloc | apply pw_below_drewN | apply below_drew1) | exact HB.out)⟩
  · replace c5 := Bool.eq_false_iff.mpr c5
    subst c5
    have H1 : (if t1001 = 0 then (if t1002 = 0 then (if t1003 = 2 then ((sackbutlaw01_awake.f).bind fun t1008 => (some t1008)) else (some false)) else (some false)) else (some false)) = some r := by rw [if_neg (show ¬ (false = true) by decide)] at H; exact H
    clear H
    have H := H1
    clear H1
    by_cases c16 : t1001 = 0
    · rw [if_pos c16] at H
      have c16b0 : (t1001 == 0) = true := beq_iff_eq.mpr c16
      have c16b1 : (t1001 != 0) = false := bne_eq_false_iff_eq.mpr c16
      clear c16
      by_cases c17 : t1002 = 0
      · rw [if_pos c17] at H
        have c17b0 : (t1002 == 0) = true := beq_iff_eq.mpr c17
        have c17b1 : (t1002 != 0) = false := bne_eq_false_iff_eq.mpr c17
        clear c17
        by_cases c18 : t1003 = 2
        · rw [if_pos c18] at H
          have c18b0 : (t1003 == 2) = true := beq_iff_eq.mpr c18
          have c18b1 : (t1003 != 2) = false := bne_eq_false_iff_eq.mpr c18
          clear c18
          replace H := Option.bind_eq_some_iff.mp H
          obtain ⟨t1008, A190, H⟩ := H
          replace H : (some t1008) = some r := H
          have A19 := Aside0.mk A190
          clear A190
          obtain rfl := Option.some.inj H
          go_enter Tryd.func3, Tryd.ntmps3
          go_wp2_with (first | ((with_reducible refine gate_callee (f := 12) rfl ?_); refine goesL_ (some 13) rfl rfl Tryd.func12 (by kernel_rfl) rfl #[.int .i64 a0, .int .i64 a1] rfl (by (try simp only [List.map_toArray, List.map_cons, List.map_nil]); first | done | rfl | (simp only [List.length_drop, List.length_take]; rfl)) ?_; (with_reducible refine (chords_Still.calls k a0 a1 t1001 t1002 t1003 _ ?side1 A3.out).mono ?_); (case side1 => exact Tabs.below HT0.out (by repeat (first | (with_reducible first | exact HB.out | apply below_alloc | apply pw_below_drewN | apply below_drew1) | exact HB.out))); rintro e w20 ⟨rfl, hb⟩; refine ⟨_, rfl, ?_⟩; have n0_ := Aside0.mk (below_step (by repeat (first | (with_reducible first | exact HB.out | apply below_alloc | apply pw_below_drewN | apply below_drew1) | exact HB.out)) hb); clear HB; have HB := n0_; clear n0_; (try clear hb); (try clear hb2); (try clear hk); (try clear hi)) | ((with_reducible refine gate_callee (f := 13) rfl ?_); refine goesL_ (some 19) rfl rfl Tryd.func13 (by kernel_rfl) rfl #[.int .i64 a0, .int .i64 a1] rfl (by (try simp only [List.map_toArray, List.map_cons, List.map_nil]); first | done | rfl | (simp only [List.length_drop, List.length_take]; rfl)) ?_; (with_reducible refine (sackbutref01_Valid.calls a0 a1 false _ A4.out).mono ?_); rintro e w' ⟨rfl, ⟨nd, rfl⟩⟩; refine ⟨_, rfl, ?_⟩) | (go_at_call 14; (with_reducible refine (sackbutlaw01_awake.calls  t1008 _ A19.out).mono ?_); rintro e w21 ⟨rfl, hb⟩; have n0_ := Aside0.mk (below_step (by repeat (first | (with_reducible first | exact HB.out | apply below_alloc | apply pw_below_drewN | apply below_drew1) | exact HB.out)) hb); clear HB; have HB := n0_; clear n0_; (try clear hb); (try clear hb2); (try clear hk); (try clear hi)))
          go_ret
          exact ⟨by first | rfl | (simp [errW_none, errW_some] <;> rfl) | (simp [*, errW_none, errW_some] <;> rfl), by repeat (first | (with_reducible first | exact HB.out | apply below_alloc | apply pw_below_drewN | apply below_drew1) | exact HB.out)⟩
        · rw [if_neg c18] at H
          have c18b0 : (t1003 == 2) = false := beq_eq_false_iff_ne.mpr c18
          have c18b1 : (t1003 != 2) = true := bne_iff_ne.mpr c18
          obtain rfl := Option.some.inj H
          go_enter Tryd.func3, Tryd.ntmps3
          go_wp2_with (first | ((with_reducible refine gate_callee (f := 12) rfl ?_); refine goesL_ (some 13) rfl rfl Tryd.func12 (by kernel_rfl) rfl #[.int .i64 a0, .int .i64 a1] rfl (by (try simp only [List.map_toArray, List.map_cons, List.map_nil]); first | done | rfl | (simp only [List.length_drop, List.length_take]; rfl)) ?_; (with_reducible refine (chords_Still.calls k a0 a1 t1001 t1002 t1003 _ ?side1 A3.out).mono ?_); (case side1 => exact Tabs.below HT0.out (by repeat (first | (with_reducible first | exact HB.out | apply below_alloc | apply pw_below_drewN | apply below_drew1) | exact HB.out))); rintro e w22 ⟨rfl, hb⟩; refine ⟨_, rfl, ?_⟩; have n0_ := Aside0.mk (below_step (by repeat (first | (with_reducible first | exact HB.out | apply below_alloc | apply pw_below_drewN | apply below_drew1) | exact HB.out)) hb); clear HB; have HB := n0_; clear n0_; (try clear hb); (try clear hb2); (try clear hk); (try clear hi)) | ((with_reducible refine gate_callee (f := 13) rfl ?_); refine goesL_ (some 19) rfl rfl Tryd.func13 (by kernel_rfl) rfl #[.int .i64 a0, .int .i64 a1] rfl (by (try simp only [List.map_toArray, List.map_cons, List.map_nil]); first | done | rfl | (simp only [List.length_drop, List.length_take]; rfl)) ?_; (with_reducible refine (sackbutref01_Valid.calls a0 a1 false _ A4.out).mono ?_); rintro e w' ⟨rfl, ⟨nd, rfl⟩⟩; refine ⟨_, rfl, ?_⟩))
          go_ret
          exact ⟨by first | rfl | (simp [errW_none, errW_some] <;> rfl) | (simp [*, errW_none, errW_some] <;> rfl), by repeat (first | (with_reducible first | exact HB.out | apply below_alloc | apply pw_below_drewN | apply below_drew1) | exact HB.out)⟩
      · rw [if_neg c17] at H
        have c17b0 : (t1002 == 0) = false := beq_eq_false_iff_ne.mpr c17
        have c17b1 : (t1002 != 0) = true := bne_iff_ne.mpr c17
        obtain rfl := Option.some.inj H
        go_enter Tryd.func3, Tryd.ntmps3
        go_wp2_with (first | ((with_reducible refine gate_callee (f := 12) rfl ?_); refine goesL_ (some 13) rfl rfl Tryd.func12 (by kernel_rfl) rfl #[.int .i64 a0, .int .i64 a1] rfl (by (try simp only [List.map_toArray, List.map_cons, List.map_nil]); first | done | rfl | (simp only [List.length_drop, List.length_take]; rfl)) ?_; (with_reducible refine (chords_Still.calls k a0 a1 t1001 t1002 t1003 _ ?side1 A3.out).mono ?_); (case side1 => exact Tabs.below HT0.out (by repeat (first | (with_reducible first | exact HB.out | apply below_alloc | apply pw_below_drewN | apply below_drew1) | exact HB.out))); rintro e w23 ⟨rfl, hb⟩; refine ⟨_, rfl, ?_⟩; have n0_ := Aside0.mk (below_step (by repeat (first | (with_reducible first | exact HB.out | apply below_alloc | apply pw_below_drewN | apply below_drew1) | exact HB.out)) hb); clear HB; have HB := n0_; clear n0_; (try clear hb); (try clear hb2); (try clear hk); (try clear hi)) | ((with_reducible refine gate_callee (f := 13) rfl ?_); refine goesL_ (some 19) rfl rfl Tryd.func13 (by kernel_rfl) rfl #[.int .i64 a0, .int .i64 a1] rfl (by (try simp only [List.map_toArray, List.map_cons, List.map_nil]); first | done | rfl | (simp only [List.length_drop, List.length_take]; rfl)) ?_; (with_reducible refine (sackbutref01_Valid.calls a0 a1 false _ A4.out).mono ?_); rintro e w' ⟨rfl, ⟨nd, rfl⟩⟩; refine ⟨_, rfl, ?_⟩))
        go_ret
        exact ⟨by first | rfl | (simp [errW_none, errW_some] <;> rfl) | (simp [*, errW_none, errW_some] <;> rfl), by repeat (first | (with_reducible first | exact HB.out | apply below_alloc | apply pw_below_drewN | apply below_drew1) | exact HB.out)⟩
    · rw [if_neg c16] at H
      have c16b0 : (t1001 == 0) = false := beq_eq_false_iff_ne.mpr c16
      have c16b1 : (t1001 != 0) = true := bne_iff_ne.mpr c16
      obtain rfl := Option.some.inj H
      go_enter Tryd.func3, Tryd.ntmps3
      go_wp2_with (first | ((with_reducible refine gate_callee (f := 12) rfl ?_); refine goesL_ (some 13) rfl rfl Tryd.func12 (by kernel_rfl) rfl #[.int .i64 a0, .int .i64 a1] rfl (by (try simp only [List.map_toArray, List.map_cons, List.map_nil]); first | done | rfl | (simp only [List.length_drop, List.length_take]; rfl)) ?_; (with_reducible refine (chords_Still.calls k a0 a1 t1001 t1002 t1003 _ ?side1 A3.out).mono ?_); (case side1 => exact Tabs.below HT0.out (by repeat (first | (with_reducible first | exact HB.out | apply below_alloc | apply pw_below_drewN | apply below_drew1) | exact HB.out))); rintro e w24 ⟨rfl, hb⟩; refine ⟨_, rfl, ?_⟩; have n0_ := Aside0.mk (below_step (by repeat (first | (with_reducible first | exact HB.out | apply below_alloc | apply pw_below_drewN | apply below_drew1) | exact HB.out)) hb); clear HB; have HB := n0_; clear n0_; (try clear hb); (try clear hb2); (try clear hk); (try clear hi)) | ((with_reducible refine gate_callee (f := 13) rfl ?_); refine goesL_ (some 19) rfl rfl Tryd.func13 (by kernel_rfl) rfl #[.int .i64 a0, .int .i64 a1] rfl (by (try simp only [List.map_toArray, List.map_cons, List.map_nil]); first | done | rfl | (simp only [List.length_drop, List.length_take]; rfl)) ?_; (with_reducible refine (sackbutref01_Valid.calls a0 a1 false _ A4.out).mono ?_); rintro e w' ⟨rfl, ⟨nd, rfl⟩⟩; refine ⟨_, rfl, ?_⟩))
      go_ret
      exact ⟨by first | rfl | (simp [errW_none, errW_some] <;> rfl) | (simp [*, errW_none, errW_some] <;> rfl), by repeat (first | (with_reducible first | exact HB.out | apply below_alloc | apply pw_below_drewN | apply below_drew1) | exact HB.out)⟩

/-- THE ONE PURE STATEMENT of sackbutlaw01_ChordsStill: yours. -/
def sackbutlaw01_ChordsStill.Pure : Prop := ∀ (a0 : Int) (a1 : Int), (Lit.int .i64 a0).wf = true → (Lit.int .i64 a1).wf = true → ∃ k, sackbutlaw01_ChordsStill.f k a0 a1 = some true
theorem sackbutlaw01_ChordsStill.walk (P : sackbutlaw01_ChordsStill.Pure) (a0 : Int) (a1 : Int) (w : World) (hT : Tabs w) (w0 : (Lit.int .i64 a0).wf = true) (w1 : (Lit.int .i64 a1).wf = true) :
    Calls Tryd.prog 3 #[.int .i64 a0, .int .i64 a1] w fun e w' => e = .returned (.bool true) ∧ Below w.heap.size w w' := by
  obtain ⟨k, h⟩ := P a0 a1 w0 w1
  refine (sackbutlaw01_ChordsStill.calls k a0 a1 true w hT h).mono ?_
  rintro e w' ⟨rfl, hd⟩
  exact ⟨rfl, hd⟩

end Go.Proofs.YtnjmiodnkjabgaaDoor.P
namespace Go.Proofs.YtnjmiodnkjabgaaDoor.P
open Go.RowKit Go.Proofs.YtnjmiodnkjabgaaDoorW.PrintWords Go.Proofs.YtnjmiodnkjabgaaDoorW.PrintLast Go.Proofs.YtnjmiodnkjabgaaDoorW.PrintMore
attribute [local go_sem] max2_int min2_int max_two min_two max_three min_three max_four min_four   -- for this text's walks alone
set_option linter.unusedVariables false
set_option linter.unusedSimpArgs false

/-! ### bits_OnesCount64: function 78 -/
def bits_OnesCount64.f (a0 : Int) : Option (Int) := some (Go.bits .and .i64 (wrap64 (IntKind.u64.wrap ((IntKind.u64.wrap ((IntKind.u64.wrap ((Go.bits .and .u64 (IntKind.u64.wrap (((IntKind.u64.wrap ((Go.bits .and .u64 ((IntKind.u64.wrap ((Go.bits .and .u64 (a0 / 2) 6148914691236517205) + (Go.bits .and .u64 a0 6148914691236517205))) / 4) 3689348814741910323) + (Go.bits .and .u64 (IntKind.u64.wrap ((Go.bits .and .u64 (a0 / 2) 6148914691236517205) + (Go.bits .and .u64 a0 6148914691236517205))) 3689348814741910323))) / 16) + (IntKind.u64.wrap ((Go.bits .and .u64 ((IntKind.u64.wrap ((Go.bits .and .u64 (a0 / 2) 6148914691236517205) + (Go.bits .and .u64 a0 6148914691236517205))) / 4) 3689348814741910323) + (Go.bits .and .u64 (IntKind.u64.wrap ((Go.bits .and .u64 (a0 / 2) 6148914691236517205) + (Go.bits .and .u64 a0 6148914691236517205))) 3689348814741910323))))) 1085102592571150095) + ((Go.bits .and .u64 (IntKind.u64.wrap (((IntKind.u64.wrap ((Go.bits .and .u64 ((IntKind.u64.wrap ((Go.bits .and .u64 (a0 / 2) 6148914691236517205) + (Go.bits .and .u64 a0 6148914691236517205))) / 4) 3689348814741910323) + (Go.bits .and .u64 (IntKind.u64.wrap ((Go.bits .and .u64 (a0 / 2) 6148914691236517205) + (Go.bits .and .u64 a0 6148914691236517205))) 3689348814741910323))) / 16) + (IntKind.u64.wrap ((Go.bits .and .u64 ((IntKind.u64.wrap ((Go.bits .and .u64 (a0 / 2) 6148914691236517205) + (Go.bits .and .u64 a0 6148914691236517205))) / 4) 3689348814741910323) + (Go.bits .and .u64 (IntKind.u64.wrap ((Go.bits .and .u64 (a0 / 2) 6148914691236517205) + (Go.bits .and .u64 a0 6148914691236517205))) 3689348814741910323))))) 1085102592571150095) / 256))) + ((IntKind.u64.wrap ((Go.bits .and .u64 (IntKind.u64.wrap (((IntKind.u64.wrap ((Go.bits .and .u64 ((IntKind.u64.wrap ((Go.bits .and .u64 (a0 / 2) 6148914691236517205) + (Go.bits .and .u64 a0 6148914691236517205))) / 4) 3689348814741910323) + (Go.bits .and .u64 (IntKind.u64.wrap ((Go.bits .and .u64 (a0 / 2) 6148914691236517205) + (Go.bits .and .u64 a0 6148914691236517205))) 3689348814741910323))) / 16) + (IntKind.u64.wrap ((Go.bits .and .u64 ((IntKind.u64.wrap ((Go.bits .and .u64 (a0 / 2) 6148914691236517205) + (Go.bits .and .u64 a0 6148914691236517205))) / 4) 3689348814741910323) + (Go.bits .and .u64 (IntKind.u64.wrap ((Go.bits .and .u64 (a0 / 2) 6148914691236517205) + (Go.bits .and .u64 a0 6148914691236517205))) 3689348814741910323))))) 1085102592571150095) + ((Go.bits .and .u64 (IntKind.u64.wrap (((IntKind.u64.wrap ((Go.bits .and .u64 ((IntKind.u64.wrap ((Go.bits .and .u64 (a0 / 2) 6148914691236517205) + (Go.bits .and .u64 a0 6148914691236517205))) / 4) 3689348814741910323) + (Go.bits .and .u64 (IntKind.u64.wrap ((Go.bits .and .u64 (a0 / 2) 6148914691236517205) + (Go.bits .and .u64 a0 6148914691236517205))) 3689348814741910323))) / 16) + (IntKind.u64.wrap ((Go.bits .and .u64 ((IntKind.u64.wrap ((Go.bits .and .u64 (a0 / 2) 6148914691236517205) + (Go.bits .and .u64 a0 6148914691236517205))) / 4) 3689348814741910323) + (Go.bits .and .u64 (IntKind.u64.wrap ((Go.bits .and .u64 (a0 / 2) 6148914691236517205) + (Go.bits .and .u64 a0 6148914691236517205))) 3689348814741910323))))) 1085102592571150095) / 256))) / 65536))) + ((IntKind.u64.wrap ((IntKind.u64.wrap ((Go.bits .and .u64 (IntKind.u64.wrap (((IntKind.u64.wrap ((Go.bits .and .u64 ((IntKind.u64.wrap ((Go.bits .and .u64 (a0 / 2) 6148914691236517205) + (Go.bits .and .u64 a0 6148914691236517205))) / 4) 3689348814741910323) + (Go.bits .and .u64 (IntKind.u64.wrap ((Go.bits .and .u64 (a0 / 2) 6148914691236517205) + (Go.bits .and .u64 a0 6148914691236517205))) 3689348814741910323))) / 16) + (IntKind.u64.wrap ((Go.bits .and .u64 ((IntKind.u64.wrap ((Go.bits .and .u64 (a0 / 2) 6148914691236517205) + (Go.bits .and .u64 a0 6148914691236517205))) / 4) 3689348814741910323) + (Go.bits .and .u64 (IntKind.u64.wrap ((Go.bits .and .u64 (a0 / 2) 6148914691236517205) + (Go.bits .and .u64 a0 6148914691236517205))) 3689348814741910323))))) 1085102592571150095) + ((Go.bits .and .u64 (IntKind.u64.wrap (((IntKind.u64.wrap ((Go.bits .and .u64 ((IntKind.u64.wrap ((Go.bits .and .u64 (a0 / 2) 6148914691236517205) + (Go.bits .and .u64 a0 6148914691236517205))) / 4) 3689348814741910323) + (Go.bits .and .u64 (IntKind.u64.wrap ((Go.bits .and .u64 (a0 / 2) 6148914691236517205) + (Go.bits .and .u64 a0 6148914691236517205))) 3689348814741910323))) / 16) + (IntKind.u64.wrap ((Go.bits .and .u64 ((IntKind.u64.wrap ((Go.bits .and .u64 (a0 / 2) 6148914691236517205) + (Go.bits .and .u64 a0 6148914691236517205))) / 4) 3689348814741910323) + (Go.bits .and .u64 (IntKind.u64.wrap ((Go.bits .and .u64 (a0 / 2) 6148914691236517205) + (Go.bits .and .u64 a0 6148914691236517205))) 3689348814741910323))))) 1085102592571150095) / 256))) + ((IntKind.u64.wrap ((Go.bits .and .u64 (IntKind.u64.wrap (((IntKind.u64.wrap ((Go.bits .and .u64 ((IntKind.u64.wrap ((Go.bits .and .u64 (a0 / 2) 6148914691236517205) + (Go.bits .and .u64 a0 6148914691236517205))) / 4) 3689348814741910323) + (Go.bits .and .u64 (IntKind.u64.wrap ((Go.bits .and .u64 (a0 / 2) 6148914691236517205) + (Go.bits .and .u64 a0 6148914691236517205))) 3689348814741910323))) / 16) + (IntKind.u64.wrap ((Go.bits .and .u64 ((IntKind.u64.wrap ((Go.bits .and .u64 (a0 / 2) 6148914691236517205) + (Go.bits .and .u64 a0 6148914691236517205))) / 4) 3689348814741910323) + (Go.bits .and .u64 (IntKind.u64.wrap ((Go.bits .and .u64 (a0 / 2) 6148914691236517205) + (Go.bits .and .u64 a0 6148914691236517205))) 3689348814741910323))))) 1085102592571150095) + ((Go.bits .and .u64 (IntKind.u64.wrap (((IntKind.u64.wrap ((Go.bits .and .u64 ((IntKind.u64.wrap ((Go.bits .and .u64 (a0 / 2) 6148914691236517205) + (Go.bits .and .u64 a0 6148914691236517205))) / 4) 3689348814741910323) + (Go.bits .and .u64 (IntKind.u64.wrap ((Go.bits .and .u64 (a0 / 2) 6148914691236517205) + (Go.bits .and .u64 a0 6148914691236517205))) 3689348814741910323))) / 16) + (IntKind.u64.wrap ((Go.bits .and .u64 ((IntKind.u64.wrap ((Go.bits .and .u64 (a0 / 2) 6148914691236517205) + (Go.bits .and .u64 a0 6148914691236517205))) / 4) 3689348814741910323) + (Go.bits .and .u64 (IntKind.u64.wrap ((Go.bits .and .u64 (a0 / 2) 6148914691236517205) + (Go.bits .and .u64 a0 6148914691236517205))) 3689348814741910323))))) 1085102592571150095) / 256))) / 65536))) / 4294967296)))) 127)
set_option maxHeartbeats 8000000 in
set_option maxRecDepth 100000 in
theorem bits_OnesCount64.calls (a0 : Int) (r : Int) (w : World) (h : bits_OnesCount64.f a0 = some r) :
    Calls Tryd.prog 78 #[.int .u64 a0] w fun e w' => e = .returned (.int .i64 r) ∧ Drawn0 w w' := by
  have H : (some (Go.bits .and .i64 (wrap64 (IntKind.u64.wrap ((IntKind.u64.wrap ((IntKind.u64.wrap ((Go.bits .and .u64 (IntKind.u64.wrap (((IntKind.u64.wrap ((Go.bits .and .u64 ((IntKind.u64.wrap ((Go.bits .and .u64 (a0 / 2) 6148914691236517205) + (Go.bits .and .u64 a0 6148914691236517205))) / 4) 3689348814741910323) + (Go.bits .and .u64 (IntKind.u64.wrap ((Go.bits .and .u64 (a0 / 2) 6148914691236517205) + (Go.bits .and .u64 a0 6148914691236517205))) 3689348814741910323))) / 16) + (IntKind.u64.wrap ((Go.bits .and .u64 ((IntKind.u64.wrap ((Go.bits .and .u64 (a0 / 2) 6148914691236517205) + (Go.bits .and .u64 a0 6148914691236517205))) / 4) 3689348814741910323) + (Go.bits .and .u64 (IntKind.u64.wrap ((Go.bits .and .u64 (a0 / 2) 6148914691236517205) + (Go.bits .and .u64 a0 6148914691236517205))) 3689348814741910323))))) 1085102592571150095) + ((Go.bits .and .u64 (IntKind.u64.wrap (((IntKind.u64.wrap ((Go.bits .and .u64 ((IntKind.u64.wrap ((Go.bits .and .u64 (a0 / 2) 6148914691236517205) + (Go.bits .and .u64 a0 6148914691236517205))) / 4) 3689348814741910323) + (Go.bits .and .u64 (IntKind.u64.wrap ((Go.bits .and .u64 (a0 / 2) 6148914691236517205) + (Go.bits .and .u64 a0 6148914691236517205))) 3689348814741910323))) / 16) + (IntKind.u64.wrap ((Go.bits .and .u64 ((IntKind.u64.wrap ((Go.bits .and .u64 (a0 / 2) 6148914691236517205) + (Go.bits .and .u64 a0 6148914691236517205))) / 4) 3689348814741910323) + (Go.bits .and .u64 (IntKind.u64.wrap ((Go.bits .and .u64 (a0 / 2) 6148914691236517205) + (Go.bits .and .u64 a0 6148914691236517205))) 3689348814741910323))))) 1085102592571150095) / 256))) + ((IntKind.u64.wrap ((Go.bits .and .u64 (IntKind.u64.wrap (((IntKind.u64.wrap ((Go.bits .and .u64 ((IntKind.u64.wrap ((Go.bits .and .u64 (a0 / 2) 6148914691236517205) + (Go.bits .and .u64 a0 6148914691236517205))) / 4) 3689348814741910323) + (Go.bits .and .u64 (IntKind.u64.wrap ((Go.bits .and .u64 (a0 / 2) 6148914691236517205) + (Go.bits .and .u64 a0 6148914691236517205))) 3689348814741910323))) / 16) + (IntKind.u64.wrap ((Go.bits .and .u64 ((IntKind.u64.wrap ((Go.bits .and .u64 (a0 / 2) 6148914691236517205) + (Go.bits .and .u64 a0 6148914691236517205))) / 4) 3689348814741910323) + (Go.bits .and .u64 (IntKind.u64.wrap ((Go.bits .and .u64 (a0 / 2) 6148914691236517205) + (Go.bits .and .u64 a0 6148914691236517205))) 3689348814741910323))))) 1085102592571150095) + ((Go.bits .and .u64 (IntKind.u64.wrap (((IntKind.u64.wrap ((Go.bits .and .u64 ((IntKind.u64.wrap ((Go.bits .and .u64 (a0 / 2) 6148914691236517205) + (Go.bits .and .u64 a0 6148914691236517205))) / 4) 3689348814741910323) + (Go.bits .and .u64 (IntKind.u64.wrap ((Go.bits .and .u64 (a0 / 2) 6148914691236517205) + (Go.bits .and .u64 a0 6148914691236517205))) 3689348814741910323))) / 16) + (IntKind.u64.wrap ((Go.bits .and .u64 ((IntKind.u64.wrap ((Go.bits .and .u64 (a0 / 2) 6148914691236517205) + (Go.bits .and .u64 a0 6148914691236517205))) / 4) 3689348814741910323) + (Go.bits .and .u64 (IntKind.u64.wrap ((Go.bits .and .u64 (a0 / 2) 6148914691236517205) + (Go.bits .and .u64 a0 6148914691236517205))) 3689348814741910323))))) 1085102592571150095) / 256))) / 65536))) + ((IntKind.u64.wrap ((IntKind.u64.wrap ((Go.bits .and .u64 (IntKind.u64.wrap (((IntKind.u64.wrap ((Go.bits .and .u64 ((IntKind.u64.wrap ((Go.bits .and .u64 (a0 / 2) 6148914691236517205) + (Go.bits .and .u64 a0 6148914691236517205))) / 4) 3689348814741910323) + (Go.bits .and .u64 (IntKind.u64.wrap ((Go.bits .and .u64 (a0 / 2) 6148914691236517205) + (Go.bits .and .u64 a0 6148914691236517205))) 3689348814741910323))) / 16) + (IntKind.u64.wrap ((Go.bits .and .u64 ((IntKind.u64.wrap ((Go.bits .and .u64 (a0 / 2) 6148914691236517205) + (Go.bits .and .u64 a0 6148914691236517205))) / 4) 3689348814741910323) + (Go.bits .and .u64 (IntKind.u64.wrap ((Go.bits .and .u64 (a0 / 2) 6148914691236517205) + (Go.bits .and .u64 a0 6148914691236517205))) 3689348814741910323))))) 1085102592571150095) + ((Go.bits .and .u64 (IntKind.u64.wrap (((IntKind.u64.wrap ((Go.bits .and .u64 ((IntKind.u64.wrap ((Go.bits .and .u64 (a0 / 2) 6148914691236517205) + (Go.bits .and .u64 a0 6148914691236517205))) / 4) 3689348814741910323) + (Go.bits .and .u64 (IntKind.u64.wrap ((Go.bits .and .u64 (a0 / 2) 6148914691236517205) + (Go.bits .and .u64 a0 6148914691236517205))) 3689348814741910323))) / 16) + (IntKind.u64.wrap ((Go.bits .and .u64 ((IntKind.u64.wrap ((Go.bits .and .u64 (a0 / 2) 6148914691236517205) + (Go.bits .and .u64 a0 6148914691236517205))) / 4) 3689348814741910323) + (Go.bits .and .u64 (IntKind.u64.wrap ((Go.bits .and .u64 (a0 / 2) 6148914691236517205) + (Go.bits .and .u64 a0 6148914691236517205))) 3689348814741910323))))) 1085102592571150095) / 256))) + ((IntKind.u64.wrap ((Go.bits .and .u64 (IntKind.u64.wrap (((IntKind.u64.wrap ((Go.bits .and .u64 ((IntKind.u64.wrap ((Go.bits .and .u64 (a0 / 2) 6148914691236517205) + (Go.bits .and .u64 a0 6148914691236517205))) / 4) 3689348814741910323) + (Go.bits .and .u64 (IntKind.u64.wrap ((Go.bits .and .u64 (a0 / 2) 6148914691236517205) + (Go.bits .and .u64 a0 6148914691236517205))) 3689348814741910323))) / 16) + (IntKind.u64.wrap ((Go.bits .and .u64 ((IntKind.u64.wrap ((Go.bits .and .u64 (a0 / 2) 6148914691236517205) + (Go.bits .and .u64 a0 6148914691236517205))) / 4) 3689348814741910323) + (Go.bits .and .u64 (IntKind.u64.wrap ((Go.bits .and .u64 (a0 / 2) 6148914691236517205) + (Go.bits .and .u64 a0 6148914691236517205))) 3689348814741910323))))) 1085102592571150095) + ((Go.bits .and .u64 (IntKind.u64.wrap (((IntKind.u64.wrap ((Go.bits .and .u64 ((IntKind.u64.wrap ((Go.bits .and .u64 (a0 / 2) 6148914691236517205) + (Go.bits .and .u64 a0 6148914691236517205))) / 4) 3689348814741910323) + (Go.bits .and .u64 (IntKind.u64.wrap ((Go.bits .and .u64 (a0 / 2) 6148914691236517205) + (Go.bits .and .u64 a0 6148914691236517205))) 3689348814741910323))) / 16) + (IntKind.u64.wrap ((Go.bits .and .u64 ((IntKind.u64.wrap ((Go.bits .and .u64 (a0 / 2) 6148914691236517205) + (Go.bits .and .u64 a0 6148914691236517205))) / 4) 3689348814741910323) + (Go.bits .and .u64 (IntKind.u64.wrap ((Go.bits .and .u64 (a0 / 2) 6148914691236517205) + (Go.bits .and .u64 a0 6148914691236517205))) 3689348814741910323))))) 1085102592571150095) / 256))) / 65536))) / 4294967296)))) 127)) = some r := h
  clear h
  obtain rfl := Option.some.inj H
  go_enter Tryd.func78, Tryd.ntmps78
  go_wp2
  go_ret
  exact ⟨by first | rfl | (simp; done) | (simp [*]; done), by repeat (first | exact Drawn0.refl _ | apply Drawn0.step)⟩

end Go.Proofs.YtnjmiodnkjabgaaDoor.P
namespace Go.Proofs.YtnjmiodnkjabgaaDoor.P
open Go.RowKit Go.Proofs.YtnjmiodnkjabgaaDoorW.PrintWords Go.Proofs.YtnjmiodnkjabgaaDoorW.PrintLast Go.Proofs.YtnjmiodnkjabgaaDoorW.PrintMore
attribute [local go_sem] max2_int min2_int max_two min_two max_three min_three max_four min_four   -- for this text's walks alone
set_option linter.unusedVariables false
set_option linter.unusedSimpArgs false

/-! ### bits_OnesCount: function 67 -/
def bits_OnesCount.f (a0 : Int) : Option (Int) := (bits_OnesCount64.f a0).bind fun t1001 => (some t1001)
set_option maxHeartbeats 8000000 in
set_option maxRecDepth 100000 in
theorem bits_OnesCount.calls (a0 : Int) (r : Int) (w : World) (h : bits_OnesCount.f a0 = some r) :
    Calls Tryd.prog 67 #[.int .u64 a0] w fun e w' => e = .returned (.int .i64 r) ∧ Drawn0 w w' := by
  have H : ((bits_OnesCount64.f a0).bind fun t1001 => (some t1001)) = some r := h
  clear h
  replace H := Option.bind_eq_some_iff.mp H
  obtain ⟨t1001, A20, H⟩ := H
  replace H : (some t1001) = some r := H
  have A2 := Aside0.mk A20
  clear A20
  obtain rfl := Option.some.inj H
  go_enter Tryd.func67, Tryd.ntmps67
  go_wp2_with (first | ((with_reducible refine gate_callee (f := 78) rfl ?_); refine goesL_ (some 7) rfl rfl Tryd.func78 (by kernel_rfl) rfl #[.int .u64 a0] rfl (by (try simp only [List.map_toArray, List.map_cons, List.map_nil]); first | done | rfl | (simp only [List.length_drop, List.length_take]; rfl)) ?_; (with_reducible refine (bits_OnesCount64.calls a0 t1001 _ A2.out).mono ?_); rintro e w' ⟨rfl, ⟨nd, rfl⟩⟩; refine ⟨_, rfl, ?_⟩))
  go_ret
  exact ⟨by first | rfl | (simp; done) | (simp [*]; done), by repeat (first | exact Drawn0.refl _ | apply Drawn0.step)⟩

end Go.Proofs.YtnjmiodnkjabgaaDoor.P
namespace Go.Proofs.YtnjmiodnkjabgaaDoor.P
open Go.RowKit Go.Proofs.YtnjmiodnkjabgaaDoorW.PrintWords Go.Proofs.YtnjmiodnkjabgaaDoorW.PrintLast Go.Proofs.YtnjmiodnkjabgaaDoorW.PrintMore
attribute [local go_sem] max2_int min2_int max_two min_two max_three min_three max_four min_four   -- for this text's walks alone
set_option linter.unusedVariables false
set_option linter.unusedSimpArgs false

/-! ### chords_count: function 50 -/
def chords_count.f (a0 : Int) : Option (Int) := (bits_OnesCount.f (IntKind.u64.wrap (a0))).bind fun t1001 => (some t1001)
set_option maxHeartbeats 8000000 in
set_option maxRecDepth 100000 in
theorem chords_count.calls (a0 : Int) (r : Int) (w : World) (h : chords_count.f a0 = some r) :
    Calls Tryd.prog 50 #[.int .i64 a0] w fun e w' => e = .returned (.int .i64 r) ∧ Drawn0 w w' := by
  have H : ((bits_OnesCount.f (IntKind.u64.wrap (a0))).bind fun t1001 => (some t1001)) = some r := h
  clear h
  replace H := Option.bind_eq_some_iff.mp H
  obtain ⟨t1001, A20, H⟩ := H
  replace H : (some t1001) = some r := H
  have A2 := Aside0.mk A20
  clear A20
  obtain rfl := Option.some.inj H
  go_enter Tryd.func50, Tryd.ntmps50
  go_wp2_with (first | ((with_reducible refine gate_callee (f := 67) rfl ?_); refine goesL_ (some 5) rfl rfl Tryd.func67 (by kernel_rfl) rfl #[.int .u64 (IntKind.u64.wrap (a0))] rfl (by (try simp only [List.map_toArray, List.map_cons, List.map_nil]); first | done | rfl | (simp only [List.length_drop, List.length_take]; rfl)) ?_; (with_reducible refine (bits_OnesCount.calls (IntKind.u64.wrap (a0)) t1001 _ A2.out).mono ?_); rintro e w' ⟨rfl, ⟨nd, rfl⟩⟩; refine ⟨_, rfl, ?_⟩))
  go_ret
  exact ⟨by first | rfl | (simp; done) | (simp [*]; done), by repeat (first | exact Drawn0.refl _ | apply Drawn0.step)⟩

end Go.Proofs.YtnjmiodnkjabgaaDoor.P
namespace Go.Proofs.YtnjmiodnkjabgaaDoor.P
open Go.RowKit Go.Proofs.YtnjmiodnkjabgaaDoorW.PrintWords Go.Proofs.YtnjmiodnkjabgaaDoorW.PrintLast Go.Proofs.YtnjmiodnkjabgaaDoorW.PrintMore
attribute [local go_sem] max2_int min2_int max_two min_two max_three min_three max_four min_four   -- for this text's walks alone
set_option linter.unusedVariables false
set_option linter.unusedSimpArgs false

/-! ### chords_circle_vector: function 49 -/
def chords_circle_vector.l0 : Nat → Int → Int → List Int → Int → Option (List Int)
  | 0, _, _, _, _ => none
  | k + 1, x0, x1, x5, x6 => if x6 ≤ (wrap64 (Int.tdiv x0 2)) then ((chords_circle_move.f x0 x1 x6).bind fun t1004 => ((chords_count.f (Go.bits .and .i64 x1 t1004)).bind fun t1005 => (if (wrap64 (2 * x6)) = x0 then (if x5.length < 17592186044416 then (chords_circle_vector.l0 k x0 x1 (x5 ++ [wrap64 (Int.tdiv t1005 2)]) (wrap64 (x6 + 1))) else (none)) else (if x5.length < 17592186044416 then (chords_circle_vector.l0 k x0 x1 (x5 ++ [t1005]) (wrap64 (x6 + 1))) else (none))))) else (some x5)
def chords_circle_vector.f (k : Nat) (a0 : Int) (a1 : Int) : Option (List Int) := chords_circle_vector.l0 k a0 a1 (([] : List Int)) 1
theorem chords_circle_vector.mono_l : ∀ k, (∀ y0 y1 y2 y3, LeO (chords_circle_vector.l0 k y0 y1 y2 y3) (chords_circle_vector.l0 (k + 1) y0 y1 y2 y3))
  | 0 => fun _ _ _ _ r h => by simp [chords_circle_vector.l0] at h
  | k + 1 => by
    have ih0 := chords_circle_vector.mono_l k
    · intro y0 y1 y2 y3
      unfold chords_circle_vector.l0
      repeat' first
      | (with_reducible exact ih0 _ _ _ _)
      | (with_reducible exact LeO.refl _)
      | (with_reducible exact LeO.none _)
      | (with_reducible refine LeO.ite ?_ ?_)
      | (with_reducible refine LeO.bind ?_ (fun _ => ?_))
      | exact ih0 _ _ _ _
      | exact LeO.none _
      | refine LeO.ite ?_ ?_
      | refine LeO.bind ?_ (fun _ => ?_)
theorem chords_circle_vector.mono : ∀ a0 a1 k, LeO (chords_circle_vector.f k a0 a1) (chords_circle_vector.f (k + 1) a0 a1) := by
  intro a0 a1 k
  have ih0 := chords_circle_vector.mono_l k
  unfold chords_circle_vector.f
  repeat' first
      | (with_reducible exact ih0 _ _ _ _)
      | (with_reducible exact LeO.refl _)
      | (with_reducible exact LeO.none _)
      | (with_reducible refine LeO.ite ?_ ?_)
      | (with_reducible refine LeO.bind ?_ (fun _ => ?_))
      | exact ih0 _ _ _ _
      | exact LeO.none _
      | refine LeO.ite ?_ ?_
      | refine LeO.bind ?_ (fun _ => ?_)
set_option maxHeartbeats 8000000 in
set_option maxRecDepth 100000 in
theorem chords_circle_vector.calls (k : Nat) (a0 : Int) (a1 : Int) (r : List Int) (w : World) (h : chords_circle_vector.f k a0 a1 = some r) :
    Calls Tryd.prog 49 #[.int .i64 a0, .int .i64 a1] w fun e w' => ∃ v0_ : Value, e = .returned (v0_) ∧ Kd.R (Kd.int .i64) 3 w' w.heap.size (fun _ => True) v0_ r ∧ Below w.heap.size w w' := by
  have HB := Aside0.mk (Below.refl w.heap.size w)
  have H : (chords_circle_vector.l0 k a0 a1 (([] : List Int)) 1) = some r := h
  clear h
  obtain ⟨y1001, hy1001⟩ : ∃ y_ : List Int, y_ = (([] : List Int)) := ⟨_, rfl⟩
  replace H : (chords_circle_vector.l0 k a0 a1 y1001 1) = some r := by first | (rw [hy1001]; with_reducible exact H) | (have H2_ := (Option.bind_some _ _).symm.trans H; rw [hy1001]; with_reducible exact H2_) | (have H2_ := (Option.bind_some _ _).symm.trans H; with_reducible exact H2_) | with_reducible exact H | (rw [hy1001]; exact H) | exact H
  have Ny1001 := Aside0.mk hy1001
  clear hy1001
  have H' := Aside0.mk H
  clear H
  go_enter Tryd.func49, Tryd.ntmps49
  go_wp2_with (first | ((with_reducible refine gate_dst (N := 8) rfl ?_); refine Kd.R_lit (Kd.int .i64) _ 3 ?hg (N := 8) ?hd (xs := ([] : List Int)) (inner := []) (ok := fun _ => True) (okp := fun _ => True) ?hr ?hp (fun _ hk => hk) trivial (Below.refl _ _) (Nat.le_refl _) (by simp) ?_; (case hd => rfl); (case hg => rfl); (case hr => first | (go_simp; done) | (go_simp; rfl)); (case hp => exact (Reps.none _ _)); intro v1002 w3 ho4 hb hg_ hnew_; clear hg_ hnew_; (first | rw [← Ny1001.out] at ho4 | (simp only [Int.reduceToNat] at ho4; rw [← Ny1001.out] at ho4)); have n0_ := Aside0.mk (Kd.R_lower ho4 (below_size (by repeat (first | (with_reducible first | exact HB.out | apply below_alloc | apply pw_below_drewN | apply below_drew1) | exact HB.out)))); have n1_ := Aside0.mk (below_step (by repeat (first | (with_reducible first | exact HB.out | apply below_alloc | apply pw_below_drewN | apply below_drew1) | exact HB.out)) hb); clear HB; have HO1003 := n0_; have HB := n1_; clear n0_ n1_; clear hb ho4))
  go_loopg [5, 6] k (fun kq v5 v6 w' => ∃ (x5_1 : List Int) (x6_1 : Int), v6 = .int .i64 x6_1 ∧ Aside0 (chords_circle_vector.l0 kq a0 a1 x5_1 x6_1 = some r) ∧ Aside0 (kq ≤ k) ∧ Aside0 (Kd.R (Kd.int .i64) 3 w' w.heap.size (fun _ => True) v5 x5_1) ∧ Aside0 (Below w.heap.size w w'))
  case atStart => exact ⟨(y1001), (1), (by first | rfl | (simp; done) | (simp [*]; done)), H', ⟨Nat.le_refl _⟩, ⟨by (with_reducible repeat (first | apply Kd.R_alloc | apply Kd.R_drewN | apply Kd.R_drew)); exact HO1003.out⟩, ⟨by repeat (first | (with_reducible first | exact HB.out | apply below_alloc | apply pw_below_drewN | apply below_drew1) | exact HB.out)⟩⟩
  case round =>
    clear H'
    try clear p2
    try clear c4
    obtain ⟨x5_1, x6_1, rfl, HA, HK1, HO_5, HB⟩ := hrel
    cases gk with
    | zero => exact absurd HA.out (by simp [chords_circle_vector.l0])
    | succ k1 =>
      have H := HA.out
      clear HA
      simp only [chords_circle_vector.l0] at H
      by_cases c5 : x6_1 ≤ (wrap64 (Int.tdiv a0 2))
      · rw [if_pos c5] at H
        have c5b0 : decide (x6_1 ≤ (wrap64 (Int.tdiv a0 2))) = true := decide_eq_true c5
        clear c5
        replace H := Option.bind_eq_some_iff.mp H
        obtain ⟨t1004, A60, H⟩ := H
        replace H : ((chords_count.f (Go.bits .and .i64 a1 t1004)).bind fun t1005 => (if (wrap64 (2 * x6_1)) = a0 then (if x5_1.length < 17592186044416 then (chords_circle_vector.l0 k1 a0 a1 (x5_1 ++ [wrap64 (Int.tdiv t1005 2)]) (wrap64 (x6_1 + 1))) else (none)) else (if x5_1.length < 17592186044416 then (chords_circle_vector.l0 k1 a0 a1 (x5_1 ++ [t1005]) (wrap64 (x6_1 + 1))) else (none)))) = some r := H
        have A6 := Aside0.mk A60
        clear A60
        replace H := Option.bind_eq_some_iff.mp H
        obtain ⟨t1005, A70, H⟩ := H
        replace H : (if (wrap64 (2 * x6_1)) = a0 then (if x5_1.length < 17592186044416 then (chords_circle_vector.l0 k1 a0 a1 (x5_1 ++ [wrap64 (Int.tdiv t1005 2)]) (wrap64 (x6_1 + 1))) else (none)) else (if x5_1.length < 17592186044416 then (chords_circle_vector.l0 k1 a0 a1 (x5_1 ++ [t1005]) (wrap64 (x6_1 + 1))) else (none))) = some r := H
        have A7 := Aside0.mk A70
        clear A70
        by_cases c8 : (wrap64 (2 * x6_1)) = a0
        · rw [if_pos c8] at H
          have c8b0 : ((wrap64 (2 * x6_1)) == a0) = true := beq_iff_eq.mpr c8
          have c8b1 : ((wrap64 (2 * x6_1)) != a0) = false := bne_eq_false_iff_eq.mpr c8
          clear c8
          by_cases c9 : x5_1.length < 17592186044416
          · rw [if_pos c9] at H
            have LMc9 := Aside0.mk c9
            clear c9
            obtain ⟨y1006, hy1006⟩ : ∃ y_ : List Int, y_ = (x5_1 ++ [wrap64 (Int.tdiv t1005 2)]) := ⟨_, rfl⟩
            replace H : (chords_circle_vector.l0 k1 a0 a1 y1006 (wrap64 (x6_1 + 1))) = some r := by first | (rw [hy1006]; with_reducible exact H) | (have H2_ := (Option.bind_some _ _).symm.trans H; rw [hy1006]; with_reducible exact H2_) | (have H2_ := (Option.bind_some _ _).symm.trans H; with_reducible exact H2_) | with_reducible exact H | (rw [hy1006]; exact H) | exact H
            have Ny1006 := Aside0.mk hy1006
            clear hy1006
            have H' := Aside0.mk H
            clear H
            go_wp2_with (first | ((with_reducible refine gate_callee (f := 42) rfl ?_); refine goesL_ (some 19) rfl rfl Tryd.func42 (by kernel_rfl) rfl #[.int .i64 a0, .int .i64 a1, .int .i64 x6_1] rfl (by (try simp only [List.map_toArray, List.map_cons, List.map_nil]); first | done | rfl | (simp only [List.length_drop, List.length_take]; rfl)) ?_; (with_reducible refine (chords_circle_move.calls a0 a1 x6_1 t1004 _ A6.out).mono ?_); rintro e w' ⟨rfl, ⟨nd, rfl⟩⟩; refine ⟨_, rfl, ?_⟩) | ((with_reducible refine gate_callee (f := 50) rfl ?_); refine goesL_ (some 21) rfl rfl Tryd.func50 (by kernel_rfl) rfl #[.int .i64 (Go.bits .and .i64 a1 t1004)] rfl (by (try simp only [List.map_toArray, List.map_cons, List.map_nil]); first | done | rfl | (simp only [List.length_drop, List.length_take]; rfl)) ?_; (with_reducible refine (chords_count.calls (Go.bits .and .i64 a1 t1004) t1005 _ A7.out).mono ?_); rintro e w' ⟨rfl, ⟨nd, rfl⟩⟩; refine ⟨_, rfl, ?_⟩) | ((with_reducible refine gate_builtin (b := .append) (xs := #[.tmp 28, .tmp 30]) rfl ?_); at_builtin; refine Kd.R_append (Kd.int .i64) (w0 := w) w.heap.size rfl (.tmp 28) (.tmp 30) 35 3 (.int .i64 0) 8 rfl Tryd.underlying35 info3 rfl (by decide) (by omega) u5 x5_1 (wrap64 (Int.tdiv t1005 2)) [.int .i64 (wrap64 (Int.tdiv t1005 2))] (fun _ => True) (fun _ => False) rfl rfl ?aP (fun _ hk => hk.elim) ?aF ?aO ?aB ?aS ?aL ?_; (case aP => exact rfl); (case aB => exact (by repeat (first | (with_reducible first | exact HB.out | apply below_alloc | apply pw_below_drewN | apply below_drew1) | exact HB.out))); (case aF => exact (fun _ _ => trivial)); (case aO => exact (by (with_reducible repeat (first | apply Kd.R_alloc | apply Kd.R_drewN | apply Kd.R_drew)); exact HO_5.out)); (case aS => exact (below_size (by repeat (first | (with_reducible first | exact HB.out | apply below_alloc | apply pw_below_drewN | apply below_drew1) | exact HB.out)))); (case aL => have := LMc9.out; omega); intro v1007 w10 ho hb hg hat; rw [← Ny1006.out] at ho; have n0_ := Aside0.mk (hb); have n1_ := Aside0.mk (ho); clear HB; clear HO_5; have HB := n0_; have HO1008 := n1_; clear n0_ n1_; clear ho hb hg hat))
            go_roundg k1
            case measure => have := HK1.out; omega
            case rel => exact ⟨(y1006), (wrap64 (x6_1 + 1)), (by first | rfl | (simp; done) | (simp [*]; done)), H', ⟨by have := HK1.out; omega⟩, ⟨by (with_reducible repeat (first | apply Kd.R_alloc | apply Kd.R_drewN | apply Kd.R_drew)); exact HO1008.out⟩, ⟨by repeat (first | (with_reducible first | exact HB.out | apply below_alloc | apply pw_below_drewN | apply below_drew1) | exact HB.out)⟩⟩
          · rw [if_neg c9] at H
            exact absurd H (by simp)
        · rw [if_neg c8] at H
          have c8b0 : ((wrap64 (2 * x6_1)) == a0) = false := beq_eq_false_iff_ne.mpr c8
          have c8b1 : ((wrap64 (2 * x6_1)) != a0) = true := bne_iff_ne.mpr c8
          by_cases c11 : x5_1.length < 17592186044416
          · rw [if_pos c11] at H
            have LMc11 := Aside0.mk c11
            clear c11
            obtain ⟨y1009, hy1009⟩ : ∃ y_ : List Int, y_ = (x5_1 ++ [t1005]) := ⟨_, rfl⟩
            replace H : (chords_circle_vector.l0 k1 a0 a1 y1009 (wrap64 (x6_1 + 1))) = some r := by first | (rw [hy1009]; with_reducible exact H) | (have H2_ := (Option.bind_some _ _).symm.trans H; rw [hy1009]; with_reducible exact H2_) | (have H2_ := (Option.bind_some _ _).symm.trans H; with_reducible exact H2_) | with_reducible exact H | (rw [hy1009]; exact H) | exact H
            have Ny1009 := Aside0.mk hy1009
            clear hy1009
            have H' := Aside0.mk H
            clear H
            go_wp2_with (first | ((with_reducible refine gate_callee (f := 42) rfl ?_); refine goesL_ (some 19) rfl rfl Tryd.func42 (by kernel_rfl) rfl #[.int .i64 a0, .int .i64 a1, .int .i64 x6_1] rfl (by (try simp only [List.map_toArray, List.map_cons, List.map_nil]); first | done | rfl | (simp only [List.length_drop, List.length_take]; rfl)) ?_; (with_reducible refine (chords_circle_move.calls a0 a1 x6_1 t1004 _ A6.out).mono ?_); rintro e w' ⟨rfl, ⟨nd, rfl⟩⟩; refine ⟨_, rfl, ?_⟩) | ((with_reducible refine gate_callee (f := 50) rfl ?_); refine goesL_ (some 21) rfl rfl Tryd.func50 (by kernel_rfl) rfl #[.int .i64 (Go.bits .and .i64 a1 t1004)] rfl (by (try simp only [List.map_toArray, List.map_cons, List.map_nil]); first | done | rfl | (simp only [List.length_drop, List.length_take]; rfl)) ?_; (with_reducible refine (chords_count.calls (Go.bits .and .i64 a1 t1004) t1005 _ A7.out).mono ?_); rintro e w' ⟨rfl, ⟨nd, rfl⟩⟩; refine ⟨_, rfl, ?_⟩) | ((with_reducible refine gate_builtin (b := .append) (xs := #[.tmp 28, .tmp 30]) rfl ?_); at_builtin; refine Kd.R_append (Kd.int .i64) (w0 := w) w.heap.size rfl (.tmp 28) (.tmp 30) 35 3 (.int .i64 0) 8 rfl Tryd.underlying35 info3 rfl (by decide) (by omega) u5 x5_1 t1005 [.int .i64 t1005] (fun _ => True) (fun _ => False) rfl rfl ?aP (fun _ hk => hk.elim) ?aF ?aO ?aB ?aS ?aL ?_; (case aP => exact rfl); (case aB => exact (by repeat (first | (with_reducible first | exact HB.out | apply below_alloc | apply pw_below_drewN | apply below_drew1) | exact HB.out))); (case aF => exact (fun _ _ => trivial)); (case aO => exact (by (with_reducible repeat (first | apply Kd.R_alloc | apply Kd.R_drewN | apply Kd.R_drew)); exact HO_5.out)); (case aS => exact (below_size (by repeat (first | (with_reducible first | exact HB.out | apply below_alloc | apply pw_below_drewN | apply below_drew1) | exact HB.out)))); (case aL => have := LMc11.out; omega); intro v1010 w12 ho hb hg hat; rw [← Ny1009.out] at ho; have n0_ := Aside0.mk (hb); have n1_ := Aside0.mk (ho); clear HB; clear HO_5; have HB := n0_; have HO1011 := n1_; clear n0_ n1_; clear ho hb hg hat))
            go_roundg k1
            case measure => have := HK1.out; omega
            case rel => exact ⟨(y1009), (wrap64 (x6_1 + 1)), (by first | rfl | (simp; done) | (simp [*]; done)), H', ⟨by have := HK1.out; omega⟩, ⟨by (with_reducible repeat (first | apply Kd.R_alloc | apply Kd.R_drewN | apply Kd.R_drew)); exact HO1011.out⟩, ⟨by repeat (first | (with_reducible first | exact HB.out | apply below_alloc | apply pw_below_drewN | apply below_drew1) | exact HB.out)⟩⟩
          · rw [if_neg c11] at H
            exact absurd H (by simp)
      · rw [if_neg c5] at H
        have c5b0 : decide (x6_1 ≤ (wrap64 (Int.tdiv a0 2))) = false := decide_eq_false c5
        clear c5
        obtain rfl := Option.some.inj H
        go_wp2
        go_ret
        exact ⟨_, by first | rfl | (simp [errW_none, errW_some] <;> rfl) | (simp [*, errW_none, errW_some] <;> rfl), by (with_reducible repeat (first | apply Kd.R_alloc | apply Kd.R_drewN | apply Kd.R_drew)); exact HO_5.out, by repeat (first | (with_reducible first | exact HB.out | apply below_alloc | apply pw_below_drewN | apply below_drew1) | exact HB.out)⟩

end Go.Proofs.YtnjmiodnkjabgaaDoor.P
namespace Go.Proofs.YtnjmiodnkjabgaaDoor.P
open Go.RowKit Go.Proofs.YtnjmiodnkjabgaaDoorW.PrintWords Go.Proofs.YtnjmiodnkjabgaaDoorW.PrintLast Go.Proofs.YtnjmiodnkjabgaaDoorW.PrintMore
attribute [local go_sem] max2_int min2_int max_two min_two max_three min_three max_four min_four   -- for this text's walks alone
set_option linter.unusedVariables false
set_option linter.unusedSimpArgs false

/-! ### chords_Vector: function 23 -/
def chords_Vector.f (k : Nat) (a0 : Int) (a1 : Int) : Option (List Int × Int) := (chords_circle_valid.f a0 (([a1] : List Int))).bind fun t1004 => (if t1004 = true then ((chords_circle_vector.f k a0 a1).bind fun t1005 => (some (t1005, 0))) else (some (([] : List Int), 2)))
theorem chords_Vector.mono : ∀ a0 a1 k, LeO (chords_Vector.f k a0 a1) (chords_Vector.f (k + 1) a0 a1) := by
  intro a0 a1 k
  unfold chords_Vector.f
  repeat' first
      | (with_reducible exact chords_circle_vector.mono _ _ _)
      | (with_reducible exact LeO.refl _)
      | (with_reducible exact LeO.none _)
      | (with_reducible refine LeO.ite ?_ ?_)
      | (with_reducible refine LeO.bind ?_ (fun _ => ?_))
      | exact chords_circle_vector.mono _ _ _
      | exact LeO.none _
      | refine LeO.ite ?_ ?_
      | refine LeO.bind ?_ (fun _ => ?_)
set_option maxHeartbeats 8000000 in
set_option maxRecDepth 100000 in
theorem chords_Vector.calls (k : Nat) (a0 : Int) (a1 : Int) (r1 : List Int) (r2 : Int) (w : World) (h : chords_Vector.f k a0 a1 = some (r1, r2)) :
    Calls Tryd.prog 23 #[.int .i64 a0, .int .i64 a1] w fun e w' => ∃ v0_ : Value, e = .returned (.tuple #[v0_, .int .i64 r2]) ∧ Kd.R (Kd.int .i64) 3 w' w.heap.size (fun _ => True) v0_ r1 ∧ Below w.heap.size w w' := by
  have HB := Aside0.mk (Below.refl w.heap.size w)
  have H : ((chords_circle_valid.f a0 (([a1] : List Int))).bind fun t1004 => (if t1004 = true then ((chords_circle_vector.f k a0 a1).bind fun t1005 => (some (t1005, 0))) else (some (([] : List Int), 2)))) = some (r1, r2) := h
  clear h
  obtain ⟨y1001, hy1001⟩ : ∃ y_ : List Int, y_ = (([a1] : List Int)) := ⟨_, rfl⟩
  replace H : ((chords_circle_valid.f a0 y1001).bind fun t1004 => (if t1004 = true then ((chords_circle_vector.f k a0 a1).bind fun t1005 => (some (t1005, 0))) else (some (([] : List Int), 2)))) = some (r1, r2) := by first | (rw [hy1001]; with_reducible exact H) | (have H2_ := (Option.bind_some _ _).symm.trans H; rw [hy1001]; with_reducible exact H2_) | (have H2_ := (Option.bind_some _ _).symm.trans H; with_reducible exact H2_) | with_reducible exact H | (rw [hy1001]; exact H) | exact H
  have Ny1001 := Aside0.mk hy1001
  clear hy1001
  replace H := Option.bind_eq_some_iff.mp H
  obtain ⟨t1004, A30, H⟩ := H
  replace H : (if t1004 = true then ((chords_circle_vector.f k a0 a1).bind fun t1005 => (some (t1005, 0))) else (some (([] : List Int), 2))) = some (r1, r2) := H
  have A3 := Aside0.mk A30
  clear A30
  by_cases c4 : t1004 = true
  · subst c4
    have H1 : ((chords_circle_vector.f k a0 a1).bind fun t1005 => (some (t1005, 0))) = some (r1, r2) := by rw [if_pos rfl] at H; exact H
    clear H
    have H := H1
    clear H1
    replace H := Option.bind_eq_some_iff.mp H
    obtain ⟨t1005, A50, H⟩ := H
    replace H : (some (t1005, 0)) = some (r1, r2) := H
    have A5 := Aside0.mk A50
    clear A50
    simp only [Option.some.injEq, Prod.mk.injEq] at H
    obtain ⟨rfl, rfl⟩ := H
    go_enter Tryd.func23, Tryd.ntmps23
    go_wp2_with (first | ((with_reducible refine gate_dst (N := 8) rfl ?_); refine Kd.R_lit (Kd.int .i64) _ 3 ?hg (N := 8) ?hd (xs := ([a1] : List Int)) (inner := [.int .i64 a1]) (ok := fun _ => True) (okp := fun _ => True) ?hr ?hp (fun _ hk => hk) trivial (Below.refl _ _) (Nat.le_refl _) (by simp) ?_; (case hd => rfl); (case hg => rfl); (case hr => first | (go_simp; done) | (go_simp; rfl)); (case hp => exact (Reps.one (show Kd.M (Kd.int .i64) _ _ _ a1 [.int .i64 a1] from rfl) (Reps.none _ _))); intro v1002 w6 ho7 hb hg_ hnew_; clear hg_ hnew_; (first | rw [← Ny1001.out] at ho7 | (simp only [Int.reduceToNat] at ho7; rw [← Ny1001.out] at ho7)); have n0_ := Aside0.mk (Kd.R_lower ho7 (below_size (by repeat (first | (with_reducible first | exact HB.out | apply below_alloc | apply pw_below_drewN | apply below_drew1) | exact HB.out)))); have n1_ := Aside0.mk (below_step (by repeat (first | (with_reducible first | exact HB.out | apply below_alloc | apply pw_below_drewN | apply below_drew1) | exact HB.out)) hb); clear HB; have HO1003 := n0_; have HB := n1_; clear n0_ n1_; clear hb ho7; obtain ⟨Ao8, co8, eo8⟩ := Kd.R_slice HO1003.out; subst eo8) | ((with_reducible refine gate_callee (f := 41) rfl ?_); refine goesL_ (some 9) rfl rfl Tryd.func41 (by kernel_rfl) rfl #[.int .i64 a0, .slice Ao8 y1001.length co8] rfl (by (try simp only [List.map_toArray, List.map_cons, List.map_nil]); first | done | rfl | (simp only [List.length_drop, List.length_take]; rfl)) ?_; (with_reducible refine (chords_circle_valid.calls a0 _ _ y1001 true _ ?side1 ?side2 A3.out).mono ?_); (case side1 => repeat (first | exact (Kd.R_reads' HO1003.out).2.2 | (with_reducible refine Kd.C_alloc ?_ _) | (with_reducible refine Kd.C_drewN ?_ _) | (with_reducible refine Kd.C_drew ?_))); (case side2 => exact (Kd.R_reads' HO1003.out).2.1); rintro e w9 ⟨rfl, hb⟩; refine ⟨_, rfl, ?_⟩; have n0_ := Aside0.mk (Kd.R_below (by (with_reducible repeat (first | apply Kd.R_alloc | apply Kd.R_drewN | apply Kd.R_drew)); exact HO1003.out) hb); have n1_ := Aside0.mk (below_step (by repeat (first | (with_reducible first | exact HB.out | apply below_alloc | apply pw_below_drewN | apply below_drew1) | exact HB.out)) hb); clear HO1003; clear HB; have HO1003 := n0_; have HB := n1_; clear n0_ n1_; (try clear hb); (try clear hb2); (try clear hk); (try clear hi)) | ((with_reducible refine gate_callee (f := 49) rfl ?_); refine goesL_ (some 13) rfl rfl Tryd.func49 (by kernel_rfl) rfl #[.int .i64 a0, .int .i64 a1] rfl (by (try simp only [List.map_toArray, List.map_cons, List.map_nil]); first | done | rfl | (simp only [List.length_drop, List.length_take]; rfl)) ?_; (with_reducible refine (chords_circle_vector.calls k a0 a1 t1005 _ A5.out).mono ?_); rintro e w10 ⟨v1006, rfl, ho0, hb⟩; refine ⟨_, rfl, ?_⟩; have n0_ := Aside0.mk (Kd.R_elder' (by (with_reducible repeat (first | apply Kd.R_alloc | apply Kd.R_drewN | apply Kd.R_drew)); exact HO1003.out) (Kd.R_base ho0) hb); have n1_ := Aside0.mk (Kd.R_lower (Kd.R_new' ho0 (Kd.R_lt (by (with_reducible repeat (first | apply Kd.R_alloc | apply Kd.R_drewN | apply Kd.R_drew)); exact HO1003.out))) (below_size (by repeat (first | (with_reducible first | exact HB.out | apply below_alloc | apply pw_below_drewN | apply below_drew1) | exact HB.out)))); have n2_ := Aside0.mk (below_step (by repeat (first | (with_reducible first | exact HB.out | apply below_alloc | apply pw_below_drewN | apply below_drew1) | exact HB.out)) hb); clear HO1003; clear HB; have HO1003 := n0_; have HO1007 := n1_; have HB := n2_; clear n0_ n1_ n2_; (try clear hb); (try clear hb2); (try clear hk); (try clear hi); (try clear ho0)))
    go_ret2
    exact ⟨_, by first | rfl | (simp [errW_none, errW_some] <;> rfl) | (simp [*, errW_none, errW_some] <;> rfl), by (with_reducible repeat (first | apply Kd.R_alloc | apply Kd.R_drewN | apply Kd.R_drew)); exact Kd.R_mono HO1007.out (fun _ hk => trivial), by repeat (first | (with_reducible first | exact HB.out | apply below_alloc | apply pw_below_drewN | apply below_drew1) | exact HB.out)⟩
  · replace c4 := Bool.eq_false_iff.mpr c4
    subst c4
    have H1 : (some (([] : List Int), 2)) = some (r1, r2) := by rw [if_neg (show ¬ (false = true) by decide)] at H; exact H
    clear H
    have H := H1
    clear H1
    simp only [Option.some.injEq, Prod.mk.injEq] at H
    obtain ⟨rfl, rfl⟩ := H
    go_enter Tryd.func23, Tryd.ntmps23
    go_wp2_with (first | ((with_reducible refine gate_dst (N := 8) rfl ?_); refine Kd.R_lit (Kd.int .i64) _ 3 ?hg (N := 8) ?hd (xs := ([a1] : List Int)) (inner := [.int .i64 a1]) (ok := fun _ => True) (okp := fun _ => True) ?hr ?hp (fun _ hk => hk) trivial (Below.refl _ _) (Nat.le_refl _) (by simp) ?_; (case hd => rfl); (case hg => rfl); (case hr => first | (go_simp; done) | (go_simp; rfl)); (case hp => exact (Reps.one (show Kd.M (Kd.int .i64) _ _ _ a1 [.int .i64 a1] from rfl) (Reps.none _ _))); intro v1002 w11 ho12 hb hg_ hnew_; clear hg_ hnew_; (first | rw [← Ny1001.out] at ho12 | (simp only [Int.reduceToNat] at ho12; rw [← Ny1001.out] at ho12)); have n0_ := Aside0.mk (Kd.R_lower ho12 (below_size (by repeat (first | (with_reducible first | exact HB.out | apply below_alloc | apply pw_below_drewN | apply below_drew1) | exact HB.out)))); have n1_ := Aside0.mk (below_step (by repeat (first | (with_reducible first | exact HB.out | apply below_alloc | apply pw_below_drewN | apply below_drew1) | exact HB.out)) hb); clear HB; have HO1003 := n0_; have HB := n1_; clear n0_ n1_; clear hb ho12; obtain ⟨Ao13, co13, eo13⟩ := Kd.R_slice HO1003.out; subst eo13) | ((with_reducible refine gate_callee (f := 41) rfl ?_); refine goesL_ (some 9) rfl rfl Tryd.func41 (by kernel_rfl) rfl #[.int .i64 a0, .slice Ao13 y1001.length co13] rfl (by (try simp only [List.map_toArray, List.map_cons, List.map_nil]); first | done | rfl | (simp only [List.length_drop, List.length_take]; rfl)) ?_; (with_reducible refine (chords_circle_valid.calls a0 _ _ y1001 false _ ?side1 ?side2 A3.out).mono ?_); (case side1 => repeat (first | exact (Kd.R_reads' HO1003.out).2.2 | (with_reducible refine Kd.C_alloc ?_ _) | (with_reducible refine Kd.C_drewN ?_ _) | (with_reducible refine Kd.C_drew ?_))); (case side2 => exact (Kd.R_reads' HO1003.out).2.1); rintro e w14 ⟨rfl, hb⟩; refine ⟨_, rfl, ?_⟩; have n0_ := Aside0.mk (Kd.R_below (by (with_reducible repeat (first | apply Kd.R_alloc | apply Kd.R_drewN | apply Kd.R_drew)); exact HO1003.out) hb); have n1_ := Aside0.mk (below_step (by repeat (first | (with_reducible first | exact HB.out | apply below_alloc | apply pw_below_drewN | apply below_drew1) | exact HB.out)) hb); clear HO1003; clear HB; have HO1003 := n0_; have HB := n1_; clear n0_ n1_; (try clear hb); (try clear hb2); (try clear hk); (try clear hi)))
    go_ret2
    exact ⟨_, by first | rfl | (simp [errW_none, errW_some] <;> rfl) | (simp [*, errW_none, errW_some] <;> rfl), by first | exact Kd.R_nil _ _ _ _ _ | exact Kd.N_nil _ _ _ _ _ | exact Kd.V_nil _ _ _ _ _ | exact Kd.Q_nil _ _ _ _ _ | exact Kd.S_nil _ _ _ _ _, by repeat (first | (with_reducible first | exact HB.out | apply below_alloc | apply pw_below_drewN | apply below_drew1) | exact HB.out)⟩

end Go.Proofs.YtnjmiodnkjabgaaDoor.P
namespace Go.Proofs.YtnjmiodnkjabgaaDoor.P
open Go.RowKit Go.Proofs.YtnjmiodnkjabgaaDoorW.PrintWords Go.Proofs.YtnjmiodnkjabgaaDoorW.PrintLast Go.Proofs.YtnjmiodnkjabgaaDoorW.PrintMore
attribute [local go_sem] max2_int min2_int max_two min_two max_three min_three max_four min_four   -- for this text's walks alone
set_option linter.unusedVariables false
set_option linter.unusedSimpArgs false

/-! ### sackbutref01_Size: function 39 -/
def sackbutref01_Size.l0 : Nat → Int → Int → Option (Int)
  | 0, _, _ => none
  | k + 1, x0, x3 => if x0 > 0 then (sackbutref01_Size.l0 k (Go.bits .and .i64 x0 (wrap64 (x0 - 1))) (wrap64 (x3 + 1))) else (some x3)
def sackbutref01_Size.f (k : Nat) (a0 : Int) : Option (Int) := sackbutref01_Size.l0 k a0 0
theorem sackbutref01_Size.mono_l : ∀ k, (∀ y0 y1, LeO (sackbutref01_Size.l0 k y0 y1) (sackbutref01_Size.l0 (k + 1) y0 y1))
  | 0 => fun _ _ r h => by simp [sackbutref01_Size.l0] at h
  | k + 1 => by
    have ih0 := sackbutref01_Size.mono_l k
    · intro y0 y1
      unfold sackbutref01_Size.l0
      repeat' first
      | (with_reducible exact ih0 _ _)
      | (with_reducible exact LeO.refl _)
      | (with_reducible exact LeO.none _)
      | (with_reducible refine LeO.ite ?_ ?_)
      | (with_reducible refine LeO.bind ?_ (fun _ => ?_))
      | exact ih0 _ _
      | exact LeO.none _
      | refine LeO.ite ?_ ?_
      | refine LeO.bind ?_ (fun _ => ?_)
theorem sackbutref01_Size.mono : ∀ a0 k, LeO (sackbutref01_Size.f k a0) (sackbutref01_Size.f (k + 1) a0) := by
  intro a0 k
  have ih0 := sackbutref01_Size.mono_l k
  unfold sackbutref01_Size.f
  repeat' first
      | (with_reducible exact ih0 _ _)
      | (with_reducible exact LeO.refl _)
      | (with_reducible exact LeO.none _)
      | (with_reducible refine LeO.ite ?_ ?_)
      | (with_reducible refine LeO.bind ?_ (fun _ => ?_))
      | exact ih0 _ _
      | exact LeO.none _
      | refine LeO.ite ?_ ?_
      | refine LeO.bind ?_ (fun _ => ?_)
set_option maxHeartbeats 8000000 in
set_option maxRecDepth 100000 in
theorem sackbutref01_Size.calls (k : Nat) (a0 : Int) (r : Int) (w : World) (h : sackbutref01_Size.f k a0 = some r) :
    Calls Tryd.prog 39 #[.int .i64 a0] w fun e w' => e = .returned (.int .i64 r) ∧ Drawn0 w w' := by
  have H : (sackbutref01_Size.l0 k a0 0) = some r := h
  clear h
  have H' := Aside0.mk H
  clear H
  go_enter Tryd.func39, Tryd.ntmps39
  go_wp2
  go_loopg [0, 3] k (fun kq v0 v3 w' => ∃ (x0_1 : Int) (x3_1 : Int), v0 = .int .i64 x0_1 ∧ v3 = .int .i64 x3_1 ∧ Aside0 (sackbutref01_Size.l0 kq x0_1 x3_1 = some r) ∧ Aside0 (kq ≤ k) ∧ Drawn0 w w')
  case atStart => exact ⟨(a0), (0), (by first | rfl | (simp; done) | (simp [*]; done)), (by first | rfl | (simp; done) | (simp [*]; done)), H', ⟨Nat.le_refl _⟩, by repeat (first | exact Drawn0.refl _ | apply Drawn0.step)⟩
  case round =>
    clear H'
    obtain ⟨x0_1, x3_1, rfl, rfl, HA, HK1, ⟨m1, rfl⟩⟩ := hrel
    cases gk with
    | zero => exact absurd HA.out (by simp [sackbutref01_Size.l0])
    | succ k1 =>
      have H := HA.out
      clear HA
      simp only [sackbutref01_Size.l0] at H
      by_cases c2 : x0_1 > 0
      · rw [if_pos c2] at H
        have c2b0 : decide (0 < x0_1) = true := decide_eq_true c2
        clear c2
        have H' := Aside0.mk H
        clear H
        go_wp2
        go_roundg k1
        case measure => have := HK1.out; omega
        case rel => exact ⟨(Go.bits .and .i64 x0_1 (wrap64 (x0_1 - 1))), (wrap64 (x3_1 + 1)), (by first | rfl | (simp; done) | (simp [*]; done)), (by first | rfl | (simp; done) | (simp [*]; done)), H', ⟨by have := HK1.out; omega⟩, by repeat (first | exact Drawn0.refl _ | apply Drawn0.step)⟩
      · rw [if_neg c2] at H
        have c2b0 : decide (0 < x0_1) = false := decide_eq_false c2
        clear c2
        obtain rfl := Option.some.inj H
        go_wp2
        go_ret
        exact ⟨by first | rfl | (simp; done) | (simp [*]; done), by repeat (first | exact Drawn0.refl _ | apply Drawn0.step)⟩

end Go.Proofs.YtnjmiodnkjabgaaDoor.P
namespace Go.Proofs.YtnjmiodnkjabgaaDoor.P
open Go.RowKit Go.Proofs.YtnjmiodnkjabgaaDoorW.PrintWords Go.Proofs.YtnjmiodnkjabgaaDoorW.PrintLast Go.Proofs.YtnjmiodnkjabgaaDoorW.PrintMore
attribute [local go_sem] max2_int min2_int max_two min_two max_three min_three max_four min_four   -- for this text's walks alone
set_option linter.unusedVariables false
set_option linter.unusedSimpArgs false

/-! math/bits.OnesCount of a set of at most 24 numbers -/
theorem u64_id {n : Int} (h0 : 0 ≤ n) (h1 : n < 18446744073709551616) : IntKind.u64.wrap n = n := by
  simp only [IntKind.wrap, IntKind.bits, IntKind.signed]
  simp
  omega
theorem and_u64 {a b : Nat} (ha : a < 2 ^ 64) (hb : b < 2 ^ 64) : Go.bits .and .u64 (a : Int) (b : Int) = ((a &&& b : Nat) : Int) := by
  refine (bits_nat .u64 64 (by decide) (fun n h0 h1 => u64_id h0 ?_) a b ha hb).1
  have : (2 : Int) ^ 64 = 18446744073709551616 := by decide
  omega
theorem pop1_eq {a : Nat} (ha : a < 2 ^ 24) : IntKind.u64.wrap ((Go.bits .and .u64 ((a : Int) / 2) 6148914691236517205) + (Go.bits .and .u64 (a : Int) 6148914691236517205)) = (pop1 a : Int) ∧ pop1 a < 2 ^ 25 := by
  have e0 : ((a : Int) / 2) = ((a / 2 : Nat) : Int) := by omega
  have h1 := and_u64 (a := a / 2) (b := 6148914691236517205) (by omega) (by decide)
  have h2 := and_u64 (a := a) (b := 6148914691236517205) (by omega) (by decide)
  have l1 : a / 2 &&& 6148914691236517205 ≤ a / 2 := Nat.and_le_left
  have l2 : a &&& 6148914691236517205 ≤ a := Nat.and_le_left
  rw [show ((6148914691236517205 : Nat) : Int) = 6148914691236517205 from rfl] at h1 h2
  rw [e0, h1, h2]
  unfold pop1
  have h24 : (2 : Nat) ^ 24 = 16777216 := by decide
  have h25 : (2 : Nat) ^ 25 = 33554432 := by decide
  exact ⟨by rw [u64_id (by omega) (by omega)]; omega, by omega⟩
theorem pop2_eq {a : Nat} (ha : a < 2 ^ 25) : IntKind.u64.wrap ((Go.bits .and .u64 ((a : Int) / 4) 3689348814741910323) + (Go.bits .and .u64 (a : Int) 3689348814741910323)) = (pop2 a : Int) ∧ pop2 a < 2 ^ 26 := by
  have e0 : ((a : Int) / 4) = ((a / 4 : Nat) : Int) := by omega
  have h25 : (2 : Nat) ^ 25 = 33554432 := by decide
  have h26 : (2 : Nat) ^ 26 = 67108864 := by decide
  have h1 := and_u64 (a := a / 4) (b := 3689348814741910323) (by omega) (by decide)
  have h2 := and_u64 (a := a) (b := 3689348814741910323) (by omega) (by decide)
  have l1 : a / 4 &&& 3689348814741910323 ≤ a / 4 := Nat.and_le_left
  have l2 : a &&& 3689348814741910323 ≤ a := Nat.and_le_left
  rw [show ((3689348814741910323 : Nat) : Int) = 3689348814741910323 from rfl] at h1 h2
  rw [e0, h1, h2]
  unfold pop2
  exact ⟨by rw [u64_id (by omega) (by omega)]; omega, by omega⟩
theorem pop3_eq {a : Nat} (ha : a < 2 ^ 26) : Go.bits .and .u64 (IntKind.u64.wrap ((a : Int) / 16 + a)) 1085102592571150095 = (pop3 a : Int) ∧ pop3 a < 2 ^ 27 := by
  have h26 : (2 : Nat) ^ 26 = 67108864 := by decide
  have h27 : (2 : Nat) ^ 27 = 134217728 := by decide
  have e0 : IntKind.u64.wrap ((a : Int) / 16 + a) = ((a / 16 + a : Nat) : Int) := by rw [u64_id (by omega) (by omega)]; omega
  have h1 := and_u64 (a := a / 16 + a) (b := 1085102592571150095) (by omega) (by decide)
  have l1 : a / 16 + a &&& 1085102592571150095 ≤ a / 16 + a := Nat.and_le_left
  rw [show ((1085102592571150095 : Nat) : Int) = 1085102592571150095 from rfl] at h1
  rw [e0, h1]
  unfold pop3
  exact ⟨rfl, by omega⟩
theorem pop4_eq {a : Nat} (ha : a < 2 ^ 27) : IntKind.u64.wrap ((a : Int) + (a : Int) / 256) = (pop4 a : Int) ∧ pop4 a < 2 ^ 28 := by
  have h27 : (2 : Nat) ^ 27 = 134217728 := by decide
  have h28 : (2 : Nat) ^ 28 = 268435456 := by decide
  unfold pop4
  exact ⟨by rw [u64_id (by omega) (by omega)]; omega, by omega⟩
theorem pop5_eq {a : Nat} (ha : a < 2 ^ 28) : IntKind.u64.wrap ((a : Int) + (a : Int) / 65536) = (pop5 a : Int) ∧ pop5 a < 2 ^ 29 := by
  have h28 : (2 : Nat) ^ 28 = 268435456 := by decide
  have h29 : (2 : Nat) ^ 29 = 536870912 := by decide
  unfold pop5
  exact ⟨by rw [u64_id (by omega) (by omega)]; omega, by omega⟩
theorem pop6_eq {a : Nat} (ha : a < 2 ^ 29) : IntKind.u64.wrap ((a : Int) + (a : Int) / 4294967296) = (pop6 a : Int) ∧ pop6 a < 2 ^ 30 := by
  have h29 : (2 : Nat) ^ 29 = 536870912 := by decide
  have h30 : (2 : Nat) ^ 30 = 1073741824 := by decide
  unfold pop6
  exact ⟨by rw [u64_id (by omega) (by omega)]; omega, by omega⟩
theorem OnesCount64_f {a : Nat} (ha : a < 2 ^ 24) : bits_OnesCount64.f (a : Int) = some (pop64 a : Int) := by
  obtain ⟨e1, l1⟩ := pop1_eq ha
  obtain ⟨e2, l2⟩ := pop2_eq l1
  obtain ⟨e3, l3⟩ := pop3_eq l2
  obtain ⟨e4, l4⟩ := pop4_eq l3
  obtain ⟨e5, l5⟩ := pop5_eq l4
  obtain ⟨e6, l6⟩ := pop6_eq l5
  unfold bits_OnesCount64.f
  simp only [e1, e2, e3, e4, e5, e6]
  have h30 : (2 : Nat) ^ 30 = 1073741824 := by decide
  have h63 : (2 : Nat) ^ 63 = 9223372036854775808 := by decide
  rw [wrap_id (by omega) (by omega)]
  have h := and_i64 (a := pop6 (pop5 (pop4 (pop3 (pop2 (pop1 a)))))) (b := 127) (by omega) (by decide)
  rw [show ((127 : Nat) : Int) = 127 from rfl] at h
  rw [h]
  rfl
theorem OnesCount_f {n a : Nat} (hn : n ≤ 24) (ha : a < 2 ^ n) : bits_OnesCount.f (IntKind.u64.wrap (a : Int)) = some (chSize n a : Int) := by
  have h24 : a < 2 ^ 24 := Nat.lt_of_lt_of_le ha (Nat.pow_le_pow_right (by omega) hn)
  have e : (2 : Nat) ^ 24 = 16777216 := by decide
  rw [u64_id (by omega) (by omega)]
  unfold bits_OnesCount.f
  rw [OnesCount64_f h24, pop64_cnt hn ha, chSize_bits]
  rfl

end Go.Proofs.YtnjmiodnkjabgaaDoor.P
namespace Go.Proofs.YtnjmiodnkjabgaaDoor.P
open Go.RowKit Go.Proofs.YtnjmiodnkjabgaaDoorW.PrintWords Go.Proofs.YtnjmiodnkjabgaaDoorW.PrintLast Go.Proofs.YtnjmiodnkjabgaaDoorW.PrintMore
attribute [local go_sem] max2_int min2_int max_two min_two max_three min_three max_four min_four   -- for this text's walks alone
set_option linter.unusedVariables false
set_option linter.unusedSimpArgs false

/-! what the functions on chords come to -/
def ValidC (n c : Int) : Prop := 2 ≤ n ∧ n ≤ 16 ∧ 0 ≤ c ∧ c < 2 ^ n.toNat
instance (n c : Int) : Decidable (ValidC n c) := by unfold ValidC; infer_instance
theorem shl_n {n : Int} (h0 : 0 ≤ n) (h : n ≤ 62) : shl .i64 1 n = 2 ^ n.toNat := by
  obtain ⟨m, rfl⟩ := Int.eq_ofNat_of_zero_le h0
  rw [shl1_i64 (by omega), pow_cast, Int.toNat_natCast]
theorem badChord_iff {n c : Int} (h2 : 2 ≤ n) (h16 : n ≤ 16) : badChord n c = false ↔ ValidC n c := by
  unfold badChord ValidC
  rw [shl_n (by omega) (by omega), Bool.or_eq_false_iff, decide_eq_false_iff_not, decide_eq_false_iff_not]
  omega
theorem valid1_f (n c : Int) : chords_circle_valid.f n [c] = some (decide (ValidC n c)) := by
  unfold chords_circle_valid.f
  by_cases h2 : n ≥ 2
  · by_cases h16 : n ≤ 16
    · rw [if_pos h2, if_pos h16, if_pos (by simp)]
      congr 1
      have := badChord_iff (c := c) h2 h16
      rw [Bool.eq_iff_iff]
      simp only [List.any_cons, List.any_nil, Bool.or_false, Bool.not_eq_true', decide_eq_true_eq]
      exact this
    · rw [if_pos h2, if_neg h16]
      have : ¬ ValidC n c := fun h => h16 h.2.1
      simp [this]
  · rw [if_neg h2]
    have : ¬ ValidC n c := fun h => h2 h.1
    simp [this]
theorem valid2_f (n a b : Int) : chords_circle_valid.f n [a, b] = some (decide (ValidC n a ∧ ValidC n b)) := by
  unfold chords_circle_valid.f
  by_cases h2 : n ≥ 2
  · by_cases h16 : n ≤ 16
    · rw [if_pos h2, if_pos h16, if_pos (by simp)]
      congr 1
      have h1 := badChord_iff (c := a) h2 h16
      have h2 := badChord_iff (c := b) h2 h16
      rw [Bool.eq_iff_iff]
      simp only [List.any_cons, List.any_nil, Bool.or_false, Bool.not_eq_true', decide_eq_true_eq, Bool.or_eq_false_iff]
      rw [h1, h2]
    · rw [if_pos h2, if_neg h16]
      have : ¬ (ValidC n a ∧ ValidC n b) := fun h => h16 h.1.2.1
      simp [this]
  · rw [if_neg h2]
    have : ¬ (ValidC n a ∧ ValidC n b) := fun h => h2 h.1.1
    simp [this]
theorem refValid_f (n c : Int) : sackbutref01_Valid.f n c = some (decide (ValidC n c)) := by
  unfold sackbutref01_Valid.f
  by_cases h2 : n ≥ 2
  · by_cases h16 : n ≤ 16
    · by_cases h0 : c ≥ 0
      · rw [if_pos h2, if_pos h16, if_pos h0, if_pos (by omega), shl_n (by omega) (by omega)]
        congr 1
        rw [decide_eq_decide]
        unfold ValidC
        omega
      · rw [if_pos h2, if_pos h16, if_neg h0]
        have : ¬ ValidC n c := fun h => h0 h.2.2.1
        simp [this]
    · rw [if_pos h2, if_neg h16]
      have : ¬ ValidC n c := fun h => h16 h.2.1
      simp [this]
  · rw [if_neg h2]
    have : ¬ ValidC n c := fun h => h2 h.1
    simp [this]
theorem validC_nat {n c : Int} (h : ValidC n c) : ∃ N C : Nat, n = N ∧ c = C ∧ 2 ≤ N ∧ N ≤ 16 ∧ C < 2 ^ N := by
  obtain ⟨h1, h2, h3, h4⟩ := h
  obtain ⟨N, rfl⟩ := Int.eq_ofNat_of_zero_le (show 0 ≤ n by omega)
  obtain ⟨C, rfl⟩ := Int.eq_ofNat_of_zero_le h3
  rw [Int.toNat_natCast, ← pow_cast] at h4
  exact ⟨N, C, rfl, rfl, by omega, by omega, by omega⟩
theorem pow16 {n : Nat} (h : n ≤ 16) : 2 ^ n ≤ 65536 := by
  have : 2 ^ n ≤ 2 ^ 16 := Nat.pow_le_pow_right (by omega) h
  omega
theorem count_f {n a : Nat} (hn : n ≤ 24) (ha : a < 2 ^ n) : chords_count.f (a : Int) = some (chSize n a : Int) := by
  unfold chords_count.f
  rw [OnesCount_f hn ha]
  rfl
theorem move_f {n c : Nat} (k : Int) (hn : 1 ≤ n) (hn2 : n ≤ 24) (hc : c < 2 ^ n) : chords_circle_move.f (n : Int) (c : Int) k = some (moveN n c (k % n).toNat : Int) := by
  unfold chords_circle_move.f
  rw [if_neg (by omega), tmod_mod (by omega) (by omega)]
  have h0 := Int.emod_nonneg k (show (n : Int) ≠ 0 by omega)
  have h1 := Int.emod_lt_of_pos k (show (0 : Int) < n by omega)
  obtain ⟨j, hj⟩ := Int.eq_ofNat_of_zero_le h0
  rw [hj] at h1 ⊢
  have hjn : j < n := by omega
  have hw : wrap64 ((n : Int) - (j : Int)) = ((n - j : Nat) : Int) := by rw [wrap_id (by omega) (by omega)]; omega
  have hp : 2 ^ n ≤ 2 ^ 24 := Nat.pow_le_pow_right (by omega) hn2
  have hpj : 2 ^ j ≤ 2 ^ 24 := Nat.pow_le_pow_right (by omega) (by omega)
  have h24 : (2 : Nat) ^ 24 = 16777216 := by decide
  have h63 : (2 : Nat) ^ 63 = 9223372036854775808 := by decide
  have hm : c * 2 ^ j < 2 ^ 63 := by
    have : c * 2 ^ j ≤ 16777216 * 16777216 := Nat.mul_le_mul (by omega) (by omega)
    omega
  have hw2 : wrap64 (shl .i64 1 (n : Int) - 1) = ((2 ^ n - 1 : Nat) : Int) := by
    rw [shl1_i64 (by omega), wrap_id (by omega) (by omega)]
    have := Nat.two_pow_pos n
    omega
  have hd : c / 2 ^ (n - j) < 2 ^ 63 := Nat.lt_of_le_of_lt (Nat.div_le_self _ _) (by omega)
  have hor : c * 2 ^ j ||| c / 2 ^ (n - j) < 2 ^ 63 := Nat.or_lt_two_pow hm hd
  rw [hw, if_pos (by omega), if_pos (by omega), if_pos (by omega), hw2, shl_i64 (by omega) hm, shr_i64 _ _ (by omega), or_i64 hm hd, and_i64 hor (by omega), Int.toNat_natCast]
  unfold moveN
  rfl
theorem and_chord {n a b : Nat} (hn : n ≤ 24) (ha : a < 2 ^ n) (hb : b < 2 ^ n) : Go.bits .and .i64 (a : Int) (b : Int) = ((a &&& b : Nat) : Int) := by
  have hp : 2 ^ n ≤ 2 ^ 24 := Nat.pow_le_pow_right (by omega) hn
  have h24 : (2 : Nat) ^ 24 = 16777216 := by decide
  have h63 : (2 : Nat) ^ 63 = 9223372036854775808 := by decide
  exact and_i64 (by omega) (by omega)
theorem common_f {n a b : Nat} {d : Nat} (hn : 1 ≤ n) (hn2 : n ≤ 24) (ha : a < 2 ^ n) (hb : b < 2 ^ n) (hd : d < n) :
    ((chords_circle_move.f (n : Int) (b : Int) (d : Int)).bind fun t => chords_count.f (Go.bits .and .i64 (a : Int) t)) = some (common n a b d : Int) := by
  rw [move_f (d : Int) hn hn2 hb]
  have : ((d : Int) % (n : Int)).toNat = d := by rw [Int.emod_eq_of_lt (by omega) (by omega)]; omega
  rw [this, Option.bind_some, and_chord hn2 ha (moveN_lt n b d), count_f hn2 (Nat.lt_of_le_of_lt Nat.and_le_left ha), chSize_and_move hb hd]
theorem half_f (n : Nat) (hn : n ≤ 24) : wrap64 (Int.tdiv (n : Int) 2) = ((n / 2 : Nat) : Int) := by
  rw [Int.tdiv_eq_ediv_of_nonneg (by omega), wrap_id (by omega) (by omega)]; omega
theorem vector_loop {n c : Nat} (hn : 2 ≤ n) (hn2 : n ≤ 24) (hc : c < 2 ^ n) : ∀ (m d : Nat), d + m = n / 2 →
    Ev (fun k => chords_circle_vector.l0 k (n : Int) (c : Int) ((List.range d).map (fun i => (vecAt n c (i + 1) : Int))) ((d : Int) + 1)) (vecOf n c) := by
  intro m
  induction m with
  | zero =>
    intro d hd
    refine Ev.succ ?_
    simp only [chords_circle_vector.l0, half_f n hn2, if_neg (show ¬ (d : Int) + 1 ≤ ((n / 2 : Nat) : Int) by omega)]
    have : d = n / 2 := by omega
    rw [this]
    rw [vecOf_eq]
    exact Ev.some _
  | succ m ih =>
    intro d hd
    refine Ev.succ ?_
    have hcm := common_f (n := n) (a := c) (b := c) (d := d + 1) (by omega) hn2 hc hc (by omega)
    rw [show ((d + 1 : Nat) : Int) = (d : Int) + 1 by omega] at hcm
    obtain ⟨t, ht, ht2⟩ := Option.bind_eq_some_iff.1 hcm
    have hw : wrap64 (2 * ((d : Int) + 1)) = 2 * ((d : Int) + 1) := wrap_id (by omega) (by omega)
    have hw2 : wrap64 ((d : Int) + 1 + 1) = ((d + 1 : Nat) : Int) + 1 := by rw [wrap_id (by omega) (by omega)]; omega
    have hlen : ((List.range d).map (fun i => (vecAt n c (i + 1) : Int))).length < 17592186044416 := by simp; omega
    have hle := common_le n c c (d + 1)
    have hdiv : wrap64 (Int.tdiv (common n c c (d + 1) : Int) 2) = ((common n c c (d + 1) / 2 : Nat) : Int) := by
      rw [Int.tdiv_eq_ediv_of_nonneg (by omega), wrap_id (by omega) (by omega)]; omega
    simp only [chords_circle_vector.l0, half_f n hn2, if_pos (show (d : Int) + 1 ≤ ((n / 2 : Nat) : Int) by omega)]
    refine Ev.bind_some ht ?_
    refine Ev.bind_some ht2 ?_
    simp only [hw, hw2, if_pos hlen, hdiv]
    have go : ∀ v : Nat, v = vecAt n c (d + 1) → Ev (fun k => chords_circle_vector.l0 k (n : Int) (c : Int) ((List.range d).map (fun i => (vecAt n c (i + 1) : Int)) ++ [(v : Int)]) (((d + 1 : Nat) : Int) + 1)) (vecOf n c) := by
      rintro v rfl
      have := ih (d + 1) (by omega)
      simp only [List.range_succ, List.map_append, List.map_cons, List.map_nil] at this
      exact this
    refine Ev.ite (fun e => go _ ?_) (fun e => go _ ?_)
    · unfold vecAt; rw [if_pos (by omega)]
    · unfold vecAt; rw [if_neg (by omega)]
theorem vector_ev {n c : Nat} (hn : 2 ≤ n) (hn2 : n ≤ 24) (hc : c < 2 ^ n) : Ev (fun k => chords_circle_vector.f k (n : Int) (c : Int)) (vecOf n c) := by
  have := vector_loop hn hn2 hc (n / 2) 0 (by omega)
  simpa [chords_circle_vector.f] using this
theorem Vector_ev (n c : Int) : Ev (fun k => chords_Vector.f k n c) (if ValidC n c then (vecOf n.toNat c.toNat, 0) else ([], 2)) := by
  unfold chords_Vector.f
  refine Ev.bind_some (valid1_f n c) ?_
  by_cases h : ValidC n c
  · simp only [h, decide_true, if_true]
    obtain ⟨N, C, rfl, rfl, h2, h16, hC⟩ := validC_nat h
    simp only [Int.toNat_natCast]
    exact Ev.bind (vector_ev h2 (by omega) hC) (Ev.some _)
  · simp only [h, decide_false, Bool.false_eq_true, if_false]
    exact Ev.some _
theorem Size_loop (n : Nat) (hn : n ≤ 24) : ∀ (m a : Nat), a < 2 ^ n → chSize n a = m → ∀ c : Nat, c + m ≤ 1000 →
    Ev (fun k => sackbutref01_Size.l0 k (a : Int) (c : Int)) ((c + m : Nat) : Int) := by
  intro m
  induction m with
  | zero =>
    intro a ha hm c hc
    have h0 : a = 0 := eq_zero_of_chSize ha hm
    subst h0
    refine Ev.succ ?_
    simp only [sackbutref01_Size.l0, if_neg (show ¬ ((0 : Nat) : Int) > 0 by omega)]
    exact Ev.some _
  | succ m ih =>
    intro a ha hm c hc
    have hpos : 0 < a := by
      rcases Nat.eq_zero_or_pos a with h | h
      · subst h
        have := chSize_zero n
        omega
      · exact h
    have hp : 2 ^ n ≤ 2 ^ 24 := Nat.pow_le_pow_right (by omega) hn
    have h24 : (2 : Nat) ^ 24 = 16777216 := by decide
    have hw : wrap64 ((a : Int) - 1) = ((a - 1 : Nat) : Int) := by rw [wrap_id (by omega) (by omega)]; omega
    have hw2 : wrap64 ((c : Int) + 1) = ((c + 1 : Nat) : Int) := by rw [wrap_id (by omega) (by omega)]; omega
    refine Ev.succ ?_
    simp only [sackbutref01_Size.l0, if_pos (show (a : Int) > 0 by omega), hw, hw2, and_chord hn ha (show a - 1 < 2 ^ n by omega)]
    have := ih (a &&& (a - 1)) (Nat.lt_of_le_of_lt Nat.and_le_left ha) (by have := chSize_drop ha hpos; omega) (c + 1) (by omega)
    rw [show c + (m + 1) = c + 1 + m by omega]
    exact this
theorem Size_ev {n a : Nat} (hn : n ≤ 24) (ha : a < 2 ^ n) : Ev (fun k => sackbutref01_Size.f k (a : Int)) (chSize n a : Int) := by
  have := Size_loop n hn (chSize n a) a ha rfl 0 (by have := chSize_le n a; omega)
  simpa [sackbutref01_Size.f] using this
theorem awake_f : sackbutlaw01_awake.f = some true := by
  unfold sackbutlaw01_awake.f chords_Move.f
  have h : ValidC 4 3 := by decide
  rw [valid1_f]
  simp only [h, decide_true, Option.bind_some, if_true]
  have := move_f (n := 4) (c := 3) 1 (by omega) (by omega) (by decide)
  have e : moveN 4 3 ((1 : Int) % (4 : Nat)).toNat = 6 := by unfold moveN; decide
  rw [e] at this
  rw [show chords_circle_move.f 4 3 1 = some 6 from this]
  rfl

end Go.Proofs.YtnjmiodnkjabgaaDoor.P
namespace Go.Proofs.YtnjmiodnkjabgaaDoor.P
open Go.RowKit Go.Proofs.YtnjmiodnkjabgaaDoorW.PrintWords Go.Proofs.YtnjmiodnkjabgaaDoorW.PrintLast Go.Proofs.YtnjmiodnkjabgaaDoorW.PrintMore
attribute [local go_sem] max2_int min2_int max_two min_two max_three min_three max_four min_four   -- for this text's walks alone
set_option linter.unusedVariables false
set_option linter.unusedSimpArgs false

/-! a chord mapped: what the program and the document say -/
def affN (m t : Int) (n x : Nat) : Nat := ((m * (x : Int) + t) % (n : Int)).toNat
theorem affN_lt {m t : Int} {n : Nat} (hn : 1 ≤ n) (x : Nat) : affN m t n x < n := by
  have h0 := Int.emod_nonneg (m * (x : Int) + t) (show (n : Int) ≠ 0 by omega)
  have h1 := Int.emod_lt_of_pos (m * (x : Int) + t) (show (0 : Int) < n by omega)
  unfold affN; omega
theorem refMod_f {a : Int} {n : Nat} (hn : 1 ≤ n) (hn2 : n ≤ 24) : sackbutref01_mod.f a (n : Int) = some (a % (n : Int)) := by
  unfold sackbutref01_mod.f
  rw [if_neg (by omega), tmod_mod (by omega) (by omega)]
theorem bitC_is {n a x : Nat} (hn : n ≤ 24) (ha : a < 2 ^ n) (hx : x ≤ 64) : (Go.bits .and .i64 (shr .i64 (a : Int) (x : Int)) 1 = 1) ↔ a.testBit x = true := by
  have h24 : (2 : Nat) ^ 24 = 16777216 := by decide
  have h63 : (2 : Nat) ^ 63 = 9223372036854775808 := by decide
  have hp : 2 ^ n ≤ 2 ^ 24 := Nat.pow_le_pow_right (by omega) hn
  exact bit1_i64 (by omega) hx
theorem nextC_w {d : Nat} (h : d ≤ 1000) : wrap64 ((d : Int) + 1) = ((d + 1 : Nat) : Int) := by rw [wrap_id (by omega) (by omega)]; omega
theorem mulC_le {m : Int} {d : Nat} (hm : -24 ≤ m) (hm2 : m ≤ 24) (hd : d ≤ 24) : -576 ≤ m * (d : Int) ∧ m * (d : Int) ≤ 576 := by
  have h1 : m * (d : Int) ≤ 24 * (d : Int) := Int.mul_le_mul_of_nonneg_right hm2 (by omega)
  have h2 : -24 * (d : Int) ≤ m * (d : Int) := Int.mul_le_mul_of_nonneg_right hm (by omega)
  omega
theorem aff_nums {m t : Int} {n d o : Nat} (hn : 1 ≤ n) (hn2 : n ≤ 24) (hd : d ≤ 24) (hm : -24 ≤ m) (hm2 : m ≤ 24) (ht : 0 ≤ t) (ht2 : t ≤ 24) (ho : o < 2 ^ n) :
    wrap64 (wrap64 (m * (d : Int)) + t) = m * (d : Int) + t ∧ (m * (d : Int) + t) % (n : Int) = (affN m t n d : Int) ∧ Go.bits .or .i64 (o : Int) (shl .i64 1 (affN m t n d : Int)) = ((o ||| 2 ^ (affN m t n d) : Nat) : Int) := by
  obtain ⟨h1, h2⟩ := mulC_le hm hm2 hd
  have h0 := Int.emod_nonneg (m * (d : Int) + t) (show (n : Int) ≠ 0 by omega)
  have hl := affN_lt (m := m) (t := t) hn d
  refine ⟨?_, ?_, ?_⟩
  · generalize m * (d : Int) = q at *
    rw [wrap_id (n := q) (by omega) (by omega), wrap_id (by omega) (by omega)]
  · unfold affN; omega
  · rw [shl1_i64 (by omega)]
    have h24 : (2 : Nat) ^ 24 = 16777216 := by decide
    have h63 : (2 : Nat) ^ 63 = 9223372036854775808 := by decide
    have hp : 2 ^ n ≤ 2 ^ 24 := Nat.pow_le_pow_right (by omega) hn2
    have hq : 2 ^ affN m t n d < 2 ^ 24 := Nat.pow_lt_pow_right (by omega) (by omega)
    generalize 2 ^ affN m t n d = p at *
    rw [or_i64 (by omega) (by omega)]
theorem refMapped_loop {n c : Nat} {m t : Int} (hn : 1 ≤ n) (hn2 : n ≤ 24) (hc : c < 2 ^ n) (hm : -24 ≤ m) (hm2 : m ≤ 24) (ht : 0 ≤ t) (ht2 : t ≤ 24) : ∀ (r d : Nat), d + r = n →
    Ev (fun k => sackbutref01_mapped.l0 k (n : Int) (c : Int) m t (accTo (affN m t n) c d : Int) (n : Int) (d : Int)) ((imgN (affN m t n) c : Nat) : Int) := by
  intro r
  induction r with
  | zero =>
    intro d hd
    have hdn : d = n := by omega
    subst hdn
    have p1 : ¬ (d : Int) < (d : Int) := by omega
    refine Ev.succ ?_
    simp only [sackbutref01_mapped.l0, if_neg p1, accTo_all hc]
    exact Ev.some _
  | succ r ih =>
    intro d hd
    have p0 : (0 : Int) ≤ (d : Int) := Int.natCast_nonneg d
    have p1 : (d : Int) < (n : Int) := by omega
    have p2 : (0 : Int) ≤ (affN m t n d : Int) := Int.natCast_nonneg _
    have hbit := bitC_is hn2 hc (show d ≤ 64 by omega)
    have go := ih (d + 1) (by omega)
    obtain ⟨e1, e2, e3⟩ := aff_nums (o := accTo (affN m t n) c d) hn hn2 (show d ≤ 24 by omega) hm hm2 ht ht2 (accTo_lt (fun x => affN_lt hn x) c d)
    have hw := nextC_w (d := d) (by omega)
    refine Ev.succ ?_
    simp only [sackbutref01_mapped.l0, if_pos p1, if_pos p0, hw]
    refine Ev.ite (fun e => ?_) (fun e => ?_)
    · rw [hbit] at e
      rw [e1]
      refine Ev.bind_some (refMod_f hn hn2) ?_
      rw [e2]
      simp only [if_pos p2, e3]
      simp only [accTo, if_pos e] at go
      exact go
    · rw [hbit] at e
      simp only [accTo, if_neg e] at go
      exact go
theorem refMapped_ev {n c : Nat} {m t : Int} (hn : 1 ≤ n) (hn2 : n ≤ 24) (hc : c < 2 ^ n) (hm : -24 ≤ m) (hm2 : m ≤ 24) (ht : 0 ≤ t) (ht2 : t ≤ 24) : Ev (fun k => sackbutref01_mapped.f k (n : Int) (c : Int) m t) ((imgN (affN m t n) c : Nat) : Int) := by
  have := refMapped_loop hn hn2 hc hm hm2 ht ht2 n 0 (by omega)
  simpa [sackbutref01_mapped.f, accTo] using this
/-- moved: the set of all tones k higher -/
theorem img_move {n c j : Nat} (hn : 1 ≤ n) (hj : j < n) (hc : c < 2 ^ n) : imgN (affN 1 (j : Int) n) c = moveN n c j := by
  refine bits_ext (n := n) (imgN_lt hc (fun x => affN_lt hn x)) (moveN_lt n c j) (fun i hi => ?_)
  rw [testBit_moveN hc hj hi, Bool.eq_iff_iff, imgN_bit hc]
  have hv : ∀ x : Nat, affN 1 (j : Int) n x = (x + j) % n := fun x => by
    unfold affN
    rw [Int.one_mul, show (x : Int) + (j : Int) = ((x + j : Nat) : Int) by omega, ← Int.natCast_emod, Int.toNat_natCast]
  simp only [hv]
  constructor
  · rintro ⟨x, hx, he⟩
    have hxn := bit_lt hc hx
    have : (i + (n - j)) % n = x := by
      rw [← he, Nat.mod_add_mod, show x + j + (n - j) = x + n by omega, Nat.add_mod_right, Nat.mod_eq_of_lt hxn]
    rw [this]; exact hx
  · intro h
    refine ⟨_, h, ?_⟩
    rw [Nat.mod_add_mod, show i + (n - j) + j = i + n by omega, Nat.add_mod_right, Nat.mod_eq_of_lt hi]
theorem img_turn {n c : Nat} : imgN (affN (-1) 0 n) c = imgN (toN negTo n) c := by
  have : affN (-1) 0 n = toN negTo n := by
    funext x
    unfold affN toN negTo
    rw [show (-1 : Int) * (x : Int) + 0 = -(x : Int) by omega]
  rw [this]
noncomputable def turnN (n c : Nat) : Nat := imgN (toN negTo n) c
theorem turnN_lt {n c : Nat} (hn : 1 ≤ n) (hc : c < 2 ^ n) : turnN n c < 2 ^ n := imgN_lt hc (fun x => toN_lt hn x)
theorem turn_f {n c : Nat} (hn : 1 ≤ n) (hn2 : n ≤ 24) (hc : c < 2 ^ n) : chords_circle_turn.f (n : Int) (c : Int) = some (turnN n c : Int) := by
  unfold chords_circle_turn.f
  rw [Int.toNat_natCast, Int.toNat_natCast, if_pos ⟨by omega, by omega, by omega, by rw [← pow_cast]; omega⟩, accTo_all hc]
  rfl
theorem refTurn_ev {n c : Nat} (hn : 1 ≤ n) (hn2 : n ≤ 24) (hc : c < 2 ^ n) : Ev (fun k => sackbutref01_Turn.f k (n : Int) (c : Int)) (turnN n c : Int) := by
  have := refMapped_ev (m := -1) (t := 0) hn hn2 hc (by omega) (by omega) (by omega) (by omega)
  rw [img_turn] at this
  unfold sackbutref01_Turn.f
  exact Ev.bind this (Ev.some _)
theorem refMove_ev {n c : Nat} (k : Int) (hn : 1 ≤ n) (hn2 : n ≤ 24) (hc : c < 2 ^ n) : Ev (fun q => sackbutref01_Move.f q (n : Int) (c : Int) k) (moveN n c (k % n).toNat : Int) := by
  have h0 := Int.emod_nonneg k (show (n : Int) ≠ 0 by omega)
  have h1 := Int.emod_lt_of_pos k (show (0 : Int) < n by omega)
  unfold sackbutref01_Move.f
  refine Ev.bind_some (refMod_f hn hn2) ?_
  obtain ⟨j, hj⟩ := Int.eq_ofNat_of_zero_le h0
  rw [hj] at h1 ⊢
  have := refMapped_ev (m := 1) (t := (j : Int)) hn hn2 hc (by omega) (by omega) (by omega) (by omega)
  rw [img_move hn (by omega) hc] at this
  rw [Int.toNat_natCast]
  exact Ev.bind this (Ev.some _)
theorem modC_nat {n d : Nat} (h : d < n) : ((d : Int) % (n : Int)).toNat = d := by rw [Int.emod_eq_of_lt (by omega) (by omega)]; omega

end Go.Proofs.YtnjmiodnkjabgaaDoor.P
namespace Go.Proofs.YtnjmiodnkjabgaaDoor.P
open Go.RowKit Go.Proofs.YtnjmiodnkjabgaaDoorW.PrintWords Go.Proofs.YtnjmiodnkjabgaaDoorW.PrintLast Go.Proofs.YtnjmiodnkjabgaaDoorW.PrintMore
attribute [local go_sem] max2_int min2_int max_two min_two max_three min_three max_four min_four   -- for this text's walks alone
set_option linter.unusedVariables false
set_option linter.unusedSimpArgs false

theorem still_loop {n c : Nat} (hn : 1 ≤ n) (hn2 : n ≤ 24) (hc : c < 2 ^ n) : ∀ (r d : Nat), d + r = n → ∀ (x y : Nat), x ≤ d → y ≤ d → ∃ a b : Int,
    Ev (fun k => chords_Still.l0 k (c : Int) (x : Int) (y : Int) (n : Int) (n : Int) (d : Int)) (a, b, 0) ∧ Ev (fun k => sackbutref01_Still.l0 k (n : Int) (c : Int) (x : Int) (y : Int) (n : Int) (d : Int)) (a, b) := by
  intro r
  induction r with
  | zero =>
    intro d hd x y _ _
    have p1 : ¬ (d : Int) < (n : Int) := by omega
    refine ⟨x, y, Ev.succ ?_, Ev.succ ?_⟩
    · simp only [chords_Still.l0, if_neg p1]; exact Ev.some _
    · simp only [sackbutref01_Still.l0, if_neg p1]; exact Ev.some _
  | succ r ih =>
    intro d hd x y hx hy
    have p1 : (d : Int) < (n : Int) := by omega
    have hdn : d < n := by omega
    have m1 := move_f (d : Int) hn hn2 hc
    have m2 := move_f (d : Int) hn hn2 (turnN_lt hn hc)
    have r1 := refMove_ev (d : Int) hn hn2 hc
    have r2 := refMove_ev (d : Int) hn hn2 (turnN_lt hn hc)
    rw [modC_nat hdn] at m1 m2 r1 r2
    have second : ∀ (x' : Nat), x' ≤ d + 1 → ∃ a b : Int, Ev (fun k => chords_Still.j1 k (c : Int) (x' : Int) (y : Int) (n : Int) (d : Int) (n : Int) (d : Int)) (a, b, 0) ∧ Ev (fun k => sackbutref01_Still.j1 k (n : Int) (c : Int) (x' : Int) (y : Int) (d : Int) (n : Int) (d : Int)) (a, b) := by
      intro x' hx'
      have hw := nextC_w (d := d) (by omega)
      have hwy := nextC_w (d := y) (by omega)
      by_cases e : (moveN n (turnN n c) d : Int) = (c : Int)
      · obtain ⟨a, b, h1, h2⟩ := ih (d + 1) (by omega) x' (y + 1) hx' (by omega)
        refine ⟨a, b, Ev.succ ?_, Ev.succ ?_⟩
        · simp only [chords_Still.j1]
          refine Ev.bind_some (turn_f hn hn2 hc) ?_
          refine Ev.bind_some m2 ?_
          simp only [if_pos e, hw, hwy]; exact h1
        · simp only [sackbutref01_Still.j1]
          refine Ev.bind (refTurn_ev hn hn2 hc) ?_
          refine Ev.bind r2 ?_
          simp only [if_pos e, hw, hwy]; exact h2
      · obtain ⟨a, b, h1, h2⟩ := ih (d + 1) (by omega) x' y hx' (by omega)
        refine ⟨a, b, Ev.succ ?_, Ev.succ ?_⟩
        · simp only [chords_Still.j1]
          refine Ev.bind_some (turn_f hn hn2 hc) ?_
          refine Ev.bind_some m2 ?_
          simp only [if_neg e, hw]; exact h1
        · simp only [sackbutref01_Still.j1]
          refine Ev.bind (refTurn_ev hn hn2 hc) ?_
          refine Ev.bind r2 ?_
          simp only [if_neg e, hw]; exact h2
    have hwx := nextC_w (d := x) (by omega)
    by_cases e : (moveN n c d : Int) = (c : Int)
    · obtain ⟨a, b, h1, h2⟩ := second (x + 1) (by omega)
      refine ⟨a, b, Ev.succ ?_, Ev.succ ?_⟩
      · simp only [chords_Still.l0, if_pos p1]
        refine Ev.bind_some m1 ?_
        simp only [if_pos e, hwx]; exact h1
      · simp only [sackbutref01_Still.l0, if_pos p1]
        refine Ev.bind r1 ?_
        simp only [if_pos e, hwx]; exact h2
    · obtain ⟨a, b, h1, h2⟩ := second x (by omega)
      refine ⟨a, b, Ev.succ ?_, Ev.succ ?_⟩
      · simp only [chords_Still.l0, if_pos p1]
        refine Ev.bind_some m1 ?_
        simp only [if_neg e]; exact h1
      · simp only [sackbutref01_Still.l0, if_pos p1]
        refine Ev.bind r1 ?_
        simp only [if_neg e]; exact h2
theorem ChordsStill : sackbutlaw01_ChordsStill.Pure := by
  intro n c _ _
  refine Ev.rounds (g := fun k => sackbutlaw01_ChordsStill.f k n c) ?_
  unfold sackbutlaw01_ChordsStill.f
  by_cases h : ValidC n c
  · have hr := refValid_f n c
    have hv := valid1_f n c
    simp only [h, decide_true] at hr hv
    obtain ⟨N, C, rfl, rfl, h2, h16, hC⟩ := validC_nat h
    obtain ⟨a, b, e1, e2⟩ := still_loop (n := N) (c := C) (by omega) (by omega) hC N 0 (by omega) 0 0 (by omega) (by omega)
    have f1 : Ev (fun k => chords_Still.f k (N : Int) (C : Int)) (a, b, 0) := by
      unfold chords_Still.f
      refine Ev.bind_some hv ?_
      simp only [if_true]
      exact e1
    refine Ev.bind f1 ?_
    refine Ev.bind_some hr ?_
    simp only [if_true]
    have f2 : Ev (fun k => sackbutref01_Still.f k (N : Int) (C : Int)) (a, b) := by unfold sackbutref01_Still.f; exact e2
    refine Ev.bind f2 ?_
    simp only [if_true, awake_f]
    exact Ev.some _
  · have hr := refValid_f n c
    have hv := valid1_f n c
    simp only [h, decide_false] at hr hv
    have f1 : Ev (fun k => chords_Still.f k n c) (0, 0, 2) := by
      unfold chords_Still.f
      refine Ev.bind_some hv ?_
      simp only [Bool.false_eq_true, if_false]
      exact Ev.some _
    refine Ev.bind f1 ?_
    refine Ev.bind_some hr ?_
    simp only [Bool.false_eq_true, if_false, if_true, awake_f]
    exact Ev.some _

end Go.Proofs.YtnjmiodnkjabgaaDoor.P
namespace Go.Proofs.YtnjmiodnkjabgaaDoor.Pure
theorem ChordsStill : Go.Proofs.YtnjmiodnkjabgaaDoor.P.sackbutlaw01_ChordsStill.Pure := Go.Proofs.YtnjmiodnkjabgaaDoor.P.ChordsStill
end Go.Proofs.YtnjmiodnkjabgaaDoor.Pure
namespace Go.Proofs.YtnjmiodnkjabgaaDoor.P
open Go.RowKit Go.Proofs.YtnjmiodnkjabgaaDoorW.PrintWords Go.Proofs.YtnjmiodnkjabgaaDoorW.PrintLast Go.Proofs.YtnjmiodnkjabgaaDoorW.PrintMore
attribute [local go_sem] max2_int min2_int max_two min_two max_three min_three max_four min_four   -- for this text's walks alone
set_option linter.unusedVariables false
set_option linter.unusedSimpArgs false

open Go.ChangeShapes Go.WideShapes Go.ChangeAt Go.WideElems
/-! what the row's listed tables give the walks -/
def doorLaid2 : List (String × DataW Unit) := [("math/bits.deBruijn32tab", Rows.laid_math_bits_deBruijn32tab), ("math/bits.deBruijn64tab", Rows.laid_math_bits_deBruijn64tab)]
theorem door_g64 : Tryd.prog.globalNamed "math/bits.deBruijn64tab" = some 1 := by kernel_rfl
theorem door_t64 : (Tryd.prog.globals[1]?).map (·.type) = some 105 := by kernel_rfl
theorem door_met (os : Os) (args : Array Value) : laidMetH Tryd.prog doorLaid2 ((World.doorLaid Tryd.prog 19 os).forCall (fun _ _ => 0) ⟨#[], args, []⟩).memory :=
  laidMetH_of_parts3 (fuel := 8) (laidMet_of_run' 8 (by kernel_rfl) (by kernel_rfl)) (by kernel_rfl) (by kernel_rfl)
theorem door_tab : (Rows.laid_math_bits_deBruijn64tab : DataW Unit) = .agg (tzTab.map fun (n : Nat) => .lit (.int .u8 (n : Int))) := rfl
theorem door_c8 : Tryd.prog.cellsOf 5 = 1 := by kernel_rfl
theorem tabs_of_laid {W : World} (h : laidMetH Tryd.prog doorLaid2 W) : Tabs W := by
  rw [MakeChecks.laidMetH_plain _ _ _ (by kernel_rfl)] at h
  obtain ⟨ps, ⟨g0, t0, cs0, f0, p0, q0, hg0, ht0, hv0, hd0, ⟨g1, t1, cs1, f1, p1, q1, hg1, ht1, hv1, hd1, _, _⟩, _⟩, _, _⟩ := h
  obtain rfl := Option.some.inj (door_g64.symm.trans hg1)
  obtain rfl := Option.some.inj (door_t64.symm.trans ht1)
  obtain ⟨xs, m1, rfl, hx1, hlen, hn, hel⟩ := DataW.trod_array Tryd.underlying105 hd1
  simp only [Prod.mk.injEq] at hx1
  have hl := hx1.1
  rw [door_tab] at hl
  simp only [DataW.agg.injEq] at hl
  intro i hi
  have h0 := hel i hi
  obtain ⟨x, hx⟩ : ∃ x, xs[i]? = some x := ⟨xs[i], by simp [hn, hi]⟩
  rw [hx] at h0
  obtain ⟨k, e1, e2, _⟩ := DataW.trod_int Tryd.underlying5 h0
  have hk := congrArg (fun l => l[i]?) hl
  simp only [List.getElem?_map, hx, Option.map_some, e2] at hk
  have ht : tzTab[i]? = some (tzTab.getD i 0) := by
    rw [List.getD_eq_getElem?_getD]
    have hlen : tzTab.length = 64 := by decide
    rw [List.getElem?_eq_getElem (by omega)]; rfl
  rw [ht] at hk
  simp only [Option.map_some, Option.some.injEq, DataW.lit.injEq, Lit.int.injEq, true_and] at hk
  rw [door_c8, Nat.mul_one] at e1
  have hc := World.var?_cell hg1 hv1 i
  rw [hc]
  have : cs1.toList[i]? = some (.int .u8 k) := by
    have := congrArg (fun l => l[0]?) e1
    simpa using this
  rw [← Array.getElem?_toList, this, hk]

end Go.Proofs.YtnjmiodnkjabgaaDoor.P
