/- A part of a proof that a law's Go function returns true for every input, laid by this session's program mp.py (which drives the kit's print). Conditions: as each theorem states them. -/
import Derived.Test.YtdnjbjcfbdclfaaCVoicesPrices1
import Derived.Test.YtdnjbjcfbdclfaaCVoicesPrices2
import Derived.Test.YtdnjbjcfbdclfaaCVoicesPrices3
import Derived.Test.YtdnjbjcfbdclfaaCVoicesPrices4
import Derived.Test.YtdnjbjcfbdclfaaCVoicesPrices5
namespace Go.Proofs.Ytdnjbjcfbdclfaa.P
open Go.RowKit Go.Proofs.YtdnjbjcfbdclfaaW.PrintWords Go.Proofs.YtdnjbjcfbdclfaaW.PrintLast Go.Proofs.YtdnjbjcfbdclfaaW.PrintMore
attribute [local go_sem] max2_int min2_int max_two min_two max_three min_three max_four min_four   -- for this text's walks alone
set_option linter.unusedVariables false
set_option linter.unusedSimpArgs false

/-! ### sackbutlaw06_VoicesPrices: function 8 -/
def sackbutlaw06_VoicesPrices.j0 : Nat → Int → List Int → List Int → List Int → Int → Int → Bool → Int → Bool → Option (Bool)
  | 0, _, _, _, _, _, _, _, _, _ => none
  | k + 1, x0, x1, x2, x3, x9, x10, x11, x12, x46 => if x46 = true then (if x9 = 0 then (if x11 = true then (some false) else (if x10 = 2 then (if x12 = 2 then ((sackbutlaw06_awake.f).bind fun t1025 => (some t1025)) else (some false)) else (some false))) else (some false)) else ((sackbutref06_Price.f k x0 x1 x2 x3).bind fun t1026 => (if x9 = t1026 then ((sackbutref06_Cross.f k x0 x1 x2 x3).bind fun t1027 => (if (x11 == t1027) = true then (if x10 = 0 then (if x12 = 0 then ((sackbutlaw06_awake.f).bind fun t1028 => (some t1028)) else (some false)) else (some false)) else (some false))) else (some false)))
def sackbutlaw06_VoicesPrices.f (k : Nat) (a0 : Int) (l1 : List Int) (l2 : List Int) (l3 : List Int) : Option (Bool) := (sackbutlaw06_list.f l1).bind fun t1001 => ((sackbutlaw06_list.f l2).bind fun t1004 => ((sackbutlaw06_list.f l3).bind fun t1007 => ((voices_Price.f k a0 t1001 t1004 t1007).bind fun bt1010 => ((sackbutlaw06_list.f l1).bind fun t1012 => ((sackbutlaw06_list.f l2).bind fun t1015 => ((sackbutlaw06_list.f l3).bind fun t1018 => ((voices_Cross.f k a0 t1012 t1015 t1018).bind fun bt1021 => ((sackbutref06_Two.f k a0 l1 l2).bind fun t1023 => (if t1023 = true then ((sackbutref06_Leading.f k (l1.length : Int) l3).bind fun t1024 => (sackbutlaw06_VoicesPrices.j0 k a0 l1 l2 l3 bt1010.1 bt1010.2 bt1021.1 bt1021.2 (!t1024))) else (sackbutlaw06_VoicesPrices.j0 k a0 l1 l2 l3 bt1010.1 bt1010.2 bt1021.1 bt1021.2 true))))))))))
theorem sackbutlaw06_VoicesPrices.mono_l : ∀ k, (∀ y0 y1 y2 y3 y4 y5 y6 y7 y8, LeO (sackbutlaw06_VoicesPrices.j0 k y0 y1 y2 y3 y4 y5 y6 y7 y8) (sackbutlaw06_VoicesPrices.j0 (k + 1) y0 y1 y2 y3 y4 y5 y6 y7 y8))
  | 0 => fun _ _ _ _ _ _ _ _ _ r h => by simp [sackbutlaw06_VoicesPrices.j0] at h
  | k + 1 => by
    have ih0 := sackbutlaw06_VoicesPrices.mono_l k
    · intro y0 y1 y2 y3 y4 y5 y6 y7 y8
      unfold sackbutlaw06_VoicesPrices.j0
      repeat' first
      | (with_reducible exact ih0 _ _ _ _ _ _ _ _ _)
      | (with_reducible exact sackbutref06_Cross.mono _ _ _ _ _)
      | (with_reducible exact sackbutref06_Leading.mono _ _ _)
      | (with_reducible exact sackbutref06_Price.mono _ _ _ _ _)
      | (with_reducible exact sackbutref06_Two.mono _ _ _ _)
      | (with_reducible exact voices_Cross.mono _ _ _ _ _)
      | (with_reducible exact voices_Price.mono _ _ _ _ _)
      | (with_reducible exact LeO.refl _)
      | (with_reducible exact LeO.none _)
      | (with_reducible refine LeO.ite ?_ ?_)
      | (with_reducible refine LeO.bind ?_ (fun _ => ?_))
      | exact ih0 _ _ _ _ _ _ _ _ _
      | exact sackbutref06_Cross.mono _ _ _ _ _
      | exact sackbutref06_Leading.mono _ _ _
      | exact sackbutref06_Price.mono _ _ _ _ _
      | exact sackbutref06_Two.mono _ _ _ _
      | exact voices_Cross.mono _ _ _ _ _
      | exact voices_Price.mono _ _ _ _ _
      | exact LeO.none _
      | refine LeO.ite ?_ ?_
      | refine LeO.bind ?_ (fun _ => ?_)
theorem sackbutlaw06_VoicesPrices.mono : ∀ a0 a1 a2 a3 k, LeO (sackbutlaw06_VoicesPrices.f k a0 a1 a2 a3) (sackbutlaw06_VoicesPrices.f (k + 1) a0 a1 a2 a3) := by
  intro a0 a1 a2 a3 k
  have ih0 := sackbutlaw06_VoicesPrices.mono_l k
  unfold sackbutlaw06_VoicesPrices.f
  repeat' first
      | (with_reducible exact ih0 _ _ _ _ _ _ _ _ _)
      | (with_reducible exact sackbutref06_Cross.mono _ _ _ _ _)
      | (with_reducible exact sackbutref06_Leading.mono _ _ _)
      | (with_reducible exact sackbutref06_Price.mono _ _ _ _ _)
      | (with_reducible exact sackbutref06_Two.mono _ _ _ _)
      | (with_reducible exact voices_Cross.mono _ _ _ _ _)
      | (with_reducible exact voices_Price.mono _ _ _ _ _)
      | (with_reducible exact LeO.refl _)
      | (with_reducible exact LeO.none _)
      | (with_reducible refine LeO.ite ?_ ?_)
      | (with_reducible refine LeO.bind ?_ (fun _ => ?_))
      | exact ih0 _ _ _ _ _ _ _ _ _
      | exact sackbutref06_Cross.mono _ _ _ _ _
      | exact sackbutref06_Leading.mono _ _ _
      | exact sackbutref06_Price.mono _ _ _ _ _
      | exact sackbutref06_Two.mono _ _ _ _
      | exact voices_Cross.mono _ _ _ _ _
      | exact voices_Price.mono _ _ _ _ _
      | exact LeO.none _
      | refine LeO.ite ?_ ?_
      | refine LeO.bind ?_ (fun _ => ?_)
set_option maxHeartbeats 8000000 in
set_option maxRecDepth 100000 in
theorem sackbutlaw06_VoicesPrices.calls (k : Nat) (a0 : Int) (A1 : Option Addr) (c1 : Nat) (l1 : List Int) (A2 : Option Addr) (c2 : Nat) (l2 : List Int) (A3 : Option Addr) (c3 : Nat) (l3 : List Int) (r : Bool) (w : World) (hr1 : Kd.C (Kd.int .i64) w A1 l1.length l1) (hc1 : l1.length ≤ c1) (hr2 : Kd.C (Kd.int .i64) w A2 l2.length l2) (hc2 : l2.length ≤ c2) (hr3 : Kd.C (Kd.int .i64) w A3 l3.length l3) (hc3 : l3.length ≤ c3) (h : sackbutlaw06_VoicesPrices.f k a0 l1 l2 l3 = some r) :
    Calls Try.prog 8 #[.int .i64 a0, .slice A1 l1.length c1, .slice A2 l2.length c2, .slice A3 l3.length c3] w fun e w' => e = .returned (.bool r) ∧ Below w.heap.size w w' := by
  have HR1 := Aside0.mk hr1
  have HC1 := Aside0.mk hc1
  clear hr1 hc1
  have HR2 := Aside0.mk hr2
  have HC2 := Aside0.mk hc2
  clear hr2 hc2
  have HR3 := Aside0.mk hr3
  have HC3 := Aside0.mk hc3
  clear hr3 hc3
  have HB := Aside0.mk (Below.refl w.heap.size w)
  have H : ((sackbutlaw06_list.f l1).bind fun t1001 => ((sackbutlaw06_list.f l2).bind fun t1004 => ((sackbutlaw06_list.f l3).bind fun t1007 => ((voices_Price.f k a0 t1001 t1004 t1007).bind fun bt1010 => ((sackbutlaw06_list.f l1).bind fun t1012 => ((sackbutlaw06_list.f l2).bind fun t1015 => ((sackbutlaw06_list.f l3).bind fun t1018 => ((voices_Cross.f k a0 t1012 t1015 t1018).bind fun bt1021 => ((sackbutref06_Two.f k a0 l1 l2).bind fun t1023 => (if t1023 = true then ((sackbutref06_Leading.f k (l1.length : Int) l3).bind fun t1024 => (sackbutlaw06_VoicesPrices.j0 k a0 l1 l2 l3 bt1010.1 bt1010.2 bt1021.1 bt1021.2 (!t1024))) else (sackbutlaw06_VoicesPrices.j0 k a0 l1 l2 l3 bt1010.1 bt1010.2 bt1021.1 bt1021.2 true))))))))))) = some r := h
  clear h
  replace H := Option.bind_eq_some_iff.mp H
  obtain ⟨t1001, A50, H⟩ := H
  replace H : ((sackbutlaw06_list.f l2).bind fun t1004 => ((sackbutlaw06_list.f l3).bind fun t1007 => ((voices_Price.f k a0 t1001 t1004 t1007).bind fun bt1010 => ((sackbutlaw06_list.f l1).bind fun t1012 => ((sackbutlaw06_list.f l2).bind fun t1015 => ((sackbutlaw06_list.f l3).bind fun t1018 => ((voices_Cross.f k a0 t1012 t1015 t1018).bind fun bt1021 => ((sackbutref06_Two.f k a0 l1 l2).bind fun t1023 => (if t1023 = true then ((sackbutref06_Leading.f k (l1.length : Int) l3).bind fun t1024 => (sackbutlaw06_VoicesPrices.j0 k a0 l1 l2 l3 bt1010.1 bt1010.2 bt1021.1 bt1021.2 (!t1024))) else (sackbutlaw06_VoicesPrices.j0 k a0 l1 l2 l3 bt1010.1 bt1010.2 bt1021.1 bt1021.2 true)))))))))) = some r := H
  have A5 := Aside0.mk A50
  clear A50
  replace H := Option.bind_eq_some_iff.mp H
  obtain ⟨t1004, A60, H⟩ := H
  replace H : ((sackbutlaw06_list.f l3).bind fun t1007 => ((voices_Price.f k a0 t1001 t1004 t1007).bind fun bt1010 => ((sackbutlaw06_list.f l1).bind fun t1012 => ((sackbutlaw06_list.f l2).bind fun t1015 => ((sackbutlaw06_list.f l3).bind fun t1018 => ((voices_Cross.f k a0 t1012 t1015 t1018).bind fun bt1021 => ((sackbutref06_Two.f k a0 l1 l2).bind fun t1023 => (if t1023 = true then ((sackbutref06_Leading.f k (l1.length : Int) l3).bind fun t1024 => (sackbutlaw06_VoicesPrices.j0 k a0 l1 l2 l3 bt1010.1 bt1010.2 bt1021.1 bt1021.2 (!t1024))) else (sackbutlaw06_VoicesPrices.j0 k a0 l1 l2 l3 bt1010.1 bt1010.2 bt1021.1 bt1021.2 true))))))))) = some r := H
  have A6 := Aside0.mk A60
  clear A60
  replace H := Option.bind_eq_some_iff.mp H
  obtain ⟨t1007, A70, H⟩ := H
  replace H : ((voices_Price.f k a0 t1001 t1004 t1007).bind fun bt1010 => ((sackbutlaw06_list.f l1).bind fun t1012 => ((sackbutlaw06_list.f l2).bind fun t1015 => ((sackbutlaw06_list.f l3).bind fun t1018 => ((voices_Cross.f k a0 t1012 t1015 t1018).bind fun bt1021 => ((sackbutref06_Two.f k a0 l1 l2).bind fun t1023 => (if t1023 = true then ((sackbutref06_Leading.f k (l1.length : Int) l3).bind fun t1024 => (sackbutlaw06_VoicesPrices.j0 k a0 l1 l2 l3 bt1010.1 bt1010.2 bt1021.1 bt1021.2 (!t1024))) else (sackbutlaw06_VoicesPrices.j0 k a0 l1 l2 l3 bt1010.1 bt1010.2 bt1021.1 bt1021.2 true)))))))) = some r := H
  have A7 := Aside0.mk A70
  clear A70
  replace H := Option.bind_eq_some_iff.mp H
  obtain ⟨⟨t1010, t1011⟩, A80, H⟩ := H
  replace H : ((sackbutlaw06_list.f l1).bind fun t1012 => ((sackbutlaw06_list.f l2).bind fun t1015 => ((sackbutlaw06_list.f l3).bind fun t1018 => ((voices_Cross.f k a0 t1012 t1015 t1018).bind fun bt1021 => ((sackbutref06_Two.f k a0 l1 l2).bind fun t1023 => (if t1023 = true then ((sackbutref06_Leading.f k (l1.length : Int) l3).bind fun t1024 => (sackbutlaw06_VoicesPrices.j0 k a0 l1 l2 l3 t1010 t1011 bt1021.1 bt1021.2 (!t1024))) else (sackbutlaw06_VoicesPrices.j0 k a0 l1 l2 l3 t1010 t1011 bt1021.1 bt1021.2 true))))))) = some r := H
  have A8 := Aside0.mk A80
  clear A80
  replace H := Option.bind_eq_some_iff.mp H
  obtain ⟨t1012, A90, H⟩ := H
  replace H : ((sackbutlaw06_list.f l2).bind fun t1015 => ((sackbutlaw06_list.f l3).bind fun t1018 => ((voices_Cross.f k a0 t1012 t1015 t1018).bind fun bt1021 => ((sackbutref06_Two.f k a0 l1 l2).bind fun t1023 => (if t1023 = true then ((sackbutref06_Leading.f k (l1.length : Int) l3).bind fun t1024 => (sackbutlaw06_VoicesPrices.j0 k a0 l1 l2 l3 t1010 t1011 bt1021.1 bt1021.2 (!t1024))) else (sackbutlaw06_VoicesPrices.j0 k a0 l1 l2 l3 t1010 t1011 bt1021.1 bt1021.2 true)))))) = some r := H
  have A9 := Aside0.mk A90
  clear A90
  replace H := Option.bind_eq_some_iff.mp H
  obtain ⟨t1015, A100, H⟩ := H
  replace H : ((sackbutlaw06_list.f l3).bind fun t1018 => ((voices_Cross.f k a0 t1012 t1015 t1018).bind fun bt1021 => ((sackbutref06_Two.f k a0 l1 l2).bind fun t1023 => (if t1023 = true then ((sackbutref06_Leading.f k (l1.length : Int) l3).bind fun t1024 => (sackbutlaw06_VoicesPrices.j0 k a0 l1 l2 l3 t1010 t1011 bt1021.1 bt1021.2 (!t1024))) else (sackbutlaw06_VoicesPrices.j0 k a0 l1 l2 l3 t1010 t1011 bt1021.1 bt1021.2 true))))) = some r := H
  have A10 := Aside0.mk A100
  clear A100
  replace H := Option.bind_eq_some_iff.mp H
  obtain ⟨t1018, A110, H⟩ := H
  replace H : ((voices_Cross.f k a0 t1012 t1015 t1018).bind fun bt1021 => ((sackbutref06_Two.f k a0 l1 l2).bind fun t1023 => (if t1023 = true then ((sackbutref06_Leading.f k (l1.length : Int) l3).bind fun t1024 => (sackbutlaw06_VoicesPrices.j0 k a0 l1 l2 l3 t1010 t1011 bt1021.1 bt1021.2 (!t1024))) else (sackbutlaw06_VoicesPrices.j0 k a0 l1 l2 l3 t1010 t1011 bt1021.1 bt1021.2 true)))) = some r := H
  have A11 := Aside0.mk A110
  clear A110
  replace H := Option.bind_eq_some_iff.mp H
  obtain ⟨⟨t1021, t1022⟩, A120, H⟩ := H
  replace H : ((sackbutref06_Two.f k a0 l1 l2).bind fun t1023 => (if t1023 = true then ((sackbutref06_Leading.f k (l1.length : Int) l3).bind fun t1024 => (sackbutlaw06_VoicesPrices.j0 k a0 l1 l2 l3 t1010 t1011 t1021 t1022 (!t1024))) else (sackbutlaw06_VoicesPrices.j0 k a0 l1 l2 l3 t1010 t1011 t1021 t1022 true))) = some r := H
  have A12 := Aside0.mk A120
  clear A120
  have HC13 := Aside0.mk H
  clear H
  go_enter Try.func8, Try.ntmps8
  go_upto_region 3 with (first | ((with_reducible refine gate_callee (f := 12) rfl ?_); refine goesL_ (some 16) rfl rfl Try.func12 (by kernel_rfl) rfl #[.slice A1 l1.length c1] rfl (by (try simp only [List.map_toArray, List.map_cons, List.map_nil]); first | done | rfl | (simp only [List.length_drop, List.length_take]; rfl)) ?_; (with_reducible refine (sackbutlaw06_list.calls _ _ l1 t1001 _ ?side1 ?side2 A5.out).mono ?_); (case side1 => repeat (first | exact HR1.out | (with_reducible refine Kd.C_alloc ?_ _) | (with_reducible refine Kd.C_drewN ?_ _) | (with_reducible refine Kd.C_drew ?_))); (case side2 => exact HC1.out); rintro e w14 ⟨v1002, rfl, ho0, hb⟩; refine ⟨_, rfl, ?_⟩; have n0_ := Aside0.mk (Kd.R_lower ho0 (below_size (by repeat (first | (with_reducible first | exact HB.out | apply below_alloc | apply pw_below_drewN | apply below_drew1) | exact HB.out)))); have n1_ := Aside0.mk (below_step (by repeat (first | (with_reducible first | exact HB.out | apply below_alloc | apply pw_below_drewN | apply below_drew1) | exact HB.out)) hb); clear HB; have HO1003 := n0_; have HB := n1_; clear n0_ n1_; (try clear hb); (try clear hb2); (try clear hk); (try clear hi); (try clear ho0)) | ((with_reducible refine gate_callee (f := 12) rfl ?_); refine goesL_ (some 18) rfl rfl Try.func12 (by kernel_rfl) rfl #[.slice A2 l2.length c2] rfl (by (try simp only [List.map_toArray, List.map_cons, List.map_nil]); first | done | rfl | (simp only [List.length_drop, List.length_take]; rfl)) ?_; (with_reducible refine (sackbutlaw06_list.calls _ _ l2 t1004 _ ?side1 ?side2 A6.out).mono ?_); (case side1 => repeat (first | exact (Kd.C_below HR2.out HB.out) | (with_reducible refine Kd.C_alloc ?_ _) | (with_reducible refine Kd.C_drewN ?_ _) | (with_reducible refine Kd.C_drew ?_))); (case side2 => exact HC2.out); rintro e w15 ⟨v1005, rfl, ho0, hb⟩; refine ⟨_, rfl, ?_⟩; have n0_ := Aside0.mk (Kd.R_elder' (by (with_reducible repeat (first | apply Kd.R_alloc | apply Kd.R_drewN | apply Kd.R_drew)); exact HO1003.out) (Kd.R_base ho0) hb); have n1_ := Aside0.mk (Kd.R_lower (Kd.R_new' ho0 (Kd.R_lt (by (with_reducible repeat (first | apply Kd.R_alloc | apply Kd.R_drewN | apply Kd.R_drew)); exact HO1003.out))) (below_size (by repeat (first | (with_reducible first | exact HB.out | apply below_alloc | apply pw_below_drewN | apply below_drew1) | exact HB.out)))); have n2_ := Aside0.mk (below_step (by repeat (first | (with_reducible first | exact HB.out | apply below_alloc | apply pw_below_drewN | apply below_drew1) | exact HB.out)) hb); clear HO1003; clear HB; have HO1003 := n0_; have HO1006 := n1_; have HB := n2_; clear n0_ n1_ n2_; (try clear hb); (try clear hb2); (try clear hk); (try clear hi); (try clear ho0)) | ((with_reducible refine gate_callee (f := 12) rfl ?_); refine goesL_ (some 20) rfl rfl Try.func12 (by kernel_rfl) rfl #[.slice A3 l3.length c3] rfl (by (try simp only [List.map_toArray, List.map_cons, List.map_nil]); first | done | rfl | (simp only [List.length_drop, List.length_take]; rfl)) ?_; (with_reducible refine (sackbutlaw06_list.calls _ _ l3 t1007 _ ?side1 ?side2 A7.out).mono ?_); (case side1 => repeat (first | exact (Kd.C_below HR3.out HB.out) | (with_reducible refine Kd.C_alloc ?_ _) | (with_reducible refine Kd.C_drewN ?_ _) | (with_reducible refine Kd.C_drew ?_))); (case side2 => exact HC3.out); rintro e w16 ⟨v1008, rfl, ho0, hb⟩; refine ⟨_, rfl, ?_⟩; have n0_ := Aside0.mk (Kd.R_elder' (by (with_reducible repeat (first | apply Kd.R_alloc | apply Kd.R_drewN | apply Kd.R_drew)); exact HO1003.out) (Kd.R_base ho0) hb); have n1_ := Aside0.mk (Kd.R_elder' (by (with_reducible repeat (first | apply Kd.R_alloc | apply Kd.R_drewN | apply Kd.R_drew)); exact HO1006.out) (Kd.R_base ho0) hb); have n2_ := Aside0.mk (Kd.R_lower (Kd.R_new' (Kd.R_new' ho0 (Kd.R_lt (by (with_reducible repeat (first | apply Kd.R_alloc | apply Kd.R_drewN | apply Kd.R_drew)); exact HO1003.out))) (Kd.R_lt (by (with_reducible repeat (first | apply Kd.R_alloc | apply Kd.R_drewN | apply Kd.R_drew)); exact HO1006.out))) (below_size (by repeat (first | (with_reducible first | exact HB.out | apply below_alloc | apply pw_below_drewN | apply below_drew1) | exact HB.out)))); have n3_ := Aside0.mk (below_step (by repeat (first | (with_reducible first | exact HB.out | apply below_alloc | apply pw_below_drewN | apply below_drew1) | exact HB.out)) hb); clear HO1003; clear HO1006; clear HB; have HO1003 := n0_; have HO1006 := n1_; have HO1009 := n2_; have HB := n3_; clear n0_ n1_ n2_ n3_; (try clear hb); (try clear hb2); (try clear hk); (try clear hi); (try clear ho0); obtain ⟨Ao17, co17, eo17⟩ := Kd.R_slice HO1003.out; subst eo17; obtain ⟨Ao18, co18, eo18⟩ := Kd.R_slice HO1006.out; subst eo18; obtain ⟨Ao19, co19, eo19⟩ := Kd.R_slice HO1009.out; subst eo19) | ((with_reducible refine gate_callee (f := 17) rfl ?_); refine goesL_ (some 21) rfl rfl Try.func17 (by kernel_rfl) rfl #[.int .i64 a0, .slice Ao17 t1001.length co17, .slice Ao18 t1004.length co18, .slice Ao19 t1007.length co19] rfl (by (try simp only [List.map_toArray, List.map_cons, List.map_nil]); first | done | rfl | (simp only [List.length_drop, List.length_take]; rfl)) ?_; (with_reducible refine (voices_Price.calls k a0 (fun k_ => some k_ = (.slice Ao17 t1001.length co17 : Value).ownBlock) _ _ t1001 (fun k_ => some k_ = (.slice Ao18 t1004.length co18 : Value).ownBlock) _ _ t1004 _ _ t1007 t1010 t1011 _ ?side1 ?side2 ?side3 ?side4 A8.out).mono ?_); (case side1 => exact Kd.R_V (Kd.R_tight rfl (HO1003.out))); (case side2 => exact Kd.R_V (Kd.R_tight rfl (HO1006.out))); (case side3 => repeat (first | exact (Kd.R_reads' HO1009.out).2.2 | (with_reducible refine Kd.C_alloc ?_ _) | (with_reducible refine Kd.C_drewN ?_ _) | (with_reducible refine Kd.C_drew ?_))); (case side4 => exact (Kd.R_reads' HO1009.out).2.1); rintro e w20 ⟨rfl, hb⟩; refine ⟨_, rfl, ?_⟩; have n0_ := Aside0.mk (Kd.R_below (by (with_reducible repeat (first | apply Kd.R_alloc | apply Kd.R_drewN | apply Kd.R_drew)); exact HO1003.out) hb); have n1_ := Aside0.mk (Kd.R_below (by (with_reducible repeat (first | apply Kd.R_alloc | apply Kd.R_drewN | apply Kd.R_drew)); exact HO1006.out) hb); have n2_ := Aside0.mk (Kd.R_below (by (with_reducible repeat (first | apply Kd.R_alloc | apply Kd.R_drewN | apply Kd.R_drew)); exact HO1009.out) hb); have n3_ := Aside0.mk (below_step (by repeat (first | (with_reducible first | exact HB.out | apply below_alloc | apply pw_below_drewN | apply below_drew1) | exact HB.out)) hb); clear HO1003; clear HO1006; clear HO1009; clear HB; have HO1003 := n0_; have HO1006 := n1_; have HO1009 := n2_; have HB := n3_; clear n0_ n1_ n2_ n3_; (try clear hb); (try clear hb2); (try clear hk); (try clear hi)) | ((with_reducible refine gate_callee (f := 12) rfl ?_); refine goesL_ (some 27) rfl rfl Try.func12 (by kernel_rfl) rfl #[.slice A1 l1.length c1] rfl (by (try simp only [List.map_toArray, List.map_cons, List.map_nil]); first | done | rfl | (simp only [List.length_drop, List.length_take]; rfl)) ?_; (with_reducible refine (sackbutlaw06_list.calls _ _ l1 t1012 _ ?side1 ?side2 A9.out).mono ?_); (case side1 => repeat (first | exact (Kd.C_below HR1.out HB.out) | (with_reducible refine Kd.C_alloc ?_ _) | (with_reducible refine Kd.C_drewN ?_ _) | (with_reducible refine Kd.C_drew ?_))); (case side2 => exact HC1.out); rintro e w21 ⟨v1013, rfl, ho0, hb⟩; refine ⟨_, rfl, ?_⟩; have n0_ := Aside0.mk (Kd.R_elder' (by (with_reducible repeat (first | apply Kd.R_alloc | apply Kd.R_drewN | apply Kd.R_drew)); exact HO1003.out) (Kd.R_base ho0) hb); have n1_ := Aside0.mk (Kd.R_elder' (by (with_reducible repeat (first | apply Kd.R_alloc | apply Kd.R_drewN | apply Kd.R_drew)); exact HO1006.out) (Kd.R_base ho0) hb); have n2_ := Aside0.mk (Kd.R_elder' (by (with_reducible repeat (first | apply Kd.R_alloc | apply Kd.R_drewN | apply Kd.R_drew)); exact HO1009.out) (Kd.R_base ho0) hb); have n3_ := Aside0.mk (Kd.R_lower (Kd.R_new' (Kd.R_new' (Kd.R_new' ho0 (Kd.R_lt (by (with_reducible repeat (first | apply Kd.R_alloc | apply Kd.R_drewN | apply Kd.R_drew)); exact HO1003.out))) (Kd.R_lt (by (with_reducible repeat (first | apply Kd.R_alloc | apply Kd.R_drewN | apply Kd.R_drew)); exact HO1006.out))) (Kd.R_lt (by (with_reducible repeat (first | apply Kd.R_alloc | apply Kd.R_drewN | apply Kd.R_drew)); exact HO1009.out))) (below_size (by repeat (first | (with_reducible first | exact HB.out | apply below_alloc | apply pw_below_drewN | apply below_drew1) | exact HB.out)))); have n4_ := Aside0.mk (below_step (by repeat (first | (with_reducible first | exact HB.out | apply below_alloc | apply pw_below_drewN | apply below_drew1) | exact HB.out)) hb); clear HO1003; clear HO1006; clear HO1009; clear HB; have HO1003 := n0_; have HO1006 := n1_; have HO1009 := n2_; have HO1014 := n3_; have HB := n4_; clear n0_ n1_ n2_ n3_ n4_; (try clear hb); (try clear hb2); (try clear hk); (try clear hi); (try clear ho0)) | ((with_reducible refine gate_callee (f := 12) rfl ?_); refine goesL_ (some 29) rfl rfl Try.func12 (by kernel_rfl) rfl #[.slice A2 l2.length c2] rfl (by (try simp only [List.map_toArray, List.map_cons, List.map_nil]); first | done | rfl | (simp only [List.length_drop, List.length_take]; rfl)) ?_; (with_reducible refine (sackbutlaw06_list.calls _ _ l2 t1015 _ ?side1 ?side2 A10.out).mono ?_); (case side1 => repeat (first | exact (Kd.C_below HR2.out HB.out) | (with_reducible refine Kd.C_alloc ?_ _) | (with_reducible refine Kd.C_drewN ?_ _) | (with_reducible refine Kd.C_drew ?_))); (case side2 => exact HC2.out); rintro e w22 ⟨v1016, rfl, ho0, hb⟩; refine ⟨_, rfl, ?_⟩; have n0_ := Aside0.mk (Kd.R_elder' (by (with_reducible repeat (first | apply Kd.R_alloc | apply Kd.R_drewN | apply Kd.R_drew)); exact HO1003.out) (Kd.R_base ho0) hb); have n1_ := Aside0.mk (Kd.R_elder' (by (with_reducible repeat (first | apply Kd.R_alloc | apply Kd.R_drewN | apply Kd.R_drew)); exact HO1006.out) (Kd.R_base ho0) hb); have n2_ := Aside0.mk (Kd.R_elder' (by (with_reducible repeat (first | apply Kd.R_alloc | apply Kd.R_drewN | apply Kd.R_drew)); exact HO1009.out) (Kd.R_base ho0) hb); have n3_ := Aside0.mk (Kd.R_elder' (by (with_reducible repeat (first | apply Kd.R_alloc | apply Kd.R_drewN | apply Kd.R_drew)); exact HO1014.out) (Kd.R_base ho0) hb); have n4_ := Aside0.mk (Kd.R_lower (Kd.R_new' (Kd.R_new' (Kd.R_new' (Kd.R_new' ho0 (Kd.R_lt (by (with_reducible repeat (first | apply Kd.R_alloc | apply Kd.R_drewN | apply Kd.R_drew)); exact HO1003.out))) (Kd.R_lt (by (with_reducible repeat (first | apply Kd.R_alloc | apply Kd.R_drewN | apply Kd.R_drew)); exact HO1006.out))) (Kd.R_lt (by (with_reducible repeat (first | apply Kd.R_alloc | apply Kd.R_drewN | apply Kd.R_drew)); exact HO1009.out))) (Kd.R_lt (by (with_reducible repeat (first | apply Kd.R_alloc | apply Kd.R_drewN | apply Kd.R_drew)); exact HO1014.out))) (below_size (by repeat (first | (with_reducible first | exact HB.out | apply below_alloc | apply pw_below_drewN | apply below_drew1) | exact HB.out)))); have n5_ := Aside0.mk (below_step (by repeat (first | (with_reducible first | exact HB.out | apply below_alloc | apply pw_below_drewN | apply below_drew1) | exact HB.out)) hb); clear HO1003; clear HO1006; clear HO1009; clear HO1014; clear HB; have HO1003 := n0_; have HO1006 := n1_; have HO1009 := n2_; have HO1014 := n3_; have HO1017 := n4_; have HB := n5_; clear n0_ n1_ n2_ n3_ n4_ n5_; (try clear hb); (try clear hb2); (try clear hk); (try clear hi); (try clear ho0)) | ((with_reducible refine gate_callee (f := 12) rfl ?_); refine goesL_ (some 31) rfl rfl Try.func12 (by kernel_rfl) rfl #[.slice A3 l3.length c3] rfl (by (try simp only [List.map_toArray, List.map_cons, List.map_nil]); first | done | rfl | (simp only [List.length_drop, List.length_take]; rfl)) ?_; (with_reducible refine (sackbutlaw06_list.calls _ _ l3 t1018 _ ?side1 ?side2 A11.out).mono ?_); (case side1 => repeat (first | exact (Kd.C_below HR3.out HB.out) | (with_reducible refine Kd.C_alloc ?_ _) | (with_reducible refine Kd.C_drewN ?_ _) | (with_reducible refine Kd.C_drew ?_))); (case side2 => exact HC3.out); rintro e w23 ⟨v1019, rfl, ho0, hb⟩; refine ⟨_, rfl, ?_⟩; have n0_ := Aside0.mk (Kd.R_elder' (by (with_reducible repeat (first | apply Kd.R_alloc | apply Kd.R_drewN | apply Kd.R_drew)); exact HO1003.out) (Kd.R_base ho0) hb); have n1_ := Aside0.mk (Kd.R_elder' (by (with_reducible repeat (first | apply Kd.R_alloc | apply Kd.R_drewN | apply Kd.R_drew)); exact HO1006.out) (Kd.R_base ho0) hb); have n2_ := Aside0.mk (Kd.R_elder' (by (with_reducible repeat (first | apply Kd.R_alloc | apply Kd.R_drewN | apply Kd.R_drew)); exact HO1009.out) (Kd.R_base ho0) hb); have n3_ := Aside0.mk (Kd.R_elder' (by (with_reducible repeat (first | apply Kd.R_alloc | apply Kd.R_drewN | apply Kd.R_drew)); exact HO1014.out) (Kd.R_base ho0) hb); have n4_ := Aside0.mk (Kd.R_elder' (by (with_reducible repeat (first | apply Kd.R_alloc | apply Kd.R_drewN | apply Kd.R_drew)); exact HO1017.out) (Kd.R_base ho0) hb); have n5_ := Aside0.mk (Kd.R_lower (Kd.R_new' (Kd.R_new' (Kd.R_new' (Kd.R_new' (Kd.R_new' ho0 (Kd.R_lt (by (with_reducible repeat (first | apply Kd.R_alloc | apply Kd.R_drewN | apply Kd.R_drew)); exact HO1003.out))) (Kd.R_lt (by (with_reducible repeat (first | apply Kd.R_alloc | apply Kd.R_drewN | apply Kd.R_drew)); exact HO1006.out))) (Kd.R_lt (by (with_reducible repeat (first | apply Kd.R_alloc | apply Kd.R_drewN | apply Kd.R_drew)); exact HO1009.out))) (Kd.R_lt (by (with_reducible repeat (first | apply Kd.R_alloc | apply Kd.R_drewN | apply Kd.R_drew)); exact HO1014.out))) (Kd.R_lt (by (with_reducible repeat (first | apply Kd.R_alloc | apply Kd.R_drewN | apply Kd.R_drew)); exact HO1017.out))) (below_size (by repeat (first | (with_reducible first | exact HB.out | apply below_alloc | apply pw_below_drewN | apply below_drew1) | exact HB.out)))); have n6_ := Aside0.mk (below_step (by repeat (first | (with_reducible first | exact HB.out | apply below_alloc | apply pw_below_drewN | apply below_drew1) | exact HB.out)) hb); clear HO1003; clear HO1006; clear HO1009; clear HO1014; clear HO1017; clear HB; have HO1003 := n0_; have HO1006 := n1_; have HO1009 := n2_; have HO1014 := n3_; have HO1017 := n4_; have HO1020 := n5_; have HB := n6_; clear n0_ n1_ n2_ n3_ n4_ n5_ n6_; (try clear hb); (try clear hb2); (try clear hk); (try clear hi); (try clear ho0); obtain ⟨Ao24, co24, eo24⟩ := Kd.R_slice HO1014.out; subst eo24; obtain ⟨Ao25, co25, eo25⟩ := Kd.R_slice HO1017.out; subst eo25; obtain ⟨Ao26, co26, eo26⟩ := Kd.R_slice HO1020.out; subst eo26) | ((with_reducible refine gate_callee (f := 25) rfl ?_); refine goesL_ (some 32) rfl rfl Try.func25 (by kernel_rfl) rfl #[.int .i64 a0, .slice Ao24 t1012.length co24, .slice Ao25 t1015.length co25, .slice Ao26 t1018.length co26] rfl (by (try simp only [List.map_toArray, List.map_cons, List.map_nil]); first | done | rfl | (simp only [List.length_drop, List.length_take]; rfl)) ?_; (with_reducible refine (voices_Cross.calls k a0 (fun k_ => some k_ = (.slice Ao24 t1012.length co24 : Value).ownBlock) _ _ t1012 (fun k_ => some k_ = (.slice Ao25 t1015.length co25 : Value).ownBlock) _ _ t1015 _ _ t1018 t1021 t1022 _ ?side1 ?side2 ?side3 ?side4 A12.out).mono ?_); (case side1 => exact Kd.R_V (Kd.R_tight rfl (HO1014.out))); (case side2 => exact Kd.R_V (Kd.R_tight rfl (HO1017.out))); (case side3 => repeat (first | exact (Kd.R_reads' HO1020.out).2.2 | (with_reducible refine Kd.C_alloc ?_ _) | (with_reducible refine Kd.C_drewN ?_ _) | (with_reducible refine Kd.C_drew ?_))); (case side4 => exact (Kd.R_reads' HO1020.out).2.1); rintro e w27 ⟨rfl, hb⟩; refine ⟨_, rfl, ?_⟩; have n0_ := Aside0.mk (Kd.R_below (by (with_reducible repeat (first | apply Kd.R_alloc | apply Kd.R_drewN | apply Kd.R_drew)); exact HO1003.out) hb); have n1_ := Aside0.mk (Kd.R_below (by (with_reducible repeat (first | apply Kd.R_alloc | apply Kd.R_drewN | apply Kd.R_drew)); exact HO1006.out) hb); have n2_ := Aside0.mk (Kd.R_below (by (with_reducible repeat (first | apply Kd.R_alloc | apply Kd.R_drewN | apply Kd.R_drew)); exact HO1009.out) hb); have n3_ := Aside0.mk (Kd.R_below (by (with_reducible repeat (first | apply Kd.R_alloc | apply Kd.R_drewN | apply Kd.R_drew)); exact HO1014.out) hb); have n4_ := Aside0.mk (Kd.R_below (by (with_reducible repeat (first | apply Kd.R_alloc | apply Kd.R_drewN | apply Kd.R_drew)); exact HO1017.out) hb); have n5_ := Aside0.mk (Kd.R_below (by (with_reducible repeat (first | apply Kd.R_alloc | apply Kd.R_drewN | apply Kd.R_drew)); exact HO1020.out) hb); have n6_ := Aside0.mk (below_step (by repeat (first | (with_reducible first | exact HB.out | apply below_alloc | apply pw_below_drewN | apply below_drew1) | exact HB.out)) hb); clear HO1003; clear HO1006; clear HO1009; clear HO1014; clear HO1017; clear HO1020; clear HB; have HO1003 := n0_; have HO1006 := n1_; have HO1009 := n2_; have HO1014 := n3_; have HO1017 := n4_; have HO1020 := n5_; have HB := n6_; clear n0_ n1_ n2_ n3_ n4_ n5_ n6_; (try clear hb); (try clear hb2); (try clear hk); (try clear hi)))
  (try simp only [Act.put, List.setIfInBounds_toArray, List.set_cons_zero, List.set_cons_succ])
  go_cut [46] (fun v46 wc => ∃ (kq : Nat) (x46_12 : Bool), v46 = .bool x46_12 ∧ Aside0 (sackbutlaw06_VoicesPrices.j0 kq a0 l1 l2 l3 t1010 t1011 t1021 t1022 x46_12 = some r) ∧ Aside0 (kq ≤ k) ∧ Aside0 (Below w.heap.size w wc))
  case first =>
    have H := HC13.out
    clear HC13
    replace H := Option.bind_eq_some_iff.mp H
    obtain ⟨t1023, A280, H⟩ := H
    replace H : (if t1023 = true then ((sackbutref06_Leading.f k (l1.length : Int) l3).bind fun t1024 => (sackbutlaw06_VoicesPrices.j0 k a0 l1 l2 l3 t1010 t1011 t1021 t1022 (!t1024))) else (sackbutlaw06_VoicesPrices.j0 k a0 l1 l2 l3 t1010 t1011 t1021 t1022 true)) = some r := H
    have A28 := Aside0.mk A280
    clear A280
    by_cases c29 : t1023 = true
    · subst c29
      have H1 : ((sackbutref06_Leading.f k (l1.length : Int) l3).bind fun t1024 => (sackbutlaw06_VoicesPrices.j0 k a0 l1 l2 l3 t1010 t1011 t1021 t1022 (!t1024))) = some r := by rw [if_pos rfl] at H; exact H
      clear H
      have H := H1
      clear H1
      replace H := Option.bind_eq_some_iff.mp H
      obtain ⟨t1024, A300, H⟩ := H
      replace H : (sackbutlaw06_VoicesPrices.j0 k a0 l1 l2 l3 t1010 t1011 t1021 t1022 (!t1024)) = some r := H
      have A30 := Aside0.mk A300
      clear A300
      have H' := Aside0.mk H
      clear H
      go_wp2_with (first | ((with_reducible refine gate_callee (f := 13) rfl ?_); refine goesL_ (some 38) rfl rfl Try.func13 (by kernel_rfl) rfl #[.int .i64 a0, .slice A1 l1.length c1, .slice A2 l2.length c2] rfl (by (try simp only [List.map_toArray, List.map_cons, List.map_nil]); first | done | rfl | (simp only [List.length_drop, List.length_take]; rfl)) ?_; (with_reducible refine (sackbutref06_Two.calls k a0 _ _ l1 _ _ l2 true _ ?side1 ?side2 ?side3 ?side4 A28.out).mono ?_); (case side1 => repeat (first | exact (Kd.C_below HR1.out HB.out) | (with_reducible refine Kd.C_alloc ?_ _) | (with_reducible refine Kd.C_drewN ?_ _) | (with_reducible refine Kd.C_drew ?_))); (case side2 => exact HC1.out); (case side3 => repeat (first | exact (Kd.C_below HR2.out HB.out) | (with_reducible refine Kd.C_alloc ?_ _) | (with_reducible refine Kd.C_drewN ?_ _) | (with_reducible refine Kd.C_drew ?_))); (case side4 => exact HC2.out); rintro e w' ⟨rfl, ⟨nd, rfl⟩⟩; refine ⟨_, rfl, ?_⟩) | (go_at_call 26; (with_reducible refine (sackbutref06_Leading.calls k (l1.length : Int) _ _ l3 t1024 _ ?side1 ?side2 A30.out).mono ?_); (case side1 => repeat (first | exact (Kd.C_below HR3.out (by repeat (first | (with_reducible first | exact HB.out | apply below_alloc | apply pw_below_drewN | apply below_drew1) | exact HB.out))) | (with_reducible refine Kd.C_alloc ?_ _) | (with_reducible refine Kd.C_drewN ?_ _) | (with_reducible refine Kd.C_drew ?_))); (case side2 => exact HC3.out); rintro e w' ⟨rfl, ⟨nd, rfl⟩⟩))
      go_meet
      case rel => exact ⟨_, (!t1024), (by first | rfl | (simp; done) | (simp [*]; done)), H', ⟨by first | omega | exact Nat.le_refl _⟩, ⟨by repeat (first | (with_reducible first | exact HB.out | apply below_alloc | apply pw_below_drewN | apply below_drew1) | exact HB.out)⟩⟩
    · replace c29 := Bool.eq_false_iff.mpr c29
      subst c29
      have H1 : (sackbutlaw06_VoicesPrices.j0 k a0 l1 l2 l3 t1010 t1011 t1021 t1022 true) = some r := by rw [if_neg (show ¬ (false = true) by decide)] at H; exact H
      clear H
      have H := H1
      clear H1
      have H' := Aside0.mk H
      clear H
      go_wp2_with (first | ((with_reducible refine gate_callee (f := 13) rfl ?_); refine goesL_ (some 38) rfl rfl Try.func13 (by kernel_rfl) rfl #[.int .i64 a0, .slice A1 l1.length c1, .slice A2 l2.length c2] rfl (by (try simp only [List.map_toArray, List.map_cons, List.map_nil]); first | done | rfl | (simp only [List.length_drop, List.length_take]; rfl)) ?_; (with_reducible refine (sackbutref06_Two.calls k a0 _ _ l1 _ _ l2 false _ ?side1 ?side2 ?side3 ?side4 A28.out).mono ?_); (case side1 => repeat (first | exact (Kd.C_below HR1.out HB.out) | (with_reducible refine Kd.C_alloc ?_ _) | (with_reducible refine Kd.C_drewN ?_ _) | (with_reducible refine Kd.C_drew ?_))); (case side2 => exact HC1.out); (case side3 => repeat (first | exact (Kd.C_below HR2.out HB.out) | (with_reducible refine Kd.C_alloc ?_ _) | (with_reducible refine Kd.C_drewN ?_ _) | (with_reducible refine Kd.C_drew ?_))); (case side4 => exact HC2.out); rintro e w' ⟨rfl, ⟨nd, rfl⟩⟩; refine ⟨_, rfl, ?_⟩))
      go_meet
      case rel => exact ⟨_, (true), (by first | rfl | (simp; done) | (simp [*]; done)), H', ⟨by first | omega | exact Nat.le_refl _⟩, ⟨by repeat (first | (with_reducible first | exact HB.out | apply below_alloc | apply pw_below_drewN | apply below_drew1) | exact HB.out)⟩⟩
  case rest =>
    clear HC13
    try clear c1
    try clear c2
    try clear p2
    try clear c3
    try clear c8
    try clear c12
    try clear c13
    try clear c17
    try clear c25
    try clear c29
    obtain ⟨kq, x46_12, rfl, HA, HJ12, HB⟩ := hcut
    cases kq with
    | zero => exact absurd HA.out (by simp [sackbutlaw06_VoicesPrices.j0])
    | succ kj12 =>
      have H := HA.out
      clear HA
      simp only [sackbutlaw06_VoicesPrices.j0] at H
      by_cases c31 : x46_12 = true
      · subst c31
        have H1 : (if t1010 = 0 then (if t1021 = true then (some false) else (if t1011 = 2 then (if t1022 = 2 then ((sackbutlaw06_awake.f).bind fun t1025 => (some t1025)) else (some false)) else (some false))) else (some false)) = some r := by rw [if_pos rfl] at H; exact H
        clear H
        have H := H1
        clear H1
        by_cases c32 : t1010 = 0
        · rw [if_pos c32] at H
          have c32b0 : (t1010 == 0) = true := beq_iff_eq.mpr c32
          have c32b1 : (t1010 != 0) = false := bne_eq_false_iff_eq.mpr c32
          clear c32
          by_cases c33 : t1021 = true
          · subst c33
            have H1 : (some false) = some r := by rw [if_pos rfl] at H; exact H
            clear H
            have H := H1
            clear H1
            obtain rfl := Option.some.inj H
            go_wp2
            go_ret
            exact ⟨by first | rfl | (simp [errW_none, errW_some] <;> rfl) | (simp [*, errW_none, errW_some] <;> rfl), by repeat (first | (with_reducible first | exact HB.out | apply below_alloc | apply pw_below_drewN | apply below_drew1) | exact HB.out)⟩
          · replace c33 := Bool.eq_false_iff.mpr c33
            subst c33
            have H1 : (if t1011 = 2 then (if t1022 = 2 then ((sackbutlaw06_awake.f).bind fun t1025 => (some t1025)) else (some false)) else (some false)) = some r := by rw [if_neg (show ¬ (false = true) by decide)] at H; exact H
            clear H
            have H := H1
            clear H1
            by_cases c34 : t1011 = 2
            · rw [if_pos c34] at H
              have c34b0 : (t1011 == 2) = true := beq_iff_eq.mpr c34
              have c34b1 : (t1011 != 2) = false := bne_eq_false_iff_eq.mpr c34
              clear c34
              by_cases c35 : t1022 = 2
              · rw [if_pos c35] at H
                have c35b0 : (t1022 == 2) = true := beq_iff_eq.mpr c35
                have c35b1 : (t1022 != 2) = false := bne_eq_false_iff_eq.mpr c35
                clear c35
                replace H := Option.bind_eq_some_iff.mp H
                obtain ⟨t1025, A360, H⟩ := H
                replace H : (some t1025) = some r := H
                have A36 := Aside0.mk A360
                clear A360
                obtain rfl := Option.some.inj H
                go_wp2_with (first | (go_at_call 14; (with_reducible refine (sackbutlaw06_awake.calls  t1025 _ A36.out).mono ?_); rintro e w37 ⟨rfl, hb⟩; have n0_ := Aside0.mk (below_step (by repeat (first | (with_reducible first | exact HB.out | apply below_alloc | apply pw_below_drewN | apply below_drew1) | exact HB.out)) hb); clear HB; have HB := n0_; clear n0_; (try clear hb); (try clear hb2); (try clear hk); (try clear hi)))
                go_ret
                exact ⟨by first | rfl | (simp [errW_none, errW_some] <;> rfl) | (simp [*, errW_none, errW_some] <;> rfl), by repeat (first | (with_reducible first | exact HB.out | apply below_alloc | apply pw_below_drewN | apply below_drew1) | exact HB.out)⟩
              · rw [if_neg c35] at H
                have c35b0 : (t1022 == 2) = false := beq_eq_false_iff_ne.mpr c35
                have c35b1 : (t1022 != 2) = true := bne_iff_ne.mpr c35
                obtain rfl := Option.some.inj H
                go_wp2
                go_ret
                exact ⟨by first | rfl | (simp [errW_none, errW_some] <;> rfl) | (simp [*, errW_none, errW_some] <;> rfl), by repeat (first | (with_reducible first | exact HB.out | apply below_alloc | apply pw_below_drewN | apply below_drew1) | exact HB.out)⟩
            · rw [if_neg c34] at H
              have c34b0 : (t1011 == 2) = false := beq_eq_false_iff_ne.mpr c34
              have c34b1 : (t1011 != 2) = true := bne_iff_ne.mpr c34
              obtain rfl := Option.some.inj H
              go_wp2
              go_ret
              exact ⟨by first | rfl | (simp [errW_none, errW_some] <;> rfl) | (simp [*, errW_none, errW_some] <;> rfl), by repeat (first | (with_reducible first | exact HB.out | apply below_alloc | apply pw_below_drewN | apply below_drew1) | exact HB.out)⟩
        · rw [if_neg c32] at H
          have c32b0 : (t1010 == 0) = false := beq_eq_false_iff_ne.mpr c32
          have c32b1 : (t1010 != 0) = true := bne_iff_ne.mpr c32
          obtain rfl := Option.some.inj H
          go_wp2
          go_ret
          exact ⟨by first | rfl | (simp [errW_none, errW_some] <;> rfl) | (simp [*, errW_none, errW_some] <;> rfl), by repeat (first | (with_reducible first | exact HB.out | apply below_alloc | apply pw_below_drewN | apply below_drew1) | exact HB.out)⟩
      · replace c31 := Bool.eq_false_iff.mpr c31
        subst c31
        have H1 : ((sackbutref06_Price.f kj12 a0 l1 l2 l3).bind fun t1026 => (if t1010 = t1026 then ((sackbutref06_Cross.f kj12 a0 l1 l2 l3).bind fun t1027 => (if (t1021 == t1027) = true then (if t1011 = 0 then (if t1022 = 0 then ((sackbutlaw06_awake.f).bind fun t1028 => (some t1028)) else (some false)) else (some false)) else (some false))) else (some false))) = some r := by rw [if_neg (show ¬ (false = true) by decide)] at H; exact H
        clear H
        have H := H1
        clear H1
        replace H := Option.bind_eq_some_iff.mp H
        obtain ⟨t1026, A380, H⟩ := H
        replace H : (if t1010 = t1026 then ((sackbutref06_Cross.f kj12 a0 l1 l2 l3).bind fun t1027 => (if (t1021 == t1027) = true then (if t1011 = 0 then (if t1022 = 0 then ((sackbutlaw06_awake.f).bind fun t1028 => (some t1028)) else (some false)) else (some false)) else (some false))) else (some false)) = some r := H
        have A38 := Aside0.mk A380
        clear A380
        by_cases c39 : t1010 = t1026
        · rw [if_pos c39] at H
          have c39b0 : (t1010 == t1026) = true := beq_iff_eq.mpr c39
          have c39b1 : (t1010 != t1026) = false := bne_eq_false_iff_eq.mpr c39
          clear c39
          replace H := Option.bind_eq_some_iff.mp H
          obtain ⟨t1027, A400, H⟩ := H
          replace H : (if (t1021 == t1027) = true then (if t1011 = 0 then (if t1022 = 0 then ((sackbutlaw06_awake.f).bind fun t1028 => (some t1028)) else (some false)) else (some false)) else (some false)) = some r := H
          have A40 := Aside0.mk A400
          clear A400
          by_cases c41 : (t1021 == t1027) = true
          · rw [if_pos c41] at H
            have c41b0 : (t1021 == t1027) = true := c41
            (try (have c41b1 : decide (t1021 = t1027) = true := by simpa using c41))
            (try (have c41b2 : (t1021 == t1027) = true := by simpa using c41))
            clear c41
            by_cases c42 : t1011 = 0
            · rw [if_pos c42] at H
              have c42b0 : (t1011 == 0) = true := beq_iff_eq.mpr c42
              have c42b1 : (t1011 != 0) = false := bne_eq_false_iff_eq.mpr c42
              clear c42
              by_cases c43 : t1022 = 0
              · rw [if_pos c43] at H
                have c43b0 : (t1022 == 0) = true := beq_iff_eq.mpr c43
                have c43b1 : (t1022 != 0) = false := bne_eq_false_iff_eq.mpr c43
                clear c43
                replace H := Option.bind_eq_some_iff.mp H
                obtain ⟨t1028, A440, H⟩ := H
                replace H : (some t1028) = some r := H
                have A44 := Aside0.mk A440
                clear A440
                obtain rfl := Option.some.inj H
                go_wp2_with (first | ((with_reducible refine gate_callee (f := 27) rfl ?_); refine goesL_ (some 69) rfl rfl Try.func27 (by kernel_rfl) rfl #[.int .i64 a0, .slice A1 l1.length c1, .slice A2 l2.length c2, .slice A3 l3.length c3] rfl (by (try simp only [List.map_toArray, List.map_cons, List.map_nil]); first | done | rfl | (simp only [List.length_drop, List.length_take]; rfl)) ?_; (with_reducible refine (sackbutref06_Price.calls kj12 a0 _ _ l1 _ _ l2 _ _ l3 t1026 _ ?side1 ?side2 ?side3 ?side4 ?side5 ?side6 A38.out).mono ?_); (case side1 => repeat (first | exact (Kd.C_below HR1.out HB.out) | (with_reducible refine Kd.C_alloc ?_ _) | (with_reducible refine Kd.C_drewN ?_ _) | (with_reducible refine Kd.C_drew ?_))); (case side2 => exact HC1.out); (case side3 => repeat (first | exact (Kd.C_below HR2.out HB.out) | (with_reducible refine Kd.C_alloc ?_ _) | (with_reducible refine Kd.C_drewN ?_ _) | (with_reducible refine Kd.C_drew ?_))); (case side4 => exact HC2.out); (case side5 => repeat (first | exact (Kd.C_below HR3.out HB.out) | (with_reducible refine Kd.C_alloc ?_ _) | (with_reducible refine Kd.C_drewN ?_ _) | (with_reducible refine Kd.C_drew ?_))); (case side6 => exact HC3.out); rintro e w45 ⟨rfl, hb⟩; refine ⟨_, rfl, ?_⟩; have n0_ := Aside0.mk (below_step (by repeat (first | (with_reducible first | exact HB.out | apply below_alloc | apply pw_below_drewN | apply below_drew1) | exact HB.out)) hb); clear HB; have HB := n0_; clear n0_; (try clear hb); (try clear hb2); (try clear hk); (try clear hi)) | (go_at_call 28; (with_reducible refine (sackbutref06_Cross.calls kj12 a0 _ _ l1 _ _ l2 _ _ l3 t1027 _ ?side1 ?side2 ?side3 ?side4 ?side5 ?side6 A40.out).mono ?_); (case side1 => repeat (first | exact (Kd.C_below HR1.out HB.out) | (with_reducible refine Kd.C_alloc ?_ _) | (with_reducible refine Kd.C_drewN ?_ _) | (with_reducible refine Kd.C_drew ?_))); (case side2 => exact HC1.out); (case side3 => repeat (first | exact (Kd.C_below HR2.out HB.out) | (with_reducible refine Kd.C_alloc ?_ _) | (with_reducible refine Kd.C_drewN ?_ _) | (with_reducible refine Kd.C_drew ?_))); (case side4 => exact HC2.out); (case side5 => repeat (first | exact (Kd.C_below HR3.out HB.out) | (with_reducible refine Kd.C_alloc ?_ _) | (with_reducible refine Kd.C_drewN ?_ _) | (with_reducible refine Kd.C_drew ?_))); (case side6 => exact HC3.out); rintro e w' ⟨rfl, ⟨nd, rfl⟩⟩) | (go_at_call 14; (with_reducible refine (sackbutlaw06_awake.calls  t1028 _ A44.out).mono ?_); rintro e w46 ⟨rfl, hb⟩; have n0_ := Aside0.mk (below_step (by repeat (first | (with_reducible first | exact HB.out | apply below_alloc | apply pw_below_drewN | apply below_drew1) | exact HB.out)) hb); clear HB; have HB := n0_; clear n0_; (try clear hb); (try clear hb2); (try clear hk); (try clear hi)))
                go_ret
                exact ⟨by first | rfl | (simp [errW_none, errW_some] <;> rfl) | (simp [*, errW_none, errW_some] <;> rfl), by repeat (first | (with_reducible first | exact HB.out | apply below_alloc | apply pw_below_drewN | apply below_drew1) | exact HB.out)⟩
              · rw [if_neg c43] at H
                have c43b0 : (t1022 == 0) = false := beq_eq_false_iff_ne.mpr c43
                have c43b1 : (t1022 != 0) = true := bne_iff_ne.mpr c43
                obtain rfl := Option.some.inj H
                go_wp2_with (first | ((with_reducible refine gate_callee (f := 27) rfl ?_); refine goesL_ (some 69) rfl rfl Try.func27 (by kernel_rfl) rfl #[.int .i64 a0, .slice A1 l1.length c1, .slice A2 l2.length c2, .slice A3 l3.length c3] rfl (by (try simp only [List.map_toArray, List.map_cons, List.map_nil]); first | done | rfl | (simp only [List.length_drop, List.length_take]; rfl)) ?_; (with_reducible refine (sackbutref06_Price.calls kj12 a0 _ _ l1 _ _ l2 _ _ l3 t1026 _ ?side1 ?side2 ?side3 ?side4 ?side5 ?side6 A38.out).mono ?_); (case side1 => repeat (first | exact (Kd.C_below HR1.out HB.out) | (with_reducible refine Kd.C_alloc ?_ _) | (with_reducible refine Kd.C_drewN ?_ _) | (with_reducible refine Kd.C_drew ?_))); (case side2 => exact HC1.out); (case side3 => repeat (first | exact (Kd.C_below HR2.out HB.out) | (with_reducible refine Kd.C_alloc ?_ _) | (with_reducible refine Kd.C_drewN ?_ _) | (with_reducible refine Kd.C_drew ?_))); (case side4 => exact HC2.out); (case side5 => repeat (first | exact (Kd.C_below HR3.out HB.out) | (with_reducible refine Kd.C_alloc ?_ _) | (with_reducible refine Kd.C_drewN ?_ _) | (with_reducible refine Kd.C_drew ?_))); (case side6 => exact HC3.out); rintro e w47 ⟨rfl, hb⟩; refine ⟨_, rfl, ?_⟩; have n0_ := Aside0.mk (below_step (by repeat (first | (with_reducible first | exact HB.out | apply below_alloc | apply pw_below_drewN | apply below_drew1) | exact HB.out)) hb); clear HB; have HB := n0_; clear n0_; (try clear hb); (try clear hb2); (try clear hk); (try clear hi)) | (go_at_call 28; (with_reducible refine (sackbutref06_Cross.calls kj12 a0 _ _ l1 _ _ l2 _ _ l3 t1027 _ ?side1 ?side2 ?side3 ?side4 ?side5 ?side6 A40.out).mono ?_); (case side1 => repeat (first | exact (Kd.C_below HR1.out HB.out) | (with_reducible refine Kd.C_alloc ?_ _) | (with_reducible refine Kd.C_drewN ?_ _) | (with_reducible refine Kd.C_drew ?_))); (case side2 => exact HC1.out); (case side3 => repeat (first | exact (Kd.C_below HR2.out HB.out) | (with_reducible refine Kd.C_alloc ?_ _) | (with_reducible refine Kd.C_drewN ?_ _) | (with_reducible refine Kd.C_drew ?_))); (case side4 => exact HC2.out); (case side5 => repeat (first | exact (Kd.C_below HR3.out HB.out) | (with_reducible refine Kd.C_alloc ?_ _) | (with_reducible refine Kd.C_drewN ?_ _) | (with_reducible refine Kd.C_drew ?_))); (case side6 => exact HC3.out); rintro e w' ⟨rfl, ⟨nd, rfl⟩⟩))
                go_ret
                exact ⟨by first | rfl | (simp [errW_none, errW_some] <;> rfl) | (simp [*, errW_none, errW_some] <;> rfl), by repeat (first | (with_reducible first | exact HB.out | apply below_alloc | apply pw_below_drewN | apply below_drew1) | exact HB.out)⟩
            · rw [if_neg c42] at H
              have c42b0 : (t1011 == 0) = false := beq_eq_false_iff_ne.mpr c42
              have c42b1 : (t1011 != 0) = true := bne_iff_ne.mpr c42
              obtain rfl := Option.some.inj H
              go_wp2_with (first | ((with_reducible refine gate_callee (f := 27) rfl ?_); refine goesL_ (some 69) rfl rfl Try.func27 (by kernel_rfl) rfl #[.int .i64 a0, .slice A1 l1.length c1, .slice A2 l2.length c2, .slice A3 l3.length c3] rfl (by (try simp only [List.map_toArray, List.map_cons, List.map_nil]); first | done | rfl | (simp only [List.length_drop, List.length_take]; rfl)) ?_; (with_reducible refine (sackbutref06_Price.calls kj12 a0 _ _ l1 _ _ l2 _ _ l3 t1026 _ ?side1 ?side2 ?side3 ?side4 ?side5 ?side6 A38.out).mono ?_); (case side1 => repeat (first | exact (Kd.C_below HR1.out HB.out) | (with_reducible refine Kd.C_alloc ?_ _) | (with_reducible refine Kd.C_drewN ?_ _) | (with_reducible refine Kd.C_drew ?_))); (case side2 => exact HC1.out); (case side3 => repeat (first | exact (Kd.C_below HR2.out HB.out) | (with_reducible refine Kd.C_alloc ?_ _) | (with_reducible refine Kd.C_drewN ?_ _) | (with_reducible refine Kd.C_drew ?_))); (case side4 => exact HC2.out); (case side5 => repeat (first | exact (Kd.C_below HR3.out HB.out) | (with_reducible refine Kd.C_alloc ?_ _) | (with_reducible refine Kd.C_drewN ?_ _) | (with_reducible refine Kd.C_drew ?_))); (case side6 => exact HC3.out); rintro e w48 ⟨rfl, hb⟩; refine ⟨_, rfl, ?_⟩; have n0_ := Aside0.mk (below_step (by repeat (first | (with_reducible first | exact HB.out | apply below_alloc | apply pw_below_drewN | apply below_drew1) | exact HB.out)) hb); clear HB; have HB := n0_; clear n0_; (try clear hb); (try clear hb2); (try clear hk); (try clear hi)) | (go_at_call 28; (with_reducible refine (sackbutref06_Cross.calls kj12 a0 _ _ l1 _ _ l2 _ _ l3 t1027 _ ?side1 ?side2 ?side3 ?side4 ?side5 ?side6 A40.out).mono ?_); (case side1 => repeat (first | exact (Kd.C_below HR1.out HB.out) | (with_reducible refine Kd.C_alloc ?_ _) | (with_reducible refine Kd.C_drewN ?_ _) | (with_reducible refine Kd.C_drew ?_))); (case side2 => exact HC1.out); (case side3 => repeat (first | exact (Kd.C_below HR2.out HB.out) | (with_reducible refine Kd.C_alloc ?_ _) | (with_reducible refine Kd.C_drewN ?_ _) | (with_reducible refine Kd.C_drew ?_))); (case side4 => exact HC2.out); (case side5 => repeat (first | exact (Kd.C_below HR3.out HB.out) | (with_reducible refine Kd.C_alloc ?_ _) | (with_reducible refine Kd.C_drewN ?_ _) | (with_reducible refine Kd.C_drew ?_))); (case side6 => exact HC3.out); rintro e w' ⟨rfl, ⟨nd, rfl⟩⟩))
              go_ret
              exact ⟨by first | rfl | (simp [errW_none, errW_some] <;> rfl) | (simp [*, errW_none, errW_some] <;> rfl), by repeat (first | (with_reducible first | exact HB.out | apply below_alloc | apply pw_below_drewN | apply below_drew1) | exact HB.out)⟩
          · rw [if_neg c41] at H
            have c41b0 : (t1021 == t1027) = false := by simpa using c41
            (try (have c41b1 : decide (t1021 = t1027) = false := by simpa using c41))
            (try (have c41b2 : (t1021 == t1027) = false := by simpa using c41))
            (try (have c41b3 : ¬ (t1021 = t1027) := by simpa using c41))
            clear c41
            obtain rfl := Option.some.inj H
            go_wp2_with (first | ((with_reducible refine gate_callee (f := 27) rfl ?_); refine goesL_ (some 69) rfl rfl Try.func27 (by kernel_rfl) rfl #[.int .i64 a0, .slice A1 l1.length c1, .slice A2 l2.length c2, .slice A3 l3.length c3] rfl (by (try simp only [List.map_toArray, List.map_cons, List.map_nil]); first | done | rfl | (simp only [List.length_drop, List.length_take]; rfl)) ?_; (with_reducible refine (sackbutref06_Price.calls kj12 a0 _ _ l1 _ _ l2 _ _ l3 t1026 _ ?side1 ?side2 ?side3 ?side4 ?side5 ?side6 A38.out).mono ?_); (case side1 => repeat (first | exact (Kd.C_below HR1.out HB.out) | (with_reducible refine Kd.C_alloc ?_ _) | (with_reducible refine Kd.C_drewN ?_ _) | (with_reducible refine Kd.C_drew ?_))); (case side2 => exact HC1.out); (case side3 => repeat (first | exact (Kd.C_below HR2.out HB.out) | (with_reducible refine Kd.C_alloc ?_ _) | (with_reducible refine Kd.C_drewN ?_ _) | (with_reducible refine Kd.C_drew ?_))); (case side4 => exact HC2.out); (case side5 => repeat (first | exact (Kd.C_below HR3.out HB.out) | (with_reducible refine Kd.C_alloc ?_ _) | (with_reducible refine Kd.C_drewN ?_ _) | (with_reducible refine Kd.C_drew ?_))); (case side6 => exact HC3.out); rintro e w49 ⟨rfl, hb⟩; refine ⟨_, rfl, ?_⟩; have n0_ := Aside0.mk (below_step (by repeat (first | (with_reducible first | exact HB.out | apply below_alloc | apply pw_below_drewN | apply below_drew1) | exact HB.out)) hb); clear HB; have HB := n0_; clear n0_; (try clear hb); (try clear hb2); (try clear hk); (try clear hi)) | (go_at_call 28; (with_reducible refine (sackbutref06_Cross.calls kj12 a0 _ _ l1 _ _ l2 _ _ l3 t1027 _ ?side1 ?side2 ?side3 ?side4 ?side5 ?side6 A40.out).mono ?_); (case side1 => repeat (first | exact (Kd.C_below HR1.out HB.out) | (with_reducible refine Kd.C_alloc ?_ _) | (with_reducible refine Kd.C_drewN ?_ _) | (with_reducible refine Kd.C_drew ?_))); (case side2 => exact HC1.out); (case side3 => repeat (first | exact (Kd.C_below HR2.out HB.out) | (with_reducible refine Kd.C_alloc ?_ _) | (with_reducible refine Kd.C_drewN ?_ _) | (with_reducible refine Kd.C_drew ?_))); (case side4 => exact HC2.out); (case side5 => repeat (first | exact (Kd.C_below HR3.out HB.out) | (with_reducible refine Kd.C_alloc ?_ _) | (with_reducible refine Kd.C_drewN ?_ _) | (with_reducible refine Kd.C_drew ?_))); (case side6 => exact HC3.out); rintro e w' ⟨rfl, ⟨nd, rfl⟩⟩))
            go_ret
            exact ⟨by first | rfl | (simp [errW_none, errW_some] <;> rfl) | (simp [*, errW_none, errW_some] <;> rfl), by repeat (first | (with_reducible first | exact HB.out | apply below_alloc | apply pw_below_drewN | apply below_drew1) | exact HB.out)⟩
        · rw [if_neg c39] at H
          have c39b0 : (t1010 == t1026) = false := beq_eq_false_iff_ne.mpr c39
          have c39b1 : (t1010 != t1026) = true := bne_iff_ne.mpr c39
          obtain rfl := Option.some.inj H
          go_wp2_with (first | ((with_reducible refine gate_callee (f := 27) rfl ?_); refine goesL_ (some 69) rfl rfl Try.func27 (by kernel_rfl) rfl #[.int .i64 a0, .slice A1 l1.length c1, .slice A2 l2.length c2, .slice A3 l3.length c3] rfl (by (try simp only [List.map_toArray, List.map_cons, List.map_nil]); first | done | rfl | (simp only [List.length_drop, List.length_take]; rfl)) ?_; (with_reducible refine (sackbutref06_Price.calls kj12 a0 _ _ l1 _ _ l2 _ _ l3 t1026 _ ?side1 ?side2 ?side3 ?side4 ?side5 ?side6 A38.out).mono ?_); (case side1 => repeat (first | exact (Kd.C_below HR1.out HB.out) | (with_reducible refine Kd.C_alloc ?_ _) | (with_reducible refine Kd.C_drewN ?_ _) | (with_reducible refine Kd.C_drew ?_))); (case side2 => exact HC1.out); (case side3 => repeat (first | exact (Kd.C_below HR2.out HB.out) | (with_reducible refine Kd.C_alloc ?_ _) | (with_reducible refine Kd.C_drewN ?_ _) | (with_reducible refine Kd.C_drew ?_))); (case side4 => exact HC2.out); (case side5 => repeat (first | exact (Kd.C_below HR3.out HB.out) | (with_reducible refine Kd.C_alloc ?_ _) | (with_reducible refine Kd.C_drewN ?_ _) | (with_reducible refine Kd.C_drew ?_))); (case side6 => exact HC3.out); rintro e w50 ⟨rfl, hb⟩; refine ⟨_, rfl, ?_⟩; have n0_ := Aside0.mk (below_step (by repeat (first | (with_reducible first | exact HB.out | apply below_alloc | apply pw_below_drewN | apply below_drew1) | exact HB.out)) hb); clear HB; have HB := n0_; clear n0_; (try clear hb); (try clear hb2); (try clear hk); (try clear hi)))
          go_ret
          exact ⟨by first | rfl | (simp [errW_none, errW_some] <;> rfl) | (simp [*, errW_none, errW_some] <;> rfl), by repeat (first | (with_reducible first | exact HB.out | apply below_alloc | apply pw_below_drewN | apply below_drew1) | exact HB.out)⟩

/-- THE ONE PURE STATEMENT of sackbutlaw06_VoicesPrices: yours. -/
def sackbutlaw06_VoicesPrices.Pure : Prop := ∀ (a0 : Int) (l1 : List Int) (l2 : List Int) (l3 : List Int), (Lit.int .i64 a0).wf = true → l1.length ≤ maxLen → l1.length * 8 ≤ 140737488351232 → (∀ x ∈ l1, (Lit.int .i64 x).wf = true) → l2.length ≤ maxLen → l2.length * 8 ≤ 140737488351232 → (∀ x ∈ l2, (Lit.int .i64 x).wf = true) → l3.length ≤ maxLen → l3.length * 8 ≤ 140737488351232 → (∀ x ∈ l3, (Lit.int .i64 x).wf = true) → ∃ k, sackbutlaw06_VoicesPrices.f k a0 l1 l2 l3 = some true
theorem sackbutlaw06_VoicesPrices.walk (P : sackbutlaw06_VoicesPrices.Pure) (a0 : Int) (a1 : Option Addr) (len1 cap1 : Nat) (z1 : List Int) (a2 : Option Addr) (len2 cap2 : Nat) (z2 : List Int) (a3 : Option Addr) (len3 cap3 : Nat) (z3 : List Int) (w : World) (w0 : (Lit.int .i64 a0).wf = true) (w1 : (a1 = none ∧ len1 = 0 ∧ cap1 = 0 ∧ z1 = []) ∨ ∃ x, a1 = some x ∧ len1 ≤ cap1 ∧ cap1 ≤ maxLen ∧ z1.length = cap1 ∧ (∀ i, i < z1.length → w.cell? (x.add i) = some (.int .i64 (z1.getD i 0))) ∧ ∀ n ∈ z1, (Lit.int .i64 n).wf = true) (y1 : len1 * 8 ≤ 140737488351232) (w2 : (a2 = none ∧ len2 = 0 ∧ cap2 = 0 ∧ z2 = []) ∨ ∃ x, a2 = some x ∧ len2 ≤ cap2 ∧ cap2 ≤ maxLen ∧ z2.length = cap2 ∧ (∀ i, i < z2.length → w.cell? (x.add i) = some (.int .i64 (z2.getD i 0))) ∧ ∀ n ∈ z2, (Lit.int .i64 n).wf = true) (y2 : len2 * 8 ≤ 140737488351232) (w3 : (a3 = none ∧ len3 = 0 ∧ cap3 = 0 ∧ z3 = []) ∨ ∃ x, a3 = some x ∧ len3 ≤ cap3 ∧ cap3 ≤ maxLen ∧ z3.length = cap3 ∧ (∀ i, i < z3.length → w.cell? (x.add i) = some (.int .i64 (z3.getD i 0))) ∧ ∀ n ∈ z3, (Lit.int .i64 n).wf = true) (y3 : len3 * 8 ≤ 140737488351232) :
    Calls Try.prog 8 #[.int .i64 a0, .slice a1 len1 cap1, .slice a2 len2 cap2, .slice a3 len3 cap3] w fun e w' => e = .returned (.bool true) ∧ Below w.heap.size w w' := by
  obtain ⟨l1, rfl, hr1, hm1, hw1, hc1⟩ := ReadsInt.ofRowC w1
  obtain ⟨l2, rfl, hr2, hm2, hw2, hc2⟩ := ReadsInt.ofRowC w2
  obtain ⟨l3, rfl, hr3, hm3, hw3, hc3⟩ := ReadsInt.ofRowC w3
  obtain ⟨k, h⟩ := P a0 l1 l2 l3 w0 hm1 y1 hw1 hm2 y2 hw2 hm3 y3 hw3
  refine (sackbutlaw06_VoicesPrices.calls k a0 _ _ l1 _ _ l2 _ _ l3 true w (Kd.C_of_reads (d := (0 : Int)) (h1 := fun _ => rfl) hr1) hc1 (Kd.C_of_reads (d := (0 : Int)) (h1 := fun _ => rfl) hr2) hc2 (Kd.C_of_reads (d := (0 : Int)) (h1 := fun _ => rfl) hr3) hc3 h).mono ?_
  rintro e w' ⟨rfl, hd⟩
  exact ⟨rfl, hd⟩

end Go.Proofs.Ytdnjbjcfbdclfaa.P
namespace Go.Proofs.Ytdnjbjcfbdclfaa.P
/-! Sets of small numbers as natural numbers; pigeonholes. Plain Lean. -/

def orAll (s : Nat) (xs : List Nat) : Nat := xs.foldl (fun s x => s ||| 2 ^ x) s

theorem orAll_nil (s : Nat) : orAll s [] = s := rfl
theorem orAll_cons (s x : Nat) (xs : List Nat) : orAll s (x :: xs) = orAll (s ||| 2 ^ x) xs := rfl
theorem orAll_snoc (s x : Nat) (xs : List Nat) : orAll s (xs ++ [x]) = orAll s xs ||| 2 ^ x := by
  simp [orAll, List.foldl_append]

theorem testBit_or_two_pow (s x i : Nat) : (s ||| 2 ^ x).testBit i = (s.testBit i || decide (x = i)) := by
  rw [Nat.testBit_or, Nat.testBit_two_pow]

theorem testBit_orAll (xs : List Nat) : ∀ (s i : Nat), (orAll s xs).testBit i = (s.testBit i || decide (i ∈ xs)) := by
  induction xs with
  | nil => intro s i; simp [orAll]
  | cons x xs ih =>
    intro s i
    rw [orAll_cons, ih, testBit_or_two_pow, Bool.or_assoc]
    congr 1
    by_cases h : x = i
    · subst h; simp
    · have h' : ¬ i = x := fun e => h e.symm
      simp [h, h']

theorem orAll_lt {m : Nat} (xs : List Nat) (h : ∀ x ∈ xs, x < m) : ∀ s, s < 2 ^ m → orAll s xs < 2 ^ m := by
  induction xs with
  | nil => intro s hs; exact hs
  | cons x xs ih =>
    intro s hs
    rw [orAll_cons]
    refine ih (fun y hy => h y (List.mem_cons_of_mem _ hy)) _ (Nat.or_lt_two_pow hs ?_)
    exact Nat.pow_lt_pow_right (by omega) (h x List.mem_cons_self)

theorem full_iff {n s : Nat} : s = 2 ^ n - 1 ↔ ∀ i, s.testBit i = decide (i < n) := by
  constructor
  · rintro rfl i; exact Nat.testBit_two_pow_sub_one n i
  · intro h; exact Nat.eq_of_testBit_eq fun i => by rw [h, Nat.testBit_two_pow_sub_one]

theorem testBit_full2 (n i : Nat) (hn : 1 ≤ n) : (2 ^ n - 2).testBit i = (decide (i < n) && decide (1 ≤ i)) := by
  obtain ⟨m, rfl⟩ : ∃ m, n = m + 1 := ⟨n - 1, by omega⟩
  have e : 2 ^ (m + 1) - 2 = 2 * (2 ^ m - 1) := by have := Nat.two_pow_pos m; rw [Nat.pow_succ]; omega
  rw [e]
  cases i with
  | zero => simp [Nat.testBit_zero]
  | succ i =>
    rw [Nat.testBit_succ, show 2 * (2 ^ m - 1) / 2 = 2 ^ m - 1 by omega, Nat.testBit_two_pow_sub_one]
    simp

theorem orAll_full {n : Nat} (xs : List Nat) (h : ∀ x ∈ xs, x < n) : orAll 0 xs = 2 ^ n - 1 ↔ ∀ i, i < n → i ∈ xs := by
  rw [full_iff]
  constructor
  · intro hh i hi
    have := hh i
    rw [testBit_orAll] at this
    simpa [hi] using this
  · intro hh i
    rw [testBit_orAll]
    by_cases hi : i < n
    · simp [hi, hh i hi]
    · have : i ∉ xs := fun hm => hi (h i hm)
      simp [hi, this]

theorem orAll_full2 {n : Nat} (hn : 1 ≤ n) (xs : List Nat) (h : ∀ x ∈ xs, 1 ≤ x ∧ x < n) : orAll 0 xs = 2 ^ n - 2 ↔ ∀ i, 1 ≤ i → i < n → i ∈ xs := by
  constructor
  · intro hh i h1 hi
    have h2 : (orAll 0 xs).testBit i = (2 ^ n - 2).testBit i := by rw [hh]
    rw [testBit_orAll, testBit_full2 n i hn] at h2
    simpa [hi, h1] using h2
  · intro hh
    refine Nat.eq_of_testBit_eq fun i => ?_
    rw [testBit_orAll, testBit_full2 n i hn]
    by_cases hi : i < n
    · by_cases h1 : 1 ≤ i
      · simp [hi, h1, hh i h1 hi]
      · have : i ∉ xs := fun hm => h1 (h i hm).1
        simp [h1, this]
    · have : i ∉ xs := fun hm => hi (h i hm).2
      simp [hi, this]

/-! pigeonholes -/
theorem nodup_of_full {n : Nat} {xs : List Nat} (hl : xs.length = n) (hf : ∀ i, i < n → i ∈ xs) : xs.Nodup := by
  rw [List.nodup_iff_count]
  intro a
  refine Nat.not_lt.1 fun hc => ?_
  have ha : a ∈ xs := List.count_pos_iff.1 (by omega)
  have hsub : List.range n ⊆ xs.erase a := by
    intro i hi
    have hm := hf i (List.mem_range.1 hi)
    by_cases e : i = a
    · subst e
      exact List.count_pos_iff.1 (by rw [List.count_erase_self]; omega)
    · exact (List.mem_erase_of_ne e).2 hm
  have := List.Nodup.length_le_of_subset List.nodup_range hsub
  rw [List.length_erase, if_pos ha, List.length_range] at this
  have : 0 < xs.length := List.length_pos_of_mem ha
  omega

theorem full_of_nodup {n : Nat} {xs : List Nat} (hl : xs.length = n) (hr : ∀ x ∈ xs, x < n) (hd : xs.Nodup) : ∀ i, i < n → i ∈ xs := by
  intro i hi
  refine Classical.byContradiction fun hni => ?_
  have hsub : (i :: xs) ⊆ List.range n := by
    intro x hx
    rcases List.mem_cons.1 hx with rfl | hx
    · exact List.mem_range.2 hi
    · exact List.mem_range.2 (hr x hx)
  have := List.Nodup.length_le_of_subset (List.nodup_cons.2 ⟨hni, hd⟩) hsub
  simp at this
  omega
end Go.Proofs.Ytdnjbjcfbdclfaa.P
namespace Go.Proofs.Ytdnjbjcfbdclfaa.P
open Go.RowKit Go.Proofs.YtdnjbjcfbdclfaaW.PrintWords Go.Proofs.YtdnjbjcfbdclfaaW.PrintLast Go.Proofs.YtdnjbjcfbdclfaaW.PrintMore
attribute [local go_sem] max2_int min2_int max_two min_two max_three min_three max_four min_four   -- for this text's walks alone
set_option linter.unusedVariables false
set_option linter.unusedSimpArgs false

/-! runs over a list that gather a set -/
def validRun (n : Nat) : Nat → List Int → Bool
  | s, [] => decide (s = 2 ^ n - 1)
  | s, x :: xs => if x < 0 then false else if x ≥ n then false else validRun n (s ||| 2 ^ x.toNat) xs
theorem validRun_iff (n : Nat) : ∀ (xs : List Int) (s : Nat), validRun n s xs = decide ((∀ x ∈ xs, 0 ≤ x ∧ x < n) ∧ orAll s (xs.map Int.toNat) = 2 ^ n - 1) := by
  intro xs
  induction xs with
  | nil => intro s; simp [validRun, orAll]
  | cons x xs ih =>
    intro s
    simp only [validRun, List.map_cons, orAll_cons, ih, List.forall_mem_cons]
    by_cases h1 : x < 0
    · simp [h1]; intro h; omega
    · by_cases h2 : x ≥ n
      · simp [h1, h2]; intro _ h; omega
      · simp only [h1, h2, if_false]
        congr 1
        rw [eq_iff_iff]
        constructor
        · rintro ⟨a, b⟩; exact ⟨⟨⟨by omega, by omega⟩, a⟩, b⟩
        · rintro ⟨⟨_, a⟩, b⟩; exact ⟨a, b⟩
theorem nodup_toNat {xs : List Int} (h : ∀ x ∈ xs, 0 ≤ x) : (xs.map Int.toNat).Nodup ↔ xs.Nodup := by
  induction xs with
  | nil => simp
  | cons x xs ih =>
    have h' := ih (fun y hy => h y (List.mem_cons_of_mem _ hy))
    simp only [List.map_cons, List.nodup_cons, h']
    have : x.toNat ∈ xs.map Int.toNat ↔ x ∈ xs := by
      simp only [List.mem_map]
      constructor
      · rintro ⟨y, hy, e⟩
        have := h y (List.mem_cons_of_mem _ hy); have := h x List.mem_cons_self
        obtain rfl : y = x := by omega
        exact hy
      · intro hx; exact ⟨x, hx, rfl⟩
    rw [this]
def partRun (n : Nat) : Nat → List Int → Bool
  | _, [] => true
  | s, x :: xs => if x < 0 then false else if x ≥ n then false else if s.testBit x.toNat then false else partRun n (s ||| 2 ^ x.toNat) xs
theorem partRun_iff (n : Nat) : ∀ (xs : List Int) (s : Nat), partRun n s xs = decide ((∀ x ∈ xs, 0 ≤ x ∧ x < n ∧ s.testBit x.toNat = false) ∧ xs.Nodup) := by
  intro xs
  induction xs with
  | nil => intro s; simp [partRun]
  | cons x xs ih =>
    intro s
    simp only [partRun, ih, List.forall_mem_cons, List.nodup_cons]
    by_cases h1 : x < 0
    · simp [h1]; intro h; omega
    · by_cases h2 : x ≥ n
      · simp [h1, h2]; intro _ h; omega
      · by_cases h3 : s.testBit x.toNat = true
        · simp [h1, h2, h3]
        · rw [if_neg h1, if_neg h2, if_neg h3, decide_eq_decide]
          simp only [testBit_or_two_pow, Bool.or_eq_false_iff, decide_eq_false_iff_not]
          constructor
          · rintro ⟨a, b⟩
            refine ⟨⟨⟨by omega, by omega, by simpa using h3⟩, fun y hy => ⟨(a y hy).1, (a y hy).2.1, (a y hy).2.2.1⟩⟩, fun hx => (a x hx).2.2.2 rfl, b⟩
          · rintro ⟨⟨_, a⟩, b, c⟩
            refine ⟨fun y hy => ⟨(a y hy).1, (a y hy).2.1, (a y hy).2.2, fun e => b ?_⟩, c⟩
            have := (a y hy).1
            obtain rfl : x = y := by omega
            exact hy

end Go.Proofs.Ytdnjbjcfbdclfaa.P
namespace Go.Proofs.Ytdnjbjcfbdclfaa.P
open Go.RowKit Go.Proofs.YtdnjbjcfbdclfaaW.PrintWords Go.Proofs.YtdnjbjcfbdclfaaW.PrintLast Go.Proofs.YtdnjbjcfbdclfaaW.PrintMore
attribute [local go_sem] max2_int min2_int max_two min_two max_three min_three max_four min_four   -- for this text's walks alone
set_option linter.unusedVariables false
set_option linter.unusedSimpArgs false

/-! leadings and their prices, of the program and of the document -/
def LeadOf (k : Nat) (l : List Int) : Prop := l.length = k ∧ (∀ x ∈ l, 0 ≤ x ∧ x < k) ∧ l.Nodup
instance (k : Nat) (l : List Int) : Decidable (LeadOf k l) := by unfold LeadOf; infer_instance
theorem lead_full {l : List Int} {k : Nat} (hl : l.length = k) (hr : ∀ x ∈ l, 0 ≤ x ∧ x < k) : orAll 0 (l.map Int.toNat) = 2 ^ k - 1 ↔ l.Nodup := by
  have hr' : ∀ x ∈ l.map Int.toNat, x < k := by
    intro x hx
    obtain ⟨y, hy, rfl⟩ := List.mem_map.1 hx
    have := hr y hy
    omega
  rw [orAll_full _ hr', ← nodup_toNat (fun x hx => (hr x hx).1)]
  exact ⟨fun h => nodup_of_full (by simp [hl]) h, fun h => full_of_nodup (by simp [hl]) hr' h⟩
theorem isLeading_loop (l : List Int) (k : Nat) (hk : k ≤ 62) (hl : l.length < 9223372036854775807) : ∀ (xs pre : List Int) (s : Nat), l = pre ++ xs → s < 2 ^ k →
    Ev (fun q => voices_isLeading.l0 q l (k : Int) (s : Int) l (l.length : Int) (pre.length : Int)) (decide (l.length = k) && validRun k s xs || decide (l.length ≠ k) && false) := by
  intro xs
  induction xs with
  | nil =>
    intro pre s h0 hs
    have hsh := shl1_i64 (x := k) (by omega)
    have hp := Nat.two_pow_pos k
    have hp2 := two_pow_lt63 (x := k) (by omega)
    have h63 : (2 : Nat) ^ 63 = 9223372036854775808 := by decide
    have hw : wrap64 (shl .i64 1 (k : Int) - 1) = ((2 ^ k - 1 : Nat) : Int) := by
      rw [hsh, wrap_id (by omega) (by omega)]; omega
    refine Ev.succ ?_
    simp only [voices_isLeading.l0, if_neg (mid_end h0), if_pos (show (0 : Int) ≤ (k : Int) by omega), hw, validRun, Bool.and_false, Bool.or_false]
    refine Ev.ite (fun e => ?_) (fun e => ?_)
    · have e1 : l.length = k := by omega
      have e2 : ((s : Int) == ((2 ^ k - 1 : Nat) : Int)) = decide (s = 2 ^ k - 1) := by
        by_cases h : s = 2 ^ k - 1
        · simp only [← h]; simp
        · simp only [h, decide_false, beq_eq_false_iff_ne]; omega
      rw [e2]
      simp only [e1, decide_true, Bool.true_and]
      exact Ev.some _
    · have e1 : ¬ l.length = k := by omega
      simp only [e1, decide_false, Bool.false_and]
      exact Ev.some _
  | cons x xs ih =>
    intro pre s h0 hs
    refine Ev.succ ?_
    simp only [voices_isLeading.l0, if_pos (mid_lt h0), if_pos (show (0 : Int) ≤ (pre.length : Int) by omega), mid_rd h0, mid_next h0 hl, validRun]
    refine Ev.ite (fun e => by simpa [e] using Ev.some false) (fun e => ?_)
    refine Ev.ite (fun e2 => by simpa [e, e2] using Ev.some false) (fun e2 => ?_)
    obtain ⟨m, rfl⟩ := Int.eq_ofNat_of_zero_le (show 0 ≤ x by omega)
    have hp2 := two_pow_lt63 (x := k) (by omega)
    have hm2 : 2 ^ m < 2 ^ k := Nat.pow_lt_pow_right (by omega) (by omega)
    have hs2 : s ||| 2 ^ m < 2 ^ k := Nat.or_lt_two_pow hs hm2
    simp only [if_pos (show (0 : Int) ≤ (m : Int) by omega), shl1_i64 (x := m) (by omega), or_i64 (a := s) (b := 2 ^ m) (by omega) (by omega), if_neg e, if_neg e2, Int.toNat_natCast]
    exact ih (pre ++ [(m : Int)]) (s ||| 2 ^ m) (mid_mv h0) hs2
theorem isLeading_ev (l : List Int) (k : Nat) (hk : k ≤ 62) (hl : l.length < 9223372036854775807) : Ev (fun q => voices_isLeading.f q l (k : Int)) (decide (LeadOf k l)) := by
  have h := isLeading_loop l k hk hl l [] 0 rfl (Nat.two_pow_pos _)
  rw [validRun_iff] at h
  have e : (decide (l.length = k) && decide ((∀ x ∈ l, 0 ≤ x ∧ x < (k : Int)) ∧ orAll 0 (l.map Int.toNat) = 2 ^ k - 1) || decide (l.length ≠ k) && false) = decide (LeadOf k l) := by
    rw [Bool.and_false, Bool.or_false, ← Bool.decide_and, decide_eq_decide]
    unfold LeadOf
    constructor
    · rintro ⟨h1, h2, h3⟩; exact ⟨h1, h2, (lead_full h1 h2).1 h3⟩
    · rintro ⟨h1, h2, h3⟩; exact ⟨h1, h2, (lead_full h1 h2).2 h3⟩
  rw [e] at h
  exact h
theorem refLeading_loop (l : List Int) (k : Nat) (hk : k ≤ 62) (hl : l.length < 9223372036854775807) : ∀ (xs pre : List Int) (s : Nat), l = pre ++ xs → s < 2 ^ k →
    Ev (fun q => sackbutref06_Leading.l0 q (k : Int) l (s : Int) l (l.length : Int) (pre.length : Int)) (partRun k s xs && decide (l.length = k)) := by
  intro xs
  induction xs with
  | nil =>
    intro pre s h0 hs
    refine Ev.succ ?_
    have e : ((l.length : Int) == (k : Int)) = decide (l.length = k) := by rw [Bool.eq_iff_iff, beq_iff_eq, decide_eq_true_eq]; omega
    simp only [sackbutref06_Leading.l0, if_neg (mid_end h0), partRun, Bool.true_and, e]
    exact Ev.some _
  | cons x xs ih =>
    intro pre s h0 hs
    refine Ev.succ ?_
    simp only [sackbutref06_Leading.l0, if_pos (mid_lt h0), if_pos (show (0 : Int) ≤ (pre.length : Int) by omega), mid_rd h0, mid_next h0 hl, partRun]
    refine Ev.ite (fun e => by simpa [e] using Ev.some false) (fun e => ?_)
    refine Ev.ite (fun e2 => by simpa [e, e2] using Ev.some false) (fun e2 => ?_)
    obtain ⟨m, rfl⟩ := Int.eq_ofNat_of_zero_le (show 0 ≤ x by omega)
    have hp2 := two_pow_lt63 (x := k) (by omega)
    have hm2 : 2 ^ m < 2 ^ k := Nat.pow_lt_pow_right (by omega) (by omega)
    have hs2 : s ||| 2 ^ m < 2 ^ k := Nat.or_lt_two_pow hs hm2
    simp only [if_pos (show (0 : Int) ≤ (m : Int) by omega), bit1_i64 (a := s) (x := m) (by omega) (by omega), shl1_i64 (x := m) (by omega), or_i64 (a := s) (b := 2 ^ m) (by omega) (by omega), if_neg e, if_neg e2, Int.toNat_natCast]
    refine Ev.ite (fun e3 => by simpa [e3] using Ev.some false) (fun e3 => ?_)
    simpa [e3] using ih (pre ++ [(m : Int)]) (s ||| 2 ^ m) (mid_mv h0) hs2
theorem refLeading_ev (l : List Int) (k : Nat) (hk : k ≤ 62) (hl : l.length < 9223372036854775807) : Ev (fun q => sackbutref06_Leading.f q (k : Int) l) (decide (LeadOf k l)) := by
  have h := refLeading_loop l k hk hl l [] 0 rfl (Nat.two_pow_pos _)
  rw [partRun_iff] at h
  have e : (decide ((∀ x ∈ l, 0 ≤ x ∧ x < (k : Int) ∧ (0 : Nat).testBit x.toNat = false) ∧ l.Nodup) && decide (l.length = k)) = decide (LeadOf k l) := by
    rw [← Bool.decide_and, decide_eq_decide]
    unfold LeadOf
    simp only [Nat.zero_testBit, and_true]
    exact ⟨fun h => ⟨h.2, h.1.1, h.1.2⟩, fun h => ⟨⟨h.2.1, h.2.2⟩, h.1⟩⟩
  rw [e] at h
  exact h
/-! voicings, in the document's words -/
theorem refVoicing_loop (n : Int) (l : List Int) (hl : l.length < 9223372036854775807) : ∀ (xs pre : List Int), l = pre ++ xs →
    Ev (fun q => sackbutref06_Voicing.l0 q n l l (l.length : Int) (pre.length : Int)) (decide ((∀ x ∈ xs, 0 ≤ x ∧ x < n) ∧ 2 ≤ n ∧ n ≤ 16 ∧ 1 ≤ l.length ∧ l.length ≤ 6)) := by
  intro xs
  induction xs with
  | nil =>
    intro pre h0
    refine Ev.succ ?_
    simp only [sackbutref06_Voicing.l0, if_neg (mid_end h0)]
    refine Ev.ite (fun e1 => ?_) (fun e1 => by rw [decide_eq_false (fun h => e1 h.2.1)]; exact Ev.some _)
    refine Ev.ite (fun e2 => ?_) (fun e2 => by rw [decide_eq_false (fun h => e2 h.2.2.1)]; exact Ev.some _)
    refine Ev.ite (fun e3 => ?_) (fun e3 => by rw [decide_eq_false (fun h => e3 (by have := h.2.2.2.1; omega))]; exact Ev.some _)
    have e : decide ((l.length : Int) ≤ 6) = decide ((∀ x ∈ ([] : List Int), 0 ≤ x ∧ x < n) ∧ 2 ≤ n ∧ n ≤ 16 ∧ 1 ≤ l.length ∧ l.length ≤ 6) := by
      rw [decide_eq_decide]
      exact ⟨fun h => ⟨by simp, e1, e2, by omega, by omega⟩, fun h => by have := h.2.2.2.2; omega⟩
    rw [e]
    exact Ev.some _
  | cons x xs ih =>
    intro pre h0
    refine Ev.succ ?_
    simp only [sackbutref06_Voicing.l0, if_pos (mid_lt h0), if_pos (show (0 : Int) ≤ (pre.length : Int) by omega), mid_rd h0, mid_next h0 hl]
    refine Ev.ite (fun e => by rw [decide_eq_false (fun h => by have := h.1 x (by simp); omega)]; exact Ev.some _) (fun e => ?_)
    refine Ev.ite (fun e2 => by rw [decide_eq_false (fun h => by have := h.1 x (by simp); omega)]; exact Ev.some _) (fun e2 => ?_)
    have e3 : decide ((∀ y ∈ x :: xs, 0 ≤ y ∧ y < n) ∧ 2 ≤ n ∧ n ≤ 16 ∧ 1 ≤ l.length ∧ l.length ≤ 6) = decide ((∀ y ∈ xs, 0 ≤ y ∧ y < n) ∧ 2 ≤ n ∧ n ≤ 16 ∧ 1 ≤ l.length ∧ l.length ≤ 6) := by
      rw [decide_eq_decide]
      constructor
      · rintro ⟨h, r⟩; exact ⟨fun y hy => h y (by simp [hy]), r⟩
      · rintro ⟨h, r⟩
        refine ⟨fun y hy => ?_, r⟩
        rcases List.mem_cons.1 hy with rfl | hy
        · omega
        · exact h y hy
    rw [e3]
    exact ih (pre ++ [x]) (mid_mv h0)
theorem refVoicing_ev (n : Int) (l : List Int) (hl : l.length < 9223372036854775807) : Ev (fun q => sackbutref06_Voicing.f q n l) (decide (VoiN n l)) := by
  have h := refVoicing_loop n l hl l [] rfl
  have e : decide ((∀ x ∈ l, 0 ≤ x ∧ x < n) ∧ 2 ≤ n ∧ n ≤ 16 ∧ 1 ≤ l.length ∧ l.length ≤ 6) = decide (VoiN n l) := by
    rw [decide_eq_decide]; unfold VoiN
    exact ⟨fun h => ⟨h.2.1, h.2.2.1, h.2.2.2.1, h.2.2.2.2, h.1⟩, fun h => ⟨h.2.2.2.2, h.1, h.2.1, h.2.2.1, h.2.2.2.1⟩⟩
  rw [e] at h
  exact h
theorem refTwo_ev (n : Int) (a b : List Int) (ha : a.length < 9223372036854775807) (hb : b.length < 9223372036854775807) : Ev (fun q => sackbutref06_Two.f q n a b) (decide (TwoN n a b)) := by
  unfold sackbutref06_Two.f
  refine Ev.bind (refVoicing_ev n a ha) ?_
  by_cases h1 : VoiN n a
  · simp only [h1, decide_true, if_true]
    refine Ev.bind (refVoicing_ev n b hb) ?_
    by_cases h2 : VoiN n b
    · simp only [h2, decide_true, if_true]
      have e : ((a.length : Int) == (b.length : Int)) = decide (TwoN n a b) := by
        rw [Bool.eq_iff_iff, beq_iff_eq, decide_eq_true_eq]; unfold TwoN
        exact ⟨fun h => ⟨h1, h2, by omega⟩, fun h => by have := h.2.2; omega⟩
      rw [e]; exact Ev.some _
    · simp only [h2, decide_false, Bool.false_eq_true, if_false]
      rw [decide_eq_false (fun h => h2 h.2.1)]; exact Ev.some _
  · simp only [h1, decide_false, Bool.false_eq_true, if_false]
    rw [decide_eq_false (fun h => h1 h.1)]; exact Ev.some _
theorem list9_f (l : List Int) : sackbutlaw06_list.f l = some (l.take 9) := by
  unfold sackbutlaw06_list.f
  rw [mn_eq, if_pos (by omega), if_pos (by omega)]
  have e : (min (l.length : Int) 9).toNat = min l.length 9 := by omega
  have e2 : l.take (min l.length 9) = l.take 9 := by
    rw [Nat.min_comm]; exact (List.take_eq_take_min ..).symm
  rw [e, e2]
  unfold slices_Clone_int_int.f
  rw [if_pos (by rw [List.length_take]; omega)]
  rfl
theorem voi_take (n : Int) (l : List Int) : VoiN n (l.take 9) ↔ VoiN n l := by
  rcases Nat.lt_or_ge 9 l.length with h | h
  · constructor
    · intro hr; have := hr.2.2.2.1; rw [List.length_take] at this; omega
    · intro hr; have := hr.2.2.2.1; omega
  · rw [List.take_of_length_le h]
theorem two_take (n : Int) (a b : List Int) : TwoN n (a.take 9) (b.take 9) ↔ TwoN n a b := by
  unfold TwoN
  rw [voi_take, voi_take]
  constructor
  · rintro ⟨h1, h2, h3⟩
    have := h1.2.2.2.1; have := h2.2.2.2.1
    rw [List.take_of_length_le (by omega), List.take_of_length_le (by omega)] at h3
    exact ⟨h1, h2, h3⟩
  · rintro ⟨h1, h2, h3⟩
    have := h1.2.2.2.1; have := h2.2.2.2.1
    rw [List.take_of_length_le (by omega), List.take_of_length_le (by omega)]
    exact ⟨h1, h2, h3⟩
theorem voi_take9 {n : Int} {l : List Int} (h : VoiN n l) : l.take 9 = l := List.take_of_length_le (by have := h.2.2.2.1; omega)
theorem lead_take {k : Nat} (hk : k ≤ 6) (l : List Int) : LeadOf k (l.take 9) ↔ LeadOf k l := by
  rcases Nat.lt_or_ge 9 l.length with h | h
  · constructor
    · intro hr; have := hr.1; rw [List.length_take] at this; omega
    · intro hr; have := hr.1; omega
  · rw [List.take_of_length_le h]
theorem awake_f : sackbutlaw06_awake.f = some true := by
  have h : TwoN 12 [0] [11] := by decide
  have e : voices_Cost.f 12 [0] [11] = some (1, 0) := by
    unfold voices_Cost.f
    rw [if_pos h]
    have : bestV 12 [0] [11] = (some [0], 1) := by decide
    rw [this]
  unfold sackbutlaw06_awake.f
  rw [e]
  rfl
theorem refMod_f {n x : Int} (hn : 2 ≤ n) (hn2 : n ≤ 16) : sackbutref06_mod.f x n = some (x % n) := by
  unfold sackbutref06_mod.f
  rw [if_neg (by omega), tmod_mod (by omega) (by omega)]
theorem refMove_f {n x y : Int} (hn : 2 ≤ n) (hn2 : n ≤ 16) (hx : 0 ≤ x ∧ x < n) (hy : 0 ≤ y ∧ y < n) : sackbutref06_Move.f n x y = some (mvN n x y) := by
  have h1 := Int.emod_nonneg (y - x) (show n ≠ 0 by omega)
  have h2 := Int.emod_lt_of_pos (y - x) (show 0 < n by omega)
  unfold sackbutref06_Move.f
  rw [wrap_id (n := y - x) (by omega) (by omega), refMod_f hn hn2, Option.bind_some, wrap_id (n := 2 * ((y - x) % n)) (by omega) (by omega)]
  unfold mvN
  by_cases h : 2 * ((y - x) % n) > n
  · rw [if_neg (by omega), if_pos h, wrap_id (by omega) (by omega)]
  · rw [if_pos (by omega), if_neg h]
theorem refDistance_f {n x y : Int} (hn : 2 ≤ n) (hn2 : n ≤ 16) (hx : 0 ≤ x ∧ x < n) (hy : 0 ≤ y ∧ y < n) : sackbutref06_Distance.f n x y = some (dsN n x y) := by
  have := mvN_bd (x := x) (y := y) hn
  unfold sackbutref06_Distance.f
  rw [refMove_f hn hn2 hx hy, Option.bind_some, Option.bind_some, wrap_id (by omega) (by omega), mx_eq]
  rfl
theorem refPrice_ev {n : Int} {a b : List Int} (ha : VoiN n a) (hb : VoiN n b) (full : List Int) (hf : full.length ≤ a.length) (hk : ∀ k ∈ full, 0 ≤ k ∧ k < b.length) : Ev (fun k => sackbutref06_Price.f k n a b full) (prI n a b full 0) := by
  obtain ⟨hn, hn2, ha1, ha2, hax⟩ := ha
  obtain ⟨_, _, hb1, hb2, hbx⟩ := hb
  have loop : ∀ (rest pre : List Int) (acc : Int), full = pre ++ rest → 0 ≤ acc → acc ≤ 16 * pre.length →
      Ev (fun k => sackbutref06_Price.l0 k n a b acc full (full.length : Int) (pre.length : Int)) (acc + prI n a b rest pre.length) := by
    intro rest
    induction rest with
    | nil =>
      intro pre acc hp h0 h1
      have p1 : ¬ (pre.length : Int) < (full.length : Int) := by rw [hp]; simp
      refine Ev.succ ?_
      simp only [sackbutref06_Price.l0, if_neg p1, prI, Int.add_zero]
      exact Ev.some _
    | cons x rest ih =>
      intro pre acc hp h0 h1
      have hlen : full.length = pre.length + (rest.length + 1) := by rw [hp]; simp
      have p1 : (pre.length : Int) < (full.length : Int) := by omega
      have p0 : (0 : Int) ≤ (pre.length : Int) := by omega
      have pa : (pre.length : Int) < (a.length : Int) := by omega
      have hrd : rd full (pre.length : Int) = x := mid_rd hp
      have hx := hk x (by rw [hp]; simp)
      have hda := getD_mem (l := a) (i := pre.length) (by omega)
      have hdb := getD_mem (l := b) (i := x.toNat) (by omega)
      have e1 : rd a (pre.length : Int) = a.getD pre.length 0 := rd_nat _ _
      have e2 : rd b x = b.getD x.toNat 0 := rfl
      have hd := dsN_bd (n := n) (x := a.getD pre.length 0) (y := b.getD x.toNat 0) hn
      have hdf := refDistance_f hn hn2 (hax _ hda) (hbx _ hdb)
      have hw : wrap64 ((pre.length : Int) + 1) = ((pre ++ [x]).length : Int) := by rw [wrap_id (by omega) (by omega)]; simp
      have hw2 : wrap64 (acc + dsN n (a.getD pre.length 0) (b.getD x.toNat 0)) = acc + dsN n (a.getD pre.length 0) (b.getD x.toNat 0) := wrap_id (by omega) (by omega)
      have hl1 : (pre ++ [x]).length = pre.length + 1 := by simp
      have go := ih (pre ++ [x]) (acc + dsN n (a.getD pre.length 0) (b.getD x.toNat 0)) (by rw [hp]; simp) (by omega) (by rw [hl1]; omega)
      rw [hl1] at go
      refine Ev.succ ?_
      simp only [sackbutref06_Price.l0, if_pos p1, if_pos p0, if_pos pa, hrd, if_pos hx.1, if_pos hx.2, e1, e2]
      refine Ev.bind_some hdf ?_
      rw [hw, hw2, hl1]
      simp only [prI]
      rw [← Int.add_assoc]
      exact go
  have h := loop full [] 0 rfl (Int.le_refl _) (by simp)
  rw [Int.zero_add] at h
  exact h

end Go.Proofs.Ytdnjbjcfbdclfaa.P
namespace Go.Proofs.Ytdnjbjcfbdclfaa.P
open Go.RowKit Go.Proofs.YtdnjbjcfbdclfaaW.PrintWords Go.Proofs.YtdnjbjcfbdclfaaW.PrintLast Go.Proofs.YtdnjbjcfbdclfaaW.PrintMore
attribute [local go_sem] max2_int min2_int max_two min_two max_three min_three max_four min_four   -- for this text's walks alone
set_option linter.unusedVariables false
set_option linter.unusedSimpArgs false

/-! whether voices cross, in the program's way and in the document's -/
def stB (n lo hi j : Int) : Bool := decide (lo < j * n ∧ j * n < hi)
def meetB (n a am b bm : Int) : Bool := decide (a ≠ b) && (stB n (min ((b - a) % n) ((b - a) % n + bm - am)) (max ((b - a) % n) ((b - a) % n + bm - am)) (-1) || (stB n (min ((b - a) % n) ((b - a) % n + bm - am)) (max ((b - a) % n) ((b - a) % n + bm - am)) 0 || (stB n (min ((b - a) % n) ((b - a) % n + bm - am)) (max ((b - a) % n) ((b - a) % n + bm - am)) 1 || (stB n (min ((b - a) % n) ((b - a) % n + bm - am)) (max ((b - a) % n) ((b - a) % n + bm - am)) 2 || false))))
def rtB (n ap gr j : Int) : Bool := decide ((0 < j * n - ap ∧ j * n - ap < gr) ∨ (j * n - ap < 0 ∧ gr < j * n - ap))
def crB (n a am b bm : Int) : Bool := decide (a ≠ b) && (rtB n (a - b) (am - bm) (-2) || (rtB n (a - b) (am - bm) (-1) || (rtB n (a - b) (am - bm) 0 || (rtB n (a - b) (am - bm) 1 || (rtB n (a - b) (am - bm) 2 || false)))))
theorem diff_mod {n a b : Int} (ha : 0 ≤ a ∧ a < n) (hb : 0 ≤ b ∧ b < n) : (a ≤ b ∧ (b - a) % n = b - a) ∨ (b < a ∧ (b - a) % n = b - a + n) := by
  rcases Int.lt_or_le b a with h | h
  · right; refine ⟨h, ?_⟩
    rw [← Int.add_emod_right, Int.emod_eq_of_lt (by omega) (by omega)]
  · left; exact ⟨h, Int.emod_eq_of_lt (by omega) (by omega)⟩
theorem rtB_neg (n ap gr j : Int) : rtB n ap gr j = rtB n (-ap) (-gr) (-j) := by
  unfold rtB
  rw [decide_eq_decide, Int.neg_mul]
  generalize j * n = v
  omega
theorem crB_symm {n a am b bm : Int} : crB n a am b bm = crB n b bm a am := by
  unfold crB
  have e1 : b - a = -(a - b) := by omega
  have e2 : bm - am = -(am - bm) := by omega
  have e3 : decide (a ≠ b) = decide (b ≠ a) := by rw [decide_eq_decide]; exact ⟨fun h e => h e.symm, fun h e => h e.symm⟩
  rw [e1, e2, e3]
  generalize a - b = ap
  generalize am - bm = gr
  rw [rtB_neg n ap gr (-2), rtB_neg n ap gr (-1), rtB_neg n ap gr 0, rtB_neg n ap gr 1, rtB_neg n ap gr 2]
  simp only [Int.neg_neg, Int.neg_zero]
  generalize rtB n (-ap) (-gr) 2 = b2
  generalize rtB n (-ap) (-gr) 1 = b1
  generalize rtB n (-ap) (-gr) 0 = b0
  generalize rtB n (-ap) (-gr) (-1) = c1
  generalize rtB n (-ap) (-gr) (-2) = c2
  cases b2 <;> cases b1 <;> cases b0 <;> cases c1 <;> cases c2 <;> rfl
theorem nextI {j : Nat} (h : j ≤ 100000) : wrap64 ((j : Int) + 1) = ((j + 1 : Nat) : Int) := by rw [wrap_id (by omega) (by omega)]; omega
theorem nextJ {j : Nat} (h : j ≤ 100000) : wrap64 ((j : Int) + 1) = (j : Int) + 1 := wrap_id (by omega) (by omega)
theorem meet_cr {n a am b bm : Int} (ha : 0 ≤ a ∧ a < n) (hb : 0 ≤ b ∧ b < n) (h1 : -n ≤ 2 * am ∧ 2 * am ≤ n) (h2 : -n ≤ 2 * bm ∧ 2 * bm ≤ n) : meetB n a am b bm = crB n a am b bm := by
  rw [Bool.eq_iff_iff]
  unfold meetB crB rtB stB
  rcases diff_mod ha hb with ⟨h, e⟩ | ⟨h, e⟩
  all_goals
    rw [e]
    simp only [Bool.and_eq_true, Bool.or_eq_true, decide_eq_true_eq, Bool.false_eq_true, or_false]
    omega
theorem meet_step {n lo hi j : Int} {r : Bool} (hn : 0 ≤ n ∧ n ≤ 16) (hj : -10 ≤ j ∧ j ≤ 2) (h : Ev (fun k => voices_circle_meet.l0 k n lo hi (j + 1)) r) (hjn : -160 ≤ j * n ∧ j * n ≤ 160) : Ev (fun k => voices_circle_meet.l0 k n lo hi j) (stB n lo hi j || r) := by
  have hw1 : wrap64 (j + 1) = j + 1 := wrap_id (by omega) (by omega)
  have hw : wrap64 (j * n) = j * n := wrap_id (by omega) (by omega)
  refine Ev.succ ?_
  unfold stB
  simp only [voices_circle_meet.l0, if_pos hj.2, hw, hw1]
  refine Ev.ite (fun e1 => ?_) (fun e1 => ?_)
  · refine Ev.ite (fun e2 => ?_) (fun e2 => ?_)
    · rw [decide_eq_true ⟨e1, e2⟩, Bool.true_or]; exact Ev.some _
    · rw [decide_eq_false (fun h => e2 h.2), Bool.false_or]; exact h
  · rw [decide_eq_false (fun h => e1 h.1), Bool.false_or]; exact h
theorem meet_ev {n a am b bm : Int} (hn : 2 ≤ n) (hn2 : n ≤ 16) (ha : 0 ≤ a ∧ a < n) (hb : 0 ≤ b ∧ b < n) (h1 : -n ≤ 2 * am ∧ 2 * am ≤ n) (h2 : -n ≤ 2 * bm ∧ 2 * bm ≤ n) : Ev (fun k => voices_circle_meet.f k n a am b bm) (meetB n a am b bm) := by
  have m1 := Int.emod_nonneg (b - a) (show n ≠ 0 by omega)
  have m2 := Int.emod_lt_of_pos (b - a) (show 0 < n by omega)
  unfold voices_circle_meet.f meetB
  refine Ev.ite (fun e => by rw [decide_eq_false (fun h => h e), Bool.false_and]; exact Ev.some _) (fun e => ?_)
  rw [decide_eq_true e, Bool.true_and, wrap_id (n := b - a) (by omega) (by omega)]
  refine Ev.bind_some (mod_f hn hn2) ?_
  generalize (b - a) % n = f at *
  rw [wrap_id (n := f + bm) (by omega) (by omega), wrap_id (n := f + bm - am) (by omega) (by omega), mn_eq, mx_eq]
  refine meet_step (by omega) (by omega) ?_ (by omega)
  refine meet_step (by omega) (by omega) ?_ (by omega)
  refine meet_step (by omega) (by omega) ?_ (by omega)
  refine meet_step (by omega) (by omega) ?_ (by omega)
  refine Ev.succ ?_
  simp only [voices_circle_meet.l0]
  exact Ev.some _
/-- what two voices need of each other -/
def toneI (a : List Int) (i : Nat) : Int := a.getD i 0
def mvAt (n : Int) (a b l : List Int) (i : Nat) : Int := mvN n (toneI a i) (toneI b (toneI l i).toNat)
theorem rd_toneI (a : List Int) (i : Nat) : rd a (i : Int) = toneI a i := rd_nat a i
theorem mv_all {n : Int} {a b l : List Int} (h : TwoN n a b) (hl : l.length = a.length) (hk : ∀ k ∈ l, 0 ≤ k ∧ k < (a.length : Int)) {i : Nat} (hi : i < a.length) :
    (0 ≤ toneI a i ∧ toneI a i < n) ∧ (0 ≤ toneI l i ∧ toneI l i < (b.length : Int)) ∧ (0 ≤ toneI b (toneI l i).toNat ∧ toneI b (toneI l i).toNat < n) ∧ (-n ≤ 2 * mvAt n a b l i ∧ 2 * mvAt n a b l i ≤ n) := by
  have h1 := h.1.2.2.2.2 _ (getD_mem (l := a) (i := i) hi)
  have h2 := hk _ (getD_mem (l := l) (i := i) (by omega))
  have hab := h.2.2
  have h3 := h.2.1.2.2.2.2 _ (getD_mem (l := b) (i := (l.getD i 0).toNat) (by omega))
  exact ⟨h1, ⟨h2.1, by show l.getD i 0 < _; omega⟩, h3, mvN_bd h.1.1⟩
def meetF (n : Int) (a b l : List Int) (i j : Nat) : Bool := meetB n (toneI a i) (mvAt n a b l i) (toneI a j) (mvAt n a b l j)
def crF (n : Int) (a b l : List Int) (i j : Nat) : Bool := crB n (toneI a i) (mvAt n a b l i) (toneI a j) (mvAt n a b l j)
theorem cross_l1 {n : Int} {a b l : List Int} (h : TwoN n a b) (hl : l.length = a.length) (hk : ∀ k ∈ l, 0 ≤ k ∧ k < (a.length : Int)) {i : Nat} (hi : i < a.length) (r : Bool) (hr : Ev (fun k => voices_circle_cross.l0 k n a b l (a.length : Int) ((i : Int) + 1)) r) : ∀ (m j : Nat) (o : Bool), j + m = i → (o = true ↔ (∃ j', j ≤ j' ∧ j' < i ∧ meetF n a b l i j' = true) ∨ r = true) →
    Ev (fun k => voices_circle_cross.l1 k n a b l (i : Int) (a.length : Int) (i : Int) (i : Int) (j : Int)) o := by
  have hlen := h.1.2.2.2.1
  obtain ⟨x1, x2, x3, x4⟩ := mv_all h hl hk hi
  intro m
  induction m with
  | zero =>
    intro j o hj ho
    have p1 : ¬ (j : Int) < (i : Int) := by omega
    have hi5 : i ≤ 100000 := by omega
    refine Ev.succ ?_
    simp only [voices_circle_cross.l1, if_neg p1, nextJ hi5]
    have : o = r := by
      rw [Bool.eq_iff_iff, ho]
      exact ⟨fun h => h.elim (fun ⟨j', h1, h2, _⟩ => by omega) id, .inr⟩
    rw [this]; exact hr
  | succ m ih =>
    intro j o hj ho
    have hji : j < a.length := by omega
    obtain ⟨y1, y2, y3, y4⟩ := mv_all h hl hk hji
    have p1 : (j : Int) < (i : Int) := by omega
    have q1 : (0 : Int) ≤ (i : Int) := by omega
    have q2 : (i : Int) < (a.length : Int) := by omega
    have q3 : (i : Int) < (l.length : Int) := by omega
    have q4 : (0 : Int) ≤ (j : Int) := by omega
    have q5 : (j : Int) < (a.length : Int) := by omega
    have q6 : (j : Int) < (l.length : Int) := by omega
    have e1 : rd b (toneI l i) = toneI b (toneI l i).toNat := rfl
    have e2 : rd b (toneI l j) = toneI b (toneI l j).toNat := rfl
    have hj5 : j ≤ 100000 := by omega
    have hstep : j + 1 + m = i := by omega
    have go := ih (j + 1)
    refine Ev.succ ?_
    simp only [voices_circle_cross.l1, if_pos p1, if_pos q1, if_pos q2, if_pos q3, if_pos q4, if_pos q5, if_pos q6, rd_toneI, if_pos y2.1, if_pos y2.2, if_pos x2.1, if_pos x2.2, e1, e2]
    refine Ev.bind_some (movement_f h.1.1 h.1.2.1 x1 x3) ?_
    refine Ev.bind_some (movement_f h.1.1 h.1.2.1 y1 y3) ?_
    refine Ev.bind (meet_ev h.1.1 h.1.2.1 x1 y1 x4 y4) ?_
    refine Ev.ite (fun e => ?_) (fun e => ?_)
    · have : o = true := ho.2 (.inl ⟨j, Nat.le_refl _, by omega, e⟩)
      rw [this]; exact Ev.some _
    · rw [nextI hj5]
      refine go o hstep (ho.trans ⟨fun h => h.imp (fun ⟨j', h1, h2, h3⟩ => ⟨j', ?_, h2, h3⟩) id, fun h => h.imp (fun ⟨j', h1, h2, h3⟩ => ⟨j', by omega, h2, h3⟩) id⟩)
      rcases Nat.lt_or_ge j j' with h4 | h4
      · omega
      · obtain rfl : j = j' := by omega
        exact absurd h3 e
theorem cross_ev {n : Int} {a b l : List Int} (h : TwoN n a b) (hl : l.length = a.length) (hk : ∀ k ∈ l, 0 ≤ k ∧ k < (a.length : Int)) (o : Bool) (ho : o = true ↔ ∃ i, i < a.length ∧ ∃ j, j < i ∧ meetF n a b l i j = true) : Ev (fun k => voices_circle_cross.f k n a b l) o := by
  have hlen := h.1.2.2.2.1
  have loop : ∀ (m i : Nat) (o : Bool), i + m = a.length → (o = true ↔ ∃ i', i ≤ i' ∧ i' < a.length ∧ ∃ j, j < i' ∧ meetF n a b l i' j = true) → Ev (fun k => voices_circle_cross.l0 k n a b l (a.length : Int) (i : Int)) o := by
    intro m
    induction m with
    | zero =>
      intro i o hi ho
      have p1 : ¬ (i : Int) < (a.length : Int) := by omega
      refine Ev.succ ?_
      simp only [voices_circle_cross.l0, if_neg p1]
      have : o = false := by
        rw [Bool.eq_false_iff]; intro h1
        obtain ⟨i', h2, h3, _⟩ := ho.1 h1; omega
      rw [this]; exact Ev.some _
    | succ m ih =>
      intro i o hi ho
      have p1 : (i : Int) < (a.length : Int) := by omega
      refine Ev.succ ?_
      simp only [voices_circle_cross.l0, if_pos p1]
      obtain ⟨r, hr⟩ : ∃ r : Bool, r = true ↔ ∃ i', i + 1 ≤ i' ∧ i' < a.length ∧ ∃ j, j < i' ∧ meetF n a b l i' j = true := by
        rcases Classical.em (∃ i', i + 1 ≤ i' ∧ i' < a.length ∧ ∃ j, j < i' ∧ meetF n a b l i' j = true) with h1 | h1
        · exact ⟨true, by simp [h1]⟩
        · exact ⟨false, by simp [h1]⟩
      have go := ih (i + 1) r (by omega) hr
      refine cross_l1 h hl hk (by omega) r go i 0 o (by omega) (ho.trans ?_)
      rw [hr]
      constructor
      · rintro ⟨i', h1, h2, j, h3, h4⟩
        rcases Nat.lt_or_ge i i' with h5 | h5
        · exact .inr ⟨i', h5, h2, j, h3, h4⟩
        · obtain rfl : i = i' := by omega
          exact .inl ⟨j, by omega, h3, h4⟩
      · rintro (⟨j, _, h2, h3⟩ | ⟨i', h1, h2, h3⟩)
        · exact ⟨i, Nat.le_refl _, by omega, j, h2, h3⟩
        · exact ⟨i', by omega, h2, h3⟩
  unfold voices_circle_cross.f
  exact loop a.length 0 o (by omega) (ho.trans ⟨fun ⟨i, h1, h2⟩ => ⟨i, by omega, h1, h2⟩, fun ⟨i, _, h1, h2⟩ => ⟨i, h1, h2⟩⟩)
theorem refCross_l2 {n ap gr : Int} {a b l : List Int} {i j : Nat} {x17 : Int} (hn : 0 ≤ n ∧ n ≤ 16) (hap : -16 ≤ ap ∧ ap ≤ 16) {t : Int} (ht : -10 ≤ t ∧ t ≤ 2) (htn : -160 ≤ t * n ∧ t * n ≤ 160) {r : Bool}
    (h : Ev (fun k => sackbutref06_Cross.l2 k n a b l (i : Int) ap gr (t + 1) (l.length : Int) x17 (l.length : Int) (j : Int)) r) : Ev (fun k => sackbutref06_Cross.l2 k n a b l (i : Int) ap gr t (l.length : Int) x17 (l.length : Int) (j : Int)) (rtB n ap gr t || r) := by
  have hw1 : wrap64 (t + 1) = t + 1 := wrap_id (by omega) (by omega)
  have hw : wrap64 (t * n) = t * n := wrap_id (by omega) (by omega)
  have hw2 : wrap64 (t * n - ap) = t * n - ap := wrap_id (by omega) (by omega)
  refine Ev.succ ?_
  unfold rtB
  simp only [sackbutref06_Cross.l2, if_pos ht.2, hw, hw1, hw2]
  generalize t * n - ap = v
  refine Ev.ite (fun e1 => ?_) (fun e1 => ?_)
  · refine Ev.ite (fun e2 => ?_) (fun e2 => ?_)
    · rw [decide_eq_true (.inl ⟨e1, e2⟩), Bool.true_or]; exact Ev.some _
    · refine Ev.ite (fun e3 => by omega) (fun e3 => ?_)
      rw [decide_eq_false (fun h => by omega), Bool.false_or]; exact h
  · refine Ev.ite (fun e2 => ?_) (fun e2 => ?_)
    · refine Ev.ite (fun e3 => ?_) (fun e3 => ?_)
      · rw [decide_eq_true (.inr ⟨e2, e3⟩), Bool.true_or]; exact Ev.some _
      · rw [decide_eq_false (fun h => by omega), Bool.false_or]; exact h
    · rw [decide_eq_false (fun h => by omega), Bool.false_or]; exact h
theorem refCross_l1 {n : Int} {a b l : List Int} (h : TwoN n a b) (hl : l.length = a.length) (hk : ∀ k ∈ l, 0 ≤ k ∧ k < (a.length : Int)) {i : Nat} (hi : i < a.length) (r : Bool) (hr : Ev (fun k => sackbutref06_Cross.l0 k n a b l (l.length : Int) ((i : Int) + 1)) r) : ∀ (m j : Nat) (o : Bool), j + m = l.length → (o = true ↔ (∃ j', j ≤ j' ∧ j' < l.length ∧ crF n a b l i j' = true) ∨ r = true) →
    Ev (fun k => sackbutref06_Cross.l1 k n a b l (i : Int) (l.length : Int) (i : Int) (l.length : Int) (j : Int)) o := by
  have hlen := h.1.2.2.2.1
  have hn := h.1.1
  have hn2 := h.1.2.1
  obtain ⟨x1, x2, x3, x4⟩ := mv_all h hl hk hi
  intro m
  induction m with
  | zero =>
    intro j o hj ho
    have p1 : ¬ (j : Int) < (l.length : Int) := by omega
    have hi5 : i ≤ 100000 := by omega
    refine Ev.succ ?_
    simp only [sackbutref06_Cross.l1, if_neg p1, nextJ hi5]
    have : o = r := by
      rw [Bool.eq_iff_iff, ho]
      exact ⟨fun h => h.elim (fun ⟨j', h1, h2, _⟩ => by omega) id, .inr⟩
    rw [this]; exact hr
  | succ m ih =>
    intro j o hj ho
    have hji : j < a.length := by omega
    obtain ⟨y1, y2, y3, y4⟩ := mv_all h hl hk hji
    have p1 : (j : Int) < (l.length : Int) := by omega
    have q1 : (0 : Int) ≤ (i : Int) := by omega
    have q2 : (i : Int) < (a.length : Int) := by omega
    have q3 : (i : Int) < (l.length : Int) := by omega
    have q4 : (0 : Int) ≤ (j : Int) := by omega
    have q5 : (j : Int) < (a.length : Int) := by omega
    have e1 : rd b (toneI l i) = toneI b (toneI l i).toNat := rfl
    have e2 : rd b (toneI l j) = toneI b (toneI l j).toNat := rfl
    obtain ⟨s, hs⟩ : ∃ s : Bool, s = true ↔ (∃ j', j + 1 ≤ j' ∧ j' < l.length ∧ crF n a b l i j' = true) ∨ r = true := by
      rcases Classical.em ((∃ j', j + 1 ≤ j' ∧ j' < l.length ∧ crF n a b l i j' = true) ∨ r = true) with h1 | h1
      · exact ⟨true, by simp [h1]⟩
      · exact ⟨false, by simp [h1]⟩
    have go := ih (j + 1) s (by omega) hs
    have hos : o = (crF n a b l i j || s) := by
      rw [Bool.eq_iff_iff, ho, Bool.or_eq_true, hs]
      constructor
      · rintro (⟨j', h1, h2, h3⟩ | h1)
        · rcases Nat.lt_or_ge j j' with h4 | h4
          · exact .inr (.inl ⟨j', h4, h2, h3⟩)
          · obtain rfl : j = j' := by omega
            exact .inl h3
        · exact .inr (.inr h1)
      · rintro (h1 | ⟨j', h1, h2, h3⟩ | h1)
        · exact .inl ⟨j, Nat.le_refl _, by omega, h1⟩
        · exact .inl ⟨j', by omega, h2, h3⟩
        · exact .inr h1
    have hj5 : j ≤ 100000 := by omega
    rw [hos]
    unfold crF crB
    refine Ev.succ ?_
    simp only [sackbutref06_Cross.l1, if_pos p1, if_pos q1, if_pos q2, if_pos q4, if_pos q5, rd_toneI]
    refine Ev.ite (fun e => ?_) (fun e => ?_)
    · rw [decide_eq_false (fun h => h e), Bool.false_and, Bool.false_or, nextI hj5]; exact go
    · rw [decide_eq_true e, Bool.true_and]
      simp only [if_pos q3, if_pos y2.1, if_pos y2.2, if_pos x2.1, if_pos x2.2, e1, e2]
      refine Ev.bind_some (refMove_f hn hn2 x1 x3) ?_
      refine Ev.bind_some (refMove_f hn hn2 y1 y3) ?_
      show Ev (fun k => sackbutref06_Cross.l2 k n a b l (i : Int) (wrap64 (toneI a i - toneI a j)) (wrap64 (mvAt n a b l i - mvAt n a b l j)) (-2) (l.length : Int) (i : Int) (l.length : Int) (j : Int)) _
      rw [wrap_id (n := toneI a i - toneI a j) (by omega) (by omega), wrap_id (n := mvAt n a b l i - mvAt n a b l j) (by omega) (by omega)]
      rw [Bool.or_assoc, Bool.or_assoc, Bool.or_assoc, Bool.or_assoc, Bool.or_assoc, Bool.false_or]
      refine refCross_l2 (by omega) (by omega) (by omega) (by omega) ?_
      refine refCross_l2 (by omega) (by omega) (by omega) (by omega) ?_
      refine refCross_l2 (by omega) (by omega) (by omega) (by omega) ?_
      refine refCross_l2 (by omega) (by omega) (by omega) (by omega) ?_
      refine refCross_l2 (by omega) (by omega) (by omega) (by omega) ?_
      refine Ev.succ ?_
      simp only [sackbutref06_Cross.l2]
      refine Ev.ite (fun h => absurd h (by decide)) (fun _ => ?_)
      rw [nextI hj5]
      exact go
theorem refCross_ev {n : Int} {a b l : List Int} (h : TwoN n a b) (hl : l.length = a.length) (hk : ∀ k ∈ l, 0 ≤ k ∧ k < (a.length : Int)) (o : Bool) (ho : o = true ↔ ∃ i, i < a.length ∧ ∃ j, j < a.length ∧ crF n a b l i j = true) : Ev (fun k => sackbutref06_Cross.f k n a b l) o := by
  have hlen := h.1.2.2.2.1
  have loop : ∀ (m i : Nat) (o : Bool), i + m = l.length → (o = true ↔ ∃ i', i ≤ i' ∧ i' < l.length ∧ ∃ j, j < l.length ∧ crF n a b l i' j = true) → Ev (fun k => sackbutref06_Cross.l0 k n a b l (l.length : Int) (i : Int)) o := by
    intro m
    induction m with
    | zero =>
      intro i o hi ho
      have p1 : ¬ (i : Int) < (l.length : Int) := by omega
      refine Ev.succ ?_
      simp only [sackbutref06_Cross.l0, if_neg p1]
      have : o = false := by
        rw [Bool.eq_false_iff]; intro h1
        obtain ⟨i', h2, h3, _⟩ := ho.1 h1; omega
      rw [this]; exact Ev.some _
    | succ m ih =>
      intro i o hi ho
      have p1 : (i : Int) < (l.length : Int) := by omega
      refine Ev.succ ?_
      simp only [sackbutref06_Cross.l0, if_pos p1]
      obtain ⟨r, hr⟩ : ∃ r : Bool, r = true ↔ ∃ i', i + 1 ≤ i' ∧ i' < l.length ∧ ∃ j, j < l.length ∧ crF n a b l i' j = true := by
        rcases Classical.em (∃ i', i + 1 ≤ i' ∧ i' < l.length ∧ ∃ j, j < l.length ∧ crF n a b l i' j = true) with h1 | h1
        · exact ⟨true, by simp [h1]⟩
        · exact ⟨false, by simp [h1]⟩
      have go := ih (i + 1) r (by omega) hr
      refine refCross_l1 h hl hk (by omega) r go l.length 0 o (by omega) (ho.trans ?_)
      rw [hr]
      constructor
      · rintro ⟨i', h1, h2, j, h3, h4⟩
        rcases Nat.lt_or_ge i i' with h5 | h5
        · exact .inr ⟨i', h5, h2, j, h3, h4⟩
        · obtain rfl : i = i' := by omega
          exact .inl ⟨j, by omega, h3, h4⟩
      · rintro (⟨j, _, h2, h3⟩ | ⟨i', h1, h2, h3⟩)
        · exact ⟨i, Nat.le_refl _, by omega, j, h2, h3⟩
        · exact ⟨i', by omega, h2, h3⟩
  unfold sackbutref06_Cross.f
  rw [hl] at loop ⊢
  exact loop a.length 0 o (by omega) (ho.trans ⟨fun ⟨i, h1, h2⟩ => ⟨i, by omega, h1, h2⟩, fun ⟨i, _, h1, h2⟩ => ⟨i, h1, h2⟩⟩)
def CrossP (n : Int) (a b l : List Int) : Prop := ∃ i, i < a.length ∧ ∃ j, j < a.length ∧ crF n a b l i j = true
noncomputable instance (n : Int) (a b l : List Int) : Decidable (CrossP n a b l) := Classical.propDecidable _
theorem crF_self (n : Int) (a b l : List Int) (i : Nat) : crF n a b l i i = false := by unfold crF crB; simp
theorem cross_iff {n : Int} {a b l : List Int} (h : TwoN n a b) (hl : l.length = a.length) (hk : ∀ k ∈ l, 0 ≤ k ∧ k < (a.length : Int)) : (∃ i, i < a.length ∧ ∃ j, j < i ∧ meetF n a b l i j = true) ↔ CrossP n a b l := by
  have hm : ∀ i j, i < a.length → j < a.length → meetF n a b l i j = crF n a b l i j := fun i j hi hj => by
    obtain ⟨x1, _, _, x4⟩ := mv_all h hl hk hi
    obtain ⟨y1, _, _, y4⟩ := mv_all h hl hk hj
    exact meet_cr x1 y1 x4 y4
  constructor
  · rintro ⟨i, h1, j, h2, h3⟩
    exact ⟨i, h1, j, by omega, by rw [← hm i j h1 (by omega)]; exact h3⟩
  · rintro ⟨i, h1, j, h2, h3⟩
    rcases Nat.lt_trichotomy i j with h4 | h4 | h4
    · refine ⟨j, h2, i, h4, ?_⟩
      rw [hm j i h2 h1]
      unfold crF at h3 ⊢
      rw [crB_symm]; exact h3
    · subst h4; rw [crF_self] at h3; cases h3
    · exact ⟨i, h1, j, h4, by rw [hm i j h1 h2]; exact h3⟩

end Go.Proofs.Ytdnjbjcfbdclfaa.P
namespace Go.Proofs.Ytdnjbjcfbdclfaa.P
open Go.RowKit Go.Proofs.YtdnjbjcfbdclfaaW.PrintWords Go.Proofs.YtdnjbjcfbdclfaaW.PrintLast Go.Proofs.YtdnjbjcfbdclfaaW.PrintMore
attribute [local go_sem] max2_int min2_int max_two min_two max_three min_three max_four min_four   -- for this text's walks alone
set_option linter.unusedVariables false
set_option linter.unusedSimpArgs false

theorem Price_ev (n : Int) (a b l : List Int) (hl : l.length < 9223372036854775807) : Ev (fun k => voices_Price.f k n a b l) (if TwoN n a b ∧ LeadOf a.length l then (prI n a b l 0, 0) else (0, 2)) := by
  unfold voices_Price.f
  refine Ev.bind (valid2_ev n a b) ?_
  by_cases h : TwoN n a b
  · simp only [h, decide_true, if_true, true_and]
    refine Ev.bind (isLeading_ev l a.length (by have := h.1.2.2.2.1; omega) hl) ?_
    by_cases h2 : LeadOf a.length l
    · simp only [h2, decide_true, if_true]
      exact Ev.bind (price_ev h.1 h.2.1 l (by rw [h2.1]; exact Nat.le_refl _) (fun k hk => by have := h2.2.1 k hk; have := h.2.2; omega)) (Ev.some _)
    · simp only [h2, decide_false, Bool.false_eq_true, if_false]
      exact Ev.some _
  · simp only [h, decide_false, Bool.false_eq_true, if_false, false_and]
    exact Ev.some _
theorem Cross_ev (n : Int) (a b l : List Int) (hl : l.length < 9223372036854775807) : Ev (fun k => voices_Cross.f k n a b l) (if TwoN n a b ∧ LeadOf a.length l then (decide (CrossP n a b l), 0) else (false, 2)) := by
  unfold voices_Cross.f
  refine Ev.bind (valid2_ev n a b) ?_
  by_cases h : TwoN n a b
  · simp only [h, decide_true, if_true, true_and]
    refine Ev.bind (isLeading_ev l a.length (by have := h.1.2.2.2.1; omega) hl) ?_
    by_cases h2 : LeadOf a.length l
    · simp only [h2, decide_true, if_true]
      exact Ev.bind (cross_ev h h2.1 h2.2.1 (decide (CrossP n a b l)) (by rw [decide_eq_true_eq]; exact (cross_iff h h2.1 h2.2.1).symm)) (Ev.some _)
    · simp only [h2, decide_false, Bool.false_eq_true, if_false]
      exact Ev.some _
  · simp only [h, decide_false, Bool.false_eq_true, if_false, false_and]
    exact Ev.some _
theorem VoicesPrices : sackbutlaw06_VoicesPrices.Pure := by
  intro n a b l _ ha1 _ _ hb1 _ _ hl1 _ _
  have hM : maxLen = 9223372036854775807 := rfl
  refine Ev.rounds (g := fun k => sackbutlaw06_VoicesPrices.f k n a b l) ?_
  unfold sackbutlaw06_VoicesPrices.f
  refine Ev.bind_some (list9_f a) ?_
  refine Ev.bind_some (list9_f b) ?_
  refine Ev.bind_some (list9_f l) ?_
  refine Ev.bind (Price_ev n _ _ _ (by rw [List.length_take]; omega)) ?_
  refine Ev.bind_some (list9_f a) ?_
  refine Ev.bind_some (list9_f b) ?_
  refine Ev.bind_some (list9_f l) ?_
  refine Ev.bind (Cross_ev n _ _ _ (by rw [List.length_take]; omega)) ?_
  refine Ev.bind (refTwo_ev n a b (by omega) (by omega)) ?_
  by_cases h : TwoN n a b
  · have h9 : TwoN n (a.take 9) (b.take 9) := (two_take n a b).2 h
    have hal := h.1.2.2.2.1
    rw [voi_take9 h.1, voi_take9 h.2.1]
    simp only [h, decide_true, if_true, true_and]
    refine Ev.bind (refLeading_ev l a.length (by omega) (by omega)) ?_
    by_cases h2 : LeadOf a.length l
    · have e9 : l.take 9 = l := List.take_of_length_le (by have := h2.1; omega)
      rw [e9]
      simp only [h2, decide_true, if_true, Bool.not_true]
      refine Ev.succ ?_
      simp only [sackbutlaw06_VoicesPrices.j0, Bool.false_eq_true, if_false]
      refine Ev.bind (refPrice_ev h.1 h.2.1 l (by rw [h2.1]; exact Nat.le_refl _) (fun k hk => by have := h2.2.1 k hk; have := h.2.2; omega)) ?_
      simp only [if_true]
      refine Ev.bind (refCross_ev h h2.1 h2.2.1 (decide (CrossP n a b l)) (by rw [decide_eq_true_eq]; rfl)) ?_
      simp only [beq_self_eq_true, if_true]
      exact Ev.bind_some awake_f (Ev.some _)
    · have e2 : ¬ LeadOf a.length (l.take 9) := fun h3 => h2 ((lead_take hal l).1 h3)
      simp only [h2, e2, decide_false, if_false, Bool.not_false]
      refine Ev.succ ?_
      simp only [sackbutlaw06_VoicesPrices.j0, if_true, Bool.false_eq_true, if_false]
      exact Ev.bind_some awake_f (Ev.some _)
  · have h9 : ¬ TwoN n (a.take 9) (b.take 9) := fun h3 => h ((two_take n a b).1 h3)
    simp only [h, h9, decide_false, false_and, if_false, Bool.false_eq_true]
    refine Ev.succ ?_
    simp only [sackbutlaw06_VoicesPrices.j0, if_true, Bool.false_eq_true, if_false]
    exact Ev.bind_some awake_f (Ev.some _)

end Go.Proofs.Ytdnjbjcfbdclfaa.P
