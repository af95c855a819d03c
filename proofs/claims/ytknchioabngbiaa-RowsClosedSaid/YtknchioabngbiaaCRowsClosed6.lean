/- A part of a proof that a law's Go function returns true for every input, laid by this session's program mp.py (which drives the kit's print). Conditions: as each theorem states them. -/
import Derived.Test.YtknchioabngbiaaCRowsClosed1
import Derived.Test.YtknchioabngbiaaCRowsClosed2
import Derived.Test.YtknchioabngbiaaCRowsClosed4
import Derived.Test.YtknchioabngbiaaCRowsClosed5
namespace Go.Proofs.Ytknchioabngbiaa.P
open Go.RowKit Go.Proofs.YtknchioabngbiaaW.PrintWords Go.Proofs.YtknchioabngbiaaW.PrintLast Go.Proofs.YtknchioabngbiaaW.PrintMore
attribute [local go_sem] max2_int min2_int max_two min_two max_three min_three max_four min_four   -- for this text's walks alone
set_option linter.unusedVariables false
set_option linter.unusedSimpArgs false

/-! ### sackbutlaw05_RowsClosed: function 6 -/
def sackbutlaw05_RowsClosed.j0 : Nat → List Int → List Int → Int → List Int → Int → List (List Int) → Int → Bool → Option (Bool)
  | 0, _, _, _, _, _, _, _, _ => none
  | k + 1, x0, x11, x12, x13, x14, x15, x16, x78 => if x78 = true then (if x12 = 2 then ((sackbutlaw05_awake.f k).bind fun t1025 => (some t1025)) else (if x12 = 0 then ((sackbutref05_Row.f k x11).bind fun t1026 => (if t1026 = true then (if x14 = 2 then ((sackbutlaw05_awake.f k).bind fun t1027 => (some t1027)) else (some false)) else (some false))) else (some false))) else ((sackbutlaw05_list.f x0).bind fun t1028 => ((slices_Clone_int_int.f x13).bind fun t1031 => ((rows_Way.f t1028 t1031).bind fun bt1034 => ((sackbutlaw05_list.f x0).bind fun t1038 => ((rows_Form.f k t1038 bt1034.1 bt1034.2.1).bind fun bt1041 => ((sackbutlaw05_list.f x0).bind fun t1045 => ((rows_Every.f k t1045).bind fun bt1048 => ((slices_Clone_int_int.f x13).bind fun t1050 => ((rows_Every.f k t1050).bind fun bt1053 => ((sackbutlaw05_list.f x0).bind fun t1055 => ((rows_Prime.f t1055).bind fun bt1058 => ((slices_Clone_int_int.f x13).bind fun t1062 => ((rows_Prime.f t1062).bind fun bt1065 => (if x16 = 0 then (if bt1034.2.2 = 0 then (if bt1041.2 = 0 then (if bt1048.2 = 0 then (if bt1053.2 = 0 then (if bt1058.2 = 0 then (if bt1065.2 = 0 then ((slices_Equal_int_int.f k x13 bt1041.1).bind fun t1069 => (if t1069 = true then (if (bt1048.1 == bt1053.1) = true then ((slices_Equal_int_int.f k bt1058.1 bt1065.1).bind fun t1070 => (if t1070 = true then (if (x15.length : Int) > 0 then (if (x15.length : Int) = 0 then (none) else (if (Int.tmod (wrap64 (4 * (x0.length : Int))) (x15.length : Int)) = 0 then (if 0 < (x15.length : Int) then ((slices_Equal_int_int.f k (rd_L1 x15 0) bt1058.1).bind fun t1072 => (if t1072 = true then ((sackbutlaw05_awake.f k).bind fun t1073 => (some t1073)) else (some false))) else (none)) else (some false))) else (some false)) else (some false))) else (some false)) else (some false))) else (some false)) else (some false)) else (some false)) else (some false)) else (some false)) else (some false)) else (some false)))))))))))))))
def sackbutlaw05_RowsClosed.f (k : Nat) (l0 : List Int) (a1 : Int) (a2 : Int) (a3 : Int) (a4 : Int) : Option (Bool) := (sackbutlaw05_list.f l0).bind fun t1001 => ((rows_Form.f k t1001 a1 a2).bind fun bt1004 => ((slices_Clone_int_int.f bt1004.1).bind fun t1008 => ((rows_Form.f k t1008 a3 a4).bind fun bt1011 => ((sackbutlaw05_list.f l0).bind fun t1015 => ((rows_Forms.f t1015).bind fun bt1018 => (if bt1004.2 = 0 then (if bt1011.2 = 0 then ((sackbutref05_Row.f k l0).bind fun t1022 => (if t1022 = true then ((sackbutref05_Row.f k bt1004.1).bind fun t1023 => (if t1023 = true then ((sackbutref05_Row.f k bt1011.1).bind fun t1024 => (if t1024 = true then (sackbutlaw05_RowsClosed.j0 k l0 bt1004.1 bt1004.2 bt1011.1 bt1011.2 bt1018.1 bt1018.2 ((bt1011.1.length : Int) != (l0.length : Int))) else (sackbutlaw05_RowsClosed.j0 k l0 bt1004.1 bt1004.2 bt1011.1 bt1011.2 bt1018.1 bt1018.2 true))) else (sackbutlaw05_RowsClosed.j0 k l0 bt1004.1 bt1004.2 bt1011.1 bt1011.2 bt1018.1 bt1018.2 true))) else (sackbutlaw05_RowsClosed.j0 k l0 bt1004.1 bt1004.2 bt1011.1 bt1011.2 bt1018.1 bt1018.2 true))) else (sackbutlaw05_RowsClosed.j0 k l0 bt1004.1 bt1004.2 bt1011.1 bt1011.2 bt1018.1 bt1018.2 true)) else (sackbutlaw05_RowsClosed.j0 k l0 bt1004.1 bt1004.2 bt1011.1 bt1011.2 bt1018.1 bt1018.2 true)))))))
theorem sackbutlaw05_RowsClosed.mono_l : ∀ k, (∀ y0 y1 y2 y3 y4 y5 y6 y7, LeO (sackbutlaw05_RowsClosed.j0 k y0 y1 y2 y3 y4 y5 y6 y7) (sackbutlaw05_RowsClosed.j0 (k + 1) y0 y1 y2 y3 y4 y5 y6 y7))
  | 0 => fun _ _ _ _ _ _ _ _ r h => by simp [sackbutlaw05_RowsClosed.j0] at h
  | k + 1 => by
    have ih0 := sackbutlaw05_RowsClosed.mono_l k
    · intro y0 y1 y2 y3 y4 y5 y6 y7
      unfold sackbutlaw05_RowsClosed.j0
      repeat' first
      | (with_reducible exact ih0 _ _ _ _ _ _ _ _)
      | (with_reducible exact rows_Every.mono _ _)
      | (with_reducible exact rows_Form.mono _ _ _ _)
      | (with_reducible exact sackbutlaw05_awake.mono _)
      | (with_reducible exact sackbutref05_Row.mono _ _)
      | (with_reducible exact slices_Equal_int_int.mono _ _ _)
      | (with_reducible exact LeO.refl _)
      | (with_reducible exact LeO.none _)
      | (with_reducible refine LeO.ite ?_ ?_)
      | (with_reducible refine LeO.bind ?_ (fun _ => ?_))
      | exact ih0 _ _ _ _ _ _ _ _
      | exact rows_Every.mono _ _
      | exact rows_Form.mono _ _ _ _
      | exact sackbutlaw05_awake.mono _
      | exact sackbutref05_Row.mono _ _
      | exact slices_Equal_int_int.mono _ _ _
      | exact LeO.none _
      | refine LeO.ite ?_ ?_
      | refine LeO.bind ?_ (fun _ => ?_)
theorem sackbutlaw05_RowsClosed.mono : ∀ a0 a1 a2 a3 a4 k, LeO (sackbutlaw05_RowsClosed.f k a0 a1 a2 a3 a4) (sackbutlaw05_RowsClosed.f (k + 1) a0 a1 a2 a3 a4) := by
  intro a0 a1 a2 a3 a4 k
  have ih0 := sackbutlaw05_RowsClosed.mono_l k
  unfold sackbutlaw05_RowsClosed.f
  repeat' first
      | (with_reducible exact ih0 _ _ _ _ _ _ _ _)
      | (with_reducible exact rows_Every.mono _ _)
      | (with_reducible exact rows_Form.mono _ _ _ _)
      | (with_reducible exact sackbutlaw05_awake.mono _)
      | (with_reducible exact sackbutref05_Row.mono _ _)
      | (with_reducible exact slices_Equal_int_int.mono _ _ _)
      | (with_reducible exact LeO.refl _)
      | (with_reducible exact LeO.none _)
      | (with_reducible refine LeO.ite ?_ ?_)
      | (with_reducible refine LeO.bind ?_ (fun _ => ?_))
      | exact ih0 _ _ _ _ _ _ _ _
      | exact rows_Every.mono _ _
      | exact rows_Form.mono _ _ _ _
      | exact sackbutlaw05_awake.mono _
      | exact sackbutref05_Row.mono _ _
      | exact slices_Equal_int_int.mono _ _ _
      | exact LeO.none _
      | refine LeO.ite ?_ ?_
      | refine LeO.bind ?_ (fun _ => ?_)
def sackbutlaw05_RowsClosed.T7 : Bool × List (List Nat × List Nat) := (true, [([], []), ([0], [0]), ([], []), ([2], [2]), ([], []), ([4], [4]), ([1, 3, 5, 1], [1, 3, 5]), ([6], [6]), ([7], [7]), ([7], [7]), ([8, 6, 0, 1, 2, 3, 4, 5, 6, 7, 8], [8]), ([9, 10, 0, 1, 2, 3, 4, 5, 6, 7, 8, 9, 10], [9])])
def sackbutlaw05_RowsClosed.B7 : List Nat := [0, 1, 0, 4, 0, 16, 63, 127, 255, 255, 511, 2047]
theorem sackbutlaw05_RowsClosed.tab7 : rtab .any (opsOf Try.f6 7) = sackbutlaw05_RowsClosed.T7 := by kernel_rfl
theorem sackbutlaw05_RowsClosed.bits7 : waitsOk sackbutlaw05_RowsClosed.T7.2 sackbutlaw05_RowsClosed.B7 = true := by kernel_rfl
set_option maxHeartbeats 60000000 in
set_option maxRecDepth 100000 in
theorem sackbutlaw05_RowsClosed.calls (k : Nat) (A0 : Option Addr) (c0 : Nat) (l0 : List Int) (a1 : Int) (a2 : Int) (a3 : Int) (a4 : Int) (r : Bool) (w : World) (hr0 : Kd.C (Kd.int .i64) w A0 l0.length l0) (hc0 : l0.length ≤ c0) (h : sackbutlaw05_RowsClosed.f k l0 a1 a2 a3 a4 = some r) (hr0 : r = true) :
    Calls Try.prog 6 #[.slice A0 l0.length c0, .int .i64 a1, .int .i64 a2, .int .i64 a3, .int .i64 a4] w fun e w' => e = .returned (.bool r) ∧ Below w.heap.size w w' := by
  have hr := Aside0.mk hr0
  clear hr0
  have hu46 := Try.underlying46
  have HR0 := Aside0.mk hr0
  have HC0 := Aside0.mk hc0
  clear hr0 hc0
  have HB := Aside0.mk (Below.refl w.heap.size w)
  have H : ((sackbutlaw05_list.f l0).bind fun t1001 => ((rows_Form.f k t1001 a1 a2).bind fun bt1004 => ((slices_Clone_int_int.f bt1004.1).bind fun t1008 => ((rows_Form.f k t1008 a3 a4).bind fun bt1011 => ((sackbutlaw05_list.f l0).bind fun t1015 => ((rows_Forms.f t1015).bind fun bt1018 => (if bt1004.2 = 0 then (if bt1011.2 = 0 then ((sackbutref05_Row.f k l0).bind fun t1022 => (if t1022 = true then ((sackbutref05_Row.f k bt1004.1).bind fun t1023 => (if t1023 = true then ((sackbutref05_Row.f k bt1011.1).bind fun t1024 => (if t1024 = true then (sackbutlaw05_RowsClosed.j0 k l0 bt1004.1 bt1004.2 bt1011.1 bt1011.2 bt1018.1 bt1018.2 ((bt1011.1.length : Int) != (l0.length : Int))) else (sackbutlaw05_RowsClosed.j0 k l0 bt1004.1 bt1004.2 bt1011.1 bt1011.2 bt1018.1 bt1018.2 true))) else (sackbutlaw05_RowsClosed.j0 k l0 bt1004.1 bt1004.2 bt1011.1 bt1011.2 bt1018.1 bt1018.2 true))) else (sackbutlaw05_RowsClosed.j0 k l0 bt1004.1 bt1004.2 bt1011.1 bt1011.2 bt1018.1 bt1018.2 true))) else (sackbutlaw05_RowsClosed.j0 k l0 bt1004.1 bt1004.2 bt1011.1 bt1011.2 bt1018.1 bt1018.2 true)) else (sackbutlaw05_RowsClosed.j0 k l0 bt1004.1 bt1004.2 bt1011.1 bt1011.2 bt1018.1 bt1018.2 true)))))))) = some r := h
  clear h
  replace H := Option.bind_eq_some_iff.mp H
  obtain ⟨t1001, A60, H⟩ := H
  replace H : ((rows_Form.f k t1001 a1 a2).bind fun bt1004 => ((slices_Clone_int_int.f bt1004.1).bind fun t1008 => ((rows_Form.f k t1008 a3 a4).bind fun bt1011 => ((sackbutlaw05_list.f l0).bind fun t1015 => ((rows_Forms.f t1015).bind fun bt1018 => (if bt1004.2 = 0 then (if bt1011.2 = 0 then ((sackbutref05_Row.f k l0).bind fun t1022 => (if t1022 = true then ((sackbutref05_Row.f k bt1004.1).bind fun t1023 => (if t1023 = true then ((sackbutref05_Row.f k bt1011.1).bind fun t1024 => (if t1024 = true then (sackbutlaw05_RowsClosed.j0 k l0 bt1004.1 bt1004.2 bt1011.1 bt1011.2 bt1018.1 bt1018.2 ((bt1011.1.length : Int) != (l0.length : Int))) else (sackbutlaw05_RowsClosed.j0 k l0 bt1004.1 bt1004.2 bt1011.1 bt1011.2 bt1018.1 bt1018.2 true))) else (sackbutlaw05_RowsClosed.j0 k l0 bt1004.1 bt1004.2 bt1011.1 bt1011.2 bt1018.1 bt1018.2 true))) else (sackbutlaw05_RowsClosed.j0 k l0 bt1004.1 bt1004.2 bt1011.1 bt1011.2 bt1018.1 bt1018.2 true))) else (sackbutlaw05_RowsClosed.j0 k l0 bt1004.1 bt1004.2 bt1011.1 bt1011.2 bt1018.1 bt1018.2 true)) else (sackbutlaw05_RowsClosed.j0 k l0 bt1004.1 bt1004.2 bt1011.1 bt1011.2 bt1018.1 bt1018.2 true))))))) = some r := H
  have A6 := Aside0.mk A60
  clear A60
  replace H := Option.bind_eq_some_iff.mp H
  obtain ⟨⟨t1004, t1007⟩, A70, H⟩ := H
  replace H : ((slices_Clone_int_int.f t1004).bind fun t1008 => ((rows_Form.f k t1008 a3 a4).bind fun bt1011 => ((sackbutlaw05_list.f l0).bind fun t1015 => ((rows_Forms.f t1015).bind fun bt1018 => (if t1007 = 0 then (if bt1011.2 = 0 then ((sackbutref05_Row.f k l0).bind fun t1022 => (if t1022 = true then ((sackbutref05_Row.f k t1004).bind fun t1023 => (if t1023 = true then ((sackbutref05_Row.f k bt1011.1).bind fun t1024 => (if t1024 = true then (sackbutlaw05_RowsClosed.j0 k l0 t1004 t1007 bt1011.1 bt1011.2 bt1018.1 bt1018.2 ((bt1011.1.length : Int) != (l0.length : Int))) else (sackbutlaw05_RowsClosed.j0 k l0 t1004 t1007 bt1011.1 bt1011.2 bt1018.1 bt1018.2 true))) else (sackbutlaw05_RowsClosed.j0 k l0 t1004 t1007 bt1011.1 bt1011.2 bt1018.1 bt1018.2 true))) else (sackbutlaw05_RowsClosed.j0 k l0 t1004 t1007 bt1011.1 bt1011.2 bt1018.1 bt1018.2 true))) else (sackbutlaw05_RowsClosed.j0 k l0 t1004 t1007 bt1011.1 bt1011.2 bt1018.1 bt1018.2 true)) else (sackbutlaw05_RowsClosed.j0 k l0 t1004 t1007 bt1011.1 bt1011.2 bt1018.1 bt1018.2 true)))))) = some r := H
  have A7 := Aside0.mk A70
  clear A70
  replace H := Option.bind_eq_some_iff.mp H
  obtain ⟨t1008, A80, H⟩ := H
  replace H : ((rows_Form.f k t1008 a3 a4).bind fun bt1011 => ((sackbutlaw05_list.f l0).bind fun t1015 => ((rows_Forms.f t1015).bind fun bt1018 => (if t1007 = 0 then (if bt1011.2 = 0 then ((sackbutref05_Row.f k l0).bind fun t1022 => (if t1022 = true then ((sackbutref05_Row.f k t1004).bind fun t1023 => (if t1023 = true then ((sackbutref05_Row.f k bt1011.1).bind fun t1024 => (if t1024 = true then (sackbutlaw05_RowsClosed.j0 k l0 t1004 t1007 bt1011.1 bt1011.2 bt1018.1 bt1018.2 ((bt1011.1.length : Int) != (l0.length : Int))) else (sackbutlaw05_RowsClosed.j0 k l0 t1004 t1007 bt1011.1 bt1011.2 bt1018.1 bt1018.2 true))) else (sackbutlaw05_RowsClosed.j0 k l0 t1004 t1007 bt1011.1 bt1011.2 bt1018.1 bt1018.2 true))) else (sackbutlaw05_RowsClosed.j0 k l0 t1004 t1007 bt1011.1 bt1011.2 bt1018.1 bt1018.2 true))) else (sackbutlaw05_RowsClosed.j0 k l0 t1004 t1007 bt1011.1 bt1011.2 bt1018.1 bt1018.2 true)) else (sackbutlaw05_RowsClosed.j0 k l0 t1004 t1007 bt1011.1 bt1011.2 bt1018.1 bt1018.2 true))))) = some r := H
  have A8 := Aside0.mk A80
  clear A80
  replace H := Option.bind_eq_some_iff.mp H
  obtain ⟨⟨t1011, t1014⟩, A90, H⟩ := H
  replace H : ((sackbutlaw05_list.f l0).bind fun t1015 => ((rows_Forms.f t1015).bind fun bt1018 => (if t1007 = 0 then (if t1014 = 0 then ((sackbutref05_Row.f k l0).bind fun t1022 => (if t1022 = true then ((sackbutref05_Row.f k t1004).bind fun t1023 => (if t1023 = true then ((sackbutref05_Row.f k t1011).bind fun t1024 => (if t1024 = true then (sackbutlaw05_RowsClosed.j0 k l0 t1004 t1007 t1011 t1014 bt1018.1 bt1018.2 ((t1011.length : Int) != (l0.length : Int))) else (sackbutlaw05_RowsClosed.j0 k l0 t1004 t1007 t1011 t1014 bt1018.1 bt1018.2 true))) else (sackbutlaw05_RowsClosed.j0 k l0 t1004 t1007 t1011 t1014 bt1018.1 bt1018.2 true))) else (sackbutlaw05_RowsClosed.j0 k l0 t1004 t1007 t1011 t1014 bt1018.1 bt1018.2 true))) else (sackbutlaw05_RowsClosed.j0 k l0 t1004 t1007 t1011 t1014 bt1018.1 bt1018.2 true)) else (sackbutlaw05_RowsClosed.j0 k l0 t1004 t1007 t1011 t1014 bt1018.1 bt1018.2 true)))) = some r := H
  have A9 := Aside0.mk A90
  clear A90
  replace H := Option.bind_eq_some_iff.mp H
  obtain ⟨t1015, A100, H⟩ := H
  replace H : ((rows_Forms.f t1015).bind fun bt1018 => (if t1007 = 0 then (if t1014 = 0 then ((sackbutref05_Row.f k l0).bind fun t1022 => (if t1022 = true then ((sackbutref05_Row.f k t1004).bind fun t1023 => (if t1023 = true then ((sackbutref05_Row.f k t1011).bind fun t1024 => (if t1024 = true then (sackbutlaw05_RowsClosed.j0 k l0 t1004 t1007 t1011 t1014 bt1018.1 bt1018.2 ((t1011.length : Int) != (l0.length : Int))) else (sackbutlaw05_RowsClosed.j0 k l0 t1004 t1007 t1011 t1014 bt1018.1 bt1018.2 true))) else (sackbutlaw05_RowsClosed.j0 k l0 t1004 t1007 t1011 t1014 bt1018.1 bt1018.2 true))) else (sackbutlaw05_RowsClosed.j0 k l0 t1004 t1007 t1011 t1014 bt1018.1 bt1018.2 true))) else (sackbutlaw05_RowsClosed.j0 k l0 t1004 t1007 t1011 t1014 bt1018.1 bt1018.2 true)) else (sackbutlaw05_RowsClosed.j0 k l0 t1004 t1007 t1011 t1014 bt1018.1 bt1018.2 true))) = some r := H
  have A10 := Aside0.mk A100
  clear A100
  replace H := Option.bind_eq_some_iff.mp H
  obtain ⟨⟨t1018, t1019⟩, A110, H⟩ := H
  replace H : (if t1007 = 0 then (if t1014 = 0 then ((sackbutref05_Row.f k l0).bind fun t1022 => (if t1022 = true then ((sackbutref05_Row.f k t1004).bind fun t1023 => (if t1023 = true then ((sackbutref05_Row.f k t1011).bind fun t1024 => (if t1024 = true then (sackbutlaw05_RowsClosed.j0 k l0 t1004 t1007 t1011 t1014 t1018 t1019 ((t1011.length : Int) != (l0.length : Int))) else (sackbutlaw05_RowsClosed.j0 k l0 t1004 t1007 t1011 t1014 t1018 t1019 true))) else (sackbutlaw05_RowsClosed.j0 k l0 t1004 t1007 t1011 t1014 t1018 t1019 true))) else (sackbutlaw05_RowsClosed.j0 k l0 t1004 t1007 t1011 t1014 t1018 t1019 true))) else (sackbutlaw05_RowsClosed.j0 k l0 t1004 t1007 t1011 t1014 t1018 t1019 true)) else (sackbutlaw05_RowsClosed.j0 k l0 t1004 t1007 t1011 t1014 t1018 t1019 true)) = some r := H
  have A11 := Aside0.mk A110
  clear A110
  have HC12 := Aside0.mk H
  clear H
  go_enter Try.func6, Try.ntmps6
  go_upto_region 4 with (first | ((with_reducible refine gate_callee (f := 16) rfl ?_); refine goesL_ (some 31) rfl rfl Try.func16 (by kernel_rfl) rfl #[.slice A0 l0.length c0] rfl (by (try simp only [List.map_toArray, List.map_cons, List.map_nil]); first | done | rfl | (simp only [List.length_drop, List.length_take]; rfl)) ?_; (with_reducible refine (sackbutlaw05_list.calls _ _ l0 t1001 _ ?side1 ?side2 A6.out).mono ?_); (case side1 => repeat (first | exact HR0.out | (with_reducible refine Kd.C_alloc ?_ _) | (with_reducible refine Kd.C_drewN ?_ _) | (with_reducible refine Kd.C_drew ?_))); (case side2 => exact HC0.out); rintro e w13 ⟨v1002, rfl, ho0, hb⟩; refine ⟨_, rfl, ?_⟩; have n0_ := Aside0.mk (Kd.R_lower ho0 (below_size (by repeat (first | (with_reducible first | exact HB.out | apply below_alloc | apply pw_below_drewN | apply below_drew1) | exact HB.out)))); have n1_ := Aside0.mk (below_step (by repeat (first | (with_reducible first | exact HB.out | apply below_alloc | apply pw_below_drewN | apply below_drew1) | exact HB.out)) hb); clear HB; have HO1003 := n0_; have HB := n1_; clear n0_ n1_; (try clear hb); (try clear hb2); (try clear hk); (try clear hi); (try clear ho0); obtain ⟨Ao14, co14, eo14⟩ := Kd.R_slice HO1003.out; subst eo14) | ((with_reducible refine gate_callee (f := 17) rfl ?_); refine goesL_ (some 34) rfl rfl Try.func17 (by kernel_rfl) rfl #[.slice Ao14 t1001.length co14, .int .i64 a1, .int .i64 a2] rfl (by (try simp only [List.map_toArray, List.map_cons, List.map_nil]); first | done | rfl | (simp only [List.length_drop, List.length_take]; rfl)) ?_; (with_reducible refine (rows_Form.calls k (fun k_ => some k_ = (.slice Ao14 t1001.length co14 : Value).ownBlock) (.slice Ao14 t1001.length co14) t1001 a1 a2 t1004 t1007 w _ ?side1 ?side2 A7.out).mono ?_); (case side1 => repeat (first | (with_reducible first | exact HB.out | apply below_alloc | apply pw_below_drewN | apply below_drew1) | exact HB.out)); (case side2 => exact Kd.R_tight rfl HO1003.out); rintro e w15 ⟨v1005, rfl, ho0, hb, hkp⟩; refine ⟨_, rfl, ?_⟩; have n0_ := Aside0.mk (Kd.R_mono (ok' := fun k_ => True) ho0 (fun k_ hk_ => trivial)); have n1_ := Aside0.mk (hb); clear HB; clear HO1003; have HO1006 := n0_; have HB := n1_; clear n0_ n1_; (try clear hb); (try clear hkp); (try clear ho0); obtain ⟨Ao16, co16, eo16⟩ := Kd.R_slice HO1006.out; subst eo16) | ((with_reducible refine gate_callee (f := 18) rfl ?_); refine goesL_ (some 39) rfl rfl Try.func18 (by kernel_rfl) rfl #[.slice Ao16 t1004.length co16] rfl (by (try simp only [List.map_toArray, List.map_cons, List.map_nil]); first | done | rfl | (simp only [List.length_drop, List.length_take]; rfl)) ?_; (with_reducible refine (slices_Clone_int_int.calls _ _ t1004 t1008 _ ?side1 ?side2 A8.out).mono ?_); (case side1 => repeat (first | exact (Kd.R_reads' HO1006.out).2.2 | (with_reducible refine Kd.C_alloc ?_ _) | (with_reducible refine Kd.C_drewN ?_ _) | (with_reducible refine Kd.C_drew ?_))); (case side2 => exact (Kd.R_reads' HO1006.out).2.1); rintro e w17 ⟨v1009, rfl, ho0, hb⟩; refine ⟨_, rfl, ?_⟩; have n0_ := Aside0.mk (Kd.R_elder' (by (with_reducible repeat (first | apply Kd.R_alloc | apply Kd.R_drewN | apply Kd.R_drew)); exact HO1006.out) (Kd.R_base ho0) hb); have n1_ := Aside0.mk (Kd.R_lower (Kd.R_new' ho0 (Kd.R_lt (by (with_reducible repeat (first | apply Kd.R_alloc | apply Kd.R_drewN | apply Kd.R_drew)); exact HO1006.out))) (below_size (by repeat (first | (with_reducible first | exact HB.out | apply below_alloc | apply pw_below_drewN | apply below_drew1) | exact HB.out)))); have n2_ := Aside0.mk (below_step (by repeat (first | (with_reducible first | exact HB.out | apply below_alloc | apply pw_below_drewN | apply below_drew1) | exact HB.out)) hb); clear HO1006; clear HB; have HO1006 := n0_; have HO1010 := n1_; have HB := n2_; clear n0_ n1_ n2_; (try clear hb); (try clear hb2); (try clear hk); (try clear hi); (try clear ho0); obtain ⟨Ao18, co18, eo18⟩ := Kd.R_slice HO1010.out; subst eo18) | ((with_reducible refine gate_callee (f := 17) rfl ?_); refine goesL_ (some 42) rfl rfl Try.func17 (by kernel_rfl) rfl #[.slice Ao18 t1008.length co18, .int .i64 a3, .int .i64 a4] rfl (by (try simp only [List.map_toArray, List.map_cons, List.map_nil]); first | done | rfl | (simp only [List.length_drop, List.length_take]; rfl)) ?_; (with_reducible refine (rows_Form.calls k (fun k_ => some k_ = (.slice Ao18 t1008.length co18 : Value).ownBlock) (.slice Ao18 t1008.length co18) t1008 a3 a4 t1011 t1014 w _ ?side1 ?side2 A9.out).mono ?_); (case side1 => repeat (first | (with_reducible first | exact HB.out | apply below_alloc | apply pw_below_drewN | apply below_drew1) | exact HB.out)); (case side2 => exact Kd.R_tight rfl HO1010.out); rintro e w19 ⟨v1012, rfl, ho0, hb, hkp⟩; refine ⟨_, rfl, ?_⟩; have n0_ := Aside0.mk (Kd.R_mono (ok' := fun k_ => some k_ ≠ (v1012 : Value).ownBlock) (Kd.R_keptB (HO1006.out) hkp (fun k_ hk_ hs_ => (hk_.2) hs_)) (fun k_ hk_ => fun e_ => Or.elim (ho0.1 k_ e_.symm) (fun hs_ => hk_.2.1 hs_) (fun hn_ => Nat.not_le.2 hk_.2.2 hn_))); have n1_ := Aside0.mk (Kd.R_mono (ok' := fun k_ => some k_ ≠ (.slice Ao16 t1004.length co16 : Value).ownBlock) ho0 (fun k_ hk_ => Or.elim hk_ (fun hs_ => fun e_ => (((HO1006.out).1 k_ e_.symm).2) hs_) (fun hn_ => (Kd.fresh' (Kd.R_lt (by (with_reducible repeat (first | apply Kd.R_alloc | apply Kd.R_drewN | apply Kd.R_drew)); exact HO1006.out)) k_ hn_)))); have n2_ := Aside0.mk (hb); clear HO1006; clear HB; clear HO1010; have HO1006 := n0_; have HO1013 := n1_; have HB := n2_; clear n0_ n1_ n2_; (try clear hb); (try clear hkp); (try clear ho0)) | ((with_reducible refine gate_callee (f := 16) rfl ?_); refine goesL_ (some 47) rfl rfl Try.func16 (by kernel_rfl) rfl #[.slice A0 l0.length c0] rfl (by (try simp only [List.map_toArray, List.map_cons, List.map_nil]); first | done | rfl | (simp only [List.length_drop, List.length_take]; rfl)) ?_; (with_reducible refine (sackbutlaw05_list.calls _ _ l0 t1015 _ ?side1 ?side2 A10.out).mono ?_); (case side1 => repeat (first | exact (Kd.C_below HR0.out HB.out) | (with_reducible refine Kd.C_alloc ?_ _) | (with_reducible refine Kd.C_drewN ?_ _) | (with_reducible refine Kd.C_drew ?_))); (case side2 => exact HC0.out); rintro e w20 ⟨v1016, rfl, ho0, hb⟩; refine ⟨_, rfl, ?_⟩; have n0_ := Aside0.mk (Kd.R_elder' (by (with_reducible repeat (first | apply Kd.R_alloc | apply Kd.R_drewN | apply Kd.R_drew)); exact HO1006.out) (Kd.R_base ho0) hb); have n1_ := Aside0.mk (Kd.R_elder' (by (with_reducible repeat (first | apply Kd.R_alloc | apply Kd.R_drewN | apply Kd.R_drew)); exact HO1013.out) (Kd.R_base ho0) hb); have n2_ := Aside0.mk (Kd.R_lower (Kd.R_new' (Kd.R_new' ho0 (Kd.R_lt (by (with_reducible repeat (first | apply Kd.R_alloc | apply Kd.R_drewN | apply Kd.R_drew)); exact HO1006.out))) (Kd.R_lt (by (with_reducible repeat (first | apply Kd.R_alloc | apply Kd.R_drewN | apply Kd.R_drew)); exact HO1013.out))) (below_size (by repeat (first | (with_reducible first | exact HB.out | apply below_alloc | apply pw_below_drewN | apply below_drew1) | exact HB.out)))); have n3_ := Aside0.mk (below_step (by repeat (first | (with_reducible first | exact HB.out | apply below_alloc | apply pw_below_drewN | apply below_drew1) | exact HB.out)) hb); clear HO1006; clear HO1013; clear HB; have HO1006 := n0_; have HO1013 := n1_; have HO1017 := n2_; have HB := n3_; clear n0_ n1_ n2_ n3_; (try clear hb); (try clear hb2); (try clear hk); (try clear hi); (try clear ho0); obtain ⟨Ao21, co21, eo21⟩ := Kd.R_slice HO1017.out; subst eo21) | ((with_reducible refine gate_callee (f := 21) rfl ?_); refine goesL_ (some 48) rfl rfl Try.func21 (by kernel_rfl) rfl #[.slice Ao21 t1015.length co21] rfl (by (try simp only [List.map_toArray, List.map_cons, List.map_nil]); first | done | rfl | (simp only [List.length_drop, List.length_take]; rfl)) ?_; (with_reducible refine (rows_Forms.calls _ _ t1015 t1018 t1019 _ ?side1 ?side2 A11.out).mono ?_); (case side1 => repeat (first | exact (Kd.R_reads' HO1017.out).2.2 | (with_reducible refine Kd.C_alloc ?_ _) | (with_reducible refine Kd.C_drewN ?_ _) | (with_reducible refine Kd.C_drew ?_))); (case side2 => exact (Kd.R_reads' HO1017.out).2.1); rintro e w22 ⟨v1020, rfl, ho0, hb⟩; refine ⟨_, rfl, ?_⟩; have n0_ := Aside0.mk (Kd.R_below (by (with_reducible repeat (first | apply Kd.R_alloc | apply Kd.R_drewN | apply Kd.R_drew)); exact HO1006.out) hb); have n1_ := Aside0.mk (Kd.R_below (by (with_reducible repeat (first | apply Kd.R_alloc | apply Kd.R_drewN | apply Kd.R_drew)); exact HO1013.out) hb); have n2_ := Aside0.mk (Kd.R_below (by (with_reducible repeat (first | apply Kd.R_alloc | apply Kd.R_drewN | apply Kd.R_drew)); exact HO1017.out) hb); have n3_ := Aside0.mk (Kd.S_lower (Kd.S_new' (Kd.S_new' (Kd.S_new' ho0 (Kd.R_lt (by (with_reducible repeat (first | apply Kd.R_alloc | apply Kd.R_drewN | apply Kd.R_drew)); exact HO1006.out))) (Kd.R_lt (by (with_reducible repeat (first | apply Kd.R_alloc | apply Kd.R_drewN | apply Kd.R_drew)); exact HO1013.out))) (Kd.R_lt (by (with_reducible repeat (first | apply Kd.R_alloc | apply Kd.R_drewN | apply Kd.R_drew)); exact HO1017.out))) (below_size (by repeat (first | (with_reducible first | exact HB.out | apply below_alloc | apply pw_below_drewN | apply below_drew1) | exact HB.out)))); have n4_ := Aside0.mk (below_step (by repeat (first | (with_reducible first | exact HB.out | apply below_alloc | apply pw_below_drewN | apply below_drew1) | exact HB.out)) hb); clear HO1006; clear HO1013; clear HO1017; clear HB; have HO1006 := n0_; have HO1013 := n1_; have HO1017 := n2_; have HO1021 := n3_; have HB := n4_; clear n0_ n1_ n2_ n3_ n4_; (try clear hb); (try clear hb2); (try clear hk); (try clear hi); (try clear ho0)))
  (try simp only [Act.put, List.setIfInBounds_toArray, List.set_cons_zero, List.set_cons_succ])
  go_cut [78] (fun v78 wc => ∃ (kq : Nat) (x78_11 : Bool), v78 = .bool x78_11 ∧ Aside0 (sackbutlaw05_RowsClosed.j0 kq l0 t1004 t1007 t1011 t1014 t1018 t1019 x78_11 = some r) ∧ Aside0 (kq ≤ k) ∧ Aside0 (Kd.R (Kd.int .i64) 3 wc w.heap.size (fun k_ => some k_ ≠ (v1012 : Value).ownBlock) (.slice Ao16 t1004.length co16) t1004) ∧ Aside0 (Kd.R (Kd.int .i64) 3 wc w.heap.size (fun k_ => some k_ ≠ ((.slice Ao16 t1004.length co16) : Value).ownBlock) v1012 t1011) ∧ Aside0 (Kd.S (Kd.slice 3 (Kd.int .i64)) 27 wc w.heap.size (fun k_ => some k_ ≠ ((.slice Ao16 t1004.length co16) : Value).ownBlock ∧ some k_ ≠ (v1012 : Value).ownBlock) v1020 t1018) ∧ Aside0 (Below w.heap.size w wc))
  case first =>
    have H := HC12.out
    clear HC12
    by_cases c23 : t1007 = 0
    · rw [if_pos c23] at H
      have c23b0 : (t1007 == 0) = true := beq_iff_eq.mpr c23
      have c23b1 : (t1007 != 0) = false := bne_eq_false_iff_eq.mpr c23
      clear c23
      (first | rw [c23b0] | (simp only [i64_w, i32_w]; rw [c23b0]) | skip)
      by_cases c24 : t1014 = 0
      · rw [if_pos c24] at H
        have c24b0 : (t1014 == 0) = true := beq_iff_eq.mpr c24
        have c24b1 : (t1014 != 0) = false := bne_eq_false_iff_eq.mpr c24
        clear c24
        replace H := Option.bind_eq_some_iff.mp H
        obtain ⟨t1022, A250, H⟩ := H
        replace H : (if t1022 = true then ((sackbutref05_Row.f k t1004).bind fun t1023 => (if t1023 = true then ((sackbutref05_Row.f k t1011).bind fun t1024 => (if t1024 = true then (sackbutlaw05_RowsClosed.j0 k l0 t1004 t1007 t1011 t1014 t1018 t1019 ((t1011.length : Int) != (l0.length : Int))) else (sackbutlaw05_RowsClosed.j0 k l0 t1004 t1007 t1011 t1014 t1018 t1019 true))) else (sackbutlaw05_RowsClosed.j0 k l0 t1004 t1007 t1011 t1014 t1018 t1019 true))) else (sackbutlaw05_RowsClosed.j0 k l0 t1004 t1007 t1011 t1014 t1018 t1019 true)) = some r := H
        have A25 := Aside0.mk A250
        clear A250
        by_cases c26 : t1022 = true
        · subst c26
          have H1 : ((sackbutref05_Row.f k t1004).bind fun t1023 => (if t1023 = true then ((sackbutref05_Row.f k t1011).bind fun t1024 => (if t1024 = true then (sackbutlaw05_RowsClosed.j0 k l0 t1004 t1007 t1011 t1014 t1018 t1019 ((t1011.length : Int) != (l0.length : Int))) else (sackbutlaw05_RowsClosed.j0 k l0 t1004 t1007 t1011 t1014 t1018 t1019 true))) else (sackbutlaw05_RowsClosed.j0 k l0 t1004 t1007 t1011 t1014 t1018 t1019 true))) = some r := by rw [if_pos rfl] at H; exact H
          clear H
          have H := H1
          clear H1
          replace H := Option.bind_eq_some_iff.mp H
          obtain ⟨t1023, A270, H⟩ := H
          replace H : (if t1023 = true then ((sackbutref05_Row.f k t1011).bind fun t1024 => (if t1024 = true then (sackbutlaw05_RowsClosed.j0 k l0 t1004 t1007 t1011 t1014 t1018 t1019 ((t1011.length : Int) != (l0.length : Int))) else (sackbutlaw05_RowsClosed.j0 k l0 t1004 t1007 t1011 t1014 t1018 t1019 true))) else (sackbutlaw05_RowsClosed.j0 k l0 t1004 t1007 t1011 t1014 t1018 t1019 true)) = some r := H
          have A27 := Aside0.mk A270
          clear A270
          by_cases c28 : t1023 = true
          · subst c28
            have H1 : ((sackbutref05_Row.f k t1011).bind fun t1024 => (if t1024 = true then (sackbutlaw05_RowsClosed.j0 k l0 t1004 t1007 t1011 t1014 t1018 t1019 ((t1011.length : Int) != (l0.length : Int))) else (sackbutlaw05_RowsClosed.j0 k l0 t1004 t1007 t1011 t1014 t1018 t1019 true))) = some r := by rw [if_pos rfl] at H; exact H
            clear H
            have H := H1
            clear H1
            replace H := Option.bind_eq_some_iff.mp H
            obtain ⟨t1024, A290, H⟩ := H
            replace H : (if t1024 = true then (sackbutlaw05_RowsClosed.j0 k l0 t1004 t1007 t1011 t1014 t1018 t1019 ((t1011.length : Int) != (l0.length : Int))) else (sackbutlaw05_RowsClosed.j0 k l0 t1004 t1007 t1011 t1014 t1018 t1019 true)) = some r := H
            have A29 := Aside0.mk A290
            clear A290
            by_cases c30 : t1024 = true
            · subst c30
              have H1 : (sackbutlaw05_RowsClosed.j0 k l0 t1004 t1007 t1011 t1014 t1018 t1019 ((t1011.length : Int) != (l0.length : Int))) = some r := by rw [if_pos rfl] at H; exact H
              clear H
              have H := H1
              clear H1
              have H' := Aside0.mk H
              clear H
              go_wp2_with (first | (go_at_call 12; (with_reducible refine (sackbutref05_Row.calls k _ _ l0 true _ ?side1 ?side2 A25.out).mono ?_); (case side1 => repeat (first | exact (Kd.C_below HR0.out HB.out) | (with_reducible refine Kd.C_alloc ?_ _) | (with_reducible refine Kd.C_drewN ?_ _) | (with_reducible refine Kd.C_drew ?_))); (case side2 => exact HC0.out); rintro e w' ⟨rfl, ⟨nd, rfl⟩⟩) | (go_at_call 12; (with_reducible refine (sackbutref05_Row.calls k _ _ t1004 true _ ?side1 ?side2 A27.out).mono ?_); (case side1 => repeat (first | exact (Kd.R_reads' HO1006.out).2.2 | (with_reducible refine Kd.C_alloc ?_ _) | (with_reducible refine Kd.C_drewN ?_ _) | (with_reducible refine Kd.C_drew ?_))); (case side2 => exact (Kd.R_reads' HO1006.out).2.1); rintro e w' ⟨rfl, ⟨nd, rfl⟩⟩; obtain ⟨Ao31, co31, eo31⟩ := Kd.R_slice HO1013.out; subst eo31) | (go_at_call 12; (with_reducible refine (sackbutref05_Row.calls k _ _ t1011 true _ ?side1 ?side2 A29.out).mono ?_); (case side1 => repeat (first | exact (Kd.R_reads' HO1013.out).2.2 | (with_reducible refine Kd.C_alloc ?_ _) | (with_reducible refine Kd.C_drewN ?_ _) | (with_reducible refine Kd.C_drew ?_))); (case side2 => exact (Kd.R_reads' HO1013.out).2.1); rintro e w' ⟨rfl, ⟨nd, rfl⟩⟩))
              go_meet
              case rel => exact ⟨_, (((t1011.length : Int) != (l0.length : Int))), (by first | rfl | (simp; done) | (simp [*]; done)), H', ⟨by first | omega | exact Nat.le_refl _⟩, ⟨by (with_reducible repeat (first | apply Kd.R_alloc | apply Kd.R_drewN | apply Kd.R_drew)); exact Kd.R_mono HO1006.out (fun _ hk => hk.1)⟩, ⟨by (with_reducible repeat (first | apply Kd.R_alloc | apply Kd.R_drewN | apply Kd.R_drew)); exact Kd.R_mono HO1013.out (fun _ hk => hk.1)⟩, ⟨by (with_reducible repeat (first | apply Kd.S_alloc | apply Kd.S_drewN | apply Kd.S_drew)); exact Kd.S_mono HO1021.out (fun _ hk => ⟨hk.1.1.2, hk.1.2⟩)⟩, ⟨by repeat (first | (with_reducible first | exact HB.out | apply below_alloc | apply pw_below_drewN | apply below_drew1) | exact HB.out)⟩⟩
            · replace c30 := Bool.eq_false_iff.mpr c30
              subst c30
              have H1 : (sackbutlaw05_RowsClosed.j0 k l0 t1004 t1007 t1011 t1014 t1018 t1019 true) = some r := by rw [if_neg (show ¬ (false = true) by decide)] at H; exact H
              clear H
              have H := H1
              clear H1
              have H' := Aside0.mk H
              clear H
              go_wp2_with (first | (go_at_call 12; (with_reducible refine (sackbutref05_Row.calls k _ _ l0 true _ ?side1 ?side2 A25.out).mono ?_); (case side1 => repeat (first | exact (Kd.C_below HR0.out HB.out) | (with_reducible refine Kd.C_alloc ?_ _) | (with_reducible refine Kd.C_drewN ?_ _) | (with_reducible refine Kd.C_drew ?_))); (case side2 => exact HC0.out); rintro e w' ⟨rfl, ⟨nd, rfl⟩⟩) | (go_at_call 12; (with_reducible refine (sackbutref05_Row.calls k _ _ t1004 true _ ?side1 ?side2 A27.out).mono ?_); (case side1 => repeat (first | exact (Kd.R_reads' HO1006.out).2.2 | (with_reducible refine Kd.C_alloc ?_ _) | (with_reducible refine Kd.C_drewN ?_ _) | (with_reducible refine Kd.C_drew ?_))); (case side2 => exact (Kd.R_reads' HO1006.out).2.1); rintro e w' ⟨rfl, ⟨nd, rfl⟩⟩; obtain ⟨Ao32, co32, eo32⟩ := Kd.R_slice HO1013.out; subst eo32) | (go_at_call 12; (with_reducible refine (sackbutref05_Row.calls k _ _ t1011 false _ ?side1 ?side2 A29.out).mono ?_); (case side1 => repeat (first | exact (Kd.R_reads' HO1013.out).2.2 | (with_reducible refine Kd.C_alloc ?_ _) | (with_reducible refine Kd.C_drewN ?_ _) | (with_reducible refine Kd.C_drew ?_))); (case side2 => exact (Kd.R_reads' HO1013.out).2.1); rintro e w' ⟨rfl, ⟨nd, rfl⟩⟩))
              go_meet
              case rel => exact ⟨_, (true), (by first | rfl | (simp; done) | (simp [*]; done)), H', ⟨by first | omega | exact Nat.le_refl _⟩, ⟨by (with_reducible repeat (first | apply Kd.R_alloc | apply Kd.R_drewN | apply Kd.R_drew)); exact Kd.R_mono HO1006.out (fun _ hk => hk.1)⟩, ⟨by (with_reducible repeat (first | apply Kd.R_alloc | apply Kd.R_drewN | apply Kd.R_drew)); exact Kd.R_mono HO1013.out (fun _ hk => hk.1)⟩, ⟨by (with_reducible repeat (first | apply Kd.S_alloc | apply Kd.S_drewN | apply Kd.S_drew)); exact Kd.S_mono HO1021.out (fun _ hk => ⟨hk.1.1.2, hk.1.2⟩)⟩, ⟨by repeat (first | (with_reducible first | exact HB.out | apply below_alloc | apply pw_below_drewN | apply below_drew1) | exact HB.out)⟩⟩
          · replace c28 := Bool.eq_false_iff.mpr c28
            subst c28
            have H1 : (sackbutlaw05_RowsClosed.j0 k l0 t1004 t1007 t1011 t1014 t1018 t1019 true) = some r := by rw [if_neg (show ¬ (false = true) by decide)] at H; exact H
            clear H
            have H := H1
            clear H1
            have H' := Aside0.mk H
            clear H
            go_wp2_with (first | (go_at_call 12; (with_reducible refine (sackbutref05_Row.calls k _ _ l0 true _ ?side1 ?side2 A25.out).mono ?_); (case side1 => repeat (first | exact (Kd.C_below HR0.out HB.out) | (with_reducible refine Kd.C_alloc ?_ _) | (with_reducible refine Kd.C_drewN ?_ _) | (with_reducible refine Kd.C_drew ?_))); (case side2 => exact HC0.out); rintro e w' ⟨rfl, ⟨nd, rfl⟩⟩) | (go_at_call 12; (with_reducible refine (sackbutref05_Row.calls k _ _ t1004 false _ ?side1 ?side2 A27.out).mono ?_); (case side1 => repeat (first | exact (Kd.R_reads' HO1006.out).2.2 | (with_reducible refine Kd.C_alloc ?_ _) | (with_reducible refine Kd.C_drewN ?_ _) | (with_reducible refine Kd.C_drew ?_))); (case side2 => exact (Kd.R_reads' HO1006.out).2.1); rintro e w' ⟨rfl, ⟨nd, rfl⟩⟩))
            go_meet
            case rel => exact ⟨_, (true), (by first | rfl | (simp; done) | (simp [*]; done)), H', ⟨by first | omega | exact Nat.le_refl _⟩, ⟨by (with_reducible repeat (first | apply Kd.R_alloc | apply Kd.R_drewN | apply Kd.R_drew)); exact Kd.R_mono HO1006.out (fun _ hk => hk.1)⟩, ⟨by (with_reducible repeat (first | apply Kd.R_alloc | apply Kd.R_drewN | apply Kd.R_drew)); exact Kd.R_mono HO1013.out (fun _ hk => hk.1)⟩, ⟨by (with_reducible repeat (first | apply Kd.S_alloc | apply Kd.S_drewN | apply Kd.S_drew)); exact Kd.S_mono HO1021.out (fun _ hk => ⟨hk.1.1.2, hk.1.2⟩)⟩, ⟨by repeat (first | (with_reducible first | exact HB.out | apply below_alloc | apply pw_below_drewN | apply below_drew1) | exact HB.out)⟩⟩
        · replace c26 := Bool.eq_false_iff.mpr c26
          subst c26
          have H1 : (sackbutlaw05_RowsClosed.j0 k l0 t1004 t1007 t1011 t1014 t1018 t1019 true) = some r := by rw [if_neg (show ¬ (false = true) by decide)] at H; exact H
          clear H
          have H := H1
          clear H1
          have H' := Aside0.mk H
          clear H
          go_wp2_with (first | (go_at_call 12; (with_reducible refine (sackbutref05_Row.calls k _ _ l0 false _ ?side1 ?side2 A25.out).mono ?_); (case side1 => repeat (first | exact (Kd.C_below HR0.out HB.out) | (with_reducible refine Kd.C_alloc ?_ _) | (with_reducible refine Kd.C_drewN ?_ _) | (with_reducible refine Kd.C_drew ?_))); (case side2 => exact HC0.out); rintro e w' ⟨rfl, ⟨nd, rfl⟩⟩))
          go_meet
          case rel => exact ⟨_, (true), (by first | rfl | (simp; done) | (simp [*]; done)), H', ⟨by first | omega | exact Nat.le_refl _⟩, ⟨by (with_reducible repeat (first | apply Kd.R_alloc | apply Kd.R_drewN | apply Kd.R_drew)); exact Kd.R_mono HO1006.out (fun _ hk => hk.1)⟩, ⟨by (with_reducible repeat (first | apply Kd.R_alloc | apply Kd.R_drewN | apply Kd.R_drew)); exact Kd.R_mono HO1013.out (fun _ hk => hk.1)⟩, ⟨by (with_reducible repeat (first | apply Kd.S_alloc | apply Kd.S_drewN | apply Kd.S_drew)); exact Kd.S_mono HO1021.out (fun _ hk => ⟨hk.1.1.2, hk.1.2⟩)⟩, ⟨by repeat (first | (with_reducible first | exact HB.out | apply below_alloc | apply pw_below_drewN | apply below_drew1) | exact HB.out)⟩⟩
      · rw [if_neg c24] at H
        have c24b0 : (t1014 == 0) = false := beq_eq_false_iff_ne.mpr c24
        have c24b1 : (t1014 != 0) = true := bne_iff_ne.mpr c24
        have H' := Aside0.mk H
        clear H
        go_wp2
        go_meet
        case rel => exact ⟨_, (true), (by first | rfl | (simp; done) | (simp [*]; done)), H', ⟨by first | omega | exact Nat.le_refl _⟩, ⟨by (with_reducible repeat (first | apply Kd.R_alloc | apply Kd.R_drewN | apply Kd.R_drew)); exact Kd.R_mono HO1006.out (fun _ hk => hk.1)⟩, ⟨by (with_reducible repeat (first | apply Kd.R_alloc | apply Kd.R_drewN | apply Kd.R_drew)); exact Kd.R_mono HO1013.out (fun _ hk => hk.1)⟩, ⟨by (with_reducible repeat (first | apply Kd.S_alloc | apply Kd.S_drewN | apply Kd.S_drew)); exact Kd.S_mono HO1021.out (fun _ hk => ⟨hk.1.1.2, hk.1.2⟩)⟩, ⟨by repeat (first | (with_reducible first | exact HB.out | apply below_alloc | apply pw_below_drewN | apply below_drew1) | exact HB.out)⟩⟩
    · rw [if_neg c23] at H
      have c23b0 : (t1007 == 0) = false := beq_eq_false_iff_ne.mpr c23
      have c23b1 : (t1007 != 0) = true := bne_iff_ne.mpr c23
      (first | rw [c23b0] | (simp only [i64_w, i32_w]; rw [c23b0]) | skip)
      have H' := Aside0.mk H
      clear H
      go_wp2
      go_meet
      case rel => exact ⟨_, (true), (by first | rfl | (simp; done) | (simp [*]; done)), H', ⟨by first | omega | exact Nat.le_refl _⟩, ⟨by (with_reducible repeat (first | apply Kd.R_alloc | apply Kd.R_drewN | apply Kd.R_drew)); exact Kd.R_mono HO1006.out (fun _ hk => hk.1)⟩, ⟨by (with_reducible repeat (first | apply Kd.R_alloc | apply Kd.R_drewN | apply Kd.R_drew)); exact Kd.R_mono HO1013.out (fun _ hk => hk.1)⟩, ⟨by (with_reducible repeat (first | apply Kd.S_alloc | apply Kd.S_drewN | apply Kd.S_drew)); exact Kd.S_mono HO1021.out (fun _ hk => ⟨hk.1.1.2, hk.1.2⟩)⟩, ⟨by repeat (first | (with_reducible first | exact HB.out | apply below_alloc | apply pw_below_drewN | apply below_drew1) | exact HB.out)⟩⟩
  case rest =>
    clear HC12
    try clear c1
    try clear c2
    try clear p2
    try clear c3
    try clear c6
    try clear c16
    try clear c17
    try clear c18
    try clear c21
    try clear c23
    try clear c23b0
    try clear c23b1
    try clear c24
    try clear c24b0
    try clear c24b1
    try clear c26
    try clear c28
    try clear c30
    obtain ⟨kq, x78_11, rfl, HA, HJ11, HO_11, HO_13, HO_15, HB⟩ := hcut
    cases kq with
    | zero => exact absurd HA.out (by simp [sackbutlaw05_RowsClosed.j0])
    | succ kj11 =>
      have H := HA.out
      clear HA
      simp only [sackbutlaw05_RowsClosed.j0] at H
      by_cases c33 : x78_11 = true
      · subst c33
        have H1 : (if t1007 = 2 then ((sackbutlaw05_awake.f kj11).bind fun t1025 => (some t1025)) else (if t1007 = 0 then ((sackbutref05_Row.f kj11 t1004).bind fun t1026 => (if t1026 = true then (if t1014 = 2 then ((sackbutlaw05_awake.f kj11).bind fun t1027 => (some t1027)) else (some false)) else (some false))) else (some false))) = some r := by rw [if_pos rfl] at H; exact H
        clear H
        have H := H1
        clear H1
        by_cases c34 : t1007 = 2
        · rw [if_pos c34] at H
          have c34b0 : (t1007 == 2) = true := beq_iff_eq.mpr c34
          have c34b1 : (t1007 != 2) = false := bne_eq_false_iff_eq.mpr c34
          clear c34
          replace H := Option.bind_eq_some_iff.mp H
          obtain ⟨t1025, A350, H⟩ := H
          replace H : (some t1025) = some r := H
          have A35 := Aside0.mk A350
          clear A350
          obtain rfl := Option.some.inj H
          go_wp2_with (first | (go_at_call 8; (with_reducible refine (sackbutlaw05_awake.calls kj11  t1025 _ A35.out).mono ?_); rintro e w36 ⟨rfl, hb⟩; have n0_ := Aside0.mk (Kd.R_below (by (with_reducible repeat (first | apply Kd.R_alloc | apply Kd.R_drewN | apply Kd.R_drew)); exact HO_11.out) hb); have n1_ := Aside0.mk (Kd.R_below (by (with_reducible repeat (first | apply Kd.R_alloc | apply Kd.R_drewN | apply Kd.R_drew)); exact HO_13.out) hb); have n2_ := Aside0.mk (Kd.S_below (by (with_reducible repeat (first | apply Kd.S_alloc | apply Kd.S_drewN | apply Kd.S_drew)); exact HO_15.out) hb); have n3_ := Aside0.mk (below_step (by repeat (first | (with_reducible first | exact HB.out | apply below_alloc | apply pw_below_drewN | apply below_drew1) | exact HB.out)) hb); clear HO_11; clear HO_13; clear HO_15; clear HB; have HO_11 := n0_; have HO_13 := n1_; have HO_15 := n2_; have HB := n3_; clear n0_ n1_ n2_ n3_; (try clear hb); (try clear hb2); (try clear hk); (try clear hi)))
          go_ret
          exact ⟨by first | rfl | (simp [errW_none, errW_some] <;> rfl) | (simp [*, errW_none, errW_some] <;> rfl), by repeat (first | (with_reducible first | exact HB.out | apply below_alloc | apply pw_below_drewN | apply below_drew1) | exact HB.out)⟩
        · rw [if_neg c34] at H
          have c34b0 : (t1007 == 2) = false := beq_eq_false_iff_ne.mpr c34
          have c34b1 : (t1007 != 2) = true := bne_iff_ne.mpr c34
          by_cases c37 : t1007 = 0
          · rw [if_pos c37] at H
            have c37b0 : (t1007 == 0) = true := beq_iff_eq.mpr c37
            have c37b1 : (t1007 != 0) = false := bne_eq_false_iff_eq.mpr c37
            clear c37
            replace H := Option.bind_eq_some_iff.mp H
            obtain ⟨t1026, A380, H⟩ := H
            replace H : (if t1026 = true then (if t1014 = 2 then ((sackbutlaw05_awake.f kj11).bind fun t1027 => (some t1027)) else (some false)) else (some false)) = some r := H
            have A38 := Aside0.mk A380
            clear A380
            by_cases c39 : t1026 = true
            · subst c39
              have H1 : (if t1014 = 2 then ((sackbutlaw05_awake.f kj11).bind fun t1027 => (some t1027)) else (some false)) = some r := by rw [if_pos rfl] at H; exact H
              clear H
              have H := H1
              clear H1
              by_cases c40 : t1014 = 2
              · rw [if_pos c40] at H
                have c40b0 : (t1014 == 2) = true := beq_iff_eq.mpr c40
                have c40b1 : (t1014 != 2) = false := bne_eq_false_iff_eq.mpr c40
                clear c40
                replace H := Option.bind_eq_some_iff.mp H
                obtain ⟨t1027, A410, H⟩ := H
                replace H : (some t1027) = some r := H
                have A41 := Aside0.mk A410
                clear A410
                obtain rfl := Option.some.inj H
                go_wp2_with (first | (go_at_call 12; (with_reducible refine (sackbutref05_Row.calls kj11 _ _ t1004 true _ ?side1 ?side2 A38.out).mono ?_); (case side1 => repeat (first | exact (Kd.R_reads' HO_11.out).2.2 | (with_reducible refine Kd.C_alloc ?_ _) | (with_reducible refine Kd.C_drewN ?_ _) | (with_reducible refine Kd.C_drew ?_))); (case side2 => exact (Kd.R_reads' HO_11.out).2.1); rintro e w' ⟨rfl, ⟨nd, rfl⟩⟩) | (go_at_call 8; (with_reducible refine (sackbutlaw05_awake.calls kj11  t1027 _ A41.out).mono ?_); rintro e w42 ⟨rfl, hb⟩; have n0_ := Aside0.mk (Kd.R_below (by (with_reducible repeat (first | apply Kd.R_alloc | apply Kd.R_drewN | apply Kd.R_drew)); exact HO_11.out) hb); have n1_ := Aside0.mk (Kd.R_below (by (with_reducible repeat (first | apply Kd.R_alloc | apply Kd.R_drewN | apply Kd.R_drew)); exact HO_13.out) hb); have n2_ := Aside0.mk (Kd.S_below (by (with_reducible repeat (first | apply Kd.S_alloc | apply Kd.S_drewN | apply Kd.S_drew)); exact HO_15.out) hb); have n3_ := Aside0.mk (below_step (by repeat (first | (with_reducible first | exact HB.out | apply below_alloc | apply pw_below_drewN | apply below_drew1) | exact HB.out)) hb); clear HO_11; clear HO_13; clear HO_15; clear HB; have HO_11 := n0_; have HO_13 := n1_; have HO_15 := n2_; have HB := n3_; clear n0_ n1_ n2_ n3_; (try clear hb); (try clear hb2); (try clear hk); (try clear hi)))
                go_ret
                exact ⟨by first | rfl | (simp [errW_none, errW_some] <;> rfl) | (simp [*, errW_none, errW_some] <;> rfl), by repeat (first | (with_reducible first | exact HB.out | apply below_alloc | apply pw_below_drewN | apply below_drew1) | exact HB.out)⟩
              · rw [if_neg c40] at H
                have c40b0 : (t1014 == 2) = false := beq_eq_false_iff_ne.mpr c40
                have c40b1 : (t1014 != 2) = true := bne_iff_ne.mpr c40
                obtain rfl := Option.some.inj H
                exact absurd hr.out Bool.false_ne_true
            · replace c39 := Bool.eq_false_iff.mpr c39
              subst c39
              have H1 : (some false) = some r := by rw [if_neg (show ¬ (false = true) by decide)] at H; exact H
              clear H
              have H := H1
              clear H1
              obtain rfl := Option.some.inj H
              exact absurd hr.out Bool.false_ne_true
          · rw [if_neg c37] at H
            have c37b0 : (t1007 == 0) = false := beq_eq_false_iff_ne.mpr c37
            have c37b1 : (t1007 != 0) = true := bne_iff_ne.mpr c37
            obtain rfl := Option.some.inj H
            exact absurd hr.out Bool.false_ne_true
      · replace c33 := Bool.eq_false_iff.mpr c33
        subst c33
        have H1 : ((sackbutlaw05_list.f l0).bind fun t1028 => ((slices_Clone_int_int.f t1011).bind fun t1031 => ((rows_Way.f t1028 t1031).bind fun bt1034 => ((sackbutlaw05_list.f l0).bind fun t1038 => ((rows_Form.f kj11 t1038 bt1034.1 bt1034.2.1).bind fun bt1041 => ((sackbutlaw05_list.f l0).bind fun t1045 => ((rows_Every.f kj11 t1045).bind fun bt1048 => ((slices_Clone_int_int.f t1011).bind fun t1050 => ((rows_Every.f kj11 t1050).bind fun bt1053 => ((sackbutlaw05_list.f l0).bind fun t1055 => ((rows_Prime.f t1055).bind fun bt1058 => ((slices_Clone_int_int.f t1011).bind fun t1062 => ((rows_Prime.f t1062).bind fun bt1065 => (if t1019 = 0 then (if bt1034.2.2 = 0 then (if bt1041.2 = 0 then (if bt1048.2 = 0 then (if bt1053.2 = 0 then (if bt1058.2 = 0 then (if bt1065.2 = 0 then ((slices_Equal_int_int.f kj11 t1011 bt1041.1).bind fun t1069 => (if t1069 = true then (if (bt1048.1 == bt1053.1) = true then ((slices_Equal_int_int.f kj11 bt1058.1 bt1065.1).bind fun t1070 => (if t1070 = true then (if (t1018.length : Int) > 0 then (if (t1018.length : Int) = 0 then (none) else (if (Int.tmod (wrap64 (4 * (l0.length : Int))) (t1018.length : Int)) = 0 then (if 0 < (t1018.length : Int) then ((slices_Equal_int_int.f kj11 (rd_L1 t1018 0) bt1058.1).bind fun t1072 => (if t1072 = true then ((sackbutlaw05_awake.f kj11).bind fun t1073 => (some t1073)) else (some false))) else (none)) else (some false))) else (some false)) else (some false))) else (some false)) else (some false))) else (some false)) else (some false)) else (some false)) else (some false)) else (some false)) else (some false)) else (some false))))))))))))))) = some r := by rw [if_neg (show ¬ (false = true) by decide)] at H; exact H
        clear H
        have H := H1
        clear H1
        replace H := Option.bind_eq_some_iff.mp H
        obtain ⟨t1028, A430, H⟩ := H
        replace H : ((slices_Clone_int_int.f t1011).bind fun t1031 => ((rows_Way.f t1028 t1031).bind fun bt1034 => ((sackbutlaw05_list.f l0).bind fun t1038 => ((rows_Form.f kj11 t1038 bt1034.1 bt1034.2.1).bind fun bt1041 => ((sackbutlaw05_list.f l0).bind fun t1045 => ((rows_Every.f kj11 t1045).bind fun bt1048 => ((slices_Clone_int_int.f t1011).bind fun t1050 => ((rows_Every.f kj11 t1050).bind fun bt1053 => ((sackbutlaw05_list.f l0).bind fun t1055 => ((rows_Prime.f t1055).bind fun bt1058 => ((slices_Clone_int_int.f t1011).bind fun t1062 => ((rows_Prime.f t1062).bind fun bt1065 => (if t1019 = 0 then (if bt1034.2.2 = 0 then (if bt1041.2 = 0 then (if bt1048.2 = 0 then (if bt1053.2 = 0 then (if bt1058.2 = 0 then (if bt1065.2 = 0 then ((slices_Equal_int_int.f kj11 t1011 bt1041.1).bind fun t1069 => (if t1069 = true then (if (bt1048.1 == bt1053.1) = true then ((slices_Equal_int_int.f kj11 bt1058.1 bt1065.1).bind fun t1070 => (if t1070 = true then (if (t1018.length : Int) > 0 then (if (t1018.length : Int) = 0 then (none) else (if (Int.tmod (wrap64 (4 * (l0.length : Int))) (t1018.length : Int)) = 0 then (if 0 < (t1018.length : Int) then ((slices_Equal_int_int.f kj11 (rd_L1 t1018 0) bt1058.1).bind fun t1072 => (if t1072 = true then ((sackbutlaw05_awake.f kj11).bind fun t1073 => (some t1073)) else (some false))) else (none)) else (some false))) else (some false)) else (some false))) else (some false)) else (some false))) else (some false)) else (some false)) else (some false)) else (some false)) else (some false)) else (some false)) else (some false)))))))))))))) = some r := H
        have A43 := Aside0.mk A430
        clear A430
        replace H := Option.bind_eq_some_iff.mp H
        obtain ⟨t1031, A440, H⟩ := H
        replace H : ((rows_Way.f t1028 t1031).bind fun bt1034 => ((sackbutlaw05_list.f l0).bind fun t1038 => ((rows_Form.f kj11 t1038 bt1034.1 bt1034.2.1).bind fun bt1041 => ((sackbutlaw05_list.f l0).bind fun t1045 => ((rows_Every.f kj11 t1045).bind fun bt1048 => ((slices_Clone_int_int.f t1011).bind fun t1050 => ((rows_Every.f kj11 t1050).bind fun bt1053 => ((sackbutlaw05_list.f l0).bind fun t1055 => ((rows_Prime.f t1055).bind fun bt1058 => ((slices_Clone_int_int.f t1011).bind fun t1062 => ((rows_Prime.f t1062).bind fun bt1065 => (if t1019 = 0 then (if bt1034.2.2 = 0 then (if bt1041.2 = 0 then (if bt1048.2 = 0 then (if bt1053.2 = 0 then (if bt1058.2 = 0 then (if bt1065.2 = 0 then ((slices_Equal_int_int.f kj11 t1011 bt1041.1).bind fun t1069 => (if t1069 = true then (if (bt1048.1 == bt1053.1) = true then ((slices_Equal_int_int.f kj11 bt1058.1 bt1065.1).bind fun t1070 => (if t1070 = true then (if (t1018.length : Int) > 0 then (if (t1018.length : Int) = 0 then (none) else (if (Int.tmod (wrap64 (4 * (l0.length : Int))) (t1018.length : Int)) = 0 then (if 0 < (t1018.length : Int) then ((slices_Equal_int_int.f kj11 (rd_L1 t1018 0) bt1058.1).bind fun t1072 => (if t1072 = true then ((sackbutlaw05_awake.f kj11).bind fun t1073 => (some t1073)) else (some false))) else (none)) else (some false))) else (some false)) else (some false))) else (some false)) else (some false))) else (some false)) else (some false)) else (some false)) else (some false)) else (some false)) else (some false)) else (some false))))))))))))) = some r := H
        have A44 := Aside0.mk A440
        clear A440
        replace H := Option.bind_eq_some_iff.mp H
        obtain ⟨⟨t1034, t1035, t1036⟩, A450, H⟩ := H
        replace H : ((sackbutlaw05_list.f l0).bind fun t1038 => ((rows_Form.f kj11 t1038 t1034 t1035).bind fun bt1041 => ((sackbutlaw05_list.f l0).bind fun t1045 => ((rows_Every.f kj11 t1045).bind fun bt1048 => ((slices_Clone_int_int.f t1011).bind fun t1050 => ((rows_Every.f kj11 t1050).bind fun bt1053 => ((sackbutlaw05_list.f l0).bind fun t1055 => ((rows_Prime.f t1055).bind fun bt1058 => ((slices_Clone_int_int.f t1011).bind fun t1062 => ((rows_Prime.f t1062).bind fun bt1065 => (if t1019 = 0 then (if t1036 = 0 then (if bt1041.2 = 0 then (if bt1048.2 = 0 then (if bt1053.2 = 0 then (if bt1058.2 = 0 then (if bt1065.2 = 0 then ((slices_Equal_int_int.f kj11 t1011 bt1041.1).bind fun t1069 => (if t1069 = true then (if (bt1048.1 == bt1053.1) = true then ((slices_Equal_int_int.f kj11 bt1058.1 bt1065.1).bind fun t1070 => (if t1070 = true then (if (t1018.length : Int) > 0 then (if (t1018.length : Int) = 0 then (none) else (if (Int.tmod (wrap64 (4 * (l0.length : Int))) (t1018.length : Int)) = 0 then (if 0 < (t1018.length : Int) then ((slices_Equal_int_int.f kj11 (rd_L1 t1018 0) bt1058.1).bind fun t1072 => (if t1072 = true then ((sackbutlaw05_awake.f kj11).bind fun t1073 => (some t1073)) else (some false))) else (none)) else (some false))) else (some false)) else (some false))) else (some false)) else (some false))) else (some false)) else (some false)) else (some false)) else (some false)) else (some false)) else (some false)) else (some false)))))))))))) = some r := H
        have A45 := Aside0.mk A450
        clear A450
        replace H := Option.bind_eq_some_iff.mp H
        obtain ⟨t1038, A460, H⟩ := H
        replace H : ((rows_Form.f kj11 t1038 t1034 t1035).bind fun bt1041 => ((sackbutlaw05_list.f l0).bind fun t1045 => ((rows_Every.f kj11 t1045).bind fun bt1048 => ((slices_Clone_int_int.f t1011).bind fun t1050 => ((rows_Every.f kj11 t1050).bind fun bt1053 => ((sackbutlaw05_list.f l0).bind fun t1055 => ((rows_Prime.f t1055).bind fun bt1058 => ((slices_Clone_int_int.f t1011).bind fun t1062 => ((rows_Prime.f t1062).bind fun bt1065 => (if t1019 = 0 then (if t1036 = 0 then (if bt1041.2 = 0 then (if bt1048.2 = 0 then (if bt1053.2 = 0 then (if bt1058.2 = 0 then (if bt1065.2 = 0 then ((slices_Equal_int_int.f kj11 t1011 bt1041.1).bind fun t1069 => (if t1069 = true then (if (bt1048.1 == bt1053.1) = true then ((slices_Equal_int_int.f kj11 bt1058.1 bt1065.1).bind fun t1070 => (if t1070 = true then (if (t1018.length : Int) > 0 then (if (t1018.length : Int) = 0 then (none) else (if (Int.tmod (wrap64 (4 * (l0.length : Int))) (t1018.length : Int)) = 0 then (if 0 < (t1018.length : Int) then ((slices_Equal_int_int.f kj11 (rd_L1 t1018 0) bt1058.1).bind fun t1072 => (if t1072 = true then ((sackbutlaw05_awake.f kj11).bind fun t1073 => (some t1073)) else (some false))) else (none)) else (some false))) else (some false)) else (some false))) else (some false)) else (some false))) else (some false)) else (some false)) else (some false)) else (some false)) else (some false)) else (some false)) else (some false))))))))))) = some r := H
        have A46 := Aside0.mk A460
        clear A460
        replace H := Option.bind_eq_some_iff.mp H
        obtain ⟨⟨t1041, t1044⟩, A470, H⟩ := H
        replace H : ((sackbutlaw05_list.f l0).bind fun t1045 => ((rows_Every.f kj11 t1045).bind fun bt1048 => ((slices_Clone_int_int.f t1011).bind fun t1050 => ((rows_Every.f kj11 t1050).bind fun bt1053 => ((sackbutlaw05_list.f l0).bind fun t1055 => ((rows_Prime.f t1055).bind fun bt1058 => ((slices_Clone_int_int.f t1011).bind fun t1062 => ((rows_Prime.f t1062).bind fun bt1065 => (if t1019 = 0 then (if t1036 = 0 then (if t1044 = 0 then (if bt1048.2 = 0 then (if bt1053.2 = 0 then (if bt1058.2 = 0 then (if bt1065.2 = 0 then ((slices_Equal_int_int.f kj11 t1011 t1041).bind fun t1069 => (if t1069 = true then (if (bt1048.1 == bt1053.1) = true then ((slices_Equal_int_int.f kj11 bt1058.1 bt1065.1).bind fun t1070 => (if t1070 = true then (if (t1018.length : Int) > 0 then (if (t1018.length : Int) = 0 then (none) else (if (Int.tmod (wrap64 (4 * (l0.length : Int))) (t1018.length : Int)) = 0 then (if 0 < (t1018.length : Int) then ((slices_Equal_int_int.f kj11 (rd_L1 t1018 0) bt1058.1).bind fun t1072 => (if t1072 = true then ((sackbutlaw05_awake.f kj11).bind fun t1073 => (some t1073)) else (some false))) else (none)) else (some false))) else (some false)) else (some false))) else (some false)) else (some false))) else (some false)) else (some false)) else (some false)) else (some false)) else (some false)) else (some false)) else (some false)))))))))) = some r := H
        have A47 := Aside0.mk A470
        clear A470
        replace H := Option.bind_eq_some_iff.mp H
        obtain ⟨t1045, A480, H⟩ := H
        replace H : ((rows_Every.f kj11 t1045).bind fun bt1048 => ((slices_Clone_int_int.f t1011).bind fun t1050 => ((rows_Every.f kj11 t1050).bind fun bt1053 => ((sackbutlaw05_list.f l0).bind fun t1055 => ((rows_Prime.f t1055).bind fun bt1058 => ((slices_Clone_int_int.f t1011).bind fun t1062 => ((rows_Prime.f t1062).bind fun bt1065 => (if t1019 = 0 then (if t1036 = 0 then (if t1044 = 0 then (if bt1048.2 = 0 then (if bt1053.2 = 0 then (if bt1058.2 = 0 then (if bt1065.2 = 0 then ((slices_Equal_int_int.f kj11 t1011 t1041).bind fun t1069 => (if t1069 = true then (if (bt1048.1 == bt1053.1) = true then ((slices_Equal_int_int.f kj11 bt1058.1 bt1065.1).bind fun t1070 => (if t1070 = true then (if (t1018.length : Int) > 0 then (if (t1018.length : Int) = 0 then (none) else (if (Int.tmod (wrap64 (4 * (l0.length : Int))) (t1018.length : Int)) = 0 then (if 0 < (t1018.length : Int) then ((slices_Equal_int_int.f kj11 (rd_L1 t1018 0) bt1058.1).bind fun t1072 => (if t1072 = true then ((sackbutlaw05_awake.f kj11).bind fun t1073 => (some t1073)) else (some false))) else (none)) else (some false))) else (some false)) else (some false))) else (some false)) else (some false))) else (some false)) else (some false)) else (some false)) else (some false)) else (some false)) else (some false)) else (some false))))))))) = some r := H
        have A48 := Aside0.mk A480
        clear A480
        replace H := Option.bind_eq_some_iff.mp H
        obtain ⟨⟨t1048, t1049⟩, A490, H⟩ := H
        replace H : ((slices_Clone_int_int.f t1011).bind fun t1050 => ((rows_Every.f kj11 t1050).bind fun bt1053 => ((sackbutlaw05_list.f l0).bind fun t1055 => ((rows_Prime.f t1055).bind fun bt1058 => ((slices_Clone_int_int.f t1011).bind fun t1062 => ((rows_Prime.f t1062).bind fun bt1065 => (if t1019 = 0 then (if t1036 = 0 then (if t1044 = 0 then (if t1049 = 0 then (if bt1053.2 = 0 then (if bt1058.2 = 0 then (if bt1065.2 = 0 then ((slices_Equal_int_int.f kj11 t1011 t1041).bind fun t1069 => (if t1069 = true then (if (t1048 == bt1053.1) = true then ((slices_Equal_int_int.f kj11 bt1058.1 bt1065.1).bind fun t1070 => (if t1070 = true then (if (t1018.length : Int) > 0 then (if (t1018.length : Int) = 0 then (none) else (if (Int.tmod (wrap64 (4 * (l0.length : Int))) (t1018.length : Int)) = 0 then (if 0 < (t1018.length : Int) then ((slices_Equal_int_int.f kj11 (rd_L1 t1018 0) bt1058.1).bind fun t1072 => (if t1072 = true then ((sackbutlaw05_awake.f kj11).bind fun t1073 => (some t1073)) else (some false))) else (none)) else (some false))) else (some false)) else (some false))) else (some false)) else (some false))) else (some false)) else (some false)) else (some false)) else (some false)) else (some false)) else (some false)) else (some false)))))))) = some r := H
        have A49 := Aside0.mk A490
        clear A490
        replace H := Option.bind_eq_some_iff.mp H
        obtain ⟨t1050, A500, H⟩ := H
        replace H : ((rows_Every.f kj11 t1050).bind fun bt1053 => ((sackbutlaw05_list.f l0).bind fun t1055 => ((rows_Prime.f t1055).bind fun bt1058 => ((slices_Clone_int_int.f t1011).bind fun t1062 => ((rows_Prime.f t1062).bind fun bt1065 => (if t1019 = 0 then (if t1036 = 0 then (if t1044 = 0 then (if t1049 = 0 then (if bt1053.2 = 0 then (if bt1058.2 = 0 then (if bt1065.2 = 0 then ((slices_Equal_int_int.f kj11 t1011 t1041).bind fun t1069 => (if t1069 = true then (if (t1048 == bt1053.1) = true then ((slices_Equal_int_int.f kj11 bt1058.1 bt1065.1).bind fun t1070 => (if t1070 = true then (if (t1018.length : Int) > 0 then (if (t1018.length : Int) = 0 then (none) else (if (Int.tmod (wrap64 (4 * (l0.length : Int))) (t1018.length : Int)) = 0 then (if 0 < (t1018.length : Int) then ((slices_Equal_int_int.f kj11 (rd_L1 t1018 0) bt1058.1).bind fun t1072 => (if t1072 = true then ((sackbutlaw05_awake.f kj11).bind fun t1073 => (some t1073)) else (some false))) else (none)) else (some false))) else (some false)) else (some false))) else (some false)) else (some false))) else (some false)) else (some false)) else (some false)) else (some false)) else (some false)) else (some false)) else (some false))))))) = some r := H
        have A50 := Aside0.mk A500
        clear A500
        replace H := Option.bind_eq_some_iff.mp H
        obtain ⟨⟨t1053, t1054⟩, A510, H⟩ := H
        replace H : ((sackbutlaw05_list.f l0).bind fun t1055 => ((rows_Prime.f t1055).bind fun bt1058 => ((slices_Clone_int_int.f t1011).bind fun t1062 => ((rows_Prime.f t1062).bind fun bt1065 => (if t1019 = 0 then (if t1036 = 0 then (if t1044 = 0 then (if t1049 = 0 then (if t1054 = 0 then (if bt1058.2 = 0 then (if bt1065.2 = 0 then ((slices_Equal_int_int.f kj11 t1011 t1041).bind fun t1069 => (if t1069 = true then (if (t1048 == t1053) = true then ((slices_Equal_int_int.f kj11 bt1058.1 bt1065.1).bind fun t1070 => (if t1070 = true then (if (t1018.length : Int) > 0 then (if (t1018.length : Int) = 0 then (none) else (if (Int.tmod (wrap64 (4 * (l0.length : Int))) (t1018.length : Int)) = 0 then (if 0 < (t1018.length : Int) then ((slices_Equal_int_int.f kj11 (rd_L1 t1018 0) bt1058.1).bind fun t1072 => (if t1072 = true then ((sackbutlaw05_awake.f kj11).bind fun t1073 => (some t1073)) else (some false))) else (none)) else (some false))) else (some false)) else (some false))) else (some false)) else (some false))) else (some false)) else (some false)) else (some false)) else (some false)) else (some false)) else (some false)) else (some false)))))) = some r := H
        have A51 := Aside0.mk A510
        clear A510
        replace H := Option.bind_eq_some_iff.mp H
        obtain ⟨t1055, A520, H⟩ := H
        replace H : ((rows_Prime.f t1055).bind fun bt1058 => ((slices_Clone_int_int.f t1011).bind fun t1062 => ((rows_Prime.f t1062).bind fun bt1065 => (if t1019 = 0 then (if t1036 = 0 then (if t1044 = 0 then (if t1049 = 0 then (if t1054 = 0 then (if bt1058.2 = 0 then (if bt1065.2 = 0 then ((slices_Equal_int_int.f kj11 t1011 t1041).bind fun t1069 => (if t1069 = true then (if (t1048 == t1053) = true then ((slices_Equal_int_int.f kj11 bt1058.1 bt1065.1).bind fun t1070 => (if t1070 = true then (if (t1018.length : Int) > 0 then (if (t1018.length : Int) = 0 then (none) else (if (Int.tmod (wrap64 (4 * (l0.length : Int))) (t1018.length : Int)) = 0 then (if 0 < (t1018.length : Int) then ((slices_Equal_int_int.f kj11 (rd_L1 t1018 0) bt1058.1).bind fun t1072 => (if t1072 = true then ((sackbutlaw05_awake.f kj11).bind fun t1073 => (some t1073)) else (some false))) else (none)) else (some false))) else (some false)) else (some false))) else (some false)) else (some false))) else (some false)) else (some false)) else (some false)) else (some false)) else (some false)) else (some false)) else (some false))))) = some r := H
        have A52 := Aside0.mk A520
        clear A520
        replace H := Option.bind_eq_some_iff.mp H
        obtain ⟨⟨t1058, t1059⟩, A530, H⟩ := H
        replace H : ((slices_Clone_int_int.f t1011).bind fun t1062 => ((rows_Prime.f t1062).bind fun bt1065 => (if t1019 = 0 then (if t1036 = 0 then (if t1044 = 0 then (if t1049 = 0 then (if t1054 = 0 then (if t1059 = 0 then (if bt1065.2 = 0 then ((slices_Equal_int_int.f kj11 t1011 t1041).bind fun t1069 => (if t1069 = true then (if (t1048 == t1053) = true then ((slices_Equal_int_int.f kj11 t1058 bt1065.1).bind fun t1070 => (if t1070 = true then (if (t1018.length : Int) > 0 then (if (t1018.length : Int) = 0 then (none) else (if (Int.tmod (wrap64 (4 * (l0.length : Int))) (t1018.length : Int)) = 0 then (if 0 < (t1018.length : Int) then ((slices_Equal_int_int.f kj11 (rd_L1 t1018 0) t1058).bind fun t1072 => (if t1072 = true then ((sackbutlaw05_awake.f kj11).bind fun t1073 => (some t1073)) else (some false))) else (none)) else (some false))) else (some false)) else (some false))) else (some false)) else (some false))) else (some false)) else (some false)) else (some false)) else (some false)) else (some false)) else (some false)) else (some false)))) = some r := H
        have A53 := Aside0.mk A530
        clear A530
        replace H := Option.bind_eq_some_iff.mp H
        obtain ⟨t1062, A540, H⟩ := H
        replace H : ((rows_Prime.f t1062).bind fun bt1065 => (if t1019 = 0 then (if t1036 = 0 then (if t1044 = 0 then (if t1049 = 0 then (if t1054 = 0 then (if t1059 = 0 then (if bt1065.2 = 0 then ((slices_Equal_int_int.f kj11 t1011 t1041).bind fun t1069 => (if t1069 = true then (if (t1048 == t1053) = true then ((slices_Equal_int_int.f kj11 t1058 bt1065.1).bind fun t1070 => (if t1070 = true then (if (t1018.length : Int) > 0 then (if (t1018.length : Int) = 0 then (none) else (if (Int.tmod (wrap64 (4 * (l0.length : Int))) (t1018.length : Int)) = 0 then (if 0 < (t1018.length : Int) then ((slices_Equal_int_int.f kj11 (rd_L1 t1018 0) t1058).bind fun t1072 => (if t1072 = true then ((sackbutlaw05_awake.f kj11).bind fun t1073 => (some t1073)) else (some false))) else (none)) else (some false))) else (some false)) else (some false))) else (some false)) else (some false))) else (some false)) else (some false)) else (some false)) else (some false)) else (some false)) else (some false)) else (some false))) = some r := H
        have A54 := Aside0.mk A540
        clear A540
        replace H := Option.bind_eq_some_iff.mp H
        obtain ⟨⟨t1065, t1066⟩, A550, H⟩ := H
        replace H : (if t1019 = 0 then (if t1036 = 0 then (if t1044 = 0 then (if t1049 = 0 then (if t1054 = 0 then (if t1059 = 0 then (if t1066 = 0 then ((slices_Equal_int_int.f kj11 t1011 t1041).bind fun t1069 => (if t1069 = true then (if (t1048 == t1053) = true then ((slices_Equal_int_int.f kj11 t1058 t1065).bind fun t1070 => (if t1070 = true then (if (t1018.length : Int) > 0 then (if (t1018.length : Int) = 0 then (none) else (if (Int.tmod (wrap64 (4 * (l0.length : Int))) (t1018.length : Int)) = 0 then (if 0 < (t1018.length : Int) then ((slices_Equal_int_int.f kj11 (rd_L1 t1018 0) t1058).bind fun t1072 => (if t1072 = true then ((sackbutlaw05_awake.f kj11).bind fun t1073 => (some t1073)) else (some false))) else (none)) else (some false))) else (some false)) else (some false))) else (some false)) else (some false))) else (some false)) else (some false)) else (some false)) else (some false)) else (some false)) else (some false)) else (some false)) = some r := H
        have A55 := Aside0.mk A550
        clear A550
        by_cases c56 : t1019 = 0
        · rw [if_pos c56] at H
          have c56b0 : (t1019 == 0) = true := beq_iff_eq.mpr c56
          have c56b1 : (t1019 != 0) = false := bne_eq_false_iff_eq.mpr c56
          clear c56
          by_cases c57 : t1036 = 0
          · rw [if_pos c57] at H
            have c57b0 : (t1036 == 0) = true := beq_iff_eq.mpr c57
            have c57b1 : (t1036 != 0) = false := bne_eq_false_iff_eq.mpr c57
            clear c57
            by_cases c58 : t1044 = 0
            · rw [if_pos c58] at H
              have c58b0 : (t1044 == 0) = true := beq_iff_eq.mpr c58
              have c58b1 : (t1044 != 0) = false := bne_eq_false_iff_eq.mpr c58
              clear c58
              by_cases c59 : t1049 = 0
              · rw [if_pos c59] at H
                have c59b0 : (t1049 == 0) = true := beq_iff_eq.mpr c59
                have c59b1 : (t1049 != 0) = false := bne_eq_false_iff_eq.mpr c59
                clear c59
                by_cases c60 : t1054 = 0
                · rw [if_pos c60] at H
                  have c60b0 : (t1054 == 0) = true := beq_iff_eq.mpr c60
                  have c60b1 : (t1054 != 0) = false := bne_eq_false_iff_eq.mpr c60
                  clear c60
                  by_cases c61 : t1059 = 0
                  · rw [if_pos c61] at H
                    have c61b0 : (t1059 == 0) = true := beq_iff_eq.mpr c61
                    have c61b1 : (t1059 != 0) = false := bne_eq_false_iff_eq.mpr c61
                    clear c61
                    by_cases c62 : t1066 = 0
                    · rw [if_pos c62] at H
                      have c62b0 : (t1066 == 0) = true := beq_iff_eq.mpr c62
                      have c62b1 : (t1066 != 0) = false := bne_eq_false_iff_eq.mpr c62
                      clear c62
                      replace H := Option.bind_eq_some_iff.mp H
                      obtain ⟨t1069, A630, H⟩ := H
                      replace H : (if t1069 = true then (if (t1048 == t1053) = true then ((slices_Equal_int_int.f kj11 t1058 t1065).bind fun t1070 => (if t1070 = true then (if (t1018.length : Int) > 0 then (if (t1018.length : Int) = 0 then (none) else (if (Int.tmod (wrap64 (4 * (l0.length : Int))) (t1018.length : Int)) = 0 then (if 0 < (t1018.length : Int) then ((slices_Equal_int_int.f kj11 (rd_L1 t1018 0) t1058).bind fun t1072 => (if t1072 = true then ((sackbutlaw05_awake.f kj11).bind fun t1073 => (some t1073)) else (some false))) else (none)) else (some false))) else (some false)) else (some false))) else (some false)) else (some false)) = some r := H
                      have A63 := Aside0.mk A630
                      clear A630
                      by_cases c64 : t1069 = true
                      · subst c64
                        have H1 : (if (t1048 == t1053) = true then ((slices_Equal_int_int.f kj11 t1058 t1065).bind fun t1070 => (if t1070 = true then (if (t1018.length : Int) > 0 then (if (t1018.length : Int) = 0 then (none) else (if (Int.tmod (wrap64 (4 * (l0.length : Int))) (t1018.length : Int)) = 0 then (if 0 < (t1018.length : Int) then ((slices_Equal_int_int.f kj11 (rd_L1 t1018 0) t1058).bind fun t1072 => (if t1072 = true then ((sackbutlaw05_awake.f kj11).bind fun t1073 => (some t1073)) else (some false))) else (none)) else (some false))) else (some false)) else (some false))) else (some false)) = some r := by rw [if_pos rfl] at H; exact H
                        clear H
                        have H := H1
                        clear H1
                        by_cases c65 : (t1048 == t1053) = true
                        · rw [if_pos c65] at H
                          have c65b0 : (t1048 == t1053) = true := c65
                          (try (have c65b1 : decide (t1048 = t1053) = true := by simpa using c65))
                          (try (have c65b2 : (t1048 == t1053) = true := by simpa using c65))
                          clear c65
                          replace H := Option.bind_eq_some_iff.mp H
                          obtain ⟨t1070, A660, H⟩ := H
                          replace H : (if t1070 = true then (if (t1018.length : Int) > 0 then (if (t1018.length : Int) = 0 then (none) else (if (Int.tmod (wrap64 (4 * (l0.length : Int))) (t1018.length : Int)) = 0 then (if 0 < (t1018.length : Int) then ((slices_Equal_int_int.f kj11 (rd_L1 t1018 0) t1058).bind fun t1072 => (if t1072 = true then ((sackbutlaw05_awake.f kj11).bind fun t1073 => (some t1073)) else (some false))) else (none)) else (some false))) else (some false)) else (some false)) = some r := H
                          have A66 := Aside0.mk A660
                          clear A660
                          by_cases c67 : t1070 = true
                          · subst c67
                            have H1 : (if (t1018.length : Int) > 0 then (if (t1018.length : Int) = 0 then (none) else (if (Int.tmod (wrap64 (4 * (l0.length : Int))) (t1018.length : Int)) = 0 then (if 0 < (t1018.length : Int) then ((slices_Equal_int_int.f kj11 (rd_L1 t1018 0) t1058).bind fun t1072 => (if t1072 = true then ((sackbutlaw05_awake.f kj11).bind fun t1073 => (some t1073)) else (some false))) else (none)) else (some false))) else (some false)) = some r := by rw [if_pos rfl] at H; exact H
                            clear H
                            have H := H1
                            clear H1
                            by_cases c68 : (t1018.length : Int) > 0
                            · rw [if_pos c68] at H
                              have c68b0 : decide (0 < (t1018.length : Int)) = true := decide_eq_true c68
                              have c68b1 : decide (0 < t1018.length) = true := decide_eq_true (by omega)
                              clear c68
                              by_cases c69 : (t1018.length : Int) = 0
                              · rw [if_pos c69] at H
                                exact absurd H (by simp)
                              · rw [if_neg c69] at H
                                have c69b0 : ((t1018.length : Int) == 0) = false := beq_eq_false_iff_ne.mpr c69
                                have c69b1 : ((t1018.length : Int) != 0) = true := bne_iff_ne.mpr c69
                                have c69b2 : ¬ (t1018 = []) := fun h_ => c69 (by rw [h_]; rfl)
                                by_cases c70 : (Int.tmod (wrap64 (4 * (l0.length : Int))) (t1018.length : Int)) = 0
                                · rw [if_pos c70] at H
                                  have c70b0 : ((Int.tmod (wrap64 (4 * (l0.length : Int))) (t1018.length : Int)) == 0) = true := beq_iff_eq.mpr c70
                                  have c70b1 : ((Int.tmod (wrap64 (4 * (l0.length : Int))) (t1018.length : Int)) != 0) = false := bne_eq_false_iff_eq.mpr c70
                                  clear c70
                                  by_cases c71 : 0 < (t1018.length : Int)
                                  · rw [if_pos c71] at H
                                    have c71b0 : decide (0 < (t1018.length : Int)) = true := decide_eq_true c71
                                    have c71b1 : decide (0 < t1018.length) = true := decide_eq_true (by omega)
                                    clear c71
                                    replace H := Option.bind_eq_some_iff.mp H
                                    obtain ⟨t1072, A720, H⟩ := H
                                    replace H : (if t1072 = true then ((sackbutlaw05_awake.f kj11).bind fun t1073 => (some t1073)) else (some false)) = some r := H
                                    have A72 := Aside0.mk A720
                                    clear A720
                                    by_cases c73 : t1072 = true
                                    · subst c73
                                      have H1 : ((sackbutlaw05_awake.f kj11).bind fun t1073 => (some t1073)) = some r := by rw [if_pos rfl] at H; exact H
                                      clear H
                                      have H := H1
                                      clear H1
                                      replace H := Option.bind_eq_some_iff.mp H
                                      obtain ⟨t1073, A740, H⟩ := H
                                      replace H : (some t1073) = some r := H
                                      have A74 := Aside0.mk A740
                                      clear A740
                                      obtain rfl := Option.some.inj H
                                      try go_wp2_with (first | ((with_reducible refine gate_callee (f := 16) rfl ?_); refine goesL_ (some 98) rfl rfl Try.func16 (by kernel_rfl) rfl #[.slice A0 l0.length c0] rfl (by (try simp only [List.map_toArray, List.map_cons, List.map_nil]); first | done | rfl | (simp only [List.length_drop, List.length_take]; rfl)) ?_; (with_reducible refine (sackbutlaw05_list.calls _ _ l0 t1028 _ ?side1 ?side2 A43.out).mono ?_); (case side1 => repeat (first | exact (Kd.C_below HR0.out HB.out) | (with_reducible refine Kd.C_alloc ?_ _) | (with_reducible refine Kd.C_drewN ?_ _) | (with_reducible refine Kd.C_drew ?_))); (case side2 => exact HC0.out); rintro e w75 ⟨v1029, rfl, ho0, hb⟩; refine ⟨_, rfl, ?_⟩; have n0_ := Aside0.mk (Kd.R_elder' (by (with_reducible repeat (first | apply Kd.R_alloc | apply Kd.R_drewN | apply Kd.R_drew)); exact HO_11.out) (Kd.R_base ho0) hb); have n1_ := Aside0.mk (Kd.R_elder' (by (with_reducible repeat (first | apply Kd.R_alloc | apply Kd.R_drewN | apply Kd.R_drew)); exact HO_13.out) (Kd.R_base ho0) hb); have n2_ := Aside0.mk (Kd.S_elder' (by (with_reducible repeat (first | apply Kd.S_alloc | apply Kd.S_drewN | apply Kd.S_drew)); exact HO_15.out) (Kd.R_base ho0) hb); have n3_ := Aside0.mk (Kd.R_lower (Kd.R_new' (Kd.R_new' ho0 (Kd.R_lt (by (with_reducible repeat (first | apply Kd.R_alloc | apply Kd.R_drewN | apply Kd.R_drew)); exact HO_11.out))) (Kd.R_lt (by (with_reducible repeat (first | apply Kd.R_alloc | apply Kd.R_drewN | apply Kd.R_drew)); exact HO_13.out))) (below_size (by repeat (first | (with_reducible first | exact HB.out | apply below_alloc | apply pw_below_drewN | apply below_drew1) | exact HB.out)))); have n4_ := Aside0.mk (below_step (by repeat (first | (with_reducible first | exact HB.out | apply below_alloc | apply pw_below_drewN | apply below_drew1) | exact HB.out)) hb); clear HO_11; clear HO_13; clear HO_15; clear HB; have HO_11 := n0_; have HO_13 := n1_; have HO_15 := n2_; have HO1030 := n3_; have HB := n4_; clear n0_ n1_ n2_ n3_ n4_; (try clear hb); (try clear hb2); (try clear hk); (try clear hi); (try clear ho0); obtain ⟨Ao76, co76, eo76⟩ := Kd.R_slice HO_13.out; subst eo76) | ((with_reducible refine gate_callee (f := 18) rfl ?_); refine goesL_ (some 100) rfl rfl Try.func18 (by kernel_rfl) rfl #[.slice Ao76 t1011.length co76] rfl (by (try simp only [List.map_toArray, List.map_cons, List.map_nil]); first | done | rfl | (simp only [List.length_drop, List.length_take]; rfl)) ?_; (with_reducible refine (slices_Clone_int_int.calls _ _ t1011 t1031 _ ?side1 ?side2 A44.out).mono ?_); (case side1 => repeat (first | exact (Kd.R_reads' HO_13.out).2.2 | (with_reducible refine Kd.C_alloc ?_ _) | (with_reducible refine Kd.C_drewN ?_ _) | (with_reducible refine Kd.C_drew ?_))); (case side2 => exact (Kd.R_reads' HO_13.out).2.1); rintro e w77 ⟨v1032, rfl, ho0, hb⟩; refine ⟨_, rfl, ?_⟩; have n0_ := Aside0.mk (Kd.R_elder' (by (with_reducible repeat (first | apply Kd.R_alloc | apply Kd.R_drewN | apply Kd.R_drew)); exact HO_11.out) (Kd.R_base ho0) hb); have n1_ := Aside0.mk (Kd.R_elder' (by (with_reducible repeat (first | apply Kd.R_alloc | apply Kd.R_drewN | apply Kd.R_drew)); exact HO_13.out) (Kd.R_base ho0) hb); have n2_ := Aside0.mk (Kd.S_elder' (by (with_reducible repeat (first | apply Kd.S_alloc | apply Kd.S_drewN | apply Kd.S_drew)); exact HO_15.out) (Kd.R_base ho0) hb); have n3_ := Aside0.mk (Kd.R_elder' (by (with_reducible repeat (first | apply Kd.R_alloc | apply Kd.R_drewN | apply Kd.R_drew)); exact HO1030.out) (Kd.R_base ho0) hb); have n4_ := Aside0.mk (Kd.R_lower (Kd.R_new' (Kd.R_new' (Kd.R_new' ho0 (Kd.R_lt (by (with_reducible repeat (first | apply Kd.R_alloc | apply Kd.R_drewN | apply Kd.R_drew)); exact HO_11.out))) (Kd.R_lt (by (with_reducible repeat (first | apply Kd.R_alloc | apply Kd.R_drewN | apply Kd.R_drew)); exact HO_13.out))) (Kd.R_lt (by (with_reducible repeat (first | apply Kd.R_alloc | apply Kd.R_drewN | apply Kd.R_drew)); exact HO1030.out))) (below_size (by repeat (first | (with_reducible first | exact HB.out | apply below_alloc | apply pw_below_drewN | apply below_drew1) | exact HB.out)))); have n5_ := Aside0.mk (below_step (by repeat (first | (with_reducible first | exact HB.out | apply below_alloc | apply pw_below_drewN | apply below_drew1) | exact HB.out)) hb); clear HO_11; clear HO_13; clear HO_15; clear HO1030; clear HB; have HO_11 := n0_; have HO_13 := n1_; have HO_15 := n2_; have HO1030 := n3_; have HO1033 := n4_; have HB := n5_; clear n0_ n1_ n2_ n3_ n4_ n5_; (try clear hb); (try clear hb2); (try clear hk); (try clear hi); (try clear ho0); obtain ⟨Ao78, co78, eo78⟩ := Kd.R_slice HO1030.out; subst eo78; obtain ⟨Ao79, co79, eo79⟩ := Kd.R_slice HO1033.out; subst eo79) | ((with_reducible refine gate_callee (f := 26) rfl ?_); refine goesL_ (some 101) rfl rfl Try.func26 (by kernel_rfl) rfl #[.slice Ao78 t1028.length co78, .slice Ao79 t1031.length co79] rfl (by (try simp only [List.map_toArray, List.map_cons, List.map_nil]); first | done | rfl | (simp only [List.length_drop, List.length_take]; rfl)) ?_; (with_reducible refine (rows_Way.calls _ _ t1028 _ _ t1031 t1034 t1035 t1036 _ ?side1 ?side2 ?side3 ?side4 A45.out).mono ?_); (case side1 => repeat (first | exact (Kd.R_reads' HO1030.out).2.2 | (with_reducible refine Kd.C_alloc ?_ _) | (with_reducible refine Kd.C_drewN ?_ _) | (with_reducible refine Kd.C_drew ?_))); (case side2 => exact (Kd.R_reads' HO1030.out).2.1); (case side3 => repeat (first | exact (Kd.R_reads' HO1033.out).2.2 | (with_reducible refine Kd.C_alloc ?_ _) | (with_reducible refine Kd.C_drewN ?_ _) | (with_reducible refine Kd.C_drew ?_))); (case side4 => exact (Kd.R_reads' HO1033.out).2.1); rintro e w80 ⟨rfl, hb⟩; refine ⟨_, rfl, ?_⟩; have n0_ := Aside0.mk (Kd.R_below (by (with_reducible repeat (first | apply Kd.R_alloc | apply Kd.R_drewN | apply Kd.R_drew)); exact HO_11.out) hb); have n1_ := Aside0.mk (Kd.R_below (by (with_reducible repeat (first | apply Kd.R_alloc | apply Kd.R_drewN | apply Kd.R_drew)); exact HO_13.out) hb); have n2_ := Aside0.mk (Kd.S_below (by (with_reducible repeat (first | apply Kd.S_alloc | apply Kd.S_drewN | apply Kd.S_drew)); exact HO_15.out) hb); have n3_ := Aside0.mk (Kd.R_below (by (with_reducible repeat (first | apply Kd.R_alloc | apply Kd.R_drewN | apply Kd.R_drew)); exact HO1030.out) hb); have n4_ := Aside0.mk (Kd.R_below (by (with_reducible repeat (first | apply Kd.R_alloc | apply Kd.R_drewN | apply Kd.R_drew)); exact HO1033.out) hb); have n5_ := Aside0.mk (below_step (by repeat (first | (with_reducible first | exact HB.out | apply below_alloc | apply pw_below_drewN | apply below_drew1) | exact HB.out)) hb); clear HO_11; clear HO_13; clear HO_15; clear HO1030; clear HO1033; clear HB; have HO_11 := n0_; have HO_13 := n1_; have HO_15 := n2_; have HO1030 := n3_; have HO1033 := n4_; have HB := n5_; clear n0_ n1_ n2_ n3_ n4_ n5_; (try clear hb); (try clear hb2); (try clear hk); (try clear hi)) | ((with_reducible refine gate_dst (N := 17) rfl ?_); (try (refine gate_guard (by rfl) ?_; dsimp only)); refine box_event ?hg (N := 17) ?hd (cs := #[.int .i64 0, .int .i64 0]) (t := 46) ?hr ?_; (case hd => rfl); (case hg => rfl); (case hr => first | (go_simp; done) | (go_simp; rfl)); intro gb1037 hg w81 hbox hb; have n0_ := Aside0.mk (Kd.R_below (by (with_reducible repeat (first | apply Kd.R_alloc | apply Kd.R_drewN | apply Kd.R_drew)); exact HO_11.out) hb); have n1_ := Aside0.mk (Kd.R_below (by (with_reducible repeat (first | apply Kd.R_alloc | apply Kd.R_drewN | apply Kd.R_drew)); exact HO_13.out) hb); have n2_ := Aside0.mk (Kd.S_below (by (with_reducible repeat (first | apply Kd.S_alloc | apply Kd.S_drewN | apply Kd.S_drew)); exact HO_15.out) hb); have n3_ := Aside0.mk (Kd.R_below (by (with_reducible repeat (first | apply Kd.R_alloc | apply Kd.R_drewN | apply Kd.R_drew)); exact HO1030.out) hb); have n4_ := Aside0.mk (Kd.R_below (by (with_reducible repeat (first | apply Kd.R_alloc | apply Kd.R_drewN | apply Kd.R_drew)); exact HO1033.out) hb); have n5_ := Aside0.mk (below_step (by repeat (first | (with_reducible first | exact HB.out | apply below_alloc | apply pw_below_drewN | apply below_drew1) | exact HB.out)) hb); have n6_ := Aside0.mk (hbox); have n7_ := Aside0.mk ((by rw [hg]; exact (below_size (by repeat (first | (with_reducible first | exact HB.out | apply below_alloc | apply pw_below_drewN | apply below_drew1) | exact HB.out))) : w.heap.size ≤ gb1037)); have n8_ := Aside0.mk ((by rw [hg]; exact (below_size (by repeat (first | (with_reducible first | exact HB.out | apply below_alloc | apply pw_below_drewN | apply below_drew1) | exact HB.out))) : w.heap.size ≤ gb1037)); clear HO_11; clear HO_13; clear HO_15; clear HO1030; clear HO1033; clear HB; have HO_11 := n0_; have HO_13 := n1_; have HO_15 := n2_; have HO1030 := n3_; have HO1033 := n4_; have HB := n5_; have BK1037 := n6_; have GW1037 := n7_; have GE1037 := n8_; clear n0_ n1_ n2_ n3_ n4_ n5_ n6_ n7_ n8_; clear hb hbox hg; have hcz82_0 : w81.cell? ⟨gb1037, 0, none⟩ = some (.int .i64 0) := (blk_cell BK1037.out 0).trans rfl; have hcz82_1 : w81.cell? ⟨gb1037, 1, none⟩ = some (.int .i64 0) := (blk_cell BK1037.out 1).trans rfl; have hfz82_0 := blk_frozen BK1037.out 0; have hfz82_1 := blk_frozen BK1037.out 1))
                                      have n0_ : Aside0 (Kd.R (Kd.int .i64) 3 ((w81.setCell ⟨gb1037, 0, none⟩ (.int .i64 t1034)).setCell ⟨gb1037, 1, none⟩ (.int .i64 t1035)) w.heap.size (fun k_ => some k_ ≠ (.slice Ao76 t1011.length co76 : Value).ownBlock ∧ some k_ ≠ (.slice Ao78 t1028.length co78 : Value).ownBlock ∧ some k_ ≠ (.slice Ao79 t1031.length co79 : Value).ownBlock) (.slice Ao16 t1004.length co16) t1004) := ⟨by (with_reducible repeat (first | apply Kd.R_alloc | apply Kd.R_drewN | apply Kd.R_drew)); exact Kd.R_mono (Kd.R_far (p := ⟨gb1037, 1, none⟩) (Kd.R_far (p := ⟨gb1037, 0, none⟩) (Kd.R_types HO_11.out BK1037.out (by decide)) (fun _ hk => hk.2) (.int .i64 t1034)) (fun _ hk => hk.2) (.int .i64 t1035)) (fun _ hk => ⟨hk.1.1.1, ⟨hk.1.1.2, hk.1.2⟩⟩)⟩
                                      have n1_ : Aside0 (Kd.R (Kd.int .i64) 3 ((w81.setCell ⟨gb1037, 0, none⟩ (.int .i64 t1034)).setCell ⟨gb1037, 1, none⟩ (.int .i64 t1035)) w.heap.size (fun k_ => some k_ ≠ (.slice Ao16 t1004.length co16 : Value).ownBlock ∧ some k_ ≠ (.slice Ao78 t1028.length co78 : Value).ownBlock ∧ some k_ ≠ (.slice Ao79 t1031.length co79 : Value).ownBlock) (.slice Ao76 t1011.length co76) t1011) := ⟨by (with_reducible repeat (first | apply Kd.R_alloc | apply Kd.R_drewN | apply Kd.R_drew)); exact Kd.R_mono (Kd.R_far (p := ⟨gb1037, 1, none⟩) (Kd.R_far (p := ⟨gb1037, 0, none⟩) (Kd.R_types HO_13.out BK1037.out (by decide)) (fun _ hk => hk.2) (.int .i64 t1034)) (fun _ hk => hk.2) (.int .i64 t1035)) (fun _ hk => ⟨hk.1.1.1, ⟨hk.1.1.2, hk.1.2⟩⟩)⟩
                                      have n2_ : Aside0 (Kd.S (Kd.slice 3 (Kd.int .i64)) 27 ((w81.setCell ⟨gb1037, 0, none⟩ (.int .i64 t1034)).setCell ⟨gb1037, 1, none⟩ (.int .i64 t1035)) w.heap.size (fun k_ => some k_ ≠ (.slice Ao16 t1004.length co16 : Value).ownBlock ∧ some k_ ≠ (.slice Ao76 t1011.length co76 : Value).ownBlock ∧ some k_ ≠ (.slice Ao78 t1028.length co78 : Value).ownBlock ∧ some k_ ≠ (.slice Ao79 t1031.length co79 : Value).ownBlock) v1020 t1018) := ⟨by (with_reducible repeat (first | apply Kd.S_alloc | apply Kd.S_drewN | apply Kd.S_drew)); exact Kd.S_mono (Kd.S_far (p := ⟨gb1037, 1, none⟩) (Kd.S_far (p := ⟨gb1037, 0, none⟩) (Kd.S_types HO_15.out BK1037.out (by decide)) (fun _ hk => hk.2) (.int .i64 t1034)) (fun _ hk => hk.2) (.int .i64 t1035)) (fun _ hk => ⟨hk.1.1.1.1, ⟨hk.1.1.1.2, ⟨hk.1.1.2, hk.1.2⟩⟩⟩)⟩
                                      have n3_ : Aside0 (Kd.R (Kd.int .i64) 3 ((w81.setCell ⟨gb1037, 0, none⟩ (.int .i64 t1034)).setCell ⟨gb1037, 1, none⟩ (.int .i64 t1035)) w.heap.size (fun k_ => some k_ ≠ (.slice Ao16 t1004.length co16 : Value).ownBlock ∧ some k_ ≠ (.slice Ao76 t1011.length co76 : Value).ownBlock ∧ some k_ ≠ (.slice Ao79 t1031.length co79 : Value).ownBlock) (.slice Ao78 t1028.length co78) t1028) := ⟨by (with_reducible repeat (first | apply Kd.R_alloc | apply Kd.R_drewN | apply Kd.R_drew)); exact Kd.R_mono (Kd.R_far (p := ⟨gb1037, 1, none⟩) (Kd.R_far (p := ⟨gb1037, 0, none⟩) (Kd.R_types HO1030.out BK1037.out (by decide)) (fun _ hk => hk.2) (.int .i64 t1034)) (fun _ hk => hk.2) (.int .i64 t1035)) (fun _ hk => ⟨hk.1.1.1.2, ⟨hk.1.1.2, hk.1.2⟩⟩)⟩
                                      have n4_ : Aside0 (Kd.R (Kd.int .i64) 3 ((w81.setCell ⟨gb1037, 0, none⟩ (.int .i64 t1034)).setCell ⟨gb1037, 1, none⟩ (.int .i64 t1035)) w.heap.size (fun k_ => some k_ ≠ (.slice Ao16 t1004.length co16 : Value).ownBlock ∧ some k_ ≠ (.slice Ao76 t1011.length co76 : Value).ownBlock ∧ some k_ ≠ (.slice Ao78 t1028.length co78 : Value).ownBlock) (.slice Ao79 t1031.length co79) t1031) := ⟨by (with_reducible repeat (first | apply Kd.R_alloc | apply Kd.R_drewN | apply Kd.R_drew)); exact Kd.R_mono (Kd.R_far (p := ⟨gb1037, 1, none⟩) (Kd.R_far (p := ⟨gb1037, 0, none⟩) (Kd.R_types HO1033.out BK1037.out (by decide)) (fun _ hk => hk.2) (.int .i64 t1034)) (fun _ hk => hk.2) (.int .i64 t1035)) (fun _ hk => ⟨hk.1.1.1.2, ⟨hk.1.1.2, hk.1.2⟩⟩)⟩
                                      have n5_ : Aside0 (((w81.setCell ⟨gb1037, 0, none⟩ (.int .i64 t1034)).setCell ⟨gb1037, 1, none⟩ (.int .i64 t1035)).heap[gb1037]? = some (.cells #[.int .i64 t1034, .int .i64 t1035] 46 (0, 0))) := ⟨by (with_reducible repeat (first | refine blk_drewN ?_ _ | refine blk_drew ?_ | refine blk_alloc ?_ _)); refine blk_put (cs := #[.int .i64 t1034, .int .i64 0]) ?_ 1 _ rfl; (with_reducible repeat (first | refine blk_drewN ?_ _ | refine blk_drew ?_ | refine blk_alloc ?_ _)); refine blk_put (cs := #[.int .i64 0, .int .i64 0]) ?_ 0 _ rfl; (with_reducible repeat (first | refine blk_drewN ?_ _ | refine blk_drew ?_ | refine blk_alloc ?_ _)); exact BK1037.out⟩
                                      have n6_ : Aside0 (Below w.heap.size w ((w81.setCell ⟨gb1037, 0, none⟩ (.int .i64 t1034)).setCell ⟨gb1037, 1, none⟩ (.int .i64 t1035))) := ⟨by repeat (first | (with_reducible first | exact HB.out | apply below_alloc | apply pw_below_drewN | apply below_drew1 | refine below_set ?_ GE1037.out) | exact HB.out)⟩
                                      (try clear HO_11)
                                      (try clear HO_13)
                                      (try clear HO_15)
                                      (try clear HO1030)
                                      (try clear HO1033)
                                      (try clear BK1037)
                                      (try clear HB)
                                      generalize ((w81.setCell ⟨gb1037, 0, none⟩ (.int .i64 t1034)).setCell ⟨gb1037, 1, none⟩ (.int .i64 t1035)) = w83 at n0_ n1_ n2_ n3_ n4_ n5_ n6_ ⊢
                                      have HO_11 := n0_
                                      have HO_13 := n1_
                                      have HO_15 := n2_
                                      have HO1030 := n3_
                                      have HO1033 := n4_
                                      have BK1037 := n5_
                                      have HB := n6_
                                      clear n0_ n1_ n2_ n3_ n4_ n5_ n6_
                                      have n0_ := Aside0.mk (Kd.R_drew HO_11.out)
                                      have n1_ := Aside0.mk (Kd.R_drew HO_13.out)
                                      have n2_ := Aside0.mk (Kd.S_drew HO_15.out)
                                      have n3_ := Aside0.mk (Kd.R_drew HO1030.out)
                                      have n4_ := Aside0.mk (Kd.R_drew HO1033.out)
                                      have n5_ := Aside0.mk (blk_drew BK1037.out)
                                      have n6_ := Aside0.mk (below_drew1 HB.out)
                                      clear HO_11
                                      clear HO_13
                                      clear HO_15
                                      clear HO1030
                                      clear HO1033
                                      clear BK1037
                                      clear HB
                                      have HO_11 := n0_
                                      have HO_13 := n1_
                                      have HO_15 := n2_
                                      have HO1030 := n3_
                                      have HO1033 := n4_
                                      have BK1037 := n5_
                                      have HB := n6_
                                      clear n0_ n1_ n2_ n3_ n4_ n5_ n6_
                                      refine start_ (n := 12) (S := fun w' => w'.cell? ⟨gb1037, 0, none⟩ = some (.int .i64 t1034) ∧ w'.cell? ⟨gb1037, 1, none⟩ = some (.int .i64 t1035)) (ds := []) #[false, false, false, false, false, false, false, false, false, false, false, false] (by kernel_rfl) rfl rfl ⟨(blk_cell BK1037.out 0).trans rfl, (blk_cell BK1037.out 1).trans rfl⟩ (fun hHeld => ?_); refine with_tabW sackbutlaw05_RowsClosed.tab7 sackbutlaw05_RowsClosed.bits7 (fun HT_ HW_ => ?_)
                                      generalize w83.drew = w84 at HO_11 HO_13 HO_15 HO1030 HO1033 BK1037 HB hHeld ⊢
                                      refine pure_ (i := 0) (N := some 105) (v := ?_) (a' := ?_) #[true, false, false, false, false, false, false, false, false, false, false, false] rfl rfl (any_of HT_.out (by kernel_rfl)) (fun _ _ _ h => h) (Or.inl ⟨by rfl, ?_⟩) ?_ ?_
                                      rotate_left
                                      · intro w'
                                        go_simp
                                        with_reducible rfl
                                      rotate_left
                                      · simp only [Act.put, List.setIfInBounds_toArray, List.set_cons_zero, List.set_cons_succ, i64_w, i32_w]
                                        rfl
                                      refine pure_ (i := 2) (N := some 107) (v := ?_) (a' := ?_) #[true, false, true, false, false, false, false, false, false, false, false, false] rfl rfl (any_of HT_.out (by kernel_rfl)) (fun _ _ _ h => h) (Or.inl ⟨by rfl, ?_⟩) ?_ ?_
                                      rotate_left
                                      · intro w'
                                        go_simp
                                        with_reducible rfl
                                      rotate_left
                                      · simp only [Act.put, List.setIfInBounds_toArray, List.set_cons_zero, List.set_cons_succ, i64_w, i32_w]
                                        rfl
                                      refine pure_ (i := 4) (N := some 109) (v := ?_) (a' := ?_) #[true, false, true, false, true, false, false, false, false, false, false, false] rfl rfl (any_of HT_.out (by kernel_rfl)) (fun _ _ _ h => h) (Or.inl ⟨by rfl, ?_⟩) ?_ ?_
                                      rotate_left
                                      · intro w'
                                        go_simp
                                        with_reducible rfl
                                      rotate_left
                                      · simp only [Act.put, List.setIfInBounds_toArray, List.set_cons_zero, List.set_cons_succ, i64_w, i32_w]
                                        rfl
                                      refine take_ (i := 3) (N := some 108) (v := ?_) (a' := ?_) #[true, false, true, true, true, false, false, false, false, false, false, false] rfl rfl (take_ofW HT_.out HW_.out (by kernel_rfl)) (fun _ _ _ h => h) (Or.inl ⟨by rfl, ?_⟩) hHeld ?_ ?_
                                      rotate_left
                                      · rintro w' ⟨s0, s1⟩
                                        go_simp
                                        with_reducible rfl
                                      rotate_left
                                      · simp only [Act.put, List.setIfInBounds_toArray, List.set_cons_zero, List.set_cons_succ, i64_w, i32_w]
                                        rfl
                                      refine take_ (i := 5) (N := some 110) (v := ?_) (a' := ?_) #[true, false, true, true, true, true, false, false, false, false, false, false] rfl rfl (take_ofW HT_.out HW_.out (by kernel_rfl)) (fun _ _ _ h => h) (Or.inl ⟨by rfl, ?_⟩) hHeld ?_ ?_
                                      rotate_left
                                      · rintro w' ⟨s0, s1⟩
                                        go_simp
                                        with_reducible rfl
                                      rotate_left
                                      · simp only [Act.put, List.setIfInBounds_toArray, List.set_cons_zero, List.set_cons_succ, i64_w, i32_w]
                                        rfl
                                      refine one_ (i := 1) (N := some 106) #[true, true, true, true, true, true, false, false, false, false, false, false] rfl rfl (one_of HT_.out (by kernel_rfl)) (by decide) (fun K hK => ?_)
                                      refine goes_ Try.func16 (by kernel_rfl) rfl #[.slice A0 l0.length c0] (by rfl) rfl rfl (by (try simp only [List.map_toArray, List.map_cons, List.map_nil]); first | done | rfl | (simp only [List.length_drop, List.length_take]; rfl)) ?_
                                      with_reducible refine (sackbutlaw05_list.calls _ _ l0 t1038 _ ?side1 ?side2 A46.out).mono ?_
                                      (case side1 => repeat (first | exact (Kd.C_below HR0.out HB.out) | (with_reducible refine Kd.C_alloc ?_ _) | (with_reducible refine Kd.C_drewN ?_ _) | (with_reducible refine Kd.C_drew ?_)))
                                      (case side2 => exact HC0.out)
                                      rintro e w85 ⟨v1039, rfl, ho0, hb⟩
                                      refine ⟨_, rfl, ?_⟩
                                      have n0_ := Aside0.mk (Kd.R_elder' (by (with_reducible repeat (first | apply Kd.R_alloc | apply Kd.R_drewN | apply Kd.R_drew)); exact HO_11.out) (Kd.R_base ho0) hb)
                                      have n1_ := Aside0.mk (Kd.R_elder' (by (with_reducible repeat (first | apply Kd.R_alloc | apply Kd.R_drewN | apply Kd.R_drew)); exact HO_13.out) (Kd.R_base ho0) hb)
                                      have n2_ := Aside0.mk (Kd.S_elder' (by (with_reducible repeat (first | apply Kd.S_alloc | apply Kd.S_drewN | apply Kd.S_drew)); exact HO_15.out) (Kd.R_base ho0) hb)
                                      have n3_ := Aside0.mk (Kd.R_elder' (by (with_reducible repeat (first | apply Kd.R_alloc | apply Kd.R_drewN | apply Kd.R_drew)); exact HO1030.out) (Kd.R_base ho0) hb)
                                      have n4_ := Aside0.mk (Kd.R_elder' (by (with_reducible repeat (first | apply Kd.R_alloc | apply Kd.R_drewN | apply Kd.R_drew)); exact HO1033.out) (Kd.R_base ho0) hb)
                                      have n5_ := Aside0.mk (Kd.R_lower (Kd.R_new' (Kd.R_new' (Kd.R_new' (Kd.R_new' ho0 (Kd.R_lt (by (with_reducible repeat (first | apply Kd.R_alloc | apply Kd.R_drewN | apply Kd.R_drew)); exact HO_11.out))) (Kd.R_lt (by (with_reducible repeat (first | apply Kd.R_alloc | apply Kd.R_drewN | apply Kd.R_drew)); exact HO_13.out))) (Kd.R_lt (by (with_reducible repeat (first | apply Kd.R_alloc | apply Kd.R_drewN | apply Kd.R_drew)); exact HO1030.out))) (Kd.R_lt (by (with_reducible repeat (first | apply Kd.R_alloc | apply Kd.R_drewN | apply Kd.R_drew)); exact HO1033.out))) (below_size (by repeat (first | (with_reducible first | exact HB.out | apply below_alloc | apply pw_below_drewN | apply below_drew1 | refine below_set ?_ GE1037.out) | exact HB.out))))
                                      have n6_ := Aside0.mk (blk_below (g := gb1037) (o := .cells #[.int .i64 t1034, .int .i64 t1035] 46 (0, 0)) (by (with_reducible repeat (first | refine blk_drewN ?_ _ | refine blk_drew ?_ | refine blk_alloc ?_ _)); exact BK1037.out) hb)
                                      have n7_ := Aside0.mk (below_step (by repeat (first | (with_reducible first | exact HB.out | apply below_alloc | apply pw_below_drewN | apply below_drew1 | refine below_set ?_ GE1037.out) | exact HB.out)) hb)
                                      clear HO_11
                                      clear HO_13
                                      clear HO_15
                                      clear HO1030
                                      clear HO1033
                                      clear BK1037
                                      clear HB
                                      have HO_11 := n0_
                                      have HO_13 := n1_
                                      have HO_15 := n2_
                                      have HO1030 := n3_
                                      have HO1033 := n4_
                                      have HO1040 := n5_
                                      have BK1037 := n6_
                                      have HB := n7_
                                      clear n0_ n1_ n2_ n3_ n4_ n5_ n6_ n7_
                                      (try clear hb)
                                      (try clear hb2)
                                      (try clear hk)
                                      (try clear hi)
                                      (try clear ho0)
                                      obtain ⟨Ao86, co86, eo86⟩ := Kd.R_slice HO1040.out
                                      (first | subst eo86 | (injection eo86 with f1_ f2_ f3_; have f4_ := f1_.symm; have f5_ := f3_.symm; clear f1_ f2_ f3_; subst f4_; subst f5_))
                                      refine hK.out _ _ ⟨(blk_cell BK1037.out 0).trans rfl, (blk_cell BK1037.out 1).trans rfl⟩ (fun hHeld => ?_)
                                      clear hK K
                                      refine norm_ (a' := ?_) ?_ ?_
                                      rotate_left
                                      · show Act.put _ (some 106) _ = _
                                        simp only [Act.put, List.setIfInBounds_toArray, List.set_cons_zero, List.set_cons_succ, i64_w, i32_w]
                                        rfl
                                      refine one_ (i := 6) (N := some 111) #[true, true, true, true, true, true, true, false, false, false, false, false] rfl rfl (one_of HT_.out (by kernel_rfl)) (by decide) (fun K hK => ?_)
                                      refine goes_ Try.func17 (by kernel_rfl) rfl #[.slice Ao86 t1038.length co86, .int .i64 t1034, .int .i64 t1035] (by rfl) rfl rfl (by (try simp only [List.map_toArray, List.map_cons, List.map_nil]); first | done | rfl | (simp only [List.length_drop, List.length_take]; rfl)) ?_
                                      with_reducible refine (rows_Form.calls kj11 (fun k_ => some k_ = (.slice Ao86 t1038.length co86 : Value).ownBlock) (.slice Ao86 t1038.length co86) t1038 t1034 t1035 t1041 t1044 w _ ?side1 ?side2 A47.out).mono ?_
                                      (case side1 => repeat (first | (with_reducible first | exact HB.out | apply below_alloc | apply pw_below_drewN | apply below_drew1 | refine below_set ?_ GE1037.out) | exact HB.out))
                                      (case side2 => exact Kd.R_tight rfl HO1040.out)
                                      rintro e w87 ⟨v1042, rfl, ho0, hb, hkp⟩
                                      refine ⟨_, rfl, ?_⟩
                                      have n0_ := Aside0.mk (Kd.R_mono (ok' := fun k_ => some k_ ≠ (.slice Ao76 t1011.length co76 : Value).ownBlock ∧ some k_ ≠ (.slice Ao78 t1028.length co78 : Value).ownBlock ∧ some k_ ≠ (.slice Ao79 t1031.length co79 : Value).ownBlock ∧ some k_ ≠ (v1042 : Value).ownBlock) (Kd.R_keptB (HO_11.out) hkp (fun k_ hk_ hs_ => (hk_.2) hs_)) (fun k_ hk_ => ⟨hk_.1.1.1, hk_.1.1.2.1, hk_.1.1.2.2, fun e_ => Or.elim (ho0.1 k_ e_.symm) (fun hs_ => hk_.2.1 hs_) (fun hn_ => Nat.not_le.2 hk_.2.2 hn_)⟩))
                                      have n1_ := Aside0.mk (Kd.R_mono (ok' := fun k_ => some k_ ≠ (.slice Ao16 t1004.length co16 : Value).ownBlock ∧ some k_ ≠ (.slice Ao78 t1028.length co78 : Value).ownBlock ∧ some k_ ≠ (.slice Ao79 t1031.length co79 : Value).ownBlock ∧ some k_ ≠ (v1042 : Value).ownBlock) (Kd.R_keptB (HO_13.out) hkp (fun k_ hk_ hs_ => (hk_.2) hs_)) (fun k_ hk_ => ⟨hk_.1.1.1, hk_.1.1.2.1, hk_.1.1.2.2, fun e_ => Or.elim (ho0.1 k_ e_.symm) (fun hs_ => hk_.2.1 hs_) (fun hn_ => Nat.not_le.2 hk_.2.2 hn_)⟩))
                                      have n2_ := Aside0.mk (Kd.S_mono (ok' := fun k_ => some k_ ≠ (.slice Ao16 t1004.length co16 : Value).ownBlock ∧ some k_ ≠ (.slice Ao76 t1011.length co76 : Value).ownBlock ∧ some k_ ≠ (.slice Ao78 t1028.length co78 : Value).ownBlock ∧ some k_ ≠ (.slice Ao79 t1031.length co79 : Value).ownBlock ∧ some k_ ≠ (v1042 : Value).ownBlock) (Kd.S_keptB (HO_15.out) hkp (fun k_ hk_ hs_ => (hk_.2) hs_)) (fun k_ hk_ => ⟨hk_.1.1.1, hk_.1.1.2.1, hk_.1.1.2.2.1, hk_.1.1.2.2.2, fun e_ => Or.elim (ho0.1 k_ e_.symm) (fun hs_ => hk_.2.1 hs_) (fun hn_ => Nat.not_le.2 hk_.2.2 hn_)⟩))
                                      have n3_ := Aside0.mk (Kd.R_mono (ok' := fun k_ => some k_ ≠ (.slice Ao16 t1004.length co16 : Value).ownBlock ∧ some k_ ≠ (.slice Ao76 t1011.length co76 : Value).ownBlock ∧ some k_ ≠ (.slice Ao79 t1031.length co79 : Value).ownBlock ∧ some k_ ≠ (v1042 : Value).ownBlock) (Kd.R_keptB (HO1030.out) hkp (fun k_ hk_ hs_ => (hk_.2) hs_)) (fun k_ hk_ => ⟨hk_.1.1.1, hk_.1.1.2.1, hk_.1.1.2.2, fun e_ => Or.elim (ho0.1 k_ e_.symm) (fun hs_ => hk_.2.1 hs_) (fun hn_ => Nat.not_le.2 hk_.2.2 hn_)⟩))
                                      have n4_ := Aside0.mk (Kd.R_mono (ok' := fun k_ => some k_ ≠ (.slice Ao16 t1004.length co16 : Value).ownBlock ∧ some k_ ≠ (.slice Ao76 t1011.length co76 : Value).ownBlock ∧ some k_ ≠ (.slice Ao78 t1028.length co78 : Value).ownBlock ∧ some k_ ≠ (v1042 : Value).ownBlock) (Kd.R_keptB (HO1033.out) hkp (fun k_ hk_ hs_ => (hk_.2) hs_)) (fun k_ hk_ => ⟨hk_.1.1.1, hk_.1.1.2.1, hk_.1.1.2.2, fun e_ => Or.elim (ho0.1 k_ e_.symm) (fun hs_ => hk_.2.1 hs_) (fun hn_ => Nat.not_le.2 hk_.2.2 hn_)⟩))
                                      have n5_ := Aside0.mk (blk_kept (by (with_reducible repeat (first | refine blk_drewN ?_ _ | refine blk_drew ?_ | refine blk_alloc ?_ _)); exact BK1037.out) hkp (fun hs_ => (fun e_ => (Kd.R_ne HO1040.out BK1037.out (by decide)) e_) hs_))
                                      have n6_ := Aside0.mk (Kd.R_mono (ok' := fun k_ => some k_ ≠ (.slice Ao16 t1004.length co16 : Value).ownBlock ∧ some k_ ≠ (.slice Ao76 t1011.length co76 : Value).ownBlock ∧ some k_ ≠ (.slice Ao78 t1028.length co78 : Value).ownBlock ∧ some k_ ≠ (.slice Ao79 t1031.length co79 : Value).ownBlock) ho0 (fun k_ hk_ => ⟨Or.elim hk_ (fun hs_ => fun e_ => (((HO_11.out).1 k_ e_.symm).2) hs_) (fun hn_ => (Kd.fresh' (Kd.R_lt (by (with_reducible repeat (first | apply Kd.R_alloc | apply Kd.R_drewN | apply Kd.R_drew)); exact HO_11.out)) k_ hn_)), Or.elim hk_ (fun hs_ => fun e_ => (((HO_13.out).1 k_ e_.symm).2) hs_) (fun hn_ => (Kd.fresh' (Kd.R_lt (by (with_reducible repeat (first | apply Kd.R_alloc | apply Kd.R_drewN | apply Kd.R_drew)); exact HO_13.out)) k_ hn_)), Or.elim hk_ (fun hs_ => fun e_ => (((HO1030.out).1 k_ e_.symm).2) hs_) (fun hn_ => (Kd.fresh' (Kd.R_lt (by (with_reducible repeat (first | apply Kd.R_alloc | apply Kd.R_drewN | apply Kd.R_drew)); exact HO1030.out)) k_ hn_)), Or.elim hk_ (fun hs_ => fun e_ => (((HO1033.out).1 k_ e_.symm).2) hs_) (fun hn_ => (Kd.fresh' (Kd.R_lt (by (with_reducible repeat (first | apply Kd.R_alloc | apply Kd.R_drewN | apply Kd.R_drew)); exact HO1033.out)) k_ hn_))⟩))
                                      have n7_ := Aside0.mk (hb)
                                      clear HO_11
                                      clear HO_13
                                      clear HO_15
                                      clear HO1030
                                      clear HO1033
                                      clear BK1037
                                      clear HB
                                      clear HO1040
                                      have HO_11 := n0_
                                      have HO_13 := n1_
                                      have HO_15 := n2_
                                      have HO1030 := n3_
                                      have HO1033 := n4_
                                      have BK1037 := n5_
                                      have HO1043 := n6_
                                      have HB := n7_
                                      clear n0_ n1_ n2_ n3_ n4_ n5_ n6_ n7_
                                      (try clear hb)
                                      (try clear hkp)
                                      (try clear ho0)
                                      refine hK.out _ _ ⟨(blk_cell BK1037.out 0).trans rfl, (blk_cell BK1037.out 1).trans rfl⟩ (fun hHeld => ?_)
                                      clear hK K
                                      refine norm_ (a' := ?_) ?_ ?_
                                      rotate_left
                                      · show Act.put _ (some 111) _ = _
                                        simp only [Act.put, List.setIfInBounds_toArray, List.set_cons_zero, List.set_cons_succ, i64_w, i32_w]
                                        rfl
                                      refine pure_ (i := 7) (N := some 104) (v := ?_) (a' := ?_) #[true, true, true, true, true, true, true, true, false, false, false, false] rfl rfl (any_of HT_.out (by kernel_rfl)) (fun _ _ _ h => h) (Or.inl ⟨by rfl, ?_⟩) ?_ ?_
                                      rotate_left
                                      · intro w'
                                        go_simp
                                        with_reducible rfl
                                      rotate_left
                                      · simp only [Act.put, List.setIfInBounds_toArray, List.set_cons_zero, List.set_cons_succ, i64_w, i32_w]
                                        rfl
                                      refine pure_ (i := 8) (N := some 112) (v := ?_) (a' := ?_) #[true, true, true, true, true, true, true, true, true, false, false, false] rfl rfl (any_of HT_.out (by kernel_rfl)) (fun _ _ _ h => h) (Or.inl ⟨by rfl, ?_⟩) ?_ ?_
                                      rotate_left
                                      · intro w'
                                        go_simp
                                        with_reducible rfl
                                      rotate_left
                                      · simp only [Act.put, List.setIfInBounds_toArray, List.set_cons_zero, List.set_cons_succ, i64_w, i32_w]
                                        rfl
                                      refine pure_ (i := 9) (N := some 113) (v := ?_) (a' := ?_) #[true, true, true, true, true, true, true, true, true, true, false, false] rfl rfl (any_of HT_.out (by kernel_rfl)) (fun _ _ _ h => h) (Or.inl ⟨by rfl, ?_⟩) ?_ ?_
                                      rotate_left
                                      · intro w'
                                        go_simp
                                        with_reducible rfl
                                      rotate_left
                                      · simp only [Act.put, List.setIfInBounds_toArray, List.set_cons_zero, List.set_cons_succ, i64_w, i32_w]
                                        rfl
                                      refine pure_ (i := 10) (N := some 19) (v := ?_) (a' := ?_) #[true, true, true, true, true, true, true, true, true, true, true, false] rfl rfl (any_of HT_.out (by kernel_rfl)) (fun _ _ _ h => h) (Or.inl ⟨by rfl, ?_⟩) ?_ ?_
                                      rotate_left
                                      · intro w'
                                        go_simp
                                        with_reducible rfl
                                      rotate_left
                                      · simp only [Act.put, List.setIfInBounds_toArray, List.set_cons_zero, List.set_cons_succ, i64_w, i32_w]
                                        rfl
                                      refine pure_ (i := 11) (N := some 20) (v := ?_) (a' := ?_) #[true, true, true, true, true, true, true, true, true, true, true, true] rfl rfl (any_of HT_.out (by kernel_rfl)) (fun _ _ _ h => h) (Or.inl ⟨by rfl, ?_⟩) ?_ ?_
                                      rotate_left
                                      · intro w'
                                        go_simp
                                        with_reducible rfl
                                      rotate_left
                                      · simp only [Act.put, List.setIfInBounds_toArray, List.set_cons_zero, List.set_cons_succ, i64_w, i32_w]
                                        rfl
                                      refine done_ (done_of HT_.out (by kernel_rfl)) ?_
                                      try go_wp2_with (first | ((with_reducible refine gate_callee (f := 16) rfl ?_); refine goesL_ (some 116) rfl rfl Try.func16 (by kernel_rfl) rfl #[.slice A0 l0.length c0] rfl (by (try simp only [List.map_toArray, List.map_cons, List.map_nil]); first | done | rfl | (simp only [List.length_drop, List.length_take]; rfl)) ?_; (with_reducible refine (sackbutlaw05_list.calls _ _ l0 t1045 _ ?side1 ?side2 A48.out).mono ?_); (case side1 => repeat (first | exact (Kd.C_below HR0.out HB.out) | (with_reducible refine Kd.C_alloc ?_ _) | (with_reducible refine Kd.C_drewN ?_ _) | (with_reducible refine Kd.C_drew ?_))); (case side2 => exact HC0.out); rintro e w88 ⟨v1046, rfl, ho0, hb⟩; refine ⟨_, rfl, ?_⟩; have n0_ := Aside0.mk (Kd.R_elder' (by (with_reducible repeat (first | apply Kd.R_alloc | apply Kd.R_drewN | apply Kd.R_drew)); exact HO_11.out) (Kd.R_base ho0) hb); have n1_ := Aside0.mk (Kd.R_elder' (by (with_reducible repeat (first | apply Kd.R_alloc | apply Kd.R_drewN | apply Kd.R_drew)); exact HO_13.out) (Kd.R_base ho0) hb); have n2_ := Aside0.mk (Kd.S_elder' (by (with_reducible repeat (first | apply Kd.S_alloc | apply Kd.S_drewN | apply Kd.S_drew)); exact HO_15.out) (Kd.R_base ho0) hb); have n3_ := Aside0.mk (Kd.R_elder' (by (with_reducible repeat (first | apply Kd.R_alloc | apply Kd.R_drewN | apply Kd.R_drew)); exact HO1030.out) (Kd.R_base ho0) hb); have n4_ := Aside0.mk (Kd.R_elder' (by (with_reducible repeat (first | apply Kd.R_alloc | apply Kd.R_drewN | apply Kd.R_drew)); exact HO1033.out) (Kd.R_base ho0) hb); have n5_ := Aside0.mk (Kd.R_elder' (by (with_reducible repeat (first | apply Kd.R_alloc | apply Kd.R_drewN | apply Kd.R_drew)); exact HO1043.out) (Kd.R_base ho0) hb); have n6_ := Aside0.mk (Kd.R_lower (Kd.R_new' (Kd.R_new' (Kd.R_new' (Kd.R_new' (Kd.R_new' ho0 (Kd.R_lt (by (with_reducible repeat (first | apply Kd.R_alloc | apply Kd.R_drewN | apply Kd.R_drew)); exact HO_11.out))) (Kd.R_lt (by (with_reducible repeat (first | apply Kd.R_alloc | apply Kd.R_drewN | apply Kd.R_drew)); exact HO_13.out))) (Kd.R_lt (by (with_reducible repeat (first | apply Kd.R_alloc | apply Kd.R_drewN | apply Kd.R_drew)); exact HO1030.out))) (Kd.R_lt (by (with_reducible repeat (first | apply Kd.R_alloc | apply Kd.R_drewN | apply Kd.R_drew)); exact HO1033.out))) (Kd.R_lt (by (with_reducible repeat (first | apply Kd.R_alloc | apply Kd.R_drewN | apply Kd.R_drew)); exact HO1043.out))) (below_size (by repeat (first | (with_reducible first | exact HB.out | apply below_alloc | apply pw_below_drewN | apply below_drew1 | refine below_set ?_ GE1037.out) | exact HB.out)))); have n7_ := Aside0.mk (blk_below (g := gb1037) (o := .cells #[.int .i64 t1034, .int .i64 t1035] 46 (0, 0)) (by (with_reducible repeat (first | refine blk_drewN ?_ _ | refine blk_drew ?_ | refine blk_alloc ?_ _)); exact BK1037.out) hb); have n8_ := Aside0.mk (below_step (by repeat (first | (with_reducible first | exact HB.out | apply below_alloc | apply pw_below_drewN | apply below_drew1 | refine below_set ?_ GE1037.out) | exact HB.out)) hb); clear HO_11; clear HO_13; clear HO_15; clear HO1030; clear HO1033; clear HO1043; clear BK1037; clear HB; have HO_11 := n0_; have HO_13 := n1_; have HO_15 := n2_; have HO1030 := n3_; have HO1033 := n4_; have HO1043 := n5_; have HO1047 := n6_; have BK1037 := n7_; have HB := n8_; clear n0_ n1_ n2_ n3_ n4_ n5_ n6_ n7_ n8_; (try clear hb); (try clear hb2); (try clear hk); (try clear hi); (try clear ho0); obtain ⟨Ao89, co89, eo89⟩ := Kd.R_slice HO1047.out; subst eo89) | ((with_reducible refine gate_callee (f := 27) rfl ?_); refine goesL_ (some 117) rfl rfl Try.func27 (by kernel_rfl) rfl #[.slice Ao89 t1045.length co89] rfl (by (try simp only [List.map_toArray, List.map_cons, List.map_nil]); first | done | rfl | (simp only [List.length_drop, List.length_take]; rfl)) ?_; (with_reducible refine (rows_Every.calls kj11 _ _ t1045 t1048 t1049 _ ?side1 ?side2 A49.out).mono ?_); (case side1 => repeat (first | exact (Kd.R_reads' HO1047.out).2.2 | (with_reducible refine Kd.C_alloc ?_ _) | (with_reducible refine Kd.C_drewN ?_ _) | (with_reducible refine Kd.C_drew ?_))); (case side2 => exact (Kd.R_reads' HO1047.out).2.1); rintro e w90 ⟨rfl, hb⟩; refine ⟨_, rfl, ?_⟩; have n0_ := Aside0.mk (Kd.R_below (by (with_reducible repeat (first | apply Kd.R_alloc | apply Kd.R_drewN | apply Kd.R_drew)); exact HO_11.out) hb); have n1_ := Aside0.mk (Kd.R_below (by (with_reducible repeat (first | apply Kd.R_alloc | apply Kd.R_drewN | apply Kd.R_drew)); exact HO_13.out) hb); have n2_ := Aside0.mk (Kd.S_below (by (with_reducible repeat (first | apply Kd.S_alloc | apply Kd.S_drewN | apply Kd.S_drew)); exact HO_15.out) hb); have n3_ := Aside0.mk (Kd.R_below (by (with_reducible repeat (first | apply Kd.R_alloc | apply Kd.R_drewN | apply Kd.R_drew)); exact HO1030.out) hb); have n4_ := Aside0.mk (Kd.R_below (by (with_reducible repeat (first | apply Kd.R_alloc | apply Kd.R_drewN | apply Kd.R_drew)); exact HO1033.out) hb); have n5_ := Aside0.mk (Kd.R_below (by (with_reducible repeat (first | apply Kd.R_alloc | apply Kd.R_drewN | apply Kd.R_drew)); exact HO1043.out) hb); have n6_ := Aside0.mk (Kd.R_below (by (with_reducible repeat (first | apply Kd.R_alloc | apply Kd.R_drewN | apply Kd.R_drew)); exact HO1047.out) hb); have n7_ := Aside0.mk (blk_below (g := gb1037) (o := .cells #[.int .i64 t1034, .int .i64 t1035] 46 (0, 0)) (by (with_reducible repeat (first | refine blk_drewN ?_ _ | refine blk_drew ?_ | refine blk_alloc ?_ _)); exact BK1037.out) hb); have n8_ := Aside0.mk (below_step (by repeat (first | (with_reducible first | exact HB.out | apply below_alloc | apply pw_below_drewN | apply below_drew1 | refine below_set ?_ GE1037.out) | exact HB.out)) hb); clear HO_11; clear HO_13; clear HO_15; clear HO1030; clear HO1033; clear HO1043; clear HO1047; clear BK1037; clear HB; have HO_11 := n0_; have HO_13 := n1_; have HO_15 := n2_; have HO1030 := n3_; have HO1033 := n4_; have HO1043 := n5_; have HO1047 := n6_; have BK1037 := n7_; have HB := n8_; clear n0_ n1_ n2_ n3_ n4_ n5_ n6_ n7_ n8_; (try clear hb); (try clear hb2); (try clear hk); (try clear hi)) | ((with_reducible refine gate_callee (f := 18) rfl ?_); refine goesL_ (some 122) rfl rfl Try.func18 (by kernel_rfl) rfl #[.slice Ao76 t1011.length co76] rfl (by (try simp only [List.map_toArray, List.map_cons, List.map_nil]); first | done | rfl | (simp only [List.length_drop, List.length_take]; rfl)) ?_; (with_reducible refine (slices_Clone_int_int.calls _ _ t1011 t1050 _ ?side1 ?side2 A50.out).mono ?_); (case side1 => repeat (first | exact (Kd.R_reads' HO_13.out).2.2 | (with_reducible refine Kd.C_alloc ?_ _) | (with_reducible refine Kd.C_drewN ?_ _) | (with_reducible refine Kd.C_drew ?_))); (case side2 => exact (Kd.R_reads' HO_13.out).2.1); rintro e w91 ⟨v1051, rfl, ho0, hb⟩; refine ⟨_, rfl, ?_⟩; have n0_ := Aside0.mk (Kd.R_elder' (by (with_reducible repeat (first | apply Kd.R_alloc | apply Kd.R_drewN | apply Kd.R_drew)); exact HO_11.out) (Kd.R_base ho0) hb); have n1_ := Aside0.mk (Kd.R_elder' (by (with_reducible repeat (first | apply Kd.R_alloc | apply Kd.R_drewN | apply Kd.R_drew)); exact HO_13.out) (Kd.R_base ho0) hb); have n2_ := Aside0.mk (Kd.S_elder' (by (with_reducible repeat (first | apply Kd.S_alloc | apply Kd.S_drewN | apply Kd.S_drew)); exact HO_15.out) (Kd.R_base ho0) hb); have n3_ := Aside0.mk (Kd.R_elder' (by (with_reducible repeat (first | apply Kd.R_alloc | apply Kd.R_drewN | apply Kd.R_drew)); exact HO1030.out) (Kd.R_base ho0) hb); have n4_ := Aside0.mk (Kd.R_elder' (by (with_reducible repeat (first | apply Kd.R_alloc | apply Kd.R_drewN | apply Kd.R_drew)); exact HO1033.out) (Kd.R_base ho0) hb); have n5_ := Aside0.mk (Kd.R_elder' (by (with_reducible repeat (first | apply Kd.R_alloc | apply Kd.R_drewN | apply Kd.R_drew)); exact HO1043.out) (Kd.R_base ho0) hb); have n6_ := Aside0.mk (Kd.R_elder' (by (with_reducible repeat (first | apply Kd.R_alloc | apply Kd.R_drewN | apply Kd.R_drew)); exact HO1047.out) (Kd.R_base ho0) hb); have n7_ := Aside0.mk (Kd.R_lower (Kd.R_new' (Kd.R_new' (Kd.R_new' (Kd.R_new' (Kd.R_new' (Kd.R_new' ho0 (Kd.R_lt (by (with_reducible repeat (first | apply Kd.R_alloc | apply Kd.R_drewN | apply Kd.R_drew)); exact HO_11.out))) (Kd.R_lt (by (with_reducible repeat (first | apply Kd.R_alloc | apply Kd.R_drewN | apply Kd.R_drew)); exact HO_13.out))) (Kd.R_lt (by (with_reducible repeat (first | apply Kd.R_alloc | apply Kd.R_drewN | apply Kd.R_drew)); exact HO1030.out))) (Kd.R_lt (by (with_reducible repeat (first | apply Kd.R_alloc | apply Kd.R_drewN | apply Kd.R_drew)); exact HO1033.out))) (Kd.R_lt (by (with_reducible repeat (first | apply Kd.R_alloc | apply Kd.R_drewN | apply Kd.R_drew)); exact HO1043.out))) (Kd.R_lt (by (with_reducible repeat (first | apply Kd.R_alloc | apply Kd.R_drewN | apply Kd.R_drew)); exact HO1047.out))) (below_size (by repeat (first | (with_reducible first | exact HB.out | apply below_alloc | apply pw_below_drewN | apply below_drew1 | refine below_set ?_ GE1037.out) | exact HB.out)))); have n8_ := Aside0.mk (blk_below (g := gb1037) (o := .cells #[.int .i64 t1034, .int .i64 t1035] 46 (0, 0)) (by (with_reducible repeat (first | refine blk_drewN ?_ _ | refine blk_drew ?_ | refine blk_alloc ?_ _)); exact BK1037.out) hb); have n9_ := Aside0.mk (below_step (by repeat (first | (with_reducible first | exact HB.out | apply below_alloc | apply pw_below_drewN | apply below_drew1 | refine below_set ?_ GE1037.out) | exact HB.out)) hb); clear HO_11; clear HO_13; clear HO_15; clear HO1030; clear HO1033; clear HO1043; clear HO1047; clear BK1037; clear HB; have HO_11 := n0_; have HO_13 := n1_; have HO_15 := n2_; have HO1030 := n3_; have HO1033 := n4_; have HO1043 := n5_; have HO1047 := n6_; have HO1052 := n7_; have BK1037 := n8_; have HB := n9_; clear n0_ n1_ n2_ n3_ n4_ n5_ n6_ n7_ n8_ n9_; (try clear hb); (try clear hb2); (try clear hk); (try clear hi); (try clear ho0); obtain ⟨Ao92, co92, eo92⟩ := Kd.R_slice HO1052.out; subst eo92) | ((with_reducible refine gate_callee (f := 27) rfl ?_); refine goesL_ (some 123) rfl rfl Try.func27 (by kernel_rfl) rfl #[.slice Ao92 t1050.length co92] rfl (by (try simp only [List.map_toArray, List.map_cons, List.map_nil]); first | done | rfl | (simp only [List.length_drop, List.length_take]; rfl)) ?_; (with_reducible refine (rows_Every.calls kj11 _ _ t1050 t1053 t1054 _ ?side1 ?side2 A51.out).mono ?_); (case side1 => repeat (first | exact (Kd.R_reads' HO1052.out).2.2 | (with_reducible refine Kd.C_alloc ?_ _) | (with_reducible refine Kd.C_drewN ?_ _) | (with_reducible refine Kd.C_drew ?_))); (case side2 => exact (Kd.R_reads' HO1052.out).2.1); rintro e w93 ⟨rfl, hb⟩; refine ⟨_, rfl, ?_⟩; have n0_ := Aside0.mk (Kd.R_below (by (with_reducible repeat (first | apply Kd.R_alloc | apply Kd.R_drewN | apply Kd.R_drew)); exact HO_11.out) hb); have n1_ := Aside0.mk (Kd.R_below (by (with_reducible repeat (first | apply Kd.R_alloc | apply Kd.R_drewN | apply Kd.R_drew)); exact HO_13.out) hb); have n2_ := Aside0.mk (Kd.S_below (by (with_reducible repeat (first | apply Kd.S_alloc | apply Kd.S_drewN | apply Kd.S_drew)); exact HO_15.out) hb); have n3_ := Aside0.mk (Kd.R_below (by (with_reducible repeat (first | apply Kd.R_alloc | apply Kd.R_drewN | apply Kd.R_drew)); exact HO1030.out) hb); have n4_ := Aside0.mk (Kd.R_below (by (with_reducible repeat (first | apply Kd.R_alloc | apply Kd.R_drewN | apply Kd.R_drew)); exact HO1033.out) hb); have n5_ := Aside0.mk (Kd.R_below (by (with_reducible repeat (first | apply Kd.R_alloc | apply Kd.R_drewN | apply Kd.R_drew)); exact HO1043.out) hb); have n6_ := Aside0.mk (Kd.R_below (by (with_reducible repeat (first | apply Kd.R_alloc | apply Kd.R_drewN | apply Kd.R_drew)); exact HO1047.out) hb); have n7_ := Aside0.mk (Kd.R_below (by (with_reducible repeat (first | apply Kd.R_alloc | apply Kd.R_drewN | apply Kd.R_drew)); exact HO1052.out) hb); have n8_ := Aside0.mk (blk_below (g := gb1037) (o := .cells #[.int .i64 t1034, .int .i64 t1035] 46 (0, 0)) (by (with_reducible repeat (first | refine blk_drewN ?_ _ | refine blk_drew ?_ | refine blk_alloc ?_ _)); exact BK1037.out) hb); have n9_ := Aside0.mk (below_step (by repeat (first | (with_reducible first | exact HB.out | apply below_alloc | apply pw_below_drewN | apply below_drew1 | refine below_set ?_ GE1037.out) | exact HB.out)) hb); clear HO_11; clear HO_13; clear HO_15; clear HO1030; clear HO1033; clear HO1043; clear HO1047; clear HO1052; clear BK1037; clear HB; have HO_11 := n0_; have HO_13 := n1_; have HO_15 := n2_; have HO1030 := n3_; have HO1033 := n4_; have HO1043 := n5_; have HO1047 := n6_; have HO1052 := n7_; have BK1037 := n8_; have HB := n9_; clear n0_ n1_ n2_ n3_ n4_ n5_ n6_ n7_ n8_ n9_; (try clear hb); (try clear hb2); (try clear hk); (try clear hi)) | ((with_reducible refine gate_callee (f := 16) rfl ?_); refine goesL_ (some 128) rfl rfl Try.func16 (by kernel_rfl) rfl #[.slice A0 l0.length c0] rfl (by (try simp only [List.map_toArray, List.map_cons, List.map_nil]); first | done | rfl | (simp only [List.length_drop, List.length_take]; rfl)) ?_; (with_reducible refine (sackbutlaw05_list.calls _ _ l0 t1055 _ ?side1 ?side2 A52.out).mono ?_); (case side1 => repeat (first | exact (Kd.C_below HR0.out HB.out) | (with_reducible refine Kd.C_alloc ?_ _) | (with_reducible refine Kd.C_drewN ?_ _) | (with_reducible refine Kd.C_drew ?_))); (case side2 => exact HC0.out); rintro e w94 ⟨v1056, rfl, ho0, hb⟩; refine ⟨_, rfl, ?_⟩; have n0_ := Aside0.mk (Kd.R_elder' (by (with_reducible repeat (first | apply Kd.R_alloc | apply Kd.R_drewN | apply Kd.R_drew)); exact HO_11.out) (Kd.R_base ho0) hb); have n1_ := Aside0.mk (Kd.R_elder' (by (with_reducible repeat (first | apply Kd.R_alloc | apply Kd.R_drewN | apply Kd.R_drew)); exact HO_13.out) (Kd.R_base ho0) hb); have n2_ := Aside0.mk (Kd.S_elder' (by (with_reducible repeat (first | apply Kd.S_alloc | apply Kd.S_drewN | apply Kd.S_drew)); exact HO_15.out) (Kd.R_base ho0) hb); have n3_ := Aside0.mk (Kd.R_elder' (by (with_reducible repeat (first | apply Kd.R_alloc | apply Kd.R_drewN | apply Kd.R_drew)); exact HO1030.out) (Kd.R_base ho0) hb); have n4_ := Aside0.mk (Kd.R_elder' (by (with_reducible repeat (first | apply Kd.R_alloc | apply Kd.R_drewN | apply Kd.R_drew)); exact HO1033.out) (Kd.R_base ho0) hb); have n5_ := Aside0.mk (Kd.R_elder' (by (with_reducible repeat (first | apply Kd.R_alloc | apply Kd.R_drewN | apply Kd.R_drew)); exact HO1043.out) (Kd.R_base ho0) hb); have n6_ := Aside0.mk (Kd.R_elder' (by (with_reducible repeat (first | apply Kd.R_alloc | apply Kd.R_drewN | apply Kd.R_drew)); exact HO1047.out) (Kd.R_base ho0) hb); have n7_ := Aside0.mk (Kd.R_elder' (by (with_reducible repeat (first | apply Kd.R_alloc | apply Kd.R_drewN | apply Kd.R_drew)); exact HO1052.out) (Kd.R_base ho0) hb); have n8_ := Aside0.mk (Kd.R_lower (Kd.R_new' (Kd.R_new' (Kd.R_new' (Kd.R_new' (Kd.R_new' (Kd.R_new' (Kd.R_new' ho0 (Kd.R_lt (by (with_reducible repeat (first | apply Kd.R_alloc | apply Kd.R_drewN | apply Kd.R_drew)); exact HO_11.out))) (Kd.R_lt (by (with_reducible repeat (first | apply Kd.R_alloc | apply Kd.R_drewN | apply Kd.R_drew)); exact HO_13.out))) (Kd.R_lt (by (with_reducible repeat (first | apply Kd.R_alloc | apply Kd.R_drewN | apply Kd.R_drew)); exact HO1030.out))) (Kd.R_lt (by (with_reducible repeat (first | apply Kd.R_alloc | apply Kd.R_drewN | apply Kd.R_drew)); exact HO1033.out))) (Kd.R_lt (by (with_reducible repeat (first | apply Kd.R_alloc | apply Kd.R_drewN | apply Kd.R_drew)); exact HO1043.out))) (Kd.R_lt (by (with_reducible repeat (first | apply Kd.R_alloc | apply Kd.R_drewN | apply Kd.R_drew)); exact HO1047.out))) (Kd.R_lt (by (with_reducible repeat (first | apply Kd.R_alloc | apply Kd.R_drewN | apply Kd.R_drew)); exact HO1052.out))) (below_size (by repeat (first | (with_reducible first | exact HB.out | apply below_alloc | apply pw_below_drewN | apply below_drew1 | refine below_set ?_ GE1037.out) | exact HB.out)))); have n9_ := Aside0.mk (blk_below (g := gb1037) (o := .cells #[.int .i64 t1034, .int .i64 t1035] 46 (0, 0)) (by (with_reducible repeat (first | refine blk_drewN ?_ _ | refine blk_drew ?_ | refine blk_alloc ?_ _)); exact BK1037.out) hb); have n10_ := Aside0.mk (below_step (by repeat (first | (with_reducible first | exact HB.out | apply below_alloc | apply pw_below_drewN | apply below_drew1 | refine below_set ?_ GE1037.out) | exact HB.out)) hb); clear HO_11; clear HO_13; clear HO_15; clear HO1030; clear HO1033; clear HO1043; clear HO1047; clear HO1052; clear BK1037; clear HB; have HO_11 := n0_; have HO_13 := n1_; have HO_15 := n2_; have HO1030 := n3_; have HO1033 := n4_; have HO1043 := n5_; have HO1047 := n6_; have HO1052 := n7_; have HO1057 := n8_; have BK1037 := n9_; have HB := n10_; clear n0_ n1_ n2_ n3_ n4_ n5_ n6_ n7_ n8_ n9_ n10_; (try clear hb); (try clear hb2); (try clear hk); (try clear hi); (try clear ho0); obtain ⟨Ao95, co95, eo95⟩ := Kd.R_slice HO1057.out; subst eo95) | ((with_reducible refine gate_callee (f := 22) rfl ?_); refine goesL_ (some 129) rfl rfl Try.func22 (by kernel_rfl) rfl #[.slice Ao95 t1055.length co95] rfl (by (try simp only [List.map_toArray, List.map_cons, List.map_nil]); first | done | rfl | (simp only [List.length_drop, List.length_take]; rfl)) ?_; (with_reducible refine (rows_Prime.calls _ _ t1055 t1058 t1059 _ ?side1 ?side2 A53.out).mono ?_); (case side1 => repeat (first | exact (Kd.R_reads' HO1057.out).2.2 | (with_reducible refine Kd.C_alloc ?_ _) | (with_reducible refine Kd.C_drewN ?_ _) | (with_reducible refine Kd.C_drew ?_))); (case side2 => exact (Kd.R_reads' HO1057.out).2.1); rintro e w96 ⟨v1060, rfl, ho0, hb⟩; refine ⟨_, rfl, ?_⟩; have n0_ := Aside0.mk (Kd.R_elder' (by (with_reducible repeat (first | apply Kd.R_alloc | apply Kd.R_drewN | apply Kd.R_drew)); exact HO_11.out) (Kd.R_base ho0) hb); have n1_ := Aside0.mk (Kd.R_elder' (by (with_reducible repeat (first | apply Kd.R_alloc | apply Kd.R_drewN | apply Kd.R_drew)); exact HO_13.out) (Kd.R_base ho0) hb); have n2_ := Aside0.mk (Kd.S_elder' (by (with_reducible repeat (first | apply Kd.S_alloc | apply Kd.S_drewN | apply Kd.S_drew)); exact HO_15.out) (Kd.R_base ho0) hb); have n3_ := Aside0.mk (Kd.R_elder' (by (with_reducible repeat (first | apply Kd.R_alloc | apply Kd.R_drewN | apply Kd.R_drew)); exact HO1030.out) (Kd.R_base ho0) hb); have n4_ := Aside0.mk (Kd.R_elder' (by (with_reducible repeat (first | apply Kd.R_alloc | apply Kd.R_drewN | apply Kd.R_drew)); exact HO1033.out) (Kd.R_base ho0) hb); have n5_ := Aside0.mk (Kd.R_elder' (by (with_reducible repeat (first | apply Kd.R_alloc | apply Kd.R_drewN | apply Kd.R_drew)); exact HO1043.out) (Kd.R_base ho0) hb); have n6_ := Aside0.mk (Kd.R_elder' (by (with_reducible repeat (first | apply Kd.R_alloc | apply Kd.R_drewN | apply Kd.R_drew)); exact HO1047.out) (Kd.R_base ho0) hb); have n7_ := Aside0.mk (Kd.R_elder' (by (with_reducible repeat (first | apply Kd.R_alloc | apply Kd.R_drewN | apply Kd.R_drew)); exact HO1052.out) (Kd.R_base ho0) hb); have n8_ := Aside0.mk (Kd.R_elder' (by (with_reducible repeat (first | apply Kd.R_alloc | apply Kd.R_drewN | apply Kd.R_drew)); exact HO1057.out) (Kd.R_base ho0) hb); have n9_ := Aside0.mk (Kd.R_lower (Kd.R_new' (Kd.R_new' (Kd.R_new' (Kd.R_new' (Kd.R_new' (Kd.R_new' (Kd.R_new' (Kd.R_new' ho0 (Kd.R_lt (by (with_reducible repeat (first | apply Kd.R_alloc | apply Kd.R_drewN | apply Kd.R_drew)); exact HO_11.out))) (Kd.R_lt (by (with_reducible repeat (first | apply Kd.R_alloc | apply Kd.R_drewN | apply Kd.R_drew)); exact HO_13.out))) (Kd.R_lt (by (with_reducible repeat (first | apply Kd.R_alloc | apply Kd.R_drewN | apply Kd.R_drew)); exact HO1030.out))) (Kd.R_lt (by (with_reducible repeat (first | apply Kd.R_alloc | apply Kd.R_drewN | apply Kd.R_drew)); exact HO1033.out))) (Kd.R_lt (by (with_reducible repeat (first | apply Kd.R_alloc | apply Kd.R_drewN | apply Kd.R_drew)); exact HO1043.out))) (Kd.R_lt (by (with_reducible repeat (first | apply Kd.R_alloc | apply Kd.R_drewN | apply Kd.R_drew)); exact HO1047.out))) (Kd.R_lt (by (with_reducible repeat (first | apply Kd.R_alloc | apply Kd.R_drewN | apply Kd.R_drew)); exact HO1052.out))) (Kd.R_lt (by (with_reducible repeat (first | apply Kd.R_alloc | apply Kd.R_drewN | apply Kd.R_drew)); exact HO1057.out))) (below_size (by repeat (first | (with_reducible first | exact HB.out | apply below_alloc | apply pw_below_drewN | apply below_drew1 | refine below_set ?_ GE1037.out) | exact HB.out)))); have n10_ := Aside0.mk (blk_below (g := gb1037) (o := .cells #[.int .i64 t1034, .int .i64 t1035] 46 (0, 0)) (by (with_reducible repeat (first | refine blk_drewN ?_ _ | refine blk_drew ?_ | refine blk_alloc ?_ _)); exact BK1037.out) hb); have n11_ := Aside0.mk (below_step (by repeat (first | (with_reducible first | exact HB.out | apply below_alloc | apply pw_below_drewN | apply below_drew1 | refine below_set ?_ GE1037.out) | exact HB.out)) hb); clear HO_11; clear HO_13; clear HO_15; clear HO1030; clear HO1033; clear HO1043; clear HO1047; clear HO1052; clear HO1057; clear BK1037; clear HB; have HO_11 := n0_; have HO_13 := n1_; have HO_15 := n2_; have HO1030 := n3_; have HO1033 := n4_; have HO1043 := n5_; have HO1047 := n6_; have HO1052 := n7_; have HO1057 := n8_; have HO1061 := n9_; have BK1037 := n10_; have HB := n11_; clear n0_ n1_ n2_ n3_ n4_ n5_ n6_ n7_ n8_ n9_ n10_ n11_; (try clear hb); (try clear hb2); (try clear hk); (try clear hi); (try clear ho0)) | ((with_reducible refine gate_callee (f := 18) rfl ?_); refine goesL_ (some 134) rfl rfl Try.func18 (by kernel_rfl) rfl #[.slice Ao76 t1011.length co76] rfl (by (try simp only [List.map_toArray, List.map_cons, List.map_nil]); first | done | rfl | (simp only [List.length_drop, List.length_take]; rfl)) ?_; (with_reducible refine (slices_Clone_int_int.calls _ _ t1011 t1062 _ ?side1 ?side2 A54.out).mono ?_); (case side1 => repeat (first | exact (Kd.R_reads' HO_13.out).2.2 | (with_reducible refine Kd.C_alloc ?_ _) | (with_reducible refine Kd.C_drewN ?_ _) | (with_reducible refine Kd.C_drew ?_))); (case side2 => exact (Kd.R_reads' HO_13.out).2.1); rintro e w97 ⟨v1063, rfl, ho0, hb⟩; refine ⟨_, rfl, ?_⟩; have n0_ := Aside0.mk (Kd.R_elder' (by (with_reducible repeat (first | apply Kd.R_alloc | apply Kd.R_drewN | apply Kd.R_drew)); exact HO_11.out) (Kd.R_base ho0) hb); have n1_ := Aside0.mk (Kd.R_elder' (by (with_reducible repeat (first | apply Kd.R_alloc | apply Kd.R_drewN | apply Kd.R_drew)); exact HO_13.out) (Kd.R_base ho0) hb); have n2_ := Aside0.mk (Kd.S_elder' (by (with_reducible repeat (first | apply Kd.S_alloc | apply Kd.S_drewN | apply Kd.S_drew)); exact HO_15.out) (Kd.R_base ho0) hb); have n3_ := Aside0.mk (Kd.R_elder' (by (with_reducible repeat (first | apply Kd.R_alloc | apply Kd.R_drewN | apply Kd.R_drew)); exact HO1030.out) (Kd.R_base ho0) hb); have n4_ := Aside0.mk (Kd.R_elder' (by (with_reducible repeat (first | apply Kd.R_alloc | apply Kd.R_drewN | apply Kd.R_drew)); exact HO1033.out) (Kd.R_base ho0) hb); have n5_ := Aside0.mk (Kd.R_elder' (by (with_reducible repeat (first | apply Kd.R_alloc | apply Kd.R_drewN | apply Kd.R_drew)); exact HO1043.out) (Kd.R_base ho0) hb); have n6_ := Aside0.mk (Kd.R_elder' (by (with_reducible repeat (first | apply Kd.R_alloc | apply Kd.R_drewN | apply Kd.R_drew)); exact HO1047.out) (Kd.R_base ho0) hb); have n7_ := Aside0.mk (Kd.R_elder' (by (with_reducible repeat (first | apply Kd.R_alloc | apply Kd.R_drewN | apply Kd.R_drew)); exact HO1052.out) (Kd.R_base ho0) hb); have n8_ := Aside0.mk (Kd.R_elder' (by (with_reducible repeat (first | apply Kd.R_alloc | apply Kd.R_drewN | apply Kd.R_drew)); exact HO1057.out) (Kd.R_base ho0) hb); have n9_ := Aside0.mk (Kd.R_elder' (by (with_reducible repeat (first | apply Kd.R_alloc | apply Kd.R_drewN | apply Kd.R_drew)); exact HO1061.out) (Kd.R_base ho0) hb); have n10_ := Aside0.mk (Kd.R_lower (Kd.R_new' (Kd.R_new' (Kd.R_new' (Kd.R_new' (Kd.R_new' (Kd.R_new' (Kd.R_new' (Kd.R_new' (Kd.R_new' ho0 (Kd.R_lt (by (with_reducible repeat (first | apply Kd.R_alloc | apply Kd.R_drewN | apply Kd.R_drew)); exact HO_11.out))) (Kd.R_lt (by (with_reducible repeat (first | apply Kd.R_alloc | apply Kd.R_drewN | apply Kd.R_drew)); exact HO_13.out))) (Kd.R_lt (by (with_reducible repeat (first | apply Kd.R_alloc | apply Kd.R_drewN | apply Kd.R_drew)); exact HO1030.out))) (Kd.R_lt (by (with_reducible repeat (first | apply Kd.R_alloc | apply Kd.R_drewN | apply Kd.R_drew)); exact HO1033.out))) (Kd.R_lt (by (with_reducible repeat (first | apply Kd.R_alloc | apply Kd.R_drewN | apply Kd.R_drew)); exact HO1043.out))) (Kd.R_lt (by (with_reducible repeat (first | apply Kd.R_alloc | apply Kd.R_drewN | apply Kd.R_drew)); exact HO1047.out))) (Kd.R_lt (by (with_reducible repeat (first | apply Kd.R_alloc | apply Kd.R_drewN | apply Kd.R_drew)); exact HO1052.out))) (Kd.R_lt (by (with_reducible repeat (first | apply Kd.R_alloc | apply Kd.R_drewN | apply Kd.R_drew)); exact HO1057.out))) (Kd.R_lt (by (with_reducible repeat (first | apply Kd.R_alloc | apply Kd.R_drewN | apply Kd.R_drew)); exact HO1061.out))) (below_size (by repeat (first | (with_reducible first | exact HB.out | apply below_alloc | apply pw_below_drewN | apply below_drew1 | refine below_set ?_ GE1037.out) | exact HB.out)))); have n11_ := Aside0.mk (blk_below (g := gb1037) (o := .cells #[.int .i64 t1034, .int .i64 t1035] 46 (0, 0)) (by (with_reducible repeat (first | refine blk_drewN ?_ _ | refine blk_drew ?_ | refine blk_alloc ?_ _)); exact BK1037.out) hb); have n12_ := Aside0.mk (below_step (by repeat (first | (with_reducible first | exact HB.out | apply below_alloc | apply pw_below_drewN | apply below_drew1 | refine below_set ?_ GE1037.out) | exact HB.out)) hb); clear HO_11; clear HO_13; clear HO_15; clear HO1030; clear HO1033; clear HO1043; clear HO1047; clear HO1052; clear HO1057; clear HO1061; clear BK1037; clear HB; have HO_11 := n0_; have HO_13 := n1_; have HO_15 := n2_; have HO1030 := n3_; have HO1033 := n4_; have HO1043 := n5_; have HO1047 := n6_; have HO1052 := n7_; have HO1057 := n8_; have HO1061 := n9_; have HO1064 := n10_; have BK1037 := n11_; have HB := n12_; clear n0_ n1_ n2_ n3_ n4_ n5_ n6_ n7_ n8_ n9_ n10_ n11_ n12_; (try clear hb); (try clear hb2); (try clear hk); (try clear hi); (try clear ho0); obtain ⟨Ao98, co98, eo98⟩ := Kd.R_slice HO1064.out; subst eo98) | ((with_reducible refine gate_callee (f := 22) rfl ?_); refine goesL_ (some 135) rfl rfl Try.func22 (by kernel_rfl) rfl #[.slice Ao98 t1062.length co98] rfl (by (try simp only [List.map_toArray, List.map_cons, List.map_nil]); first | done | rfl | (simp only [List.length_drop, List.length_take]; rfl)) ?_; (with_reducible refine (rows_Prime.calls _ _ t1062 t1065 t1066 _ ?side1 ?side2 A55.out).mono ?_); (case side1 => repeat (first | exact (Kd.R_reads' HO1064.out).2.2 | (with_reducible refine Kd.C_alloc ?_ _) | (with_reducible refine Kd.C_drewN ?_ _) | (with_reducible refine Kd.C_drew ?_))); (case side2 => exact (Kd.R_reads' HO1064.out).2.1); rintro e w99 ⟨v1067, rfl, ho0, hb⟩; refine ⟨_, rfl, ?_⟩; have n0_ := Aside0.mk (Kd.R_elder' (by (with_reducible repeat (first | apply Kd.R_alloc | apply Kd.R_drewN | apply Kd.R_drew)); exact HO_11.out) (Kd.R_base ho0) hb); have n1_ := Aside0.mk (Kd.R_elder' (by (with_reducible repeat (first | apply Kd.R_alloc | apply Kd.R_drewN | apply Kd.R_drew)); exact HO_13.out) (Kd.R_base ho0) hb); have n2_ := Aside0.mk (Kd.S_elder' (by (with_reducible repeat (first | apply Kd.S_alloc | apply Kd.S_drewN | apply Kd.S_drew)); exact HO_15.out) (Kd.R_base ho0) hb); have n3_ := Aside0.mk (Kd.R_elder' (by (with_reducible repeat (first | apply Kd.R_alloc | apply Kd.R_drewN | apply Kd.R_drew)); exact HO1030.out) (Kd.R_base ho0) hb); have n4_ := Aside0.mk (Kd.R_elder' (by (with_reducible repeat (first | apply Kd.R_alloc | apply Kd.R_drewN | apply Kd.R_drew)); exact HO1033.out) (Kd.R_base ho0) hb); have n5_ := Aside0.mk (Kd.R_elder' (by (with_reducible repeat (first | apply Kd.R_alloc | apply Kd.R_drewN | apply Kd.R_drew)); exact HO1043.out) (Kd.R_base ho0) hb); have n6_ := Aside0.mk (Kd.R_elder' (by (with_reducible repeat (first | apply Kd.R_alloc | apply Kd.R_drewN | apply Kd.R_drew)); exact HO1047.out) (Kd.R_base ho0) hb); have n7_ := Aside0.mk (Kd.R_elder' (by (with_reducible repeat (first | apply Kd.R_alloc | apply Kd.R_drewN | apply Kd.R_drew)); exact HO1052.out) (Kd.R_base ho0) hb); have n8_ := Aside0.mk (Kd.R_elder' (by (with_reducible repeat (first | apply Kd.R_alloc | apply Kd.R_drewN | apply Kd.R_drew)); exact HO1057.out) (Kd.R_base ho0) hb); have n9_ := Aside0.mk (Kd.R_elder' (by (with_reducible repeat (first | apply Kd.R_alloc | apply Kd.R_drewN | apply Kd.R_drew)); exact HO1061.out) (Kd.R_base ho0) hb); have n10_ := Aside0.mk (Kd.R_elder' (by (with_reducible repeat (first | apply Kd.R_alloc | apply Kd.R_drewN | apply Kd.R_drew)); exact HO1064.out) (Kd.R_base ho0) hb); have n11_ := Aside0.mk (Kd.R_lower (Kd.R_new' (Kd.R_new' (Kd.R_new' (Kd.R_new' (Kd.R_new' (Kd.R_new' (Kd.R_new' (Kd.R_new' (Kd.R_new' (Kd.R_new' ho0 (Kd.R_lt (by (with_reducible repeat (first | apply Kd.R_alloc | apply Kd.R_drewN | apply Kd.R_drew)); exact HO_11.out))) (Kd.R_lt (by (with_reducible repeat (first | apply Kd.R_alloc | apply Kd.R_drewN | apply Kd.R_drew)); exact HO_13.out))) (Kd.R_lt (by (with_reducible repeat (first | apply Kd.R_alloc | apply Kd.R_drewN | apply Kd.R_drew)); exact HO1030.out))) (Kd.R_lt (by (with_reducible repeat (first | apply Kd.R_alloc | apply Kd.R_drewN | apply Kd.R_drew)); exact HO1033.out))) (Kd.R_lt (by (with_reducible repeat (first | apply Kd.R_alloc | apply Kd.R_drewN | apply Kd.R_drew)); exact HO1043.out))) (Kd.R_lt (by (with_reducible repeat (first | apply Kd.R_alloc | apply Kd.R_drewN | apply Kd.R_drew)); exact HO1047.out))) (Kd.R_lt (by (with_reducible repeat (first | apply Kd.R_alloc | apply Kd.R_drewN | apply Kd.R_drew)); exact HO1052.out))) (Kd.R_lt (by (with_reducible repeat (first | apply Kd.R_alloc | apply Kd.R_drewN | apply Kd.R_drew)); exact HO1057.out))) (Kd.R_lt (by (with_reducible repeat (first | apply Kd.R_alloc | apply Kd.R_drewN | apply Kd.R_drew)); exact HO1061.out))) (Kd.R_lt (by (with_reducible repeat (first | apply Kd.R_alloc | apply Kd.R_drewN | apply Kd.R_drew)); exact HO1064.out))) (below_size (by repeat (first | (with_reducible first | exact HB.out | apply below_alloc | apply pw_below_drewN | apply below_drew1 | refine below_set ?_ GE1037.out) | exact HB.out)))); have n12_ := Aside0.mk (blk_below (g := gb1037) (o := .cells #[.int .i64 t1034, .int .i64 t1035] 46 (0, 0)) (by (with_reducible repeat (first | refine blk_drewN ?_ _ | refine blk_drew ?_ | refine blk_alloc ?_ _)); exact BK1037.out) hb); have n13_ := Aside0.mk (below_step (by repeat (first | (with_reducible first | exact HB.out | apply below_alloc | apply pw_below_drewN | apply below_drew1 | refine below_set ?_ GE1037.out) | exact HB.out)) hb); clear HO_11; clear HO_13; clear HO_15; clear HO1030; clear HO1033; clear HO1043; clear HO1047; clear HO1052; clear HO1057; clear HO1061; clear HO1064; clear BK1037; clear HB; have HO_11 := n0_; have HO_13 := n1_; have HO_15 := n2_; have HO1030 := n3_; have HO1033 := n4_; have HO1043 := n5_; have HO1047 := n6_; have HO1052 := n7_; have HO1057 := n8_; have HO1061 := n9_; have HO1064 := n10_; have HO1068 := n11_; have BK1037 := n12_; have HB := n13_; clear n0_ n1_ n2_ n3_ n4_ n5_ n6_ n7_ n8_ n9_ n10_ n11_ n12_ n13_; (try clear hb); (try clear hb2); (try clear hk); (try clear hi); (try clear ho0); obtain ⟨Ao100, co100, eo100⟩ := Kd.R_slice HO1043.out; subst eo100) | (go_at_call 11; (with_reducible refine (slices_Equal_int_int.calls kj11 _ _ t1011 _ _ t1041 true _ ?side1 ?side2 ?side3 ?side4 A63.out).mono ?_); (case side1 => repeat (first | exact (Kd.R_reads' HO_13.out).2.2 | (with_reducible refine Kd.C_alloc ?_ _) | (with_reducible refine Kd.C_drewN ?_ _) | (with_reducible refine Kd.C_drew ?_))); (case side2 => exact (Kd.R_reads' HO_13.out).2.1); (case side3 => repeat (first | exact (Kd.R_reads' HO1043.out).2.2 | (with_reducible refine Kd.C_alloc ?_ _) | (with_reducible refine Kd.C_drewN ?_ _) | (with_reducible refine Kd.C_drew ?_))); (case side4 => exact (Kd.R_reads' HO1043.out).2.1); rintro e w' ⟨rfl, ⟨nd, rfl⟩⟩; obtain ⟨Ao101, co101, eo101⟩ := Kd.R_slice HO1061.out; subst eo101; obtain ⟨Ao102, co102, eo102⟩ := Kd.R_slice HO1068.out; subst eo102) | (go_at_call 11; (with_reducible refine (slices_Equal_int_int.calls kj11 _ _ t1058 _ _ t1065 true _ ?side1 ?side2 ?side3 ?side4 A66.out).mono ?_); (case side1 => repeat (first | exact (Kd.R_reads' HO1061.out).2.2 | (with_reducible refine Kd.C_alloc ?_ _) | (with_reducible refine Kd.C_drewN ?_ _) | (with_reducible refine Kd.C_drew ?_))); (case side2 => exact (Kd.R_reads' HO1061.out).2.1); (case side3 => repeat (first | exact (Kd.R_reads' HO1068.out).2.2 | (with_reducible refine Kd.C_alloc ?_ _) | (with_reducible refine Kd.C_drewN ?_ _) | (with_reducible refine Kd.C_drew ?_))); (case side4 => exact (Kd.R_reads' HO1068.out).2.1); rintro e w' ⟨rfl, ⟨nd, rfl⟩⟩; obtain ⟨Ao103, co103, eo103⟩ := Kd.S_slice HO_15.out; subst eo103; have p1071 : 0 ≤ (0 : Int) := (by omega); have q1071 : 0 < (t1018.length : Int) := of_decide_eq_true (by first | (with_reducible assumption) | assumption); obtain ⟨ad1071, A1071_0, c1071_0, e1071, hx1071_0, hl1071_0, hi1071_0⟩ := at_L1 (Kd.S_reads' HO_15.out).2.2 0 p1071 q1071; cases e1071; obtain ⟨ce1071, hce1071, hMe1071, hcc1071⟩ := Kd.S_get HO_15.out [] 0 p1071 (by first | exact q1071 | exact of_decide_eq_true (by first | (with_reducible assumption) | assumption) | (have e_ := (Kd.S_reads' HO_15.out).1; omega)); obtain ⟨ve1071_0, rfl, ge1071_0⟩ := hMe1071; have hv1071_0 := hcc1071 0 _ rfl; rw [Nat.add_zero, show ((Kd.slice 3 (Kd.int .i64))).sz = 1 from rfl, Nat.mul_one] at hv1071_0; replace hv1071_0 := Option.some.inj (hv1071_0.symm.trans hx1071_0); rw [hv1071_0] at ge1071_0; have HL1071_0 := Aside0.mk (show Kd.R (Kd.int .i64) 3 _ _ _ _ (rd_L1 t1018 0) from ge1071_0); clear hv1071_0 ge1071_0; clear hcc1071 hce1071; have qi1071 : (0 < t1018.length) = True := eq_true (by omega); (try rw [show ((0 : Int)).toNat = 0 from rfl] at hx1071_0); (try rw [Addr.add_zero'] at hx1071_0); have HR1071_0 := Aside0.mk hi1071_0; have HC1071_0 := Aside0.mk hl1071_0; clear hi1071_0 hl1071_0; replace p1071 := eq_true p1071; replace q1071 := eq_true q1071) | (go_at_call 11; (with_reducible refine (slices_Equal_int_int.calls kj11 _ _ (rd_L1 t1018 0) _ _ t1058 true _ ?side1 ?side2 ?side3 ?side4 A72.out).mono ?_); (case side1 => repeat (first | exact (by repeat (first | (with_reducible exact HR1071_0.out) | (with_reducible refine Kd.C_alloc ?_ _) | (with_reducible refine Kd.C_drewN ?_ _) | (with_reducible refine Kd.C_drew ?_) | exact HR1071_0.out)) | (with_reducible refine Kd.C_alloc ?_ _) | (with_reducible refine Kd.C_drewN ?_ _) | (with_reducible refine Kd.C_drew ?_))); (case side2 => exact HC1071_0.out); (case side3 => repeat (first | exact (Kd.R_reads' HO1061.out).2.2 | (with_reducible refine Kd.C_alloc ?_ _) | (with_reducible refine Kd.C_drewN ?_ _) | (with_reducible refine Kd.C_drew ?_))); (case side4 => exact (Kd.R_reads' HO1061.out).2.1); rintro e w' ⟨rfl, ⟨nd, rfl⟩⟩) | (go_at_call 8; (with_reducible refine (sackbutlaw05_awake.calls kj11  t1073 _ A74.out).mono ?_); rintro e w104 ⟨rfl, hb⟩; have n0_ := Aside0.mk (Kd.R_below (by (with_reducible repeat (first | apply Kd.R_alloc | apply Kd.R_drewN | apply Kd.R_drew)); exact HO_11.out) hb); have n1_ := Aside0.mk (Kd.R_below (by (with_reducible repeat (first | apply Kd.R_alloc | apply Kd.R_drewN | apply Kd.R_drew)); exact HO_13.out) hb); have n2_ := Aside0.mk (Kd.S_below (by (with_reducible repeat (first | apply Kd.S_alloc | apply Kd.S_drewN | apply Kd.S_drew)); exact HO_15.out) hb); have n3_ := Aside0.mk (Kd.R_below (by (with_reducible repeat (first | apply Kd.R_alloc | apply Kd.R_drewN | apply Kd.R_drew)); exact HO1030.out) hb); have n4_ := Aside0.mk (Kd.R_below (by (with_reducible repeat (first | apply Kd.R_alloc | apply Kd.R_drewN | apply Kd.R_drew)); exact HO1033.out) hb); have n5_ := Aside0.mk (Kd.R_below (by (with_reducible repeat (first | apply Kd.R_alloc | apply Kd.R_drewN | apply Kd.R_drew)); exact HO1043.out) hb); have n6_ := Aside0.mk (Kd.R_below (by (with_reducible repeat (first | apply Kd.R_alloc | apply Kd.R_drewN | apply Kd.R_drew)); exact HO1047.out) hb); have n7_ := Aside0.mk (Kd.R_below (by (with_reducible repeat (first | apply Kd.R_alloc | apply Kd.R_drewN | apply Kd.R_drew)); exact HO1052.out) hb); have n8_ := Aside0.mk (Kd.R_below (by (with_reducible repeat (first | apply Kd.R_alloc | apply Kd.R_drewN | apply Kd.R_drew)); exact HO1057.out) hb); have n9_ := Aside0.mk (Kd.R_below (by (with_reducible repeat (first | apply Kd.R_alloc | apply Kd.R_drewN | apply Kd.R_drew)); exact HO1061.out) hb); have n10_ := Aside0.mk (Kd.R_below (by (with_reducible repeat (first | apply Kd.R_alloc | apply Kd.R_drewN | apply Kd.R_drew)); exact HO1064.out) hb); have n11_ := Aside0.mk (Kd.R_below (by (with_reducible repeat (first | apply Kd.R_alloc | apply Kd.R_drewN | apply Kd.R_drew)); exact HO1068.out) hb); have n12_ := Aside0.mk (Kd.R_below (by (with_reducible repeat (first | apply Kd.R_alloc | apply Kd.R_drewN | apply Kd.R_drew)); exact HL1071_0.out) hb); have n13_ := Aside0.mk (blk_below (g := gb1037) (o := .cells #[.int .i64 t1034, .int .i64 t1035] 46 (0, 0)) (by (with_reducible repeat (first | refine blk_drewN ?_ _ | refine blk_drew ?_ | refine blk_alloc ?_ _)); exact BK1037.out) hb); have n14_ := Aside0.mk (Kd.C_below (by repeat (first | (with_reducible exact HR1071_0.out) | (with_reducible refine Kd.C_alloc ?_ _) | (with_reducible refine Kd.C_drewN ?_ _) | (with_reducible refine Kd.C_drew ?_) | exact HR1071_0.out)) hb); have n15_ := Aside0.mk (below_step (by repeat (first | (with_reducible first | exact HB.out | apply below_alloc | apply pw_below_drewN | apply below_drew1 | refine below_set ?_ GE1037.out) | exact HB.out)) hb); clear HO_11; clear HO_13; clear HO_15; clear HO1030; clear HO1033; clear HO1043; clear HO1047; clear HO1052; clear HO1057; clear HO1061; clear HO1064; clear HO1068; clear HL1071_0; clear BK1037; clear HR1071_0; clear HB; have HO_11 := n0_; have HO_13 := n1_; have HO_15 := n2_; have HO1030 := n3_; have HO1033 := n4_; have HO1043 := n5_; have HO1047 := n6_; have HO1052 := n7_; have HO1057 := n8_; have HO1061 := n9_; have HO1064 := n10_; have HO1068 := n11_; have HL1071_0 := n12_; have BK1037 := n13_; have HR1071_0 := n14_; have HB := n15_; clear n0_ n1_ n2_ n3_ n4_ n5_ n6_ n7_ n8_ n9_ n10_ n11_ n12_ n13_ n14_ n15_; (try clear hb); (try clear hb2); (try clear hk); (try clear hi)))
                                      go_ret
                                      exact ⟨by first | rfl | (simp [errW_none, errW_some] <;> rfl) | (simp [*, errW_none, errW_some] <;> rfl), by repeat (first | (with_reducible first | exact HB.out | apply below_alloc | apply pw_below_drewN | apply below_drew1 | refine below_set ?_ GE1037.out) | exact HB.out)⟩
                                    · replace c73 := Bool.eq_false_iff.mpr c73
                                      subst c73
                                      have H1 : (some false) = some r := by rw [if_neg (show ¬ (false = true) by decide)] at H; exact H
                                      clear H
                                      have H := H1
                                      clear H1
                                      obtain rfl := Option.some.inj H
                                      exact absurd hr.out Bool.false_ne_true
                                  · rw [if_neg c71] at H
                                    exact absurd H (by simp)
                                · rw [if_neg c70] at H
                                  have c70b0 : ((Int.tmod (wrap64 (4 * (l0.length : Int))) (t1018.length : Int)) == 0) = false := beq_eq_false_iff_ne.mpr c70
                                  have c70b1 : ((Int.tmod (wrap64 (4 * (l0.length : Int))) (t1018.length : Int)) != 0) = true := bne_iff_ne.mpr c70
                                  obtain rfl := Option.some.inj H
                                  exact absurd hr.out Bool.false_ne_true
                            · rw [if_neg c68] at H
                              have c68b0 : decide (0 < (t1018.length : Int)) = false := decide_eq_false c68
                              have c68b1 : decide (0 < t1018.length) = false := decide_eq_false (by omega)
                              clear c68
                              obtain rfl := Option.some.inj H
                              exact absurd hr.out Bool.false_ne_true
                          · replace c67 := Bool.eq_false_iff.mpr c67
                            subst c67
                            have H1 : (some false) = some r := by rw [if_neg (show ¬ (false = true) by decide)] at H; exact H
                            clear H
                            have H := H1
                            clear H1
                            obtain rfl := Option.some.inj H
                            exact absurd hr.out Bool.false_ne_true
                        · rw [if_neg c65] at H
                          have c65b0 : (t1048 == t1053) = false := by simpa using c65
                          (try (have c65b1 : decide (t1048 = t1053) = false := by simpa using c65))
                          (try (have c65b2 : (t1048 == t1053) = false := by simpa using c65))
                          (try (have c65b3 : ¬ (t1048 = t1053) := by simpa using c65))
                          clear c65
                          obtain rfl := Option.some.inj H
                          exact absurd hr.out Bool.false_ne_true
                      · replace c64 := Bool.eq_false_iff.mpr c64
                        subst c64
                        have H1 : (some false) = some r := by rw [if_neg (show ¬ (false = true) by decide)] at H; exact H
                        clear H
                        have H := H1
                        clear H1
                        obtain rfl := Option.some.inj H
                        exact absurd hr.out Bool.false_ne_true
                    · rw [if_neg c62] at H
                      have c62b0 : (t1066 == 0) = false := beq_eq_false_iff_ne.mpr c62
                      have c62b1 : (t1066 != 0) = true := bne_iff_ne.mpr c62
                      obtain rfl := Option.some.inj H
                      exact absurd hr.out Bool.false_ne_true
                  · rw [if_neg c61] at H
                    have c61b0 : (t1059 == 0) = false := beq_eq_false_iff_ne.mpr c61
                    have c61b1 : (t1059 != 0) = true := bne_iff_ne.mpr c61
                    obtain rfl := Option.some.inj H
                    exact absurd hr.out Bool.false_ne_true
                · rw [if_neg c60] at H
                  have c60b0 : (t1054 == 0) = false := beq_eq_false_iff_ne.mpr c60
                  have c60b1 : (t1054 != 0) = true := bne_iff_ne.mpr c60
                  obtain rfl := Option.some.inj H
                  exact absurd hr.out Bool.false_ne_true
              · rw [if_neg c59] at H
                have c59b0 : (t1049 == 0) = false := beq_eq_false_iff_ne.mpr c59
                have c59b1 : (t1049 != 0) = true := bne_iff_ne.mpr c59
                obtain rfl := Option.some.inj H
                exact absurd hr.out Bool.false_ne_true
            · rw [if_neg c58] at H
              have c58b0 : (t1044 == 0) = false := beq_eq_false_iff_ne.mpr c58
              have c58b1 : (t1044 != 0) = true := bne_iff_ne.mpr c58
              obtain rfl := Option.some.inj H
              exact absurd hr.out Bool.false_ne_true
          · rw [if_neg c57] at H
            have c57b0 : (t1036 == 0) = false := beq_eq_false_iff_ne.mpr c57
            have c57b1 : (t1036 != 0) = true := bne_iff_ne.mpr c57
            obtain rfl := Option.some.inj H
            exact absurd hr.out Bool.false_ne_true
        · rw [if_neg c56] at H
          have c56b0 : (t1019 == 0) = false := beq_eq_false_iff_ne.mpr c56
          have c56b1 : (t1019 != 0) = true := bne_iff_ne.mpr c56
          obtain rfl := Option.some.inj H
          exact absurd hr.out Bool.false_ne_true

/-- THE ONE PURE STATEMENT of sackbutlaw05_RowsClosed: yours. -/
def sackbutlaw05_RowsClosed.Pure : Prop := ∀ (l0 : List Int) (a1 : Int) (a2 : Int) (a3 : Int) (a4 : Int), l0.length ≤ maxLen → l0.length * 8 ≤ 140737488351232 → (∀ x ∈ l0, (Lit.int .i64 x).wf = true) → (Lit.int .i64 a1).wf = true → (Lit.int .i64 a2).wf = true → (Lit.int .i64 a3).wf = true → (Lit.int .i64 a4).wf = true → ∃ k, sackbutlaw05_RowsClosed.f k l0 a1 a2 a3 a4 = some true
theorem sackbutlaw05_RowsClosed.walk (P : sackbutlaw05_RowsClosed.Pure) (a0 : Option Addr) (len0 cap0 : Nat) (z0 : List Int) (a1 : Int) (a2 : Int) (a3 : Int) (a4 : Int) (w : World) (w0 : (a0 = none ∧ len0 = 0 ∧ cap0 = 0 ∧ z0 = []) ∨ ∃ x, a0 = some x ∧ len0 ≤ cap0 ∧ cap0 ≤ maxLen ∧ z0.length = cap0 ∧ (∀ i, i < z0.length → w.cell? (x.add i) = some (.int .i64 (z0.getD i 0))) ∧ ∀ n ∈ z0, (Lit.int .i64 n).wf = true) (y0 : len0 * 8 ≤ 140737488351232) (w1 : (Lit.int .i64 a1).wf = true) (w2 : (Lit.int .i64 a2).wf = true) (w3 : (Lit.int .i64 a3).wf = true) (w4 : (Lit.int .i64 a4).wf = true) :
    Calls Try.prog 6 #[.slice a0 len0 cap0, .int .i64 a1, .int .i64 a2, .int .i64 a3, .int .i64 a4] w fun e w' => e = .returned (.bool true) ∧ Below w.heap.size w w' := by
  obtain ⟨l0, rfl, hr0, hm0, hw0, hc0⟩ := ReadsInt.ofRowC w0
  obtain ⟨k, h⟩ := P l0 a1 a2 a3 a4 hm0 y0 hw0 w1 w2 w3 w4
  refine (sackbutlaw05_RowsClosed.calls k _ _ l0 a1 a2 a3 a4 true w (Kd.C_of_reads (d := (0 : Int)) (h1 := fun _ => rfl) hr0) hc0 h rfl).mono ?_
  rintro e w' ⟨rfl, hd⟩
  exact ⟨rfl, hd⟩

end Go.Proofs.Ytknchioabngbiaa.P
