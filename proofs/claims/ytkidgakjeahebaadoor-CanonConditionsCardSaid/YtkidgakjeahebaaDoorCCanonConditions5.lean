/- A part of a proof that a law's Go function returns true for every input, laid by this session's program mp.py (which drives the kit's print). Conditions: as each theorem states them. -/
import Derived.Shelf.Abstract
import Derived.StillTailTactics
import Derived.Test.YtkidgakjeahebaaDoorCCanonConditions1
import Derived.Test.YtkidgakjeahebaaDoorCCanonConditions2
import Derived.Test.YtkidgakjeahebaaDoorCCanonConditions3
import Derived.Test.YtkidgakjeahebaaDoorCCanonConditions4
namespace Go.Proofs.YtkidgakjeahebaaDoor.P
open Go.RowKit Go.Proofs.YtkidgakjeahebaaDoorW.PrintWords Go.Proofs.YtkidgakjeahebaaDoorW.PrintLast Go.Proofs.YtkidgakjeahebaaDoorW.PrintMore
attribute [local go_sem] max2_int min2_int max_two min_two max_three min_three max_four min_four   -- for this text's walks alone
set_option linter.unusedVariables false
set_option linter.unusedSimpArgs false

/-! ### canon_circle_first: function 36 -/
def canon_circle_first.l0 : Nat → Int → Int → List Int → Int → Int → Option (Bool)
  | 0, _, _, _, _, _ => none
  | k + 1, x1, x5, x11, x12, x13 => if x13 < x12 then (if 0 ≤ x13 then (if x13 < (x11.length : Int) then ((canon_prime.f k (rd x11 x13)).bind fun t1005 => (if t1005 > 0 then (canon_circle_first.l0 k x1 (wrap64 (x5 * t1005)) x11 x12 (wrap64 (x13 + 1))) else (canon_circle_first.l0 k x1 x5 x11 x12 (wrap64 (x13 + 1))))) else (none)) else (none)) else ((canon_count.f x1).bind fun t1006 => (some (x5 == t1006)))
def canon_circle_first.f (k : Nat) (a0 : Int) (a1 : Int) : Option (Bool) := (canon_circle_roots.f k a0 a1).bind fun t1001 => (canon_circle_first.l0 k a1 1 t1001 (t1001.length : Int) 0)
theorem canon_circle_first.mono_l : ∀ k, (∀ y0 y1 y2 y3 y4, LeO (canon_circle_first.l0 k y0 y1 y2 y3 y4) (canon_circle_first.l0 (k + 1) y0 y1 y2 y3 y4))
  | 0 => fun _ _ _ _ _ r h => by simp [canon_circle_first.l0] at h
  | k + 1 => by
    have ih0 := canon_circle_first.mono_l k
    · intro y0 y1 y2 y3 y4
      unfold canon_circle_first.l0
      repeat' first
      | (with_reducible exact ih0 _ _ _ _ _)
      | (with_reducible exact canon_circle_roots.mono _ _ _)
      | (with_reducible exact canon_prime.mono _ _)
      | (with_reducible exact LeO.refl _)
      | (with_reducible exact LeO.none _)
      | (with_reducible refine LeO.ite ?_ ?_)
      | (with_reducible refine LeO.bind ?_ (fun _ => ?_))
      | exact ih0 _ _ _ _ _
      | exact canon_circle_roots.mono _ _ _
      | exact canon_prime.mono _ _
      | exact LeO.none _
      | refine LeO.ite ?_ ?_
      | refine LeO.bind ?_ (fun _ => ?_)
theorem canon_circle_first.mono : ∀ a0 a1 k, LeO (canon_circle_first.f k a0 a1) (canon_circle_first.f (k + 1) a0 a1) := by
  intro a0 a1 k
  have ih0 := canon_circle_first.mono_l k
  unfold canon_circle_first.f
  repeat' first
      | (with_reducible exact ih0 _ _ _ _ _)
      | (with_reducible exact canon_circle_roots.mono _ _ _)
      | (with_reducible exact canon_prime.mono _ _)
      | (with_reducible exact LeO.refl _)
      | (with_reducible exact LeO.none _)
      | (with_reducible refine LeO.ite ?_ ?_)
      | (with_reducible refine LeO.bind ?_ (fun _ => ?_))
      | exact ih0 _ _ _ _ _
      | exact canon_circle_roots.mono _ _ _
      | exact canon_prime.mono _ _
      | exact LeO.none _
      | refine LeO.ite ?_ ?_
      | refine LeO.bind ?_ (fun _ => ?_)
set_option maxHeartbeats 8000000 in
set_option maxRecDepth 100000 in
theorem canon_circle_first.calls (k : Nat) (a0 : Int) (a1 : Int) (r : Bool) (w : World) (h : canon_circle_first.f k a0 a1 = some r) :
    Calls Tryd.prog 36 #[.int .i64 a0, .int .i64 a1] w fun e w' => e = .returned (.bool r) ∧ Below w.heap.size w w' := by
  have HB := Aside0.mk (Below.refl w.heap.size w)
  have H : ((canon_circle_roots.f k a0 a1).bind fun t1001 => (canon_circle_first.l0 k a1 1 t1001 (t1001.length : Int) 0)) = some r := h
  clear h
  replace H := Option.bind_eq_some_iff.mp H
  obtain ⟨t1001, A30, H⟩ := H
  replace H : (canon_circle_first.l0 k a1 1 t1001 (t1001.length : Int) 0) = some r := H
  have A3 := Aside0.mk A30
  clear A30
  have H' := Aside0.mk H
  clear H
  go_enter Tryd.func36, Tryd.ntmps36
  go_wp2_with (first | ((with_reducible refine gate_callee (f := 38) rfl ?_); refine goesL_ (some 11) rfl rfl Tryd.func38 (by kernel_rfl) rfl #[.int .i64 a0, .int .i64 a1] rfl (by (try simp only [List.map_toArray, List.map_cons, List.map_nil]); first | done | rfl | (simp only [List.length_drop, List.length_take]; rfl)) ?_; (with_reducible refine (canon_circle_roots.calls k a0 a1 t1001 _ A3.out).mono ?_); rintro e w4 ⟨v1002, rfl, ho0, hb⟩; refine ⟨_, rfl, ?_⟩; have n0_ := Aside0.mk (Kd.R_lower ho0 (below_size (by repeat (first | (with_reducible first | exact HB.out | apply below_alloc | apply pw_below_drewN | apply below_drew1) | exact HB.out)))); have n1_ := Aside0.mk (below_step (by repeat (first | (with_reducible first | exact HB.out | apply below_alloc | apply pw_below_drewN | apply below_drew1) | exact HB.out)) hb); clear HB; have HO1003 := n0_; have HB := n1_; clear n0_ n1_; (try clear hb); (try clear hb2); (try clear hk); (try clear hi); (try clear ho0); obtain ⟨Ao5, co5, eo5⟩ := Kd.R_slice HO1003.out; subst eo5))
  go_loopg [5, 13] k (fun kq v5 v13 w' => ∃ (x5_1 : Int) (x13_1 : Int), v5 = .int .i64 x5_1 ∧ v13 = .int .i64 x13_1 ∧ Aside0 (canon_circle_first.l0 kq a1 x5_1 t1001 (t1001.length : Int) x13_1 = some r) ∧ Aside0 (kq ≤ k) ∧ Aside0 (Kd.R (Kd.int .i64) 3 w' w.heap.size (fun _ => True) (.slice Ao5 t1001.length co5) t1001) ∧ Aside0 (Below w.heap.size w w'))
  case atStart => exact ⟨(1), (0), (by first | rfl | (simp; done) | (simp [*]; done)), (by first | rfl | (simp; done) | (simp [*]; done)), H', ⟨Nat.le_refl _⟩, ⟨by (with_reducible repeat (first | apply Kd.R_alloc | apply Kd.R_drewN | apply Kd.R_drew)); exact HO1003.out⟩, ⟨by repeat (first | (with_reducible first | exact HB.out | apply below_alloc | apply pw_below_drewN | apply below_drew1) | exact HB.out)⟩⟩
  case round =>
    clear H'
    try clear p2
    try clear c3
    obtain ⟨x5_1, x13_1, rfl, rfl, HA, HK1, HO_11, HB⟩ := hrel
    cases gk with
    | zero => exact absurd HA.out (by simp [canon_circle_first.l0])
    | succ k1 =>
      have H := HA.out
      clear HA
      simp only [canon_circle_first.l0] at H
      by_cases c6 : x13_1 < (t1001.length : Int)
      · rw [if_pos c6] at H
        have c6b0 : decide (x13_1 < (t1001.length : Int)) = true := decide_eq_true c6
        clear c6
        by_cases c7 : 0 ≤ x13_1
        · rw [if_pos c7] at H
          have c7b0 : decide (0 ≤ x13_1) = true := decide_eq_true c7
          clear c7
          by_cases c8 : x13_1 < (t1001.length : Int)
          · rw [if_pos c8] at H
            have c8b0 : decide (x13_1 < (t1001.length : Int)) = true := decide_eq_true c8
            clear c8
            replace H := Option.bind_eq_some_iff.mp H
            obtain ⟨t1005, A90, H⟩ := H
            replace H : (if t1005 > 0 then (canon_circle_first.l0 k1 a1 (wrap64 (x5_1 * t1005)) t1001 (t1001.length : Int) (wrap64 (x13_1 + 1))) else (canon_circle_first.l0 k1 a1 x5_1 t1001 (t1001.length : Int) (wrap64 (x13_1 + 1)))) = some r := H
            have A9 := Aside0.mk A90
            clear A90
            by_cases c10 : t1005 > 0
            · rw [if_pos c10] at H
              have c10b0 : decide (0 < t1005) = true := decide_eq_true c10
              clear c10
              have H' := Aside0.mk H
              clear H
              have p1004 : 0 ≤ (x13_1 : Int) := of_decide_eq_true (by first | (with_reducible assumption) | assumption)
              have q1004 : x13_1 < (t1001.length : Int) := of_decide_eq_true (by first | (with_reducible assumption) | assumption)
              obtain ⟨ad1004, e1004, hx1004_0⟩ := Kd.at_int (Kd.R_reads' HO_11.out).2.2 x13_1 p1004 q1004
              cases e1004
              replace p1004 := eq_true p1004
              replace q1004 := eq_true q1004
              go_wp2_with (first | ((with_reducible refine gate_callee (f := 39) rfl ?_); refine goesL_ (some 18) rfl rfl Tryd.func39 (by kernel_rfl) rfl #[.int .i64 (rd t1001 x13_1)] rfl (by (try simp only [List.map_toArray, List.map_cons, List.map_nil]); first | done | rfl | (simp only [List.length_drop, List.length_take]; rfl)) ?_; (with_reducible refine (canon_prime.calls k1 (rd t1001 x13_1) t1005 _ A9.out).mono ?_); rintro e w' ⟨rfl, ⟨nd, rfl⟩⟩; refine ⟨_, rfl, ?_⟩))
              go_roundg k1
              case measure => have := HK1.out; omega
              case rel => exact ⟨(wrap64 (x5_1 * t1005)), (wrap64 (x13_1 + 1)), (by first | rfl | (simp; done) | (simp [*]; done)), (by first | rfl | (simp; done) | (simp [*]; done)), H', ⟨by have := HK1.out; omega⟩, ⟨by (with_reducible repeat (first | apply Kd.R_alloc | apply Kd.R_drewN | apply Kd.R_drew)); exact HO_11.out⟩, ⟨by repeat (first | (with_reducible first | exact HB.out | apply below_alloc | apply pw_below_drewN | apply below_drew1) | exact HB.out)⟩⟩
            · rw [if_neg c10] at H
              have c10b0 : decide (0 < t1005) = false := decide_eq_false c10
              clear c10
              have H' := Aside0.mk H
              clear H
              have p1004 : 0 ≤ (x13_1 : Int) := of_decide_eq_true (by first | (with_reducible assumption) | assumption)
              have q1004 : x13_1 < (t1001.length : Int) := of_decide_eq_true (by first | (with_reducible assumption) | assumption)
              obtain ⟨ad1004, e1004, hx1004_0⟩ := Kd.at_int (Kd.R_reads' HO_11.out).2.2 x13_1 p1004 q1004
              cases e1004
              replace p1004 := eq_true p1004
              replace q1004 := eq_true q1004
              go_wp2_with (first | ((with_reducible refine gate_callee (f := 39) rfl ?_); refine goesL_ (some 18) rfl rfl Tryd.func39 (by kernel_rfl) rfl #[.int .i64 (rd t1001 x13_1)] rfl (by (try simp only [List.map_toArray, List.map_cons, List.map_nil]); first | done | rfl | (simp only [List.length_drop, List.length_take]; rfl)) ?_; (with_reducible refine (canon_prime.calls k1 (rd t1001 x13_1) t1005 _ A9.out).mono ?_); rintro e w' ⟨rfl, ⟨nd, rfl⟩⟩; refine ⟨_, rfl, ?_⟩))
              go_roundg k1
              case measure => have := HK1.out; omega
              case rel => exact ⟨(x5_1), (wrap64 (x13_1 + 1)), (by first | rfl | (simp; done) | (simp [*]; done)), (by first | rfl | (simp; done) | (simp [*]; done)), H', ⟨by have := HK1.out; omega⟩, ⟨by (with_reducible repeat (first | apply Kd.R_alloc | apply Kd.R_drewN | apply Kd.R_drew)); exact HO_11.out⟩, ⟨by repeat (first | (with_reducible first | exact HB.out | apply below_alloc | apply pw_below_drewN | apply below_drew1) | exact HB.out)⟩⟩
          · rw [if_neg c8] at H
            exact absurd H (by simp)
        · rw [if_neg c7] at H
          exact absurd H (by simp)
      · rw [if_neg c6] at H
        have c6b0 : decide (x13_1 < (t1001.length : Int)) = false := decide_eq_false c6
        clear c6
        replace H := Option.bind_eq_some_iff.mp H
        obtain ⟨t1006, A110, H⟩ := H
        replace H : (some (x5_1 == t1006)) = some r := H
        have A11 := Aside0.mk A110
        clear A110
        obtain rfl := Option.some.inj H
        go_wp2_with (first | ((with_reducible refine gate_callee (f := 45) rfl ?_); refine goesL_ (some 27) rfl rfl Tryd.func45 (by kernel_rfl) rfl #[.int .i64 a1] rfl (by (try simp only [List.map_toArray, List.map_cons, List.map_nil]); first | done | rfl | (simp only [List.length_drop, List.length_take]; rfl)) ?_; (with_reducible refine (canon_count.calls a1 t1006 _ A11.out).mono ?_); rintro e w' ⟨rfl, ⟨nd, rfl⟩⟩; refine ⟨_, rfl, ?_⟩))
        go_ret
        exact ⟨by first | rfl | (simp [errW_none, errW_some] <;> rfl) | (simp [*, errW_none, errW_some] <;> rfl), by repeat (first | (with_reducible first | exact HB.out | apply below_alloc | apply pw_below_drewN | apply below_drew1) | exact HB.out)⟩

end Go.Proofs.YtkidgakjeahebaaDoor.P
namespace Go.Proofs.YtkidgakjeahebaaDoor.P
open Go.RowKit Go.Proofs.YtkidgakjeahebaaDoorW.PrintWords Go.Proofs.YtkidgakjeahebaaDoorW.PrintLast Go.Proofs.YtkidgakjeahebaaDoorW.PrintMore
attribute [local go_sem] max2_int min2_int max_two min_two max_three min_three max_four min_four   -- for this text's walks alone
set_option linter.unusedVariables false
set_option linter.unusedSimpArgs false

/-! ### canon_First: function 18 -/
def canon_First.f (k : Nat) (a0 : Int) (a1 : Int) : Option (Bool × Int) := (canon_circle_valid.f a0 (([a1] : List Int))).bind fun t1004 => (if t1004 = true then ((canon_circle_first.f k a0 a1).bind fun t1005 => (some (t1005, 0))) else (some (false, 2)))
theorem canon_First.mono : ∀ a0 a1 k, LeO (canon_First.f k a0 a1) (canon_First.f (k + 1) a0 a1) := by
  intro a0 a1 k
  unfold canon_First.f
  repeat' first
      | (with_reducible exact canon_circle_first.mono _ _ _)
      | (with_reducible exact LeO.refl _)
      | (with_reducible exact LeO.none _)
      | (with_reducible refine LeO.ite ?_ ?_)
      | (with_reducible refine LeO.bind ?_ (fun _ => ?_))
      | exact canon_circle_first.mono _ _ _
      | exact LeO.none _
      | refine LeO.ite ?_ ?_
      | refine LeO.bind ?_ (fun _ => ?_)
set_option maxHeartbeats 8000000 in
set_option maxRecDepth 100000 in
theorem canon_First.calls (k : Nat) (a0 : Int) (a1 : Int) (r1 : Bool) (r2 : Int) (w : World) (h : canon_First.f k a0 a1 = some (r1, r2)) :
    Calls Tryd.prog 18 #[.int .i64 a0, .int .i64 a1] w fun e w' => e = .returned (.tuple #[.bool r1, .int .i64 r2]) ∧ Below w.heap.size w w' := by
  have HB := Aside0.mk (Below.refl w.heap.size w)
  have H : ((canon_circle_valid.f a0 (([a1] : List Int))).bind fun t1004 => (if t1004 = true then ((canon_circle_first.f k a0 a1).bind fun t1005 => (some (t1005, 0))) else (some (false, 2)))) = some (r1, r2) := h
  clear h
  obtain ⟨y1001, hy1001⟩ : ∃ y_ : List Int, y_ = (([a1] : List Int)) := ⟨_, rfl⟩
  replace H : ((canon_circle_valid.f a0 y1001).bind fun t1004 => (if t1004 = true then ((canon_circle_first.f k a0 a1).bind fun t1005 => (some (t1005, 0))) else (some (false, 2)))) = some (r1, r2) := by first | (rw [hy1001]; with_reducible exact H) | (have H2_ := (Option.bind_some _ _).symm.trans H; rw [hy1001]; with_reducible exact H2_) | (have H2_ := (Option.bind_some _ _).symm.trans H; with_reducible exact H2_) | with_reducible exact H | (rw [hy1001]; exact H) | exact H
  have Ny1001 := Aside0.mk hy1001
  clear hy1001
  replace H := Option.bind_eq_some_iff.mp H
  obtain ⟨t1004, A30, H⟩ := H
  replace H : (if t1004 = true then ((canon_circle_first.f k a0 a1).bind fun t1005 => (some (t1005, 0))) else (some (false, 2))) = some (r1, r2) := H
  have A3 := Aside0.mk A30
  clear A30
  by_cases c4 : t1004 = true
  · subst c4
    have H1 : ((canon_circle_first.f k a0 a1).bind fun t1005 => (some (t1005, 0))) = some (r1, r2) := by rw [if_pos rfl] at H; exact H
    clear H
    have H := H1
    clear H1
    replace H := Option.bind_eq_some_iff.mp H
    obtain ⟨t1005, A50, H⟩ := H
    replace H : (some (t1005, 0)) = some (r1, r2) := H
    have A5 := Aside0.mk A50
    clear A50
    simp only [Option.some.injEq, Prod.mk.injEq] at H
    obtain ⟨rfl, rfl⟩ := H
    go_enter Tryd.func18, Tryd.ntmps18
    go_wp2_with (first | ((with_reducible refine gate_dst (N := 8) rfl ?_); refine Kd.R_lit (Kd.int .i64) _ 3 ?hg (N := 8) ?hd (xs := ([a1] : List Int)) (inner := [.int .i64 a1]) (ok := fun _ => True) (okp := fun _ => True) ?hr ?hp (fun _ hk => hk) trivial (Below.refl _ _) (Nat.le_refl _) (by simp) ?_; (case hd => rfl); (case hg => rfl); (case hr => first | (go_simp; done) | (go_simp; rfl)); (case hp => exact (Reps.one (show Kd.M (Kd.int .i64) _ _ _ a1 [.int .i64 a1] from rfl) (Reps.none _ _))); intro v1002 w6 ho7 hb hg_ hnew_; clear hg_ hnew_; (first | rw [← Ny1001.out] at ho7 | (simp only [Int.reduceToNat] at ho7; rw [← Ny1001.out] at ho7)); have n0_ := Aside0.mk (Kd.R_lower ho7 (below_size (by repeat (first | (with_reducible first | exact HB.out | apply below_alloc | apply pw_below_drewN | apply below_drew1) | exact HB.out)))); have n1_ := Aside0.mk (below_step (by repeat (first | (with_reducible first | exact HB.out | apply below_alloc | apply pw_below_drewN | apply below_drew1) | exact HB.out)) hb); clear HB; have HO1003 := n0_; have HB := n1_; clear n0_ n1_; clear hb ho7; obtain ⟨Ao8, co8, eo8⟩ := Kd.R_slice HO1003.out; subst eo8) | ((with_reducible refine gate_callee (f := 28) rfl ?_); refine goesL_ (some 9) rfl rfl Tryd.func28 (by kernel_rfl) rfl #[.int .i64 a0, .slice Ao8 y1001.length co8] rfl (by (try simp only [List.map_toArray, List.map_cons, List.map_nil]); first | done | rfl | (simp only [List.length_drop, List.length_take]; rfl)) ?_; (with_reducible refine (canon_circle_valid.calls a0 _ _ y1001 true _ ?side1 ?side2 A3.out).mono ?_); (case side1 => repeat (first | exact (Kd.R_reads' HO1003.out).2.2 | (with_reducible refine Kd.C_alloc ?_ _) | (with_reducible refine Kd.C_drewN ?_ _) | (with_reducible refine Kd.C_drew ?_))); (case side2 => exact (Kd.R_reads' HO1003.out).2.1); rintro e w9 ⟨rfl, hb⟩; refine ⟨_, rfl, ?_⟩; have n0_ := Aside0.mk (Kd.R_below (by (with_reducible repeat (first | apply Kd.R_alloc | apply Kd.R_drewN | apply Kd.R_drew)); exact HO1003.out) hb); have n1_ := Aside0.mk (below_step (by repeat (first | (with_reducible first | exact HB.out | apply below_alloc | apply pw_below_drewN | apply below_drew1) | exact HB.out)) hb); clear HO1003; clear HB; have HO1003 := n0_; have HB := n1_; clear n0_ n1_; (try clear hb); (try clear hb2); (try clear hk); (try clear hi)) | ((with_reducible refine gate_callee (f := 36) rfl ?_); refine goesL_ (some 13) rfl rfl Tryd.func36 (by kernel_rfl) rfl #[.int .i64 a0, .int .i64 a1] rfl (by (try simp only [List.map_toArray, List.map_cons, List.map_nil]); first | done | rfl | (simp only [List.length_drop, List.length_take]; rfl)) ?_; (with_reducible refine (canon_circle_first.calls k a0 a1 t1005 _ A5.out).mono ?_); rintro e w10 ⟨rfl, hb⟩; refine ⟨_, rfl, ?_⟩; have n0_ := Aside0.mk (Kd.R_below (by (with_reducible repeat (first | apply Kd.R_alloc | apply Kd.R_drewN | apply Kd.R_drew)); exact HO1003.out) hb); have n1_ := Aside0.mk (below_step (by repeat (first | (with_reducible first | exact HB.out | apply below_alloc | apply pw_below_drewN | apply below_drew1) | exact HB.out)) hb); clear HO1003; clear HB; have HO1003 := n0_; have HB := n1_; clear n0_ n1_; (try clear hb); (try clear hb2); (try clear hk); (try clear hi)))
    go_ret2
    exact ⟨by first | rfl | (simp [errW_none, errW_some] <;> rfl) | (simp [*, errW_none, errW_some] <;> rfl), by repeat (first | (with_reducible first | exact HB.out | apply below_alloc | apply pw_below_drewN | apply below_drew1) | exact HB.out)⟩
  · replace c4 := Bool.eq_false_iff.mpr c4
    subst c4
    have H1 : (some (false, 2)) = some (r1, r2) := by rw [if_neg (show ¬ (false = true) by decide)] at H; exact H
    clear H
    have H := H1
    clear H1
    simp only [Option.some.injEq, Prod.mk.injEq] at H
    obtain ⟨rfl, rfl⟩ := H
    go_enter Tryd.func18, Tryd.ntmps18
    go_wp2_with (first | ((with_reducible refine gate_dst (N := 8) rfl ?_); refine Kd.R_lit (Kd.int .i64) _ 3 ?hg (N := 8) ?hd (xs := ([a1] : List Int)) (inner := [.int .i64 a1]) (ok := fun _ => True) (okp := fun _ => True) ?hr ?hp (fun _ hk => hk) trivial (Below.refl _ _) (Nat.le_refl _) (by simp) ?_; (case hd => rfl); (case hg => rfl); (case hr => first | (go_simp; done) | (go_simp; rfl)); (case hp => exact (Reps.one (show Kd.M (Kd.int .i64) _ _ _ a1 [.int .i64 a1] from rfl) (Reps.none _ _))); intro v1002 w11 ho12 hb hg_ hnew_; clear hg_ hnew_; (first | rw [← Ny1001.out] at ho12 | (simp only [Int.reduceToNat] at ho12; rw [← Ny1001.out] at ho12)); have n0_ := Aside0.mk (Kd.R_lower ho12 (below_size (by repeat (first | (with_reducible first | exact HB.out | apply below_alloc | apply pw_below_drewN | apply below_drew1) | exact HB.out)))); have n1_ := Aside0.mk (below_step (by repeat (first | (with_reducible first | exact HB.out | apply below_alloc | apply pw_below_drewN | apply below_drew1) | exact HB.out)) hb); clear HB; have HO1003 := n0_; have HB := n1_; clear n0_ n1_; clear hb ho12; obtain ⟨Ao13, co13, eo13⟩ := Kd.R_slice HO1003.out; subst eo13) | ((with_reducible refine gate_callee (f := 28) rfl ?_); refine goesL_ (some 9) rfl rfl Tryd.func28 (by kernel_rfl) rfl #[.int .i64 a0, .slice Ao13 y1001.length co13] rfl (by (try simp only [List.map_toArray, List.map_cons, List.map_nil]); first | done | rfl | (simp only [List.length_drop, List.length_take]; rfl)) ?_; (with_reducible refine (canon_circle_valid.calls a0 _ _ y1001 false _ ?side1 ?side2 A3.out).mono ?_); (case side1 => repeat (first | exact (Kd.R_reads' HO1003.out).2.2 | (with_reducible refine Kd.C_alloc ?_ _) | (with_reducible refine Kd.C_drewN ?_ _) | (with_reducible refine Kd.C_drew ?_))); (case side2 => exact (Kd.R_reads' HO1003.out).2.1); rintro e w14 ⟨rfl, hb⟩; refine ⟨_, rfl, ?_⟩; have n0_ := Aside0.mk (Kd.R_below (by (with_reducible repeat (first | apply Kd.R_alloc | apply Kd.R_drewN | apply Kd.R_drew)); exact HO1003.out) hb); have n1_ := Aside0.mk (below_step (by repeat (first | (with_reducible first | exact HB.out | apply below_alloc | apply pw_below_drewN | apply below_drew1) | exact HB.out)) hb); clear HO1003; clear HB; have HO1003 := n0_; have HB := n1_; clear n0_ n1_; (try clear hb); (try clear hb2); (try clear hk); (try clear hi)))
    go_ret2
    exact ⟨by first | rfl | (simp [errW_none, errW_some] <;> rfl) | (simp [*, errW_none, errW_some] <;> rfl), by repeat (first | (with_reducible first | exact HB.out | apply below_alloc | apply pw_below_drewN | apply below_drew1) | exact HB.out)⟩

end Go.Proofs.YtkidgakjeahebaaDoor.P
namespace Go.Proofs.YtkidgakjeahebaaDoor.P
open Go.RowKit Go.Proofs.YtkidgakjeahebaaDoorW.PrintWords Go.Proofs.YtkidgakjeahebaaDoorW.PrintLast Go.Proofs.YtkidgakjeahebaaDoorW.PrintMore
attribute [local go_sem] max2_int min2_int max_two min_two max_three min_three max_four min_four   -- for this text's walks alone
set_option linter.unusedVariables false
set_option linter.unusedSimpArgs false

/-! ### slices_Index_int_int: function 64 -/
def slices_Index_int_int.l0 : Nat → List Int → Int → Int → Int → Option (Int)
  | 0, _, _, _, _ => none
  | k + 1, x0, x1, x7, x8 => if x8 < x7 then (if 0 ≤ x8 then (if x8 < (x0.length : Int) then (if x1 = (rd x0 x8) then (some x8) else (slices_Index_int_int.l0 k x0 x1 x7 (wrap64 (x8 + 1)))) else (none)) else (none)) else (some (-1))
def slices_Index_int_int.f (k : Nat) (l0 : List Int) (a1 : Int) : Option (Int) := slices_Index_int_int.l0 k l0 a1 (l0.length : Int) 0
theorem slices_Index_int_int.mono_l : ∀ k, (∀ y0 y1 y2 y3, LeO (slices_Index_int_int.l0 k y0 y1 y2 y3) (slices_Index_int_int.l0 (k + 1) y0 y1 y2 y3))
  | 0 => fun _ _ _ _ r h => by simp [slices_Index_int_int.l0] at h
  | k + 1 => by
    have ih0 := slices_Index_int_int.mono_l k
    · intro y0 y1 y2 y3
      unfold slices_Index_int_int.l0
      repeat' first
      | (with_reducible exact ih0 _ _ _ _)
      | (with_reducible exact LeO.refl _)
      | (with_reducible exact LeO.none _)
      | (with_reducible refine LeO.ite ?_ ?_)
      | (with_reducible refine LeO.bind ?_ (fun _ => ?_))
      | exact ih0 _ _ _ _
      | exact LeO.none _
      | refine LeO.ite ?_ ?_
      | refine LeO.bind ?_ (fun _ => ?_)
theorem slices_Index_int_int.mono : ∀ a0 a1 k, LeO (slices_Index_int_int.f k a0 a1) (slices_Index_int_int.f (k + 1) a0 a1) := by
  intro a0 a1 k
  have ih0 := slices_Index_int_int.mono_l k
  unfold slices_Index_int_int.f
  repeat' first
      | (with_reducible exact ih0 _ _ _ _)
      | (with_reducible exact LeO.refl _)
      | (with_reducible exact LeO.none _)
      | (with_reducible refine LeO.ite ?_ ?_)
      | (with_reducible refine LeO.bind ?_ (fun _ => ?_))
      | exact ih0 _ _ _ _
      | exact LeO.none _
      | refine LeO.ite ?_ ?_
      | refine LeO.bind ?_ (fun _ => ?_)
set_option maxHeartbeats 8000000 in
set_option maxRecDepth 100000 in
theorem slices_Index_int_int.calls (k : Nat) (A0 : Option Addr) (c0 : Nat) (l0 : List Int) (a1 : Int) (r : Int) (w : World) (hr0 : Kd.C (Kd.int .i64) w A0 l0.length l0) (hc0 : l0.length ≤ c0) (h : slices_Index_int_int.f k l0 a1 = some r) :
    Calls Tryd.prog 64 #[.slice A0 l0.length c0, .int .i64 a1] w fun e w' => e = .returned (.int .i64 r) ∧ Drawn0 w w' := by
  have HR0 := Aside0.mk hr0
  have HC0 := Aside0.mk hc0
  clear hr0 hc0
  have H : (slices_Index_int_int.l0 k l0 a1 (l0.length : Int) 0) = some r := h
  clear h
  have H' := Aside0.mk H
  clear H
  go_enter Tryd.func64, Tryd.ntmps64
  go_wp2
  go_loopg [8] k (fun kq v8 w' => ∃ (x8_1 : Int), v8 = .int .i64 x8_1 ∧ Aside0 (slices_Index_int_int.l0 kq l0 a1 (l0.length : Int) x8_1 = some r) ∧ Aside0 (kq ≤ k) ∧ Drawn0 w w')
  case atStart => exact ⟨(0), (by first | rfl | (simp; done) | (simp [*]; done)), H', ⟨Nat.le_refl _⟩, by repeat (first | exact Drawn0.refl _ | apply Drawn0.step)⟩
  case round =>
    clear H'
    try clear p2
    obtain ⟨x8_1, rfl, HA, HK1, ⟨m1, rfl⟩⟩ := hrel
    cases gk with
    | zero => exact absurd HA.out (by simp [slices_Index_int_int.l0])
    | succ k1 =>
      have H := HA.out
      clear HA
      simp only [slices_Index_int_int.l0] at H
      by_cases c3 : x8_1 < (l0.length : Int)
      · rw [if_pos c3] at H
        have c3b0 : decide (x8_1 < (l0.length : Int)) = true := decide_eq_true c3
        clear c3
        by_cases c4 : 0 ≤ x8_1
        · rw [if_pos c4] at H
          have c4b0 : decide (0 ≤ x8_1) = true := decide_eq_true c4
          clear c4
          by_cases c5 : x8_1 < (l0.length : Int)
          · rw [if_pos c5] at H
            have c5b0 : decide (x8_1 < (l0.length : Int)) = true := decide_eq_true c5
            clear c5
            by_cases c6 : a1 = (rd l0 x8_1)
            · rw [if_pos c6] at H
              have c6b0 : (a1 == (rd l0 x8_1)) = true := beq_iff_eq.mpr c6
              have c6b1 : (a1 != (rd l0 x8_1)) = false := bne_eq_false_iff_eq.mpr c6
              clear c6
              obtain rfl := Option.some.inj H
              have p1001 : 0 ≤ (x8_1 : Int) := of_decide_eq_true (by first | (with_reducible assumption) | assumption)
              have q1001 : x8_1 < (l0.length : Int) := of_decide_eq_true (by first | (with_reducible assumption) | assumption)
              obtain ⟨ad1001, e1001, hx1001_0⟩ := Kd.at_int HR0.out x8_1 p1001 q1001
              cases e1001
              replace p1001 := eq_true p1001
              replace q1001 := eq_true q1001
              go_wp2
              go_ret
              exact ⟨by first | rfl | (simp; done) | (simp [*]; done), by repeat (first | exact Drawn0.refl _ | apply Drawn0.step)⟩
            · rw [if_neg c6] at H
              have c6b0 : (a1 == (rd l0 x8_1)) = false := beq_eq_false_iff_ne.mpr c6
              have c6b1 : (a1 != (rd l0 x8_1)) = true := bne_iff_ne.mpr c6
              have H' := Aside0.mk H
              clear H
              have p1001 : 0 ≤ (x8_1 : Int) := of_decide_eq_true (by first | (with_reducible assumption) | assumption)
              have q1001 : x8_1 < (l0.length : Int) := of_decide_eq_true (by first | (with_reducible assumption) | assumption)
              obtain ⟨ad1001, e1001, hx1001_0⟩ := Kd.at_int HR0.out x8_1 p1001 q1001
              cases e1001
              replace p1001 := eq_true p1001
              replace q1001 := eq_true q1001
              go_wp2
              go_roundg k1
              case measure => have := HK1.out; omega
              case rel => exact ⟨(wrap64 (x8_1 + 1)), (by first | rfl | (simp; done) | (simp [*]; done)), H', ⟨by have := HK1.out; omega⟩, by repeat (first | exact Drawn0.refl _ | apply Drawn0.step)⟩
          · rw [if_neg c5] at H
            exact absurd H (by simp)
        · rw [if_neg c4] at H
          exact absurd H (by simp)
      · rw [if_neg c3] at H
        have c3b0 : decide (x8_1 < (l0.length : Int)) = false := decide_eq_false c3
        clear c3
        obtain rfl := Option.some.inj H
        go_wp2
        go_ret
        exact ⟨by first | rfl | (simp; done) | (simp [*]; done), by repeat (first | exact Drawn0.refl _ | apply Drawn0.step)⟩

end Go.Proofs.YtkidgakjeahebaaDoor.P
namespace Go.Proofs.YtkidgakjeahebaaDoor.P
open Go.RowKit Go.Proofs.YtkidgakjeahebaaDoorW.PrintWords Go.Proofs.YtkidgakjeahebaaDoorW.PrintLast Go.Proofs.YtkidgakjeahebaaDoorW.PrintMore
attribute [local go_sem] max2_int min2_int max_two min_two max_three min_three max_four min_four   -- for this text's walks alone
set_option linter.unusedVariables false
set_option linter.unusedSimpArgs false

/-! ### slices_Contains_int_int: function 40 -/
def slices_Contains_int_int.f (k : Nat) (l0 : List Int) (a1 : Int) : Option (Bool) := (slices_Index_int_int.f k l0 a1).bind fun t1001 => (some (decide (t1001 ≥ 0)))
theorem slices_Contains_int_int.mono : ∀ a0 a1 k, LeO (slices_Contains_int_int.f k a0 a1) (slices_Contains_int_int.f (k + 1) a0 a1) := by
  intro a0 a1 k
  unfold slices_Contains_int_int.f
  repeat' first
      | (with_reducible exact slices_Index_int_int.mono _ _ _)
      | (with_reducible exact LeO.refl _)
      | (with_reducible exact LeO.none _)
      | (with_reducible refine LeO.ite ?_ ?_)
      | (with_reducible refine LeO.bind ?_ (fun _ => ?_))
      | exact slices_Index_int_int.mono _ _ _
      | exact LeO.none _
      | refine LeO.ite ?_ ?_
      | refine LeO.bind ?_ (fun _ => ?_)
set_option maxHeartbeats 8000000 in
set_option maxRecDepth 100000 in
theorem slices_Contains_int_int.calls (k : Nat) (A0 : Option Addr) (c0 : Nat) (l0 : List Int) (a1 : Int) (r : Bool) (w : World) (hr0 : Kd.C (Kd.int .i64) w A0 l0.length l0) (hc0 : l0.length ≤ c0) (h : slices_Contains_int_int.f k l0 a1 = some r) :
    Calls Tryd.prog 40 #[.slice A0 l0.length c0, .int .i64 a1] w fun e w' => e = .returned (.bool r) ∧ Drawn0 w w' := by
  have HR0 := Aside0.mk hr0
  have HC0 := Aside0.mk hc0
  clear hr0 hc0
  have H : ((slices_Index_int_int.f k l0 a1).bind fun t1001 => (some (decide (t1001 ≥ 0)))) = some r := h
  clear h
  replace H := Option.bind_eq_some_iff.mp H
  obtain ⟨t1001, A30, H⟩ := H
  replace H : (some (decide (t1001 ≥ 0))) = some r := H
  have A3 := Aside0.mk A30
  clear A30
  obtain rfl := Option.some.inj H
  go_enter Tryd.func40, Tryd.ntmps40
  go_wp2_with (first | ((with_reducible refine gate_callee (f := 64) rfl ?_); refine goesL_ (some 7) rfl rfl Tryd.func64 (by kernel_rfl) rfl #[.slice A0 l0.length c0, .int .i64 a1] rfl (by (try simp only [List.map_toArray, List.map_cons, List.map_nil]); first | done | rfl | (simp only [List.length_drop, List.length_take]; rfl)) ?_; (with_reducible refine (slices_Index_int_int.calls k _ _ l0 a1 t1001 _ ?side1 ?side2 A3.out).mono ?_); (case side1 => repeat (first | exact HR0.out | (with_reducible refine Kd.C_alloc ?_ _) | (with_reducible refine Kd.C_drewN ?_ _) | (with_reducible refine Kd.C_drew ?_))); (case side2 => exact HC0.out); rintro e w' ⟨rfl, ⟨nd, rfl⟩⟩; refine ⟨_, rfl, ?_⟩))
  go_ret
  exact ⟨by first | rfl | (simp; done) | (simp [*]; done), by repeat (first | exact Drawn0.refl _ | apply Drawn0.step)⟩

end Go.Proofs.YtkidgakjeahebaaDoor.P
namespace Go.Proofs.YtkidgakjeahebaaDoor.P
open Go.RowKit Go.Proofs.YtkidgakjeahebaaDoorW.PrintWords Go.Proofs.YtkidgakjeahebaaDoorW.PrintLast Go.Proofs.YtkidgakjeahebaaDoorW.PrintMore
attribute [local go_sem] max2_int min2_int max_two min_two max_three min_three max_four min_four   -- for this text's walks alone
set_option linter.unusedVariables false
set_option linter.unusedSimpArgs false

/-! (gathered by mk_cond.py: what q_Poly, q_Roots and q_Roots2 say of the program's own functions) -/
/-! polynomials: long division as both programs do it -/
theorem ReverseY_loop : ∀ (d : Nat) (M A B : List Int), M.length ≤ d → (A ++ M ++ B).length < 9223372036854775807 →
    Ev (fun k => canon_polynomial_int_75.l0 k (A ++ M ++ B) (A.length : Int) ((A.length : Int) + M.length - 1)) (A ++ M.reverse ++ B) := by
  intro d
  induction d with
  | zero =>
    intro M A B hd hb
    obtain rfl : M = [] := List.eq_nil_of_length_eq_zero (by omega)
    refine Ev.succ ?_
    have : ¬ (A.length : Int) < (A.length : Int) + (([] : List Int).length : Int) - 1 := by simp; omega
    simp only [canon_polynomial_int_75.l0, if_neg this]
    exact Ev.some _
  | succ d ih =>
    intro M A B hd hb
    match M, hd with
    | [], _ => exact ih [] A B (by simp) hb
    | [x], _ =>
      refine Ev.succ ?_
      have : ¬ (A.length : Int) < (A.length : Int) + (([x] : List Int).length : Int) - 1 := by simp
      simp only [canon_polynomial_int_75.l0, if_neg this, List.reverse_singleton]
      exact Ev.some _
    | x :: y :: M', hd =>
      obtain ⟨M2, z, hM⟩ : ∃ M2 z, y :: M' = M2 ++ [z] := ⟨(y :: M').dropLast, (y :: M').getLast (by simp), (List.dropLast_concat_getLast (by simp)).symm⟩
      rw [hM] at hd hb ⊢
      have hl : (A ++ x :: (M2 ++ [z]) ++ B).length = A.length + M2.length + 2 + B.length := by simp; omega
      have hj : (A.length : Int) + ((x :: (M2 ++ [z])).length : Int) - 1 = ((A.length + M2.length + 1 : Nat) : Int) := by simp; omega
      have e1 : A ++ x :: (M2 ++ [z]) ++ B = (A ++ x :: M2) ++ z :: B := by simp
      have r1 : rd (A ++ x :: (M2 ++ [z]) ++ B) (A.length : Int) = x := by
        rw [show A ++ x :: (M2 ++ [z]) ++ B = A ++ x :: (M2 ++ [z] ++ B) by simp]
        exact mid_rd rfl
      have r2 : rd (A ++ x :: (M2 ++ [z]) ++ B) ((A.length + M2.length + 1 : Nat) : Int) = z := by
        rw [e1, show A.length + M2.length + 1 = (A ++ x :: M2).length by simp; omega]
        exact mid_rd rfl
      have s1 : ((A ++ x :: (M2 ++ [z]) ++ B).set A.length z).set (A.length + M2.length + 1) x = (A ++ [z]) ++ M2 ++ (x :: B) := by
        rw [show A ++ x :: (M2 ++ [z]) ++ B = A ++ x :: (M2 ++ z :: B) by simp, List.set_append_right _ _ (Nat.le_refl _)]
        rw [Nat.sub_self, List.set_cons_zero]
        rw [show A ++ z :: (M2 ++ z :: B) = (A ++ z :: M2) ++ z :: B by simp, List.set_append_right _ _ (by simp; omega)]
        rw [show A.length + M2.length + 1 - (A ++ z :: M2).length = 0 by simp; omega, List.set_cons_zero]
        simp
      refine Ev.succ ?_
      rw [hj]
      have c1 : (A.length : Int) < ((A.length + M2.length + 1 : Nat) : Int) := by omega
      have c2 : (0 : Int) ≤ ((A.length + M2.length + 1 : Nat) : Int) := by omega
      have c3 : ((A.length + M2.length + 1 : Nat) : Int) < ((A ++ x :: (M2 ++ [z]) ++ B).length : Int) := by rw [hl]; omega
      have c4 : (A.length : Int) < ((A ++ x :: (M2 ++ [z]) ++ B).length : Int) := by rw [hl]; omega
      have w1 : wrap64 ((A.length : Int) + 1) = ((A ++ [z]).length : Int) := by rw [wrap_id (by omega) (by omega)]; simp
      have w2 : wrap64 (((A.length + M2.length + 1 : Nat) : Int) - 1) = ((A ++ [z]).length : Int) + M2.length - 1 := by rw [wrap_id (by omega) (by omega)]; simp; omega
      simp only [canon_polynomial_int_75.l0, if_pos c1, if_pos c2, if_pos c3, if_pos c4, if_pos (show (0 : Int) ≤ (A.length : Int) by omega), r1, r2, Int.toNat_natCast, s1, w1, w2]
      have := ih M2 (A ++ [z]) (x :: B) (by simp at hd; omega) (by simp at hb ⊢; omega)
      have e2 : A ++ [z] ++ M2.reverse ++ x :: B = A ++ (x :: (M2 ++ [z])).reverse ++ B := by simp
      rw [← e2]
      exact this
theorem ReverseY_ev (l : List Int) (hb : l.length < 9223372036854775807) : Ev (fun k => canon_polynomial_int_75.f k l) l.reverse := by
  have h := ReverseY_loop l.length l [] [] (Nat.le_refl _) (by simpa using hb)
  have w : wrap64 ((l.length : Int) - 1) = ((([] : List Int).length : Nat) : Int) + l.length - 1 := by rw [wrap_id (by omega) (by omega)]; simp
  unfold canon_polynomial_int_75.f
  rw [w]
  simpa using h
def subRow (c : Int) : List Int → List Int → Nat → List Int
  | [], r, _ => r
  | x :: xs, r, o => subRow c xs (r.set o (wrap64 (r.getD o 0 - wrap64 (c * x)))) (o + 1)
theorem subRow_len (c : Int) : ∀ (g r : List Int) (o : Nat), (subRow c g r o).length = r.length
  | [], r, o => rfl
  | x :: xs, r, o => by unfold subRow; rw [subRow_len c xs]; simp
theorem subRow_far (c : Int) : ∀ (g r : List Int) (o i : Nat), (i < o ∨ o + g.length ≤ i) → (subRow c g r o).getD i 0 = r.getD i 0
  | [], r, o, i, _ => rfl
  | x :: xs, r, o, i, h => by
    unfold subRow
    rw [subRow_far c xs _ (o + 1) i (by simp at h; omega)]
    simp only [List.getD_eq_getElem?_getD]
    rw [List.getElem?_set_ne (by simp at h; omega)]
def divRun (g : List Int) (d : Nat) : Nat → List Int → List Int → List Int × List Int
  | 0, q, r => (q, r)
  | m + 1, q, r => divRun g d m (q ++ [r.getD (m + d) 0]) (subRow (r.getD (m + d) 0) g r m)
theorem divRun_len (g : List Int) (d : Nat) : ∀ (m : Nat) (q r : List Int), (divRun g d m q r).2.length = r.length ∧ (divRun g d m q r).1.length = q.length + m
  | 0, q, r => ⟨rfl, rfl⟩
  | m + 1, q, r => by
    unfold divRun
    obtain ⟨h1, h2⟩ := divRun_len g d m (q ++ [r.getD (m + d) 0]) (subRow (r.getD (m + d) 0) g r m)
    exact ⟨by rw [h1, subRow_len], by rw [h2]; simp; omega⟩
theorem rd_natY (r : List Int) (i : Nat) : rd r (i : Int) = r.getD i 0 := by unfold rd; rw [Int.toNat_natCast]
section
variable (g : List Int) (d : Nat)
theorem over_l1 (q : List Int) (o : Nat) (c : Int) (hg2 : g.length < 1000) (ho : o + d < 1000) (res : List Int × List Int) : ∀ (suf pre r : List Int), g = pre ++ suf → o + g.length ≤ r.length → r.length < 1000 →
    Ev (fun k => canon_polynomial_over.l0 k g q (subRow c suf r (o + pre.length)) (d : Int) (wrap64 (((o + d : Nat) : Int) - 1))) res →
    Ev (fun k => canon_polynomial_over.l1 k g q r (d : Int) ((o + d : Nat) : Int) c g (g.length : Int) (pre.length : Int)) res := by
  intro suf
  induction suf with
  | nil =>
    intro pre r hp hl hr hend
    refine Ev.succ ?_
    have : g.length = pre.length := by rw [hp]; simp
    simp only [canon_polynomial_over.l1, if_neg (show ¬ (pre.length : Int) < (g.length : Int) by omega)]
    exact hend
  | cons x xs ih =>
    intro pre r hp hl hr hend
    have hlen : g.length = pre.length + (xs.length + 1) := by rw [hp]; simp
    have hw1 : wrap64 (((o + d : Nat) : Int) - (d : Int)) = (o : Int) := by rw [wrap_id (by omega) (by omega)]; omega
    have hw2 : wrap64 ((o : Int) + (pre.length : Int)) = ((o + pre.length : Nat) : Int) := by rw [wrap_id (by omega) (by omega)]; omega
    have hx : rd g (pre.length : Int) = x := mid_rd hp
    have go := ih (pre ++ [x]) (r.set (o + pre.length) (wrap64 (r.getD (o + pre.length) 0 - wrap64 (c * x)))) (by rw [hp]; simp) (by simpa using hl) (by simpa using hr) (by
      unfold subRow at hend
      have e : o + (pre ++ [x]).length = o + pre.length + 1 := by simp; omega
      rw [e]; exact hend)
    refine Ev.succ ?_
    simp only [canon_polynomial_over.l1, if_pos (show (pre.length : Int) < (g.length : Int) by omega), if_pos (show (0 : Int) ≤ (pre.length : Int) by omega), hw1, hw2, if_pos (show (0 : Int) ≤ ((o + pre.length : Nat) : Int) by omega), if_pos (show ((o + pre.length : Nat) : Int) < (r.length : Int) by omega), Int.toNat_natCast, rd_natY, mid_next hp (by omega)]
    rw [← rd_natY g, hx]
    exact go
theorem over_l0 (hg : g.length = d + 1) (hd : d < 500) : ∀ (m : Nat) (q r : List Int), m + d ≤ r.length → r.length < 500 → q.length + m < 500 →
    Ev (fun k => canon_polynomial_over.l0 k g q r (d : Int) (((m + d : Nat) : Int) - 1)) ((divRun g d m q r).1.reverse, (divRun g d m q r).2.take (min d r.length)) := by
  intro m
  induction m with
  | zero =>
    intro q r h1 h2 h3
    refine Ev.succ ?_
    simp only [canon_polynomial_over.l0, if_neg (show ¬ (((0 + d : Nat) : Int) - 1 ≥ (d : Int)) by omega), mn_eq]
    have hmin : min (d : Int) (r.length : Int) = ((min d r.length : Nat) : Int) := by omega
    rw [hmin]
    refine Ev.bind (ReverseY_ev q (by omega)) ?_
    simp only [if_pos (show (0 : Int) ≤ ((min d r.length : Nat) : Int) by omega), if_pos (show ((min d r.length : Nat) : Int) ≤ (r.length : Int) by omega), Int.toNat_natCast]
    exact Ev.some _
  | succ m ih =>
    intro q r h1 h2 h3
    have e1 : ((m + 1 + d : Nat) : Int) - 1 = ((m + d : Nat) : Int) := by omega
    rw [e1]
    refine Ev.succ ?_
    simp only [canon_polynomial_over.l0, if_pos (show ((m + d : Nat) : Int) ≥ (d : Int) by omega), if_pos (show (0 : Int) ≤ ((m + d : Nat) : Int) by omega), if_pos (show ((m + d : Nat) : Int) < (r.length : Int) by omega), if_pos (show q.length < 17592186044416 by omega), rd_natY]
    have hw : wrap64 (((m + d : Nat) : Int) - 1) = ((m + d : Nat) : Int) - 1 := wrap_id (by omega) (by omega)
    have go := ih (q ++ [r.getD (m + d) 0]) (subRow (r.getD (m + d) 0) g r m) (by rw [subRow_len]; omega) (by rw [subRow_len]; omega) (by simp; omega)
    rw [subRow_len] at go
    have := over_l1 g d (q ++ [r.getD (m + d) 0]) m (r.getD (m + d) 0) (by omega) (by omega) _ g [] r rfl (by omega) (by omega) (by rw [hw]; exact go)
    exact this
end
/-- quotient and rest -/
def divQ (f g : List Int) : List Int × List Int := ((divRun g (g.length - 1) (f.length - (g.length - 1)) [] f).1.reverse, (divRun g (g.length - 1) (f.length - (g.length - 1)) [] f).2)
theorem over_ev (f g : List Int) (hg : 1 ≤ g.length) (hg2 : g.length < 500) (hf : f.length < 500) (hfg : g.length - 1 ≤ f.length) : Ev (fun k => canon_polynomial_over.f k f g) ((divQ f g).1, (divQ f g).2.take (g.length - 1)) := by
  unfold canon_polynomial_over.f
  refine Ev.bind_some (show canon_polynomial_int_74.f f = some f by unfold canon_polynomial_int_74.f; rw [if_pos (by omega)]) ?_
  have hw1 : wrap64 ((g.length : Int) - 1) = ((g.length - 1 : Nat) : Int) := by rw [wrap_id (by omega) (by omega)]; omega
  have hw2 : wrap64 ((f.length : Int) - 1) = (((f.length - (g.length - 1)) + (g.length - 1) : Nat) : Int) - 1 := by rw [wrap_id (by omega) (by omega)]; omega
  have := over_l0 g (g.length - 1) (by omega) (by omega) (f.length - (g.length - 1)) [] f (by omega) hf (by simp; omega)
  rw [hw1, hw2]
  rw [Nat.min_eq_left hfg] at this
  exact this
section
variable (g : List Int) (d : Nat)
end
/-! cyclotomic polynomials up to the order 24, and the roots of a rhythm -/
def cycT : List (List Int) := [[], [-1, 1], [1, 1], [1, 1, 1], [1, 0, 1], [1, 1, 1, 1, 1], [1, -1, 1], [1, 1, 1, 1, 1, 1, 1], [1, 0, 0, 0, 1], [1, 0, 0, 1, 0, 0, 1], [1, -1, 1, -1, 1], [1, 1, 1, 1, 1, 1, 1, 1, 1, 1, 1], [1, 0, -1, 0, 1], [1, 1, 1, 1, 1, 1, 1, 1, 1, 1, 1, 1, 1], [1, -1, 1, -1, 1, -1, 1], [1, -1, 0, 1, -1, 1, 0, -1, 1], [1, 0, 0, 0, 0, 0, 0, 0, 1], [1, 1, 1, 1, 1, 1, 1, 1, 1, 1, 1, 1, 1, 1, 1, 1, 1], [1, 0, 0, -1, 0, 0, 1], [1, 1, 1, 1, 1, 1, 1, 1, 1, 1, 1, 1, 1, 1, 1, 1, 1, 1, 1], [1, 0, -1, 0, 1, 0, -1, 0, 1], [1, -1, 0, 1, -1, 0, 1, 0, -1, 1, 0, -1, 1], [1, -1, 1, -1, 1, -1, 1, -1, 1, -1, 1], [1, 1, 1, 1, 1, 1, 1, 1, 1, 1, 1, 1, 1, 1, 1, 1, 1, 1, 1, 1, 1, 1, 1], [1, 0, 0, 0, -1, 0, 0, 0, 1]]
def cycN (n : Nat) : List Int := cycT.getD n []
def cycGo (n : Nat) : Nat → Nat → List Int → List Int
  | 0, _, f => f
  | m + 1, d, f => cycGo n m (d + 1) (if n % d = 0 then (divQ f (cycN d)).1 else f)
def cycOk (n : Nat) : Nat → Nat → List Int → Bool
  | 0, _, f => true
  | m + 1, d, f => (if n % d = 0 then decide (1 ≤ (cycN d).length) && decide ((cycN d).length < 500) && decide (f.length < 500) && decide ((cycN d).length - 1 ≤ f.length) && (divQ f (cycN d)).2.all (fun x => decide (x = 0)) else true) && cycOk n m (d + 1) (if n % d = 0 then (divQ f (cycN d)).1 else f)
def cycInit (n : Nat) : List Int := ((List.replicate (n + 1) (0 : Int)).set 0 (-1)).set n 1
theorem cyc_table : (List.range 25).all (fun n => n == 0 || (cycOk n (n - 1) 1 (cycInit n) && decide (cycGo n (n - 1) 1 (cycInit n) = cycN n))) = true := by kernel_rfl
theorem cyc_shape : (List.range 25).all (fun n => n == 0 || (decide (1 ≤ (cycN n).length) && decide ((cycN n).length ≤ n + 1) && decide ((cycN n).getD ((cycN n).length - 1) 0 = 1))) = true := by kernel_rfl
theorem cyc_at {n : Nat} (h1 : 1 ≤ n) (h2 : n ≤ 24) : cycOk n (n - 1) 1 (cycInit n) = true ∧ cycGo n (n - 1) 1 (cycInit n) = cycN n := by
  have h := List.all_eq_true.1 cyc_table n (List.mem_range.2 (by omega))
  have h0 : (n == 0) = false := beq_eq_false_iff_ne.2 (by omega)
  rw [h0, Bool.false_or, Bool.and_eq_true] at h
  exact ⟨h.1, of_decide_eq_true h.2⟩
theorem cyc_len {n : Nat} (h1 : 1 ≤ n) (h2 : n ≤ 24) : 1 ≤ (cycN n).length ∧ (cycN n).length ≤ n + 1 ∧ (cycN n).getD ((cycN n).length - 1) 0 = 1 := by
  have h := List.all_eq_true.1 cyc_shape n (List.mem_range.2 (by omega))
  have h0 : (n == 0) = false := beq_eq_false_iff_ne.2 (by omega)
  rw [h0, Bool.false_or, Bool.and_eq_true, Bool.and_eq_true] at h
  exact ⟨of_decide_eq_true h.1.1, of_decide_eq_true h.1.2, of_decide_eq_true h.2⟩
theorem cyc_l0 (n : Nat) (hn : n ≤ 24) (ih : ∀ d, 1 ≤ d → d < n → Ev (fun k => canon_cyclotomic.f k (d : Int)) (cycN d)) : ∀ (m d : Nat) (f : List Int), 1 ≤ d → d + m = n → cycOk n m d f = true →
    Ev (fun k => canon_cyclotomic.l0 k (n : Int) f (d : Int)) (cycGo n m d f) := by
  intro m
  induction m with
  | zero =>
    intro d f hd hm hok
    refine Ev.succ ?_
    simp only [canon_cyclotomic.l0, if_neg (show ¬ (d : Int) < (n : Int) by omega)]
    exact Ev.some _
  | succ m im =>
    intro d f hd hm hok
    have hw : wrap64 ((d : Int) + 1) = ((d + 1 : Nat) : Int) := by rw [wrap_id (by omega) (by omega)]; omega
    have ht : Int.tmod (n : Int) (d : Int) = ((n % d : Nat) : Int) := by rw [Int.tmod_eq_emod_of_nonneg (by omega)]; simp
    unfold cycOk at hok
    unfold cycGo
    rw [Bool.and_eq_true] at hok
    refine Ev.succ ?_
    simp only [canon_cyclotomic.l0, if_pos (show (d : Int) < (n : Int) by omega), if_neg (show ¬ (d : Int) = 0 by omega), ht, hw]
    by_cases hz : n % d = 0
    · rw [if_pos hz] at hok ⊢
      rw [if_pos hz] at hok
      simp only [hz, Int.natCast_zero, if_true]
      obtain ⟨h1, h2⟩ := hok
      simp only [Bool.and_eq_true, decide_eq_true_eq] at h1
      refine Ev.bind (ih d hd (by omega)) ?_
      refine Ev.bind (over_ev f (cycN d) h1.1.1.1.1 h1.1.1.1.2 h1.1.1.2 h1.1.2) ?_
      exact im (d + 1) _ (by omega) (by omega) h2
    · rw [if_neg hz] at hok ⊢
      rw [if_neg hz] at hok
      simp only [if_neg (show ¬ ((n % d : Nat) : Int) = 0 by omega)]
      exact im (d + 1) _ (by omega) (by omega) hok.2
theorem cyc_ev : ∀ n : Nat, 1 ≤ n → n ≤ 24 → Ev (fun k => canon_cyclotomic.f k (n : Int)) (cycN n) := by
  intro n
  induction n using Nat.strongRecOn with
  | ind n ih =>
    intro h1 h2
    obtain ⟨a1, a2⟩ := cyc_at h1 h2
    have hw : wrap64 ((n : Int) + 1) = ((n + 1 : Nat) : Int) := by rw [wrap_id (by omega) (by omega)]; omega
    have := cyc_l0 n h2 (fun d hd hdn => ih d hdn hd (by omega)) (n - 1) 1 (cycInit n) (Nat.le_refl _) (by omega) a1
    rw [a2] at this
    refine Ev.succ ?_
    simp only [canon_cyclotomic.f, hw, if_pos (show (0 : Int) ≤ ((n + 1 : Nat) : Int) by omega), Int.toNat_natCast, if_pos (show n + 1 ≤ 35184372088832 by omega), Option.bind_some, List.length_replicate, if_pos (show (0 : Int) < ((n + 1 : Nat) : Int) by omega), if_pos (show (0 : Int) ≤ (n : Int) by omega), if_pos (show (n : Int) < ((n + 1 : Nat) : Int) by omega), Int.toNat_zero]
    exact this
/-! the rest of a division by a polynomial whose last coefficient is 1 is 0 from its degree on -/
def InR (r : List Int) : Prop := ∀ x ∈ r, -9223372036854775808 ≤ x ∧ x < 9223372036854775808
theorem wrap_in (z : Int) : -9223372036854775808 ≤ wrap64 z ∧ wrap64 z < 9223372036854775808 := by unfold wrap64; omega
theorem subRow_in (c : Int) : ∀ (g r : List Int) (o : Nat), InR r → InR (subRow c g r o)
  | [], _, _, h => h
  | x :: xs, r, o, h => by
    unfold subRow
    refine subRow_in c xs _ (o + 1) (fun y hy => ?_)
    rcases List.mem_or_eq_of_mem_set hy with h1 | h1
    · exact h y h1
    · subst h1; exact wrap_in _
theorem getD_in {r : List Int} (h : InR r) (i : Nat) : -9223372036854775808 ≤ r.getD i 0 ∧ r.getD i 0 < 9223372036854775808 := by
  rw [List.getD_eq_getElem?_getD]
  cases e : r[i]? with
  | none => simp
  | some v => exact h v (List.mem_of_getElem? e)
theorem subRow_last (c x : Int) : ∀ (g r : List Int) (o : Nat), o + g.length < r.length → (subRow c (g ++ [x]) r o).getD (o + g.length) 0 = wrap64 (r.getD (o + g.length) 0 - wrap64 (c * x))
  | [], r, o, h => by
    simp only [List.nil_append, subRow, List.length_nil, Nat.add_zero, List.getD_eq_getElem?_getD] at h ⊢
    rw [List.getElem?_set_self h]; rfl
  | y :: g, r, o, h => by
    simp only [List.cons_append, subRow, List.length_cons] at h ⊢
    have := subRow_last c x g (r.set o (wrap64 (r.getD o 0 - wrap64 (c * y)))) (o + 1) (by simp; omega)
    rw [show o + (g.length + 1) = o + 1 + g.length by omega, this]
    congr 2
    simp only [List.getD_eq_getElem?_getD]
    rw [List.getElem?_set_ne (by omega)]
theorem divRun_far (g : List Int) (d : Nat) (hg : g.length = d + 1) : ∀ (m : Nat) (q r : List Int) (i : Nat), m + d ≤ i → (divRun g d m q r).2.getD i 0 = r.getD i 0
  | 0, q, r, i, _ => rfl
  | m + 1, q, r, i, h => by
    unfold divRun
    rw [divRun_far g d hg m _ _ i (by omega), subRow_far _ _ _ _ _ (by omega)]
theorem divRun_high (g0 : List Int) (d : Nat) (hg : g0.length = d) : ∀ (m : Nat) (q r : List Int), InR r → m + d ≤ r.length → ∀ i, d ≤ i → i < m + d → (divRun (g0 ++ [1]) d m q r).2.getD i 0 = 0
  | 0, q, r, _, _, i, h1, h2 => by omega
  | m + 1, q, r, hr, hl, i, h1, h2 => by
    unfold divRun
    have hin := subRow_in (r.getD (m + d) 0) (g0 ++ [1]) r m hr
    by_cases hi : i < m + d
    · exact divRun_high g0 d hg m _ _ hin (by rw [subRow_len]; omega) i h1 hi
    · have e : i = m + d := by omega
      rw [divRun_far (g0 ++ [1]) d (by simp [hg]) m _ _ i (by omega), e]
      have := subRow_last (r.getD (m + d) 0) 1 g0 r m (by omega)
      rw [hg] at this
      rw [this, Int.mul_one]
      have hc := getD_in hr (m + d)
      rw [wrap_id hc.1 hc.2, Int.sub_self]
      exact wrap_id (by omega) (by omega)
theorem all_take {r : List Int} {d : Nat} (h : ∀ i, d ≤ i → i < r.length → r.getD i 0 = 0) : (r.take d).all (fun x => decide (x = 0)) = r.all (fun x => decide (x = 0)) := by
  have hs : r = r.take d ++ r.drop d := (List.take_append_drop d r).symm
  have hz : (r.drop d).all (fun x => decide (x = 0)) = true := by
    rw [List.all_eq_true]
    intro x hx
    obtain ⟨j, hj, rfl⟩ := List.mem_iff_getElem.1 hx
    rw [List.getElem_drop]
    have hjl : d + j < r.length := by rw [List.length_drop] at hj; omega
    have := h (d + j) (by omega) hjl
    rw [List.getD_eq_getElem?_getD, List.getElem?_eq_getElem hjl] at this
    exact decide_eq_true this
  conv => rhs; rw [hs, List.all_append, hz, Bool.and_true]

/-! the roots of a rhythm, and the first condition -/
def bitsN (n a : Nat) : List Int := (List.range n).map fun i => if a.testBit i then (1 : Int) else 0
theorem bitsN_len (n a : Nat) : (bitsN n a).length = n := by unfold bitsN; simp
theorem bitsN_in (n a : Nat) : InR (bitsN n a) := fun x hx => by
  unfold bitsN at hx
  obtain ⟨i, _, rfl⟩ := List.mem_map.1 hx
  split <;> omega
theorem bits_set {n a i : Nat} (hi : i < n) : ((bitsN n a).take i ++ List.replicate (n - i) (0 : Int)).set i (if a.testBit i then 1 else 0) = (bitsN n a).take (i + 1) ++ List.replicate (n - (i + 1)) 0 := by
  have hl : ((bitsN n a).take i).length = i := by rw [List.length_take, bitsN_len]; omega
  have e : (bitsN n a).take (i + 1) = (bitsN n a).take i ++ [if a.testBit i then (1 : Int) else 0] := by
    rw [List.take_succ_eq_append_getElem (by rw [bitsN_len]; exact hi)]
    congr 2
    simp [bitsN]
  obtain ⟨m, hm⟩ : ∃ m, n - i = m + 1 := ⟨n - i - 1, by omega⟩
  rw [e, hm, show n - (i + 1) = m by omega, List.set_append_right _ _ (by omega), hl, Nat.sub_self, List.replicate_succ, List.set_cons_zero, List.append_assoc]
  rfl
theorem of_loop {n a : Nat} (hn : n ≤ 24) (ha : a < 2 ^ n) : ∀ (m i : Nat), i + m = n →
    Ev (fun k => canon_circle_of.l0 k (a : Int) ((bitsN n a).take i ++ List.replicate (n - i) 0) (n : Int) (i : Int)) (bitsN n a) := by
  intro m
  induction m with
  | zero =>
    intro i hi
    have : i = n := by omega
    subst this
    refine Ev.succ ?_
    simp only [canon_circle_of.l0, if_neg (show ¬ (i : Int) < (i : Int) by omega), Nat.sub_self, List.replicate_zero, List.append_nil]
    rw [List.take_of_length_le (by rw [bitsN_len]; exact Nat.le_refl _)]
    exact Ev.some _
  | succ m ih =>
    intro i hi
    have hw : wrap64 ((i : Int) + 1) = ((i + 1 : Nat) : Int) := by rw [wrap_id (by omega) (by omega)]; omega
    have hlen : ((bitsN n a).take i ++ List.replicate (n - i) (0 : Int)).length = n := by rw [List.length_append, List.length_take, bitsN_len, List.length_replicate]; omega
    refine Ev.succ ?_
    simp only [canon_circle_of.l0, if_pos (show (i : Int) < (n : Int) by omega), if_pos (show (0 : Int) ≤ (i : Int) by omega), hlen, Int.toNat_natCast, hw]
    rw [bit_r hn ha (by omega), bits_set (by omega)]
    exact ih (i + 1) (by omega)
theorem of_ev {n a : Nat} (hn : n ≤ 24) (ha : a < 2 ^ n) : Ev (fun k => canon_circle_of.f k (n : Int) (a : Int)) (bitsN n a) := by
  unfold canon_circle_of.f
  simp only [if_pos (show (0 : Int) ≤ (n : Int) by omega), Int.toNat_natCast, if_pos (show n ≤ 35184372088832 by omega), Option.bind_some, List.length_replicate]
  have := of_loop hn ha n 0 (by omega)
  rw [List.take_zero, List.nil_append, Nat.sub_zero] at this
  exact this
/-- a number of steps is a root -/
def isRt (n a s : Nat) : Bool := (divQ (bitsN n a) (cycN s)).2.all (fun x => decide (x = 0))
theorem rest_take {n a s : Nat} (h1 : 1 ≤ s) (h2 : s ≤ 24) (hs : s ≤ n) : ((divQ (bitsN n a) (cycN s)).2.take ((cycN s).length - 1)).all (fun x => decide (x = 0)) = isRt n a s := by
  obtain ⟨c1, c2, c3⟩ := cyc_len h1 h2
  have hg : cycN s = (cycN s).dropLast ++ [1] := by
    have hne : cycN s ≠ [] := fun e => by rw [e] at c1; simp at c1
    conv => lhs; rw [← List.dropLast_concat_getLast hne]
    congr 2
    rw [List.getLast_eq_getElem]
    rw [List.getD_eq_getElem?_getD, List.getElem?_eq_getElem (by omega)] at c3
    exact c3
  have hdl : (cycN s).dropLast.length = (cycN s).length - 1 := List.length_dropLast
  unfold isRt
  refine all_take (fun i hi hil => ?_)
  unfold divQ at hil ⊢
  simp only at hil ⊢
  rw [(divRun_len _ _ _ _ _).1, bitsN_len] at hil
  have := divRun_high (cycN s).dropLast ((cycN s).length - 1) hdl ((bitsN n a).length - ((cycN s).length - 1)) [] (bitsN n a) (bitsN_in n a) (by rw [bitsN_len]; omega) i hi (by rw [bitsN_len]; omega)
  rw [← hg] at this
  exact this
theorem zero_f (l : List Int) : canon_polynomial_zero.f l = some (l.all (fun x => decide (x = 0))) := by
  unfold canon_polynomial_zero.f
  congr 1
  induction l with
  | nil => rfl
  | cons x l ih =>
    rw [List.any_cons, List.all_cons, Bool.not_or, ih]
    congr 1
    unfold notZ
    by_cases h : x = 0 <;> simp [h]
def rootsN (n a : Nat) : List Nat := (List.range' 2 (n - 1)).filter fun s => decide (n % s = 0) && isRt n a s
def numsI (l : List Nat) : List Int := l.map Int.ofNat
theorem roots_loop {n a : Nat} (hn : n ≤ 24) (ha : a < 2 ^ n) : ∀ (m s : Nat) (acc : List Int), 2 ≤ s → s + m = n + 1 → acc.length + m < 1000 →
    Ev (fun k => canon_circle_roots.l0 k (n : Int) (a : Int) acc (s : Int)) (acc ++ numsI ((List.range' s m).filter fun s => decide (n % s = 0) && isRt n a s)) := by
  intro m
  induction m with
  | zero =>
    intro s acc hs hm hl
    refine Ev.succ ?_
    simp only [canon_circle_roots.l0, if_neg (show ¬ (s : Int) ≤ (n : Int) by omega)]
    have : acc ++ numsI ((List.range' s 0).filter fun s => decide (n % s = 0) && isRt n a s) = acc := by simp [numsI]
    rw [this]
    exact Ev.some _
  | succ m ih =>
    intro s acc hs hm hl
    have hw : wrap64 ((s : Int) + 1) = ((s + 1 : Nat) : Int) := by rw [wrap_id (by omega) (by omega)]; omega
    have ht : Int.tmod (n : Int) (s : Int) = ((n % s : Nat) : Int) := by rw [Int.tmod_eq_emod_of_nonneg (by omega)]; simp
    refine Ev.succ ?_
    simp only [canon_circle_roots.l0, if_pos (show (s : Int) ≤ (n : Int) by omega), if_neg (show ¬ (s : Int) = 0 by omega), ht, hw]
    rw [List.range'_succ, List.filter_cons]
    by_cases hz : n % s = 0
    · simp only [hz, Int.natCast_zero, if_true, decide_true, Bool.true_and]
      obtain ⟨c1, c2, c3⟩ := cyc_len (n := s) (by omega) (by omega)
      refine Ev.bind (of_ev hn ha) ?_
      refine Ev.bind (cyc_ev s (by omega) (by omega)) ?_
      refine Ev.bind (over_ev (bitsN n a) (cycN s) c1 (by omega) (by rw [bitsN_len]; omega) (by rw [bitsN_len]; omega)) ?_
      refine Ev.bind_some (zero_f _) ?_
      rw [rest_take (by omega) (by omega) (by omega)]
      cases hr : isRt n a s with
      | true =>
        simp only [if_true, if_pos (show acc.length < 17592186044416 by omega)]
        have := ih (s + 1) (acc ++ [(s : Int)]) (by omega) (by omega) (by simp; omega)
        rw [List.append_assoc] at this
        exact this
      | false =>
        simp only [Bool.false_eq_true, if_false]
        exact ih (s + 1) acc (by omega) (by omega) (by omega)
    · simp only [if_neg (show ¬ ((n % s : Nat) : Int) = 0 by omega), decide_eq_false hz, Bool.false_and, Bool.false_eq_true, if_false]
      exact ih (s + 1) acc (by omega) (by omega) (by omega)
theorem roots_ev {n a : Nat} (h2 : 2 ≤ n) (hn : n ≤ 24) (ha : a < 2 ^ n) : Ev (fun k => canon_circle_roots.f k (n : Int) (a : Int)) (numsI (rootsN n a)) := by
  unfold canon_circle_roots.f
  have := roots_loop hn ha (n - 1) 2 [] (Nat.le_refl _) (by omega) (by simp; omega)
  rw [List.nil_append] at this
  exact this
/-! primes -/
def prT : List Nat := [0, 0, 2, 3, 2, 5, 0, 7, 2, 3, 0, 11, 0, 13, 0, 0, 2, 17, 0, 19, 0, 0, 0, 23, 0]
def prN (s : Nat) : Nat := prT.getD s 0
theorem prime_table : (List.range 25).all (fun s => decide (s < 2) || decide (canon_prime.f 60 (s : Int) = some (prN s : Int))) = true := by kernel_rfl
theorem prime_at {s : Nat} (h1 : 2 ≤ s) (h2 : s ≤ 24) : canon_prime.f 60 (s : Int) = some (prN s : Int) := by
  have h := List.all_eq_true.1 prime_table s (List.mem_range.2 (by omega))
  rw [decide_eq_false (show ¬ s < 2 by omega), Bool.false_or] at h
  exact of_decide_eq_true h
theorem prime_ev {s : Nat} (h1 : 2 ≤ s) (h2 : s ≤ 24) : Ev (fun k => canon_prime.f k (s : Int)) (prN s : Int) := Ev.of (canon_prime.mono (s : Int)) (prime_at h1 h2)
theorem rootsN_mem {n a s : Nat} : s ∈ rootsN n a ↔ 2 ≤ s ∧ s ≤ n ∧ n % s = 0 ∧ isRt n a s = true := by
  unfold rootsN
  rw [List.mem_filter, List.mem_range'_1, Bool.and_eq_true, decide_eq_true_eq]
  constructor
  · rintro ⟨⟨h1, h2⟩, h3, h4⟩; exact ⟨h1, by omega, h3, h4⟩
  · rintro ⟨h1, h2, h3, h4⟩; exact ⟨⟨h1, by omega⟩, h3, h4⟩
def prodP (p : Int) (l : List Nat) : Int := l.foldl (fun p s => if (prN s : Int) > 0 then wrap64 (p * (prN s : Int)) else p) p
theorem first_loop {n a : Nat} (hn : n ≤ 24) (ha : a < 2 ^ n) (rs : List Nat) (hr : ∀ s ∈ rs, 2 ≤ s ∧ s ≤ 24) (hl : rs.length < 1000) : ∀ (suf pre : List Nat) (p : Int), rs = pre ++ suf →
    Ev (fun k => canon_circle_first.l0 k (a : Int) p (numsI rs) (rs.length : Int) (pre.length : Int)) (prodP p suf == (chSize n a : Int)) := by
  have hlen : (numsI rs).length = rs.length := by unfold numsI; simp
  intro suf
  induction suf with
  | nil =>
    intro pre p hp
    have : rs.length = pre.length := by rw [hp]; simp
    refine Ev.succ ?_
    simp only [canon_circle_first.l0, if_neg (show ¬ (pre.length : Int) < (rs.length : Int) by omega)]
    exact Ev.bind_some (count_f hn ha) (Ev.some _)
  | cons s suf ih =>
    intro pre p hp
    have hl2 : rs.length = pre.length + (suf.length + 1) := by rw [hp]; simp
    have hs := hr s (by rw [hp]; simp)
    have hrd : rd (numsI rs) (pre.length : Int) = (s : Int) := by
      have e : numsI rs = numsI pre ++ (s : Int) :: numsI suf := by rw [hp]; simp [numsI]
      have := mid_rd (pre := numsI pre) e
      have hpl : (numsI pre).length = pre.length := by simp [numsI]
      rw [hpl] at this; exact this
    have hw : wrap64 ((pre.length : Int) + 1) = ((pre ++ [s]).length : Int) := by rw [wrap_id (by omega) (by omega)]; simp
    refine Ev.succ ?_
    simp only [canon_circle_first.l0, if_pos (show (pre.length : Int) < (rs.length : Int) by omega), if_pos (show (0 : Int) ≤ (pre.length : Int) by omega), hlen, hrd, hw]
    refine Ev.bind (prime_ev hs.1 hs.2) ?_
    have e : prodP p (s :: suf) = prodP (if (prN s : Int) > 0 then wrap64 (p * (prN s : Int)) else p) suf := rfl
    rw [e]
    by_cases hp0 : (prN s : Int) > 0
    · rw [if_pos hp0]
      simp only [if_pos hp0]
      exact ih (pre ++ [s]) _ (by rw [hp]; simp)
    · rw [if_neg hp0]
      simp only [if_neg hp0]
      exact ih (pre ++ [s]) _ (by rw [hp]; simp)
noncomputable def firstB (n a : Nat) : Bool := prodP 1 (rootsN n a) == (chSize n a : Int)
theorem rootsN_len (n a : Nat) (hn : n ≤ 24) : (rootsN n a).length < 1000 := by
  unfold rootsN
  have := List.length_filter_le (fun s => decide (n % s = 0) && isRt n a s) (List.range' 2 (n - 1))
  rw [List.length_range'] at this; omega
theorem first_ev {n a : Nat} (h2 : 2 ≤ n) (hn : n ≤ 24) (ha : a < 2 ^ n) : Ev (fun k => canon_circle_first.f k (n : Int) (a : Int)) (firstB n a) := by
  unfold canon_circle_first.f
  refine Ev.bind (roots_ev h2 hn ha) ?_
  have hlen : (numsI (rootsN n a)).length = (rootsN n a).length := by unfold numsI; simp
  rw [hlen]
  exact first_loop hn ha (rootsN n a) (fun s hs => by have := rootsN_mem.1 hs; omega) (rootsN_len n a hn) (rootsN n a) [] 1 rfl

end Go.Proofs.YtkidgakjeahebaaDoor.P
namespace Go.Proofs.YtkidgakjeahebaaDoor.P
open Go.RowKit Go.Proofs.YtkidgakjeahebaaDoorW.PrintWords Go.Proofs.YtkidgakjeahebaaDoorW.PrintLast Go.Proofs.YtkidgakjeahebaaDoorW.PrintMore
attribute [local go_sem] max2_int min2_int max_two min_two max_three min_three max_four min_four   -- for this text's walks alone
set_option linter.unusedVariables false
set_option linter.unusedSimpArgs false

/-! slices.Index, slices.Contains at ints -/
theorem Index_loop (l : List Int) (v : Int) (hb : l.length < 9223372036854775807) : ∀ (xs pre : List Int), l = pre ++ xs →
    Ev (fun k => slices_Index_int_int.l0 k l v (l.length : Int) (pre.length : Int)) (if v ∈ xs then ((pre.length + xs.idxOf v : Nat) : Int) else -1) := by
  intro xs
  induction xs with
  | nil =>
    intro pre h0
    refine Ev.succ ?_
    simp only [slices_Index_int_int.l0, if_neg (mid_end h0)]
    simpa using Ev.some (-1 : Int)
  | cons x xs ih =>
    intro pre h0
    refine Ev.succ ?_
    simp only [slices_Index_int_int.l0, if_pos (mid_lt h0), if_pos (show (0 : Int) ≤ (pre.length : Int) by omega), mid_rd h0, mid_next h0 hb]
    refine Ev.ite (fun e => ?_) (fun e => ?_)
    · subst e
      simpa using Ev.some _
    · have h := ih (pre ++ [x]) (mid_mv h0)
      have e1 : (v ∈ x :: xs) ↔ v ∈ xs := by simp [e]
      have e2 : (x :: xs).idxOf v = xs.idxOf v + 1 := by
        rw [List.idxOf_cons]
        have : (x == v) = false := by simpa using fun h => e h.symm
        rw [this]; rfl
      have e3 : ((pre ++ [x]).length + xs.idxOf v : Nat) = pre.length + (xs.idxOf v + 1) := by simp; omega
      simp only [e1, e2]
      rw [e3] at h
      exact h
theorem Index_ev (l : List Int) (v : Int) (hb : l.length < 9223372036854775807) : Ev (fun k => slices_Index_int_int.f k l v) (if v ∈ l then (l.idxOf v : Int) else -1) := by
  have := Index_loop l v hb l [] rfl
  simpa [slices_Index_int_int.f] using this
theorem Contains_ev (l : List Int) (v : Int) (hb : l.length < 9223372036854775807) : Ev (fun k => slices_Contains_int_int.f k l v) (decide (v ∈ l)) := by
  unfold slices_Contains_int_int.f
  refine Ev.bind (Index_ev l v hb) ?_
  have : decide ((if v ∈ l then (l.idxOf v : Int) else -1) ≥ 0) = decide (v ∈ l) := by
    rw [decide_eq_decide]; split <;> simp_all
  rw [this]
  exact Ev.some _

end Go.Proofs.YtkidgakjeahebaaDoor.P
namespace Go.Proofs.YtkidgakjeahebaaDoor.P
open Go.RowKit Go.Proofs.YtkidgakjeahebaaDoorW.PrintWords Go.Proofs.YtkidgakjeahebaaDoorW.PrintLast Go.Proofs.YtkidgakjeahebaaDoorW.PrintMore
attribute [local go_sem] max2_int min2_int max_two min_two max_three min_three max_four min_four   -- for this text's walks alone
set_option linter.unusedVariables false
set_option linter.unusedSimpArgs false

/-! the second condition -/
def okP (rs : List Nat) (p : Int) : Bool := !(decide (p > 1) && !(decide (p ∈ numsI rs)))
def loopH (rs : List Nat) : List Nat → Int → Bool
  | [], _ => true
  | x :: xs, p => (if (prN x : Int) > 0 ∧ Int.tmod p (prN x : Int) ≠ 0 then okP rs (wrap64 (p * (x : Int))) && loopH rs xs (wrap64 (p * (x : Int))) else true) && loopH rs xs p
theorem numsI_len (l : List Nat) : (numsI l).length = l.length := by unfold numsI; simp
structure SecAt (rs : List Nat) (A : Option Addr) (c B1 B2 : Nat) (W : World) : Prop where
  r : W.cell? ⟨B1, 0, none⟩ = some (.slice A rs.length c)
  f : W.cell? ⟨B2, 0, none⟩ = some (.func (.func 59) #[] #[.pointer (some ⟨B1, 0, none⟩), .pointer (some ⟨B2, 0, none⟩)])
  h : Kd.C (Kd.int .i64) W A (numsI rs).length (numsI rs)
  c : rs.length ≤ c
theorem SecAt.drawn {rs : List Nat} {A : Option Addr} {c B1 B2 : Nat} {W V : World} (h : SecAt rs A c B1 B2 W) (hd : Drawn0 W V) : SecAt rs A c B1 B2 V := by
  obtain ⟨q, rfl⟩ := hd
  exact ⟨h.r, h.f, Kd.C_below h.h (pw_below_drewN (Below.refl _ W) q), h.c⟩
theorem drawn_trans {A B C : World} (h : Drawn0 A B) (k : Drawn0 B C) : Drawn0 A C := by
  obtain ⟨q, rfl⟩ := k
  exact h.step q
theorem SecAt.cellD {W V : World} {a : Addr} {v : Value} (hd : Drawn0 W V) (h : W.cell? a = some v) : V.cell? a = some v := by
  obtain ⟨q, rfl⟩ := hd
  exact h
set_option maxHeartbeats 16000000 in
set_option maxRecDepth 100000 in
theorem hold_calls (rs : List Nat) (hrs : ∀ s ∈ rs, 2 ≤ s ∧ s ≤ 24) (hl : rs.length < 1000) (A : Option Addr) (c B1 B2 : Nat) : ∀ (m i : Nat) (p : Int) (W : World), i + m = rs.length → SecAt rs A c B1 B2 W →
    Calls Tryd.prog 59 #[.int .i64 (i : Int), .int .i64 p, .pointer (some ⟨B1, 0, none⟩), .pointer (some ⟨B2, 0, none⟩)] W fun e w' => e = .returned (.bool (okP rs p && loopH rs (rs.drop i) p)) ∧ Drawn0 W w' := by
  intro m
  induction m using Nat.strongRecOn with
  | ind m ih =>
    intro i p W him hS
    have HS := Aside0.mk hS
    obtain ⟨kc, hkc⟩ := Ev.rounds (Contains_ev (numsI rs) p (by rw [numsI_len]; omega))
    have hcon := slices_Contains_int_int.calls kc A c (numsI rs) p _ W hS.h (by rw [numsI_len]; exact hS.c) hkc
    rw [numsI_len] at hcon
    have HCON := Aside0.mk hcon
    have k1 := hS.r
    clear hcon hkc hS
    by_cases hp : p > 1
    · by_cases hin : p ∈ numsI rs
      · have hok : okP rs p = true := by unfold okP; rw [decide_eq_true hin]; simp
        rw [decide_eq_true hin] at HCON
        clear hin
        go_enter Tryd.func59, Tryd.ntmps59
        go_wp2_with (go_at_call 40; refine HCON.out.mono ?_; rintro e w2 ⟨rfl, hd0⟩; have HD0 := Aside0.mk hd0; clear hd0 k1)
        go_loopg [7] rs.length (fun gg s7 wr => ∃ j : Nat, s7 = .int .i64 (j : Int) ∧ i ≤ j ∧ j ≤ rs.length ∧ Aside0 (j + gg = i + rs.length) ∧ Aside0 (Drawn0 W wr) ∧ Aside0 (loopH rs (rs.drop i) p = loopH rs (rs.drop j) p))
        case atStart => exact ⟨i, rfl, Nat.le_refl _, by omega, ⟨by omega⟩, ⟨HD0.out⟩, ⟨rfl⟩⟩
        case round =>
          obtain ⟨j, rfl, hij, hjn, HG, HD, HL⟩ := hrel
          have hS := HS.out.drawn HD.out
          have k1 := hS.r
          by_cases hlt : j < rs.length
          · have hltz : (j : Int) < (rs.length : Int) := by omega
            obtain ⟨x, hx⟩ : ∃ x, rs[j] = x := ⟨_, rfl⟩
            have hxr := hrs x (by rw [← hx]; exact List.getElem_mem hlt)
            obtain ⟨ad, ead, hcell⟩ := Kd.at_int hS.h (j : Int) (by omega) (by rw [numsI_len]; exact hltz)
            have hrd : rd (numsI rs) (j : Int) = (x : Int) := by rw [rd_get (by rw [numsI_len]; exact hlt)]; simp [numsI, hx]
            rw [hrd, Int.toNat_natCast] at hcell
            obtain ⟨kp, hkp⟩ := Ev.rounds (prime_ev hxr.1 hxr.2)
            have HPR := Aside0.mk (fun V => canon_prime.calls kp (x : Int) (prN x : Int) V hkp)
            have hdrop : rs.drop j = x :: rs.drop (j + 1) := by rw [List.drop_eq_getElem_cons hlt, hx]
            have HLX := Aside0.mk (show loopH rs (rs.drop i) p = ((if (prN x : Int) > 0 ∧ Int.tmod p (prN x : Int) ≠ 0 then okP rs (wrap64 (p * (x : Int))) && loopH rs (rs.drop (j + 1)) (wrap64 (p * (x : Int))) else true) && loopH rs (rs.drop (j + 1)) p) by rw [HL.out, hdrop, loopH])
            have HREC := Aside0.mk (fun V (hV : SecAt rs A c B1 B2 V) => show Calls Tryd.prog 59 #[.int .i64 ((j : Int) + 1), .int .i64 (IntKind.i64.wrap (p * (x : Int))), .pointer (some ⟨B1, 0, none⟩), .pointer (some ⟨B2, 0, none⟩)] V (fun e w' => e = .returned (.bool (okP rs (wrap64 (p * (x : Int))) && loopH rs (rs.drop (j + 1)) (wrap64 (p * (x : Int))))) ∧ Drawn0 V w') from by have hz := ih (rs.length - (j + 1)) (by omega) (j + 1) (wrap64 (p * (x : Int))) V (by omega) hV; rw [show ((j + 1 : Nat) : Int) = (j : Int) + 1 by omega] at hz; rw [show IntKind.i64.wrap (p * (x : Int)) = wrap64 (p * (x : Int)) by rw [IntKind.wrap_i64, wrap64]]; exact hz)
            have HSS := Aside0.mk hS
            have hw : wrap64 ((j : Int) + 1) = ((j + 1 : Nat) : Int) := by rw [wrap_id (by omega) (by omega)]; omega
            have hwi : IntKind.i64.wrap ((j : Int) + 1) = ((j + 1 : Nat) : Int) := by rw [i64_id (by omega) (by omega)]; omega
            subst ead
            obtain ⟨y, hy⟩ : ∃ y, (prN x : Int) = y := ⟨_, rfl⟩
            rw [hy] at HPR HLX
            clear hS hx hxr hrd hkp hdrop hjn hy
            by_cases hc1 : y > 0
            · have hy0 : (y == 0) = false := beq_eq_false_iff_ne.2 (by omega)
              have hy1 : ¬ y = 0 := by omega
              by_cases hc2 : Int.tmod p y = 0
              · have hc2b : (Int.tmod p y != 0) = false := by rw [hc2]; rfl
                have HN := Aside0.mk (HLX.out.trans (by rw [if_neg (fun h => h.2 hc2), Bool.true_and]))
                have HC2 := Aside0.mk hc2
                go_wp2_with (go_at_call 39; refine (HPR.out _).mono ?_; rintro e V2 ⟨rfl, hd2⟩; have hS2 := HSS.out.drawn hd2; have g1 := hS2.r; have g2 := hS2.f; have hcell2 := SecAt.cellD hd2 hcell; have HD2 := Aside0.mk (drawn_trans HD.out hd2); have HS2 := Aside0.mk hS2; clear k1 hcell hd2 hS2)
                go_quiet (fail)
                clear g1 g2 hcell2
                go_wp2
                go_roundg (gk - 1)
                case measure => have := HG.out; omega
                case rel => exact ⟨j + 1, by first | go_num | (rw [hw]) | (rw [hwi]), by omega, by omega, ⟨by have := HG.out; omega⟩, ⟨drawn_trans HD2.out ⟨⟨nq, rfl⟩⟩⟩, HN⟩
              · have hc2b : (Int.tmod p y != 0) = true := bne_iff_ne.2 hc2
                cases hb : (okP rs (wrap64 (p * (x : Int))) && loopH rs (rs.drop (j + 1)) (wrap64 (p * (x : Int)))) with
                | true =>
                  have HN := Aside0.mk (HLX.out.trans (by rw [if_pos ⟨hc1, hc2⟩, hb, Bool.true_and]))
                  rw [hb] at HREC
                  have HC2 := Aside0.mk hc2
                  clear hb
                  go_wp2_with (go_at_call 39; refine (HPR.out _).mono ?_; rintro e V2 ⟨rfl, hd2⟩; have hS2 := HSS.out.drawn hd2; have g1 := hS2.r; have g2 := hS2.f; have hcell2 := SecAt.cellD hd2 hcell; have HD2 := Aside0.mk (drawn_trans HD.out hd2); have HS2 := Aside0.mk hS2; have HR2 := Aside0.mk (fun n => (HREC.out (V2.drewN n) (hS2.drawn ⟨⟨n, rfl⟩⟩)).mono (fun e w' h => And.intro h.1 h.2.out)); clear k1 hcell hd2 hS2)
                  go_quiet ((go_at_call 59; exact Calls.quiet_of (HR2.out _)))
                  clear g1 g2 hcell2
                  go_wp2
                  go_roundg (gk - 1)
                  case measure => have := HG.out; omega
                  case rel => exact ⟨j + 1, by first | go_num | (rw [hw]) | (rw [hwi]), by omega, by omega, ⟨by have := HG.out; omega⟩, ⟨drawn_trans HD2.out ⟨⟨nq, rfl⟩⟩⟩, HN⟩
                | false =>
                  have HN := Aside0.mk (HLX.out.trans (by rw [if_pos ⟨hc1, hc2⟩, hb, Bool.false_and]))
                  rw [hb] at HREC
                  have HC2 := Aside0.mk hc2
                  clear hb
                  go_wp2_with (go_at_call 39; refine (HPR.out _).mono ?_; rintro e V2 ⟨rfl, hd2⟩; have hS2 := HSS.out.drawn hd2; have g1 := hS2.r; have g2 := hS2.f; have hcell2 := SecAt.cellD hd2 hcell; have HD2 := Aside0.mk (drawn_trans HD.out hd2); have HS2 := Aside0.mk hS2; have HR2 := Aside0.mk (fun n => (HREC.out (V2.drewN n) (hS2.drawn ⟨⟨n, rfl⟩⟩)).mono (fun e w' h => And.intro h.1 h.2.out)); clear k1 hcell hd2 hS2)
                  go_quiet ((go_at_call 59; exact Calls.quiet_of (HR2.out _)))
                  clear g1 g2 hcell2
                  go_wp2
                  go_ret
                  exact ⟨by rw [HN.out, Bool.and_false]; rfl, drawn_trans HD2.out ⟨⟨nq, rfl⟩⟩⟩
            · have hc1b : decide (y > 0) = false := decide_eq_false hc1
              have HN := Aside0.mk (HLX.out.trans (by rw [if_neg (fun h => hc1 h.1), Bool.true_and]))
              go_wp2_with (go_at_call 39; refine (HPR.out _).mono ?_; rintro e V2 ⟨rfl, hd2⟩; have hS2 := HSS.out.drawn hd2; have g1 := hS2.r; have g2 := hS2.f; have hcell2 := SecAt.cellD hd2 hcell; have HD2 := Aside0.mk (drawn_trans HD.out hd2); have HS2 := Aside0.mk hS2; clear k1 hcell hd2 hS2)
              go_quiet (fail)
              clear g1 g2 hcell2
              go_wp2
              go_roundg (gk - 1)
              case measure => have := HG.out; omega
              case rel => exact ⟨j + 1, by first | go_num | (rw [hw]) | (rw [hwi]), by omega, by omega, ⟨by have := HG.out; omega⟩, ⟨drawn_trans HD2.out ⟨⟨nq, rfl⟩⟩⟩, HN⟩
          · have hltz : ¬ (j : Int) < (rs.length : Int) := by omega
            have hj : j = rs.length := by omega
            have HN := Aside0.mk (show loopH rs (rs.drop i) p = true by rw [HL.out, hj, List.drop_length]; rfl)
            have HOK := Aside0.mk hok
            clear hok
            go_wp2
            go_ret
            exact ⟨by rw [HN.out, HOK.out]; rfl, HD.out⟩
      · have hok : okP rs p = false := by unfold okP; rw [decide_eq_false hin, decide_eq_true hp]; rfl
        rw [decide_eq_false hin] at HCON
        have HOK := Aside0.mk hok
        clear hin hok
        go_enter Tryd.func59, Tryd.ntmps59
        go_wp2_with (go_at_call 40; refine HCON.out.mono ?_; rintro e w2 ⟨rfl, hd0⟩; have HD0 := Aside0.mk hd0; clear hd0 k1)
        go_ret
        exact ⟨by rw [HOK.out, Bool.false_and]; rfl, HD0.out⟩
    · have hok : okP rs p = true := by unfold okP; rw [decide_eq_false hp]; rfl
      go_enter Tryd.func59, Tryd.ntmps59
      go_wp2
      go_loopg [7] rs.length (fun gg s7 wr => ∃ j : Nat, s7 = .int .i64 (j : Int) ∧ i ≤ j ∧ j ≤ rs.length ∧ Aside0 (j + gg = i + rs.length) ∧ Aside0 (Drawn0 W wr) ∧ Aside0 (loopH rs (rs.drop i) p = loopH rs (rs.drop j) p))
      case atStart => exact ⟨i, rfl, Nat.le_refl _, by omega, ⟨by omega⟩, ⟨Drawn0.refl _⟩, ⟨rfl⟩⟩
      case round =>
        obtain ⟨j, rfl, hij, hjn, HG, HD, HL⟩ := hrel
        have hS := HS.out.drawn HD.out
        have k1 := hS.r
        by_cases hlt : j < rs.length
        · have hltz : (j : Int) < (rs.length : Int) := by omega
          obtain ⟨x, hx⟩ : ∃ x, rs[j] = x := ⟨_, rfl⟩
          have hxr := hrs x (by rw [← hx]; exact List.getElem_mem hlt)
          obtain ⟨ad, ead, hcell⟩ := Kd.at_int hS.h (j : Int) (by omega) (by rw [numsI_len]; exact hltz)
          have hrd : rd (numsI rs) (j : Int) = (x : Int) := by rw [rd_get (by rw [numsI_len]; exact hlt)]; simp [numsI, hx]
          rw [hrd, Int.toNat_natCast] at hcell
          obtain ⟨kp, hkp⟩ := Ev.rounds (prime_ev hxr.1 hxr.2)
          have HPR := Aside0.mk (fun V => canon_prime.calls kp (x : Int) (prN x : Int) V hkp)
          have hdrop : rs.drop j = x :: rs.drop (j + 1) := by rw [List.drop_eq_getElem_cons hlt, hx]
          have HLX := Aside0.mk (show loopH rs (rs.drop i) p = ((if (prN x : Int) > 0 ∧ Int.tmod p (prN x : Int) ≠ 0 then okP rs (wrap64 (p * (x : Int))) && loopH rs (rs.drop (j + 1)) (wrap64 (p * (x : Int))) else true) && loopH rs (rs.drop (j + 1)) p) by rw [HL.out, hdrop, loopH])
          have HREC := Aside0.mk (fun V (hV : SecAt rs A c B1 B2 V) => show Calls Tryd.prog 59 #[.int .i64 ((j : Int) + 1), .int .i64 (wrap64 (p * (x : Int))), .pointer (some ⟨B1, 0, none⟩), .pointer (some ⟨B2, 0, none⟩)] V (fun e w' => e = .returned (.bool (okP rs (wrap64 (p * (x : Int))) && loopH rs (rs.drop (j + 1)) (wrap64 (p * (x : Int))))) ∧ Drawn0 V w') from by have hz := ih (rs.length - (j + 1)) (by omega) (j + 1) (wrap64 (p * (x : Int))) V (by omega) hV; rw [show ((j + 1 : Nat) : Int) = (j : Int) + 1 by omega] at hz; exact hz)
          have HSS := Aside0.mk hS
          have hw : wrap64 ((j : Int) + 1) = ((j + 1 : Nat) : Int) := by rw [wrap_id (by omega) (by omega)]; omega
          have hwi : IntKind.i64.wrap ((j : Int) + 1) = ((j + 1 : Nat) : Int) := by rw [i64_id (by omega) (by omega)]; omega
          subst ead
          obtain ⟨y, hy⟩ : ∃ y, (prN x : Int) = y := ⟨_, rfl⟩
          rw [hy] at HPR HLX
          clear hS hx hxr hrd hkp hdrop hjn hy
          by_cases hc1 : y > 0
          · have hy0 : (y == 0) = false := beq_eq_false_iff_ne.2 (by omega)
            have hy1 : ¬ y = 0 := by omega
            by_cases hc2 : Int.tmod p y = 0
            · have hc2b : (Int.tmod p y != 0) = false := by rw [hc2]; rfl
              have HN := Aside0.mk (HLX.out.trans (by rw [if_neg (fun h => h.2 hc2), Bool.true_and]))
              have HC2 := Aside0.mk hc2
              go_wp2_with (go_at_call 39; refine (HPR.out _).mono ?_; rintro e V2 ⟨rfl, hd2⟩; have hS2 := HSS.out.drawn hd2; have g1 := hS2.r; have g2 := hS2.f; have hcell2 := SecAt.cellD hd2 hcell; have HD2 := Aside0.mk (drawn_trans HD.out hd2); have HS2 := Aside0.mk hS2; clear k1 hcell hd2 hS2)
              go_quiet (fail)
              clear g1 g2 hcell2
              go_wp2
              go_roundg (gk - 1)
              case measure => have := HG.out; omega
              case rel => exact ⟨j + 1, by first | go_num | (rw [hw]) | (rw [hwi]), by omega, by omega, ⟨by have := HG.out; omega⟩, ⟨drawn_trans HD2.out ⟨⟨nq, rfl⟩⟩⟩, HN⟩
            · have hc2b : (Int.tmod p y != 0) = true := bne_iff_ne.2 hc2
              cases hb : (okP rs (wrap64 (p * (x : Int))) && loopH rs (rs.drop (j + 1)) (wrap64 (p * (x : Int)))) with
              | true =>
                have HN := Aside0.mk (HLX.out.trans (by rw [if_pos ⟨hc1, hc2⟩, hb, Bool.true_and]))
                rw [hb] at HREC
                have HC2 := Aside0.mk hc2
                clear hb
                go_wp2_with (go_at_call 39; refine (HPR.out _).mono ?_; rintro e V2 ⟨rfl, hd2⟩; have hS2 := HSS.out.drawn hd2; have g1 := hS2.r; have g2 := hS2.f; have hcell2 := SecAt.cellD hd2 hcell; have HD2 := Aside0.mk (drawn_trans HD.out hd2); have HS2 := Aside0.mk hS2; have HR2 := Aside0.mk (fun n => (HREC.out (V2.drewN n) (hS2.drawn ⟨⟨n, rfl⟩⟩)).mono (fun e w' h => And.intro h.1 h.2.out)); clear k1 hcell hd2 hS2)
                go_quiet ((go_at_call 59; exact Calls.quiet_of (HR2.out _)))
                clear g1 g2 hcell2
                go_wp2
                go_roundg (gk - 1)
                case measure => have := HG.out; omega
                case rel => exact ⟨j + 1, by first | go_num | (rw [hw]) | (rw [hwi]), by omega, by omega, ⟨by have := HG.out; omega⟩, ⟨drawn_trans HD2.out ⟨⟨nq, rfl⟩⟩⟩, HN⟩
              | false =>
                have HN := Aside0.mk (HLX.out.trans (by rw [if_pos ⟨hc1, hc2⟩, hb, Bool.false_and]))
                rw [hb] at HREC
                have HC2 := Aside0.mk hc2
                clear hb
                go_wp2_with (go_at_call 39; refine (HPR.out _).mono ?_; rintro e V2 ⟨rfl, hd2⟩; have hS2 := HSS.out.drawn hd2; have g1 := hS2.r; have g2 := hS2.f; have hcell2 := SecAt.cellD hd2 hcell; have HD2 := Aside0.mk (drawn_trans HD.out hd2); have HS2 := Aside0.mk hS2; have HR2 := Aside0.mk (fun n => (HREC.out (V2.drewN n) (hS2.drawn ⟨⟨n, rfl⟩⟩)).mono (fun e w' h => And.intro h.1 h.2.out)); clear k1 hcell hd2 hS2)
                go_quiet ((go_at_call 59; exact Calls.quiet_of (HR2.out _)))
                clear g1 g2 hcell2
                go_wp2
                go_ret
                exact ⟨by rw [HN.out, Bool.and_false]; rfl, drawn_trans HD2.out ⟨⟨nq, rfl⟩⟩⟩
          · have hc1b : decide (y > 0) = false := decide_eq_false hc1
            have HN := Aside0.mk (HLX.out.trans (by rw [if_neg (fun h => hc1 h.1), Bool.true_and]))
            go_wp2_with (go_at_call 39; refine (HPR.out _).mono ?_; rintro e V2 ⟨rfl, hd2⟩; have hS2 := HSS.out.drawn hd2; have g1 := hS2.r; have g2 := hS2.f; have hcell2 := SecAt.cellD hd2 hcell; have HD2 := Aside0.mk (drawn_trans HD.out hd2); have HS2 := Aside0.mk hS2; clear k1 hcell hd2 hS2)
            go_quiet (fail)
            clear g1 g2 hcell2
            go_wp2
            go_roundg (gk - 1)
            case measure => have := HG.out; omega
            case rel => exact ⟨j + 1, by first | go_num | (rw [hw]) | (rw [hwi]), by omega, by omega, ⟨by have := HG.out; omega⟩, ⟨drawn_trans HD2.out ⟨⟨nq, rfl⟩⟩⟩, HN⟩
        · have hltz : ¬ (j : Int) < (rs.length : Int) := by omega
          have hj : j = rs.length := by omega
          have HN := Aside0.mk (show loopH rs (rs.drop i) p = true by rw [HL.out, hj, List.drop_length]; rfl)
          have HOK := Aside0.mk hok
          clear hok
          go_wp2
          go_ret
          exact ⟨by rw [HN.out, HOK.out]; rfl, HD.out⟩
def canon_circle_second.f (a0 a1 : Int) : Option Bool := if 2 ≤ a0 ∧ a0 ≤ 24 ∧ 0 ≤ a1 ∧ a1 < (2 : Int) ^ a0.toNat then some (okP (rootsN a0.toNat a1.toNat) 1 && loopH (rootsN a0.toNat a1.toNat) (rootsN a0.toNat a1.toNat) 1) else none
theorem two_new (w : World) (v0 v1 : Value) (t0 t1 : TypeId) (W0 : World) (h : (w.alloc (.cells #[v0] t0)).alloc (.cells #[v1] t1) = W0) :
    W0.cell? ⟨w.heap.size, 0, none⟩ = some v0 ∧ W0.cell? ⟨w.heap.size + 1, 0, none⟩ = some v1 ∧ Below w.heap.size w W0 := by
  subst h
  have a0 := new_cell w v0 t0
  have a1 := new_cell (w.alloc (.cells #[v0] t0)) v1 t1
  simp only [World.size_alloc] at a1
  exact ⟨old_cell _ a0.1, a1.1, below_alloc (below_alloc (Below.refl _ _) _) _⟩
theorem store_two (w : World) (o : Obj) (z v : Value) (t : TypeId) (hv : v.oneCell' = true) : (store ⟨w.heap.size + 1, 0, none⟩ v).run Tryd.prog ((w.alloc o).alloc (.cells #[z] t)) = .ok () ((w.alloc o).alloc (.cells #[v] t)) := by
  have a1 := new_cell (w.alloc o) z t
  simp only [World.size_alloc] at a1
  rw [run_store Tryd.prog _ _ _ _ hv, a1.1, a1.2]
  have := World.setCell_alloc_at (w := w.alloc o) #[z] t (w.heap.size + 1) 0 v (by simp [World.size_alloc])
  simp only [Bool.false_eq_true, if_false, this]
  rfl
set_option maxHeartbeats 8000000 in
set_option maxRecDepth 100000 in
theorem canon_circle_second.calls (a0 a1 : Int) (r : Bool) (w : World) (h : canon_circle_second.f a0 a1 = some r) :
    Calls Tryd.prog 37 #[.int .i64 a0, .int .i64 a1] w fun e w' => e = .returned (.bool r) ∧ Below w.heap.size w w' := by
  unfold canon_circle_second.f at h
  by_cases hd : 2 ≤ a0 ∧ a0 ≤ 24 ∧ 0 ≤ a1 ∧ a1 < (2 : Int) ^ a0.toNat
  case neg => rw [if_neg hd] at h; cases h
  rw [if_pos hd] at h
  injection h with h
  obtain ⟨n, rfl⟩ : ∃ n : Nat, a0 = (n : Int) := ⟨a0.toNat, by omega⟩
  obtain ⟨a, rfl⟩ : ∃ a : Nat, a1 = (a : Int) := ⟨a1.toNat, by omega⟩
  rw [Int.toNat_natCast] at hd h
  rw [Int.toNat_natCast] at h
  obtain ⟨d1, d2, _, d3⟩ := hd
  have h2 : 2 ≤ n := by omega
  have h24 : n ≤ 24 := by omega
  have ha : a < 2 ^ n := by exact_mod_cast d3
  obtain ⟨rs, hrs⟩ : ∃ rs, rootsN n a = rs := ⟨_, rfl⟩
  rw [hrs] at h
  obtain ⟨kr, hkr⟩ := Ev.rounds (roots_ev h2 h24 ha)
  rw [hrs] at hkr
  have HCR := Aside0.mk (fun V => canon_circle_roots.calls kr (n : Int) (a : Int) (numsI rs) V hkr)
  have HH := Aside0.mk (fun A c B1 B2 W (hs : SecAt rs A c B1 B2 W) => hold_calls rs (fun s hs => by rw [← hrs] at hs; have := rootsN_mem.1 hs; omega) (by rw [← hrs]; exact rootsN_len n a h24) A c B1 B2 rs.length 0 1 W (by omega) hs)
  have H := Aside0.mk h
  clear h hrs hkr d1 d2 d3 ha h2 h24
  have hmf : ∀ (fn : Fn) (first cap : Array Value) (w : World), (Instr.makeFunc fn first cap).run Tryd.prog w = .ok (.func fn first cap) w := fun _ _ _ _ => rfl
  go_enter Tryd.func37, Tryd.ntmps37
  go_wp2_with (go_at_call 38; refine (HCR.out _).mono ?_; rintro e w2 ⟨vr, rfl, hr0, hb0⟩; have HX := Aside0.mk (And.intro hr0 hb0); clear hr0 hb0; obtain ⟨Ar, cr, er⟩ := Kd.R_slice HX.out.1; rw [numsI_len] at er; subst er)
  first
    | (unfold Oper.upon; rw [store_two _ _ _ _ _ rfl]; go_wp2_with fail)
    | skip
  obtain ⟨W0, hW0⟩ : ∃ W0, ((w2.alloc (.cells #[.slice Ar rs.length cr] 39)).alloc (.cells #[.func (.func 59) #[] #[.pointer (some ⟨w2.heap.size, 0, none⟩), .pointer (some ⟨w2.heap.size + 1, 0, none⟩)]] 25)) = W0 := ⟨_, rfl⟩
  rw [hW0]
  obtain ⟨c0, c1, B0⟩ := two_new w2 _ _ _ _ W0 hW0
  have hrun := HH.out Ar cr w2.heap.size (w2.heap.size + 1) W0 ⟨c0, c1, Kd.C_below (by have := (Kd.R_reads' HX.out.1).2.2; exact this) B0, by have := (Kd.R_reads' HX.out.1).2.1; exact this⟩
  rw [List.drop_zero, H.out] at hrun
  have HB := Aside0.mk (below_step HX.out.2 B0)
  clear hW0 c0 c1 B0 HH
  refine hrun.mono ?_
  rintro e w' ⟨rfl, ⟨q, rfl⟩⟩
  go_wp2
  go_ret
  exact ⟨rfl, pw_below_drewN HB.out q⟩

end Go.Proofs.YtkidgakjeahebaaDoor.P
namespace Go.Proofs.YtkidgakjeahebaaDoor.P
open Go.RowKit Go.Proofs.YtkidgakjeahebaaDoorW.PrintWords Go.Proofs.YtkidgakjeahebaaDoorW.PrintLast Go.Proofs.YtkidgakjeahebaaDoorW.PrintMore
attribute [local go_sem] max2_int min2_int max_two min_two max_three min_three max_four min_four   -- for this text's walks alone
set_option linter.unusedVariables false
set_option linter.unusedSimpArgs false

/-! ### canon_Second: function 19 -/
def canon_Second.f (a0 : Int) (a1 : Int) : Option (Bool × Int) := (canon_circle_valid.f a0 (([a1] : List Int))).bind fun t1004 => (if t1004 = true then ((canon_circle_second.f a0 a1).bind fun t1005 => (some (t1005, 0))) else (some (false, 2)))
set_option maxHeartbeats 8000000 in
set_option maxRecDepth 100000 in
theorem canon_Second.calls (a0 : Int) (a1 : Int) (r1 : Bool) (r2 : Int) (w : World) (h : canon_Second.f a0 a1 = some (r1, r2)) :
    Calls Tryd.prog 19 #[.int .i64 a0, .int .i64 a1] w fun e w' => e = .returned (.tuple #[.bool r1, .int .i64 r2]) ∧ Below w.heap.size w w' := by
  have HB := Aside0.mk (Below.refl w.heap.size w)
  have H : ((canon_circle_valid.f a0 (([a1] : List Int))).bind fun t1004 => (if t1004 = true then ((canon_circle_second.f a0 a1).bind fun t1005 => (some (t1005, 0))) else (some (false, 2)))) = some (r1, r2) := h
  clear h
  obtain ⟨y1001, hy1001⟩ : ∃ y_ : List Int, y_ = (([a1] : List Int)) := ⟨_, rfl⟩
  replace H : ((canon_circle_valid.f a0 y1001).bind fun t1004 => (if t1004 = true then ((canon_circle_second.f a0 a1).bind fun t1005 => (some (t1005, 0))) else (some (false, 2)))) = some (r1, r2) := by first | (rw [hy1001]; with_reducible exact H) | (have H2_ := (Option.bind_some _ _).symm.trans H; rw [hy1001]; with_reducible exact H2_) | (have H2_ := (Option.bind_some _ _).symm.trans H; with_reducible exact H2_) | with_reducible exact H | (rw [hy1001]; exact H) | exact H
  have Ny1001 := Aside0.mk hy1001
  clear hy1001
  replace H := Option.bind_eq_some_iff.mp H
  obtain ⟨t1004, A30, H⟩ := H
  replace H : (if t1004 = true then ((canon_circle_second.f a0 a1).bind fun t1005 => (some (t1005, 0))) else (some (false, 2))) = some (r1, r2) := H
  have A3 := Aside0.mk A30
  clear A30
  by_cases c4 : t1004 = true
  · subst c4
    have H1 : ((canon_circle_second.f a0 a1).bind fun t1005 => (some (t1005, 0))) = some (r1, r2) := by rw [if_pos rfl] at H; exact H
    clear H
    have H := H1
    clear H1
    replace H := Option.bind_eq_some_iff.mp H
    obtain ⟨t1005, A50, H⟩ := H
    replace H : (some (t1005, 0)) = some (r1, r2) := H
    have A5 := Aside0.mk A50
    clear A50
    simp only [Option.some.injEq, Prod.mk.injEq] at H
    obtain ⟨rfl, rfl⟩ := H
    go_enter Tryd.func19, Tryd.ntmps19
    go_wp2_with (first | ((with_reducible refine gate_dst (N := 8) rfl ?_); refine Kd.R_lit (Kd.int .i64) _ 3 ?hg (N := 8) ?hd (xs := ([a1] : List Int)) (inner := [.int .i64 a1]) (ok := fun _ => True) (okp := fun _ => True) ?hr ?hp (fun _ hk => hk) trivial (Below.refl _ _) (Nat.le_refl _) (by simp) ?_; (case hd => rfl); (case hg => rfl); (case hr => first | (go_simp; done) | (go_simp; rfl)); (case hp => exact (Reps.one (show Kd.M (Kd.int .i64) _ _ _ a1 [.int .i64 a1] from rfl) (Reps.none _ _))); intro v1002 w6 ho7 hb hg_ hnew_; clear hg_ hnew_; (first | rw [← Ny1001.out] at ho7 | (simp only [Int.reduceToNat] at ho7; rw [← Ny1001.out] at ho7)); have n0_ := Aside0.mk (Kd.R_lower ho7 (below_size (by repeat (first | (with_reducible first | exact HB.out | apply below_alloc | apply pw_below_drewN | apply below_drew1) | exact HB.out)))); have n1_ := Aside0.mk (below_step (by repeat (first | (with_reducible first | exact HB.out | apply below_alloc | apply pw_below_drewN | apply below_drew1) | exact HB.out)) hb); clear HB; have HO1003 := n0_; have HB := n1_; clear n0_ n1_; clear hb ho7; obtain ⟨Ao8, co8, eo8⟩ := Kd.R_slice HO1003.out; subst eo8) | ((with_reducible refine gate_callee (f := 28) rfl ?_); refine goesL_ (some 9) rfl rfl Tryd.func28 (by kernel_rfl) rfl #[.int .i64 a0, .slice Ao8 y1001.length co8] rfl (by (try simp only [List.map_toArray, List.map_cons, List.map_nil]); first | done | rfl | (simp only [List.length_drop, List.length_take]; rfl)) ?_; (with_reducible refine (canon_circle_valid.calls a0 _ _ y1001 true _ ?side1 ?side2 A3.out).mono ?_); (case side1 => repeat (first | exact (Kd.R_reads' HO1003.out).2.2 | (with_reducible refine Kd.C_alloc ?_ _) | (with_reducible refine Kd.C_drewN ?_ _) | (with_reducible refine Kd.C_drew ?_))); (case side2 => exact (Kd.R_reads' HO1003.out).2.1); rintro e w9 ⟨rfl, hb⟩; refine ⟨_, rfl, ?_⟩; have n0_ := Aside0.mk (Kd.R_below (by (with_reducible repeat (first | apply Kd.R_alloc | apply Kd.R_drewN | apply Kd.R_drew)); exact HO1003.out) hb); have n1_ := Aside0.mk (below_step (by repeat (first | (with_reducible first | exact HB.out | apply below_alloc | apply pw_below_drewN | apply below_drew1) | exact HB.out)) hb); clear HO1003; clear HB; have HO1003 := n0_; have HB := n1_; clear n0_ n1_; (try clear hb); (try clear hb2); (try clear hk); (try clear hi)) | ((with_reducible refine gate_callee (f := 37) rfl ?_); refine goesL_ (some 13) rfl rfl Tryd.func37 (by kernel_rfl) rfl #[.int .i64 a0, .int .i64 a1] rfl (by (try simp only [List.map_toArray, List.map_cons, List.map_nil]); first | done | rfl | (simp only [List.length_drop, List.length_take]; rfl)) ?_; (with_reducible refine (canon_circle_second.calls a0 a1 t1005 _ A5.out).mono ?_); rintro e w10 ⟨rfl, hb⟩; refine ⟨_, rfl, ?_⟩; have n0_ := Aside0.mk (Kd.R_below (by (with_reducible repeat (first | apply Kd.R_alloc | apply Kd.R_drewN | apply Kd.R_drew)); exact HO1003.out) hb); have n1_ := Aside0.mk (below_step (by repeat (first | (with_reducible first | exact HB.out | apply below_alloc | apply pw_below_drewN | apply below_drew1) | exact HB.out)) hb); clear HO1003; clear HB; have HO1003 := n0_; have HB := n1_; clear n0_ n1_; (try clear hb); (try clear hb2); (try clear hk); (try clear hi)))
    go_ret2
    exact ⟨by first | rfl | (simp [errW_none, errW_some] <;> rfl) | (simp [*, errW_none, errW_some] <;> rfl), by repeat (first | (with_reducible first | exact HB.out | apply below_alloc | apply pw_below_drewN | apply below_drew1) | exact HB.out)⟩
  · replace c4 := Bool.eq_false_iff.mpr c4
    subst c4
    have H1 : (some (false, 2)) = some (r1, r2) := by rw [if_neg (show ¬ (false = true) by decide)] at H; exact H
    clear H
    have H := H1
    clear H1
    simp only [Option.some.injEq, Prod.mk.injEq] at H
    obtain ⟨rfl, rfl⟩ := H
    go_enter Tryd.func19, Tryd.ntmps19
    go_wp2_with (first | ((with_reducible refine gate_dst (N := 8) rfl ?_); refine Kd.R_lit (Kd.int .i64) _ 3 ?hg (N := 8) ?hd (xs := ([a1] : List Int)) (inner := [.int .i64 a1]) (ok := fun _ => True) (okp := fun _ => True) ?hr ?hp (fun _ hk => hk) trivial (Below.refl _ _) (Nat.le_refl _) (by simp) ?_; (case hd => rfl); (case hg => rfl); (case hr => first | (go_simp; done) | (go_simp; rfl)); (case hp => exact (Reps.one (show Kd.M (Kd.int .i64) _ _ _ a1 [.int .i64 a1] from rfl) (Reps.none _ _))); intro v1002 w11 ho12 hb hg_ hnew_; clear hg_ hnew_; (first | rw [← Ny1001.out] at ho12 | (simp only [Int.reduceToNat] at ho12; rw [← Ny1001.out] at ho12)); have n0_ := Aside0.mk (Kd.R_lower ho12 (below_size (by repeat (first | (with_reducible first | exact HB.out | apply below_alloc | apply pw_below_drewN | apply below_drew1) | exact HB.out)))); have n1_ := Aside0.mk (below_step (by repeat (first | (with_reducible first | exact HB.out | apply below_alloc | apply pw_below_drewN | apply below_drew1) | exact HB.out)) hb); clear HB; have HO1003 := n0_; have HB := n1_; clear n0_ n1_; clear hb ho12; obtain ⟨Ao13, co13, eo13⟩ := Kd.R_slice HO1003.out; subst eo13) | ((with_reducible refine gate_callee (f := 28) rfl ?_); refine goesL_ (some 9) rfl rfl Tryd.func28 (by kernel_rfl) rfl #[.int .i64 a0, .slice Ao13 y1001.length co13] rfl (by (try simp only [List.map_toArray, List.map_cons, List.map_nil]); first | done | rfl | (simp only [List.length_drop, List.length_take]; rfl)) ?_; (with_reducible refine (canon_circle_valid.calls a0 _ _ y1001 false _ ?side1 ?side2 A3.out).mono ?_); (case side1 => repeat (first | exact (Kd.R_reads' HO1003.out).2.2 | (with_reducible refine Kd.C_alloc ?_ _) | (with_reducible refine Kd.C_drewN ?_ _) | (with_reducible refine Kd.C_drew ?_))); (case side2 => exact (Kd.R_reads' HO1003.out).2.1); rintro e w14 ⟨rfl, hb⟩; refine ⟨_, rfl, ?_⟩; have n0_ := Aside0.mk (Kd.R_below (by (with_reducible repeat (first | apply Kd.R_alloc | apply Kd.R_drewN | apply Kd.R_drew)); exact HO1003.out) hb); have n1_ := Aside0.mk (below_step (by repeat (first | (with_reducible first | exact HB.out | apply below_alloc | apply pw_below_drewN | apply below_drew1) | exact HB.out)) hb); clear HO1003; clear HB; have HO1003 := n0_; have HB := n1_; clear n0_ n1_; (try clear hb); (try clear hb2); (try clear hk); (try clear hi)))
    go_ret2
    exact ⟨by first | rfl | (simp [errW_none, errW_some] <;> rfl) | (simp [*, errW_none, errW_some] <;> rfl), by repeat (first | (with_reducible first | exact HB.out | apply below_alloc | apply pw_below_drewN | apply below_drew1) | exact HB.out)⟩

end Go.Proofs.YtkidgakjeahebaaDoor.P
namespace Go.Proofs.YtkidgakjeahebaaDoor.P
open Go.RowKit Go.Proofs.YtkidgakjeahebaaDoorW.PrintWords Go.Proofs.YtkidgakjeahebaaDoorW.PrintLast Go.Proofs.YtkidgakjeahebaaDoorW.PrintMore
attribute [local go_sem] max2_int min2_int max_two min_two max_three min_three max_four min_four   -- for this text's walks alone
set_option linter.unusedVariables false
set_option linter.unusedSimpArgs false

/-! ### canon_free: function 41 -/
def canon_free.l0 : Nat → Int → Int → Option (Int)
  | 0, _, _ => none
  | k + 1, x0, x1 => if x1 = 0 then (none) else (if (Int.tmod x0 x1) = 0 then (canon_free.l0 k (wrap64 (Int.tdiv x0 x1)) x1) else (some x0))
def canon_free.f (k : Nat) (a0 : Int) (a1 : Int) : Option (Int) := canon_free.l0 k a0 a1
theorem canon_free.mono_l : ∀ k, (∀ y0 y1, LeO (canon_free.l0 k y0 y1) (canon_free.l0 (k + 1) y0 y1))
  | 0 => fun _ _ r h => by simp [canon_free.l0] at h
  | k + 1 => by
    have ih0 := canon_free.mono_l k
    · intro y0 y1
      unfold canon_free.l0
      repeat' first
      | (with_reducible exact ih0 _ _)
      | (with_reducible exact LeO.refl _)
      | (with_reducible exact LeO.none _)
      | (with_reducible refine LeO.ite ?_ ?_)
      | (with_reducible refine LeO.bind ?_ (fun _ => ?_))
      | exact ih0 _ _
      | exact LeO.none _
      | refine LeO.ite ?_ ?_
      | refine LeO.bind ?_ (fun _ => ?_)
theorem canon_free.mono : ∀ a0 a1 k, LeO (canon_free.f k a0 a1) (canon_free.f (k + 1) a0 a1) := by
  intro a0 a1 k
  have ih0 := canon_free.mono_l k
  unfold canon_free.f
  repeat' first
      | (with_reducible exact ih0 _ _)
      | (with_reducible exact LeO.refl _)
      | (with_reducible exact LeO.none _)
      | (with_reducible refine LeO.ite ?_ ?_)
      | (with_reducible refine LeO.bind ?_ (fun _ => ?_))
      | exact ih0 _ _
      | exact LeO.none _
      | refine LeO.ite ?_ ?_
      | refine LeO.bind ?_ (fun _ => ?_)
set_option maxHeartbeats 8000000 in
set_option maxRecDepth 100000 in
theorem canon_free.calls (k : Nat) (a0 : Int) (a1 : Int) (r : Int) (w : World) (h : canon_free.f k a0 a1 = some r) :
    Calls Tryd.prog 41 #[.int .i64 a0, .int .i64 a1] w fun e w' => e = .returned (.int .i64 r) ∧ Drawn0 w w' := by
  have H : (canon_free.l0 k a0 a1) = some r := h
  clear h
  have H' := Aside0.mk H
  clear H
  go_enter Tryd.func41, Tryd.ntmps41
  go_wp2
  go_loopg [0] k (fun kq v0 w' => ∃ (x0_1 : Int), v0 = .int .i64 x0_1 ∧ Aside0 (canon_free.l0 kq x0_1 a1 = some r) ∧ Aside0 (kq ≤ k) ∧ Drawn0 w w')
  case atStart => exact ⟨(a0), (by first | rfl | (simp; done) | (simp [*]; done)), H', ⟨Nat.le_refl _⟩, by repeat (first | exact Drawn0.refl _ | apply Drawn0.step)⟩
  case round =>
    clear H'
    try clear p2
    obtain ⟨x0_1, rfl, HA, HK1, ⟨m1, rfl⟩⟩ := hrel
    cases gk with
    | zero => exact absurd HA.out (by simp [canon_free.l0])
    | succ k1 =>
      have H := HA.out
      clear HA
      simp only [canon_free.l0] at H
      by_cases c3 : a1 = 0
      · rw [if_pos c3] at H
        exact absurd H (by simp)
      · rw [if_neg c3] at H
        have c3b0 : (a1 == 0) = false := beq_eq_false_iff_ne.mpr c3
        have c3b1 : (a1 != 0) = true := bne_iff_ne.mpr c3
        by_cases c4 : (Int.tmod x0_1 a1) = 0
        · rw [if_pos c4] at H
          have c4b0 : ((Int.tmod x0_1 a1) == 0) = true := beq_iff_eq.mpr c4
          have c4b1 : ((Int.tmod x0_1 a1) != 0) = false := bne_eq_false_iff_eq.mpr c4
          clear c4
          have H' := Aside0.mk H
          clear H
          go_wp2
          go_roundg k1
          case measure => have := HK1.out; omega
          case rel => exact ⟨(wrap64 (Int.tdiv x0_1 a1)), (by first | rfl | (simp; done) | (simp [*]; done)), H', ⟨by have := HK1.out; omega⟩, by repeat (first | exact Drawn0.refl _ | apply Drawn0.step)⟩
        · rw [if_neg c4] at H
          have c4b0 : ((Int.tmod x0_1 a1) == 0) = false := beq_eq_false_iff_ne.mpr c4
          have c4b1 : ((Int.tmod x0_1 a1) != 0) = true := bne_iff_ne.mpr c4
          obtain rfl := Option.some.inj H
          go_wp2
          go_ret
          exact ⟨by first | rfl | (simp; done) | (simp [*]; done), by repeat (first | exact Drawn0.refl _ | apply Drawn0.step)⟩

end Go.Proofs.YtkidgakjeahebaaDoor.P
