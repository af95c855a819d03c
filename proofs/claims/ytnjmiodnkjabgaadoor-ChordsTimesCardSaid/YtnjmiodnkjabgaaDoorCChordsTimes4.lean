/- Proved here: the Go function sackbutlaw01.ChordsTimes returns true for every input (its printed form comes to true), whatever its arguments. Conditions: none beyond the row's own reach in memory. -/
import Derived.LaidMore
import Derived.Stop.Joined
import Derived.ProofKit
import Derived.OpenShut
import Derived.Test.YtnjmiodnkjabgaaDoorRows
import Derived.WalkKit
import Derived.ShutString
import Derived.ChangeOld
import Derived.Below
import Derived.SizedLaws
import Derived.SevenTiedAt
import Derived.Test.YtnjmiodnkjabgaaDoorCards
import Derived.Test.YtnjmiodnkjabgaaDoorTie
import Derived.Test.YtnjmiodnkjabgaaDoorCChordsTimes1
import Derived.Test.YtnjmiodnkjabgaaDoorCChordsTimes2
import Derived.Test.YtnjmiodnkjabgaaDoorCChordsTimes3
namespace Go.Proofs.YtnjmiodnkjabgaaDoor.P
open Go.RowKit Go.Proofs.YtnjmiodnkjabgaaDoorW.PrintWords Go.Proofs.YtnjmiodnkjabgaaDoorW.PrintLast Go.Proofs.YtnjmiodnkjabgaaDoorW.PrintMore
attribute [local go_sem] max2_int min2_int max_two min_two max_three min_three max_four min_four   -- for this text's walks alone
set_option linter.unusedVariables false
set_option linter.unusedSimpArgs false

/-! ### chords_Common: function 25 -/
def chords_Common.l0 : Nat → Int → Int → Int → List Int → Int → Int → Option (List Int × Int)
  | 0, _, _, _, _, _, _ => none
  | k + 1, x1, x2, x8, x9, x18, x19 => if x19 < x18 then ((chords_circle_move.f x8 x2 x19).bind fun t1005 => ((chords_count.f (Go.bits .and .i64 x1 t1005)).bind fun t1006 => (if x9.length < 17592186044416 then (chords_Common.l0 k x1 x2 x8 (x9 ++ [t1006]) x18 (wrap64 (x19 + 1))) else (none)))) else (some (x9, 0))
def chords_Common.f (k : Nat) (a0 : Int) (a1 : Int) (a2 : Int) : Option (List Int × Int) := (chords_circle_valid.f a0 (([a1, a2] : List Int))).bind fun t1004 => (if t1004 = true then (chords_Common.l0 k a1 a2 a0 ([] : List Int) a0 0) else (some (([] : List Int), 2)))
theorem chords_Common.mono_l : ∀ k, (∀ y0 y1 y2 y3 y4 y5, LeO (chords_Common.l0 k y0 y1 y2 y3 y4 y5) (chords_Common.l0 (k + 1) y0 y1 y2 y3 y4 y5))
  | 0 => fun _ _ _ _ _ _ r h => by simp [chords_Common.l0] at h
  | k + 1 => by
    have ih0 := chords_Common.mono_l k
    · intro y0 y1 y2 y3 y4 y5
      unfold chords_Common.l0
      repeat' first
      | (with_reducible exact ih0 _ _ _ _ _ _)
      | (with_reducible exact LeO.refl _)
      | (with_reducible exact LeO.none _)
      | (with_reducible refine LeO.ite ?_ ?_)
      | (with_reducible refine LeO.bind ?_ (fun _ => ?_))
      | exact ih0 _ _ _ _ _ _
      | exact LeO.none _
      | refine LeO.ite ?_ ?_
      | refine LeO.bind ?_ (fun _ => ?_)
theorem chords_Common.mono : ∀ a0 a1 a2 k, LeO (chords_Common.f k a0 a1 a2) (chords_Common.f (k + 1) a0 a1 a2) := by
  intro a0 a1 a2 k
  have ih0 := chords_Common.mono_l k
  unfold chords_Common.f
  repeat' first
      | (with_reducible exact ih0 _ _ _ _ _ _)
      | (with_reducible exact LeO.refl _)
      | (with_reducible exact LeO.none _)
      | (with_reducible refine LeO.ite ?_ ?_)
      | (with_reducible refine LeO.bind ?_ (fun _ => ?_))
      | exact ih0 _ _ _ _ _ _
      | exact LeO.none _
      | refine LeO.ite ?_ ?_
      | refine LeO.bind ?_ (fun _ => ?_)
set_option maxHeartbeats 8000000 in
set_option maxRecDepth 100000 in
theorem chords_Common.calls (k : Nat) (a0 : Int) (a1 : Int) (a2 : Int) (r1 : List Int) (r2 : Int) (w : World) (h : chords_Common.f k a0 a1 a2 = some (r1, r2)) :
    Calls Tryd.prog 25 #[.int .i64 a0, .int .i64 a1, .int .i64 a2] w fun e w' => ∃ v0_ : Value, e = .returned (.tuple #[v0_, .int .i64 r2]) ∧ Kd.R (Kd.int .i64) 3 w' w.heap.size (fun _ => True) v0_ r1 ∧ Below w.heap.size w w' := by
  have HB := Aside0.mk (Below.refl w.heap.size w)
  have H : ((chords_circle_valid.f a0 (([a1, a2] : List Int))).bind fun t1004 => (if t1004 = true then (chords_Common.l0 k a1 a2 a0 ([] : List Int) a0 0) else (some (([] : List Int), 2)))) = some (r1, r2) := h
  clear h
  obtain ⟨y1001, hy1001⟩ : ∃ y_ : List Int, y_ = (([a1, a2] : List Int)) := ⟨_, rfl⟩
  replace H : ((chords_circle_valid.f a0 y1001).bind fun t1004 => (if t1004 = true then (chords_Common.l0 k a1 a2 a0 ([] : List Int) a0 0) else (some (([] : List Int), 2)))) = some (r1, r2) := by first | (rw [hy1001]; with_reducible exact H) | (have H2_ := (Option.bind_some _ _).symm.trans H; rw [hy1001]; with_reducible exact H2_) | (have H2_ := (Option.bind_some _ _).symm.trans H; with_reducible exact H2_) | with_reducible exact H | (rw [hy1001]; exact H) | exact H
  have Ny1001 := Aside0.mk hy1001
  clear hy1001
  replace H := Option.bind_eq_some_iff.mp H
  obtain ⟨t1004, A40, H⟩ := H
  replace H : (if t1004 = true then (chords_Common.l0 k a1 a2 a0 ([] : List Int) a0 0) else (some (([] : List Int), 2))) = some (r1, r2) := H
  have A4 := Aside0.mk A40
  clear A40
  by_cases c5 : t1004 = true
  · subst c5
    have H1 : (chords_Common.l0 k a1 a2 a0 ([] : List Int) a0 0) = some (r1, r2) := by rw [if_pos rfl] at H; exact H
    clear H
    have H := H1
    clear H1
    have H' := Aside0.mk H
    clear H
    go_enter Tryd.func25, Tryd.ntmps25
    go_wp2_with (first | ((with_reducible refine gate_dst (N := 15) rfl ?_); refine Kd.R_lit (Kd.int .i64) _ 3 ?hg (N := 15) ?hd (xs := ([a1, a2] : List Int)) (inner := [.int .i64 a1, .int .i64 a2]) (ok := fun _ => True) (okp := fun _ => True) ?hr ?hp (fun _ hk => hk) trivial (Below.refl _ _) (Nat.le_refl _) (by simp) ?_; (case hd => rfl); (case hg => rfl); (case hr => first | (go_simp; done) | (go_simp; rfl)); (case hp => exact (Reps.one (show Kd.M (Kd.int .i64) _ _ _ a1 [.int .i64 a1] from rfl) (Reps.one (show Kd.M (Kd.int .i64) _ _ _ a2 [.int .i64 a2] from rfl) (Reps.none _ _)))); intro v1002 w6 ho7 hb hg_ hnew_; clear hg_ hnew_; (first | rw [← Ny1001.out] at ho7 | (simp only [Int.reduceToNat] at ho7; rw [← Ny1001.out] at ho7)); have n0_ := Aside0.mk (Kd.R_lower ho7 (below_size (by repeat (first | (with_reducible first | exact HB.out | apply below_alloc | apply pw_below_drewN | apply below_drew1) | exact HB.out)))); have n1_ := Aside0.mk (below_step (by repeat (first | (with_reducible first | exact HB.out | apply below_alloc | apply pw_below_drewN | apply below_drew1) | exact HB.out)) hb); clear HB; have HO1003 := n0_; have HB := n1_; clear n0_ n1_; clear hb ho7; obtain ⟨Ao8, co8, eo8⟩ := Kd.R_slice HO1003.out; subst eo8) | ((with_reducible refine gate_callee (f := 41) rfl ?_); refine goesL_ (some 16) rfl rfl Tryd.func41 (by kernel_rfl) rfl #[.int .i64 a0, .slice Ao8 y1001.length co8] rfl (by (try simp only [List.map_toArray, List.map_cons, List.map_nil]); first | done | rfl | (simp only [List.length_drop, List.length_take]; rfl)) ?_; (with_reducible refine (chords_circle_valid.calls a0 _ _ y1001 true _ ?side1 ?side2 A4.out).mono ?_); (case side1 => repeat (first | exact (Kd.R_reads' HO1003.out).2.2 | (with_reducible refine Kd.C_alloc ?_ _) | (with_reducible refine Kd.C_drewN ?_ _) | (with_reducible refine Kd.C_drew ?_))); (case side2 => exact (Kd.R_reads' HO1003.out).2.1); rintro e w9 ⟨rfl, hb⟩; refine ⟨_, rfl, ?_⟩; have n0_ := Aside0.mk (Kd.R_below (by (with_reducible repeat (first | apply Kd.R_alloc | apply Kd.R_drewN | apply Kd.R_drew)); exact HO1003.out) hb); have n1_ := Aside0.mk (below_step (by repeat (first | (with_reducible first | exact HB.out | apply below_alloc | apply pw_below_drewN | apply below_drew1) | exact HB.out)) hb); clear HO1003; clear HB; have HO1003 := n0_; have HB := n1_; clear n0_ n1_; (try clear hb); (try clear hb2); (try clear hk); (try clear hi)))
    go_loopg [9, 19] k (fun kq v9 v19 w' => ∃ (x9_1 : List Int) (x19_1 : Int), v19 = .int .i64 x19_1 ∧ Aside0 (chords_Common.l0 kq a1 a2 a0 x9_1 a0 x19_1 = some (r1, r2)) ∧ Aside0 (kq ≤ k) ∧ Aside0 (Kd.R (Kd.int .i64) 3 w' w.heap.size (fun _ => True) v9 x9_1) ∧ Aside0 (Below w.heap.size w w'))
    case atStart => exact ⟨(([] : List Int)), (0), (by first | rfl | (simp; done) | (simp [*]; done)), H', ⟨Nat.le_refl _⟩, ⟨by first | exact Kd.R_nil _ _ _ _ _ | exact Kd.N_nil _ _ _ _ _ | exact Kd.V_nil _ _ _ _ _ | exact Kd.Q_nil _ _ _ _ _ | exact Kd.S_nil _ _ _ _ _⟩, ⟨by repeat (first | (with_reducible first | exact HB.out | apply below_alloc | apply pw_below_drewN | apply below_drew1) | exact HB.out)⟩⟩
    case round =>
      clear H'
      try clear c2
      try clear p2
      try clear c4
      try clear c5
      obtain ⟨x9_1, x19_1, rfl, HA, HK1, HO_9, HB⟩ := hrel
      cases gk with
      | zero => exact absurd HA.out (by simp [chords_Common.l0])
      | succ k1 =>
        have H := HA.out
        clear HA
        simp only [chords_Common.l0] at H
        by_cases c10 : x19_1 < a0
        · rw [if_pos c10] at H
          have c10b0 : decide (x19_1 < a0) = true := decide_eq_true c10
          clear c10
          replace H := Option.bind_eq_some_iff.mp H
          obtain ⟨t1005, A110, H⟩ := H
          replace H : ((chords_count.f (Go.bits .and .i64 a1 t1005)).bind fun t1006 => (if x9_1.length < 17592186044416 then (chords_Common.l0 k1 a1 a2 a0 (x9_1 ++ [t1006]) a0 (wrap64 (x19_1 + 1))) else (none))) = some (r1, r2) := H
          have A11 := Aside0.mk A110
          clear A110
          replace H := Option.bind_eq_some_iff.mp H
          obtain ⟨t1006, A120, H⟩ := H
          replace H : (if x9_1.length < 17592186044416 then (chords_Common.l0 k1 a1 a2 a0 (x9_1 ++ [t1006]) a0 (wrap64 (x19_1 + 1))) else (none)) = some (r1, r2) := H
          have A12 := Aside0.mk A120
          clear A120
          by_cases c13 : x9_1.length < 17592186044416
          · rw [if_pos c13] at H
            have LMc13 := Aside0.mk c13
            clear c13
            obtain ⟨y1007, hy1007⟩ : ∃ y_ : List Int, y_ = (x9_1 ++ [t1006]) := ⟨_, rfl⟩
            replace H : (chords_Common.l0 k1 a1 a2 a0 y1007 a0 (wrap64 (x19_1 + 1))) = some (r1, r2) := by first | (rw [hy1007]; with_reducible exact H) | (have H2_ := (Option.bind_some _ _).symm.trans H; rw [hy1007]; with_reducible exact H2_) | (have H2_ := (Option.bind_some _ _).symm.trans H; with_reducible exact H2_) | with_reducible exact H | (rw [hy1007]; exact H) | exact H
            have Ny1007 := Aside0.mk hy1007
            clear hy1007
            have H' := Aside0.mk H
            clear H
            go_wp2_with (first | ((with_reducible refine gate_callee (f := 42) rfl ?_); refine goesL_ (some 27) rfl rfl Tryd.func42 (by kernel_rfl) rfl #[.int .i64 a0, .int .i64 a2, .int .i64 x19_1] rfl (by (try simp only [List.map_toArray, List.map_cons, List.map_nil]); first | done | rfl | (simp only [List.length_drop, List.length_take]; rfl)) ?_; (with_reducible refine (chords_circle_move.calls a0 a2 x19_1 t1005 _ A11.out).mono ?_); rintro e w' ⟨rfl, ⟨nd, rfl⟩⟩; refine ⟨_, rfl, ?_⟩) | ((with_reducible refine gate_callee (f := 50) rfl ?_); refine goesL_ (some 29) rfl rfl Tryd.func50 (by kernel_rfl) rfl #[.int .i64 (Go.bits .and .i64 a1 t1005)] rfl (by (try simp only [List.map_toArray, List.map_cons, List.map_nil]); first | done | rfl | (simp only [List.length_drop, List.length_take]; rfl)) ?_; (with_reducible refine (chords_count.calls (Go.bits .and .i64 a1 t1005) t1006 _ A12.out).mono ?_); rintro e w' ⟨rfl, ⟨nd, rfl⟩⟩; refine ⟨_, rfl, ?_⟩) | ((with_reducible refine gate_builtin (b := .append) (xs := #[.tmp 22, .tmp 30]) rfl ?_); at_builtin; refine Kd.R_append (Kd.int .i64) (w0 := w) w.heap.size rfl (.tmp 22) (.tmp 30) 35 3 (.int .i64 0) 8 rfl Tryd.underlying35 info3 rfl (by decide) (by omega) u9 x9_1 t1006 [.int .i64 t1006] (fun _ => True) (fun _ => False) rfl rfl ?aP (fun _ hk => hk.elim) ?aF ?aO ?aB ?aS ?aL ?_; (case aP => exact rfl); (case aB => exact (by repeat (first | (with_reducible first | exact HB.out | apply below_alloc | apply pw_below_drewN | apply below_drew1) | exact HB.out))); (case aF => exact (fun _ _ => trivial)); (case aO => exact (by (with_reducible repeat (first | apply Kd.R_alloc | apply Kd.R_drewN | apply Kd.R_drew)); exact HO_9.out)); (case aS => exact (below_size (by repeat (first | (with_reducible first | exact HB.out | apply below_alloc | apply pw_below_drewN | apply below_drew1) | exact HB.out)))); (case aL => have := LMc13.out; omega); intro v1008 w14 ho hb hg hat; rw [← Ny1007.out] at ho; have n0_ := Aside0.mk (hb); have n1_ := Aside0.mk (ho); clear HB; clear HO_9; have HB := n0_; have HO1009 := n1_; clear n0_ n1_; clear ho hb hg hat))
            go_roundg k1
            case measure => have := HK1.out; omega
            case rel => exact ⟨(y1007), (wrap64 (x19_1 + 1)), (by first | rfl | (simp; done) | (simp [*]; done)), H', ⟨by have := HK1.out; omega⟩, ⟨by (with_reducible repeat (first | apply Kd.R_alloc | apply Kd.R_drewN | apply Kd.R_drew)); exact HO1009.out⟩, ⟨by repeat (first | (with_reducible first | exact HB.out | apply below_alloc | apply pw_below_drewN | apply below_drew1) | exact HB.out)⟩⟩
          · rw [if_neg c13] at H
            exact absurd H (by simp)
        · rw [if_neg c10] at H
          have c10b0 : decide (x19_1 < a0) = false := decide_eq_false c10
          clear c10
          simp only [Option.some.injEq, Prod.mk.injEq] at H
          obtain ⟨rfl, rfl⟩ := H
          go_wp2
          go_ret2
          exact ⟨_, by first | rfl | (simp [errW_none, errW_some] <;> rfl) | (simp [*, errW_none, errW_some] <;> rfl), by (with_reducible repeat (first | apply Kd.R_alloc | apply Kd.R_drewN | apply Kd.R_drew)); exact HO_9.out, by repeat (first | (with_reducible first | exact HB.out | apply below_alloc | apply pw_below_drewN | apply below_drew1) | exact HB.out)⟩
  · replace c5 := Bool.eq_false_iff.mpr c5
    subst c5
    have H1 : (some (([] : List Int), 2)) = some (r1, r2) := by rw [if_neg (show ¬ (false = true) by decide)] at H; exact H
    clear H
    have H := H1
    clear H1
    simp only [Option.some.injEq, Prod.mk.injEq] at H
    obtain ⟨rfl, rfl⟩ := H
    go_enter Tryd.func25, Tryd.ntmps25
    go_wp2_with (first | ((with_reducible refine gate_dst (N := 15) rfl ?_); refine Kd.R_lit (Kd.int .i64) _ 3 ?hg (N := 15) ?hd (xs := ([a1, a2] : List Int)) (inner := [.int .i64 a1, .int .i64 a2]) (ok := fun _ => True) (okp := fun _ => True) ?hr ?hp (fun _ hk => hk) trivial (Below.refl _ _) (Nat.le_refl _) (by simp) ?_; (case hd => rfl); (case hg => rfl); (case hr => first | (go_simp; done) | (go_simp; rfl)); (case hp => exact (Reps.one (show Kd.M (Kd.int .i64) _ _ _ a1 [.int .i64 a1] from rfl) (Reps.one (show Kd.M (Kd.int .i64) _ _ _ a2 [.int .i64 a2] from rfl) (Reps.none _ _)))); intro v1002 w15 ho16 hb hg_ hnew_; clear hg_ hnew_; (first | rw [← Ny1001.out] at ho16 | (simp only [Int.reduceToNat] at ho16; rw [← Ny1001.out] at ho16)); have n0_ := Aside0.mk (Kd.R_lower ho16 (below_size (by repeat (first | (with_reducible first | exact HB.out | apply below_alloc | apply pw_below_drewN | apply below_drew1) | exact HB.out)))); have n1_ := Aside0.mk (below_step (by repeat (first | (with_reducible first | exact HB.out | apply below_alloc | apply pw_below_drewN | apply below_drew1) | exact HB.out)) hb); clear HB; have HO1003 := n0_; have HB := n1_; clear n0_ n1_; clear hb ho16; obtain ⟨Ao17, co17, eo17⟩ := Kd.R_slice HO1003.out; subst eo17) | ((with_reducible refine gate_callee (f := 41) rfl ?_); refine goesL_ (some 16) rfl rfl Tryd.func41 (by kernel_rfl) rfl #[.int .i64 a0, .slice Ao17 y1001.length co17] rfl (by (try simp only [List.map_toArray, List.map_cons, List.map_nil]); first | done | rfl | (simp only [List.length_drop, List.length_take]; rfl)) ?_; (with_reducible refine (chords_circle_valid.calls a0 _ _ y1001 false _ ?side1 ?side2 A4.out).mono ?_); (case side1 => repeat (first | exact (Kd.R_reads' HO1003.out).2.2 | (with_reducible refine Kd.C_alloc ?_ _) | (with_reducible refine Kd.C_drewN ?_ _) | (with_reducible refine Kd.C_drew ?_))); (case side2 => exact (Kd.R_reads' HO1003.out).2.1); rintro e w18 ⟨rfl, hb⟩; refine ⟨_, rfl, ?_⟩; have n0_ := Aside0.mk (Kd.R_below (by (with_reducible repeat (first | apply Kd.R_alloc | apply Kd.R_drewN | apply Kd.R_drew)); exact HO1003.out) hb); have n1_ := Aside0.mk (below_step (by repeat (first | (with_reducible first | exact HB.out | apply below_alloc | apply pw_below_drewN | apply below_drew1) | exact HB.out)) hb); clear HO1003; clear HB; have HO1003 := n0_; have HB := n1_; clear n0_ n1_; (try clear hb); (try clear hb2); (try clear hk); (try clear hi)))
    go_ret2
    exact ⟨_, by first | rfl | (simp [errW_none, errW_some] <;> rfl) | (simp [*, errW_none, errW_some] <;> rfl), by first | exact Kd.R_nil _ _ _ _ _ | exact Kd.N_nil _ _ _ _ _ | exact Kd.V_nil _ _ _ _ _ | exact Kd.Q_nil _ _ _ _ _ | exact Kd.S_nil _ _ _ _ _, by repeat (first | (with_reducible first | exact HB.out | apply below_alloc | apply pw_below_drewN | apply below_drew1) | exact HB.out)⟩

end Go.Proofs.YtnjmiodnkjabgaaDoor.P
namespace Go.Proofs.YtnjmiodnkjabgaaDoor.P
open Go.RowKit Go.Proofs.YtnjmiodnkjabgaaDoorW.PrintWords Go.Proofs.YtnjmiodnkjabgaaDoorW.PrintLast Go.Proofs.YtnjmiodnkjabgaaDoorW.PrintMore
attribute [local go_sem] max2_int min2_int max_two min_two max_three min_three max_four min_four   -- for this text's walks alone
set_option linter.unusedVariables false
set_option linter.unusedSimpArgs false

/-! chords.Common -/
noncomputable def comOf (n a b : Nat) : List Int := Seal ((List.range n).map (fun k => (common n a b k : Int)))
theorem comOf_eq (n a b : Nat) : comOf n a b = (List.range n).map (fun k => (common n a b k : Int)) := Seal_eq _
theorem comOf_length (n a b : Nat) : (comOf n a b).length = n := by simp [comOf_eq]
theorem comOf_rd {n a b : Nat} {k : Nat} (hk : k < n) : rd (comOf n a b) (k : Int) = (common n a b k : Int) := by
  rw [rd_nat, List.getD_eq_getElem?_getD, comOf_eq]
  simp [hk]
theorem vecOf_rd {n c : Nat} {i : Nat} (hi : i < n / 2) : rd (vecOf n c) (i : Int) = (vecAt n c (i + 1) : Int) := by
  rw [rd_nat, List.getD_eq_getElem?_getD, vecOf_get hi]
  rfl
theorem Common_loop {n a b : Nat} (hn : 2 ≤ n) (hn2 : n ≤ 16) (ha : a < 2 ^ n) (hb : b < 2 ^ n) : ∀ (m d : Nat), d + m = n →
    Ev (fun k => chords_Common.l0 k (a : Int) (b : Int) (n : Int) ((List.range d).map (fun k => (common n a b k : Int))) (n : Int) (d : Int)) (comOf n a b, 0) := by
  intro m
  induction m with
  | zero =>
    intro d hd
    refine Ev.succ ?_
    simp only [chords_Common.l0, if_neg (show ¬ (d : Int) < (n : Int) by omega)]
    have : d = n := by omega
    rw [this, comOf_eq]
    exact Ev.some _
  | succ m ih =>
    intro d hd
    have p1 : (d : Int) < (n : Int) := by omega
    have p2 : ((List.range d).map (fun k => (common n a b k : Int))).length < 17592186044416 := by rw [List.length_map, List.length_range]; omega
    have hcm := common_f (n := n) (a := a) (b := b) (d := d) (by omega) (by omega) ha hb (by omega)
    obtain ⟨t, ht, ht2⟩ := Option.bind_eq_some_iff.1 hcm
    have hw : wrap64 ((d : Int) + 1) = ((d + 1 : Nat) : Int) := by rw [wrap_id (by omega) (by omega)]; omega
    have go := ih (d + 1) (by omega)
    simp only [List.range_succ, List.map_append, List.map_cons, List.map_nil] at go
    refine Ev.succ ?_
    simp only [chords_Common.l0, if_pos p1]
    refine Ev.bind_some ht ?_
    refine Ev.bind_some ht2 ?_
    simp only [if_pos p2, hw]
    exact go
theorem Common_ev (n a b : Int) : Ev (fun k => chords_Common.f k n a b) (if ValidC n a ∧ ValidC n b then (comOf n.toNat a.toNat b.toNat, 0) else ([], 2)) := by
  unfold chords_Common.f
  refine Ev.bind_some (valid2_f n a b) ?_
  by_cases h : ValidC n a ∧ ValidC n b
  · simp only [h, decide_true, if_true]
    obtain ⟨N, A, rfl, rfl, h2, h16, hA⟩ := validC_nat h.1
    obtain ⟨N', B, e, rfl, _, _, hB⟩ := validC_nat h.2
    obtain rfl : N = N' := by omega
    simp only [Int.toNat_natCast, and_self, if_true]
    exact Common_loop h2 h16 hA hB N 0 (by omega)
  · simp only [h, decide_false, Bool.false_eq_true, if_false]
    exact Ev.some _

end Go.Proofs.YtnjmiodnkjabgaaDoor.P
namespace Go.Proofs.YtnjmiodnkjabgaaDoor.P
open Go.RowKit Go.Proofs.YtnjmiodnkjabgaaDoorW.PrintWords Go.Proofs.YtnjmiodnkjabgaaDoorW.PrintLast Go.Proofs.YtnjmiodnkjabgaaDoorW.PrintMore
attribute [local go_sem] max2_int min2_int max_two min_two max_three min_three max_four min_four   -- for this text's walks alone
set_option linter.unusedVariables false
set_option linter.unusedSimpArgs false

/-! ### sackbutref01_Coprime: function 21 -/
def sackbutref01_Coprime.l0 : Nat → Int → Int → Option (Bool)
  | 0, _, _ => none
  | k + 1, x0, x1 => if x1 = 0 then (some (x0 == 1)) else (sackbutref01_Coprime.l0 k x1 (Int.tmod x0 x1))
def sackbutref01_Coprime.f (k : Nat) (a0 : Int) (a1 : Int) : Option (Bool) := sackbutref01_Coprime.l0 k a0 a1
theorem sackbutref01_Coprime.mono_l : ∀ k, (∀ y0 y1, LeO (sackbutref01_Coprime.l0 k y0 y1) (sackbutref01_Coprime.l0 (k + 1) y0 y1))
  | 0 => fun _ _ r h => by simp [sackbutref01_Coprime.l0] at h
  | k + 1 => by
    have ih0 := sackbutref01_Coprime.mono_l k
    · intro y0 y1
      unfold sackbutref01_Coprime.l0
      repeat' first
      | (with_reducible exact ih0 _ _)
      | (with_reducible exact LeO.refl _)
      | (with_reducible exact LeO.none _)
      | (with_reducible refine LeO.ite ?_ ?_)
      | (with_reducible refine LeO.bind ?_ (fun _ => ?_))
      | exact ih0 _ _
      | exact LeO.none _
      | refine LeO.ite ?_ ?_
      | refine LeO.bind ?_ (fun _ => ?_)
theorem sackbutref01_Coprime.mono : ∀ a0 a1 k, LeO (sackbutref01_Coprime.f k a0 a1) (sackbutref01_Coprime.f (k + 1) a0 a1) := by
  intro a0 a1 k
  have ih0 := sackbutref01_Coprime.mono_l k
  unfold sackbutref01_Coprime.f
  repeat' first
      | (with_reducible exact ih0 _ _)
      | (with_reducible exact LeO.refl _)
      | (with_reducible exact LeO.none _)
      | (with_reducible refine LeO.ite ?_ ?_)
      | (with_reducible refine LeO.bind ?_ (fun _ => ?_))
      | exact ih0 _ _
      | exact LeO.none _
      | refine LeO.ite ?_ ?_
      | refine LeO.bind ?_ (fun _ => ?_)
set_option maxHeartbeats 8000000 in
set_option maxRecDepth 100000 in
theorem sackbutref01_Coprime.calls (k : Nat) (a0 : Int) (a1 : Int) (r : Bool) (w : World) (h : sackbutref01_Coprime.f k a0 a1 = some r) :
    Calls Tryd.prog 21 #[.int .i64 a0, .int .i64 a1] w fun e w' => e = .returned (.bool r) ∧ Drawn0 w w' := by
  have H : (sackbutref01_Coprime.l0 k a0 a1) = some r := h
  clear h
  have H' := Aside0.mk H
  clear H
  go_enter Tryd.func21, Tryd.ntmps21
  go_wp2
  repeat (go_quiet (fail); try go_wp2)
  go_loopg [0, 1] k (fun kq v0 v1 w' => ∃ (x0_1 : Int) (x1_1 : Int), v0 = .int .i64 x0_1 ∧ v1 = .int .i64 x1_1 ∧ Aside0 (sackbutref01_Coprime.l0 kq x0_1 x1_1 = some r) ∧ Aside0 (kq ≤ k) ∧ Drawn0 w w')
  case atStart => exact ⟨(a0), (a1), (by first | rfl | (simp; done) | (simp [*]; done)), (by first | rfl | (simp; done) | (simp [*]; done)), H', ⟨Nat.le_refl _⟩, by repeat (first | exact Drawn0.refl _ | apply Drawn0.step)⟩
  case round =>
    clear H'
    try clear c2
    try clear p2
    obtain ⟨x0_1, x1_1, rfl, rfl, HA, HK1, ⟨m1, rfl⟩⟩ := hrel
    cases gk with
    | zero => exact absurd HA.out (by simp [sackbutref01_Coprime.l0])
    | succ k1 =>
      have H := HA.out
      clear HA
      simp only [sackbutref01_Coprime.l0] at H
      by_cases c3 : x1_1 = 0
      · rw [if_pos c3] at H
        have c3b0 : (x1_1 == 0) = true := beq_iff_eq.mpr c3
        have c3b1 : (x1_1 != 0) = false := bne_eq_false_iff_eq.mpr c3
        clear c3
        obtain rfl := Option.some.inj H
        go_wp2
        repeat (go_quiet (fail); try go_wp2)
        go_ret
        exact ⟨by first | rfl | (simp; done) | (simp [*]; done), by repeat (first | exact Drawn0.refl _ | apply Drawn0.step)⟩
      · rw [if_neg c3] at H
        have c3b0 : (x1_1 == 0) = false := beq_eq_false_iff_ne.mpr c3
        have c3b1 : (x1_1 != 0) = true := bne_iff_ne.mpr c3
        have H' := Aside0.mk H
        clear H
        go_wp2
        repeat (go_quiet (fail); try go_wp2)
        go_roundg k1
        case measure => have := HK1.out; omega
        case rel => exact ⟨(x1_1), (Int.tmod x0_1 x1_1), (by first | rfl | (simp; done) | (simp [*]; done)), (by first | rfl | (simp; done) | (simp [*]; done)), H', ⟨by have := HK1.out; omega⟩, by repeat (first | exact Drawn0.refl _ | apply Drawn0.step)⟩

end Go.Proofs.YtnjmiodnkjabgaaDoor.P
namespace Go.Proofs.YtnjmiodnkjabgaaDoor.P
open Go.RowKit Go.Proofs.YtnjmiodnkjabgaaDoorW.PrintWords Go.Proofs.YtnjmiodnkjabgaaDoorW.PrintLast Go.Proofs.YtnjmiodnkjabgaaDoorW.PrintMore
attribute [local go_sem] max2_int min2_int max_two min_two max_three min_three max_four min_four   -- for this text's walks alone
set_option linter.unusedVariables false
set_option linter.unusedSimpArgs false

/-! ### sackbutref01_mod: function 48 -/
def sackbutref01_mod.f (a0 : Int) (a1 : Int) : Option (Int) := if a1 = 0 then (none) else (some (Int.tmod (wrap64 ((Int.tmod a0 a1) + a1)) a1))
set_option maxHeartbeats 8000000 in
set_option maxRecDepth 100000 in
theorem sackbutref01_mod.calls (a0 : Int) (a1 : Int) (r : Int) (w : World) (h : sackbutref01_mod.f a0 a1 = some r) :
    Calls Tryd.prog 48 #[.int .i64 a0, .int .i64 a1] w fun e w' => e = .returned (.int .i64 r) ∧ Drawn0 w w' := by
  have H : (if a1 = 0 then (none) else (some (Int.tmod (wrap64 ((Int.tmod a0 a1) + a1)) a1))) = some r := h
  clear h
  by_cases c3 : a1 = 0
  · rw [if_pos c3] at H
    exact absurd H (by simp)
  · rw [if_neg c3] at H
    have c3b0 : (a1 == 0) = false := beq_eq_false_iff_ne.mpr c3
    have c3b1 : (a1 != 0) = true := bne_iff_ne.mpr c3
    obtain rfl := Option.some.inj H
    go_enter Tryd.func48, Tryd.ntmps48
    go_wp2
    go_ret
    exact ⟨by first | rfl | (simp; done) | (simp [*]; done), by repeat (first | exact Drawn0.refl _ | apply Drawn0.step)⟩

end Go.Proofs.YtnjmiodnkjabgaaDoor.P
namespace Go.Proofs.YtnjmiodnkjabgaaDoor.P
open Go.RowKit Go.Proofs.YtnjmiodnkjabgaaDoorW.PrintWords Go.Proofs.YtnjmiodnkjabgaaDoorW.PrintLast Go.Proofs.YtnjmiodnkjabgaaDoorW.PrintMore
attribute [local go_sem] max2_int min2_int max_two min_two max_three min_three max_four min_four   -- for this text's walks alone
set_option linter.unusedVariables false
set_option linter.unusedSimpArgs false

/-! ### sackbutref01_mapped: function 47 -/
def sackbutref01_mapped.l0 : Nat → Int → Int → Int → Int → Int → Int → Int → Option (Int)
  | 0, _, _, _, _, _, _, _ => none
  | k + 1, x0, x1, x2, x3, x9, x11, x12 => if x12 < x11 then (if 0 ≤ x12 then (if (Go.bits .and .i64 (shr .i64 x1 x12) 1) = 1 then ((sackbutref01_mod.f (wrap64 ((wrap64 (x2 * x12)) + x3)) x0).bind fun t1001 => (if 0 ≤ t1001 then (sackbutref01_mapped.l0 k x0 x1 x2 x3 (Go.bits .or .i64 x9 (shl .i64 1 t1001)) x11 (wrap64 (x12 + 1))) else (none))) else (sackbutref01_mapped.l0 k x0 x1 x2 x3 x9 x11 (wrap64 (x12 + 1)))) else (none)) else (some x9)
def sackbutref01_mapped.f (k : Nat) (a0 : Int) (a1 : Int) (a2 : Int) (a3 : Int) : Option (Int) := sackbutref01_mapped.l0 k a0 a1 a2 a3 0 a0 0
theorem sackbutref01_mapped.mono_l : ∀ k, (∀ y0 y1 y2 y3 y4 y5 y6, LeO (sackbutref01_mapped.l0 k y0 y1 y2 y3 y4 y5 y6) (sackbutref01_mapped.l0 (k + 1) y0 y1 y2 y3 y4 y5 y6))
  | 0 => fun _ _ _ _ _ _ _ r h => by simp [sackbutref01_mapped.l0] at h
  | k + 1 => by
    have ih0 := sackbutref01_mapped.mono_l k
    · intro y0 y1 y2 y3 y4 y5 y6
      unfold sackbutref01_mapped.l0
      repeat' first
      | (with_reducible exact ih0 _ _ _ _ _ _ _)
      | (with_reducible exact LeO.refl _)
      | (with_reducible exact LeO.none _)
      | (with_reducible refine LeO.ite ?_ ?_)
      | (with_reducible refine LeO.bind ?_ (fun _ => ?_))
      | exact ih0 _ _ _ _ _ _ _
      | exact LeO.none _
      | refine LeO.ite ?_ ?_
      | refine LeO.bind ?_ (fun _ => ?_)
theorem sackbutref01_mapped.mono : ∀ a0 a1 a2 a3 k, LeO (sackbutref01_mapped.f k a0 a1 a2 a3) (sackbutref01_mapped.f (k + 1) a0 a1 a2 a3) := by
  intro a0 a1 a2 a3 k
  have ih0 := sackbutref01_mapped.mono_l k
  unfold sackbutref01_mapped.f
  repeat' first
      | (with_reducible exact ih0 _ _ _ _ _ _ _)
      | (with_reducible exact LeO.refl _)
      | (with_reducible exact LeO.none _)
      | (with_reducible refine LeO.ite ?_ ?_)
      | (with_reducible refine LeO.bind ?_ (fun _ => ?_))
      | exact ih0 _ _ _ _ _ _ _
      | exact LeO.none _
      | refine LeO.ite ?_ ?_
      | refine LeO.bind ?_ (fun _ => ?_)
set_option maxHeartbeats 8000000 in
set_option maxRecDepth 100000 in
theorem sackbutref01_mapped.calls (k : Nat) (a0 : Int) (a1 : Int) (a2 : Int) (a3 : Int) (r : Int) (w : World) (h : sackbutref01_mapped.f k a0 a1 a2 a3 = some r) :
    Calls Tryd.prog 47 #[.int .i64 a0, .int .i64 a1, .int .i64 a2, .int .i64 a3] w fun e w' => e = .returned (.int .i64 r) ∧ Drawn0 w w' := by
  have H : (sackbutref01_mapped.l0 k a0 a1 a2 a3 0 a0 0) = some r := h
  clear h
  have H' := Aside0.mk H
  clear H
  go_enter Tryd.func47, Tryd.ntmps47
  go_wp2
  go_loopg [9, 12] k (fun kq v9 v12 w' => ∃ (x9_1 : Int) (x12_1 : Int), v9 = .int .i64 x9_1 ∧ v12 = .int .i64 x12_1 ∧ Aside0 (sackbutref01_mapped.l0 kq a0 a1 a2 a3 x9_1 a0 x12_1 = some r) ∧ Aside0 (kq ≤ k) ∧ Drawn0 w w')
  case atStart => exact ⟨(0), (0), (by first | rfl | (simp; done) | (simp [*]; done)), (by first | rfl | (simp; done) | (simp [*]; done)), H', ⟨Nat.le_refl _⟩, by repeat (first | exact Drawn0.refl _ | apply Drawn0.step)⟩
  case round =>
    clear H'
    try clear p2
    try clear c4
    obtain ⟨x9_1, x12_1, rfl, rfl, HA, HK1, ⟨m1, rfl⟩⟩ := hrel
    cases gk with
    | zero => exact absurd HA.out (by simp [sackbutref01_mapped.l0])
    | succ k1 =>
      have H := HA.out
      clear HA
      simp only [sackbutref01_mapped.l0] at H
      by_cases c5 : x12_1 < a0
      · rw [if_pos c5] at H
        have c5b0 : decide (x12_1 < a0) = true := decide_eq_true c5
        clear c5
        by_cases c6 : 0 ≤ x12_1
        · rw [if_pos c6] at H
          have c6b0 := eq_true c6
          have c6b1 : decide (0 ≤ x12_1) = true := decide_eq_true c6
          clear c6
          obtain ⟨ji7, hji7⟩ : ∃ j_ : Int, (shr .i64 a1 x12_1) = j_ := ⟨_, rfl⟩
          replace H : (if (Go.bits .and .i64 (ji7) 1) = 1 then ((sackbutref01_mod.f (wrap64 ((wrap64 (a2 * x12_1)) + a3)) a0).bind fun t1001 => (if 0 ≤ t1001 then (sackbutref01_mapped.l0 k1 a0 a1 a2 a3 (Go.bits .or .i64 x9_1 (shl .i64 1 t1001)) a0 (wrap64 (x12_1 + 1))) else (none))) else (sackbutref01_mapped.l0 k1 a0 a1 a2 a3 x9_1 a0 (wrap64 (x12_1 + 1)))) = some r := by first | (rw [hji7] at H; exact H) | (simp only [hji7] at H ⊢; exact H)
          have hji7_ : (a1 / 2 ^ min x12_1.toNat 64) = ji7 := hji7
          have hji7z : x12_1 ≤ 64 → (a1 / 2 ^ x12_1.toNat) = ji7 := shr_small hji7
          by_cases c8 : (Go.bits .and .i64 (ji7) 1) = 1
          · rw [if_pos c8] at H
            have c8b0 : ((Go.bits .and .i64 (ji7) 1) == 1) = true := beq_iff_eq.mpr c8
            have c8b1 : ((Go.bits .and .i64 (ji7) 1) != 1) = false := bne_eq_false_iff_eq.mpr c8
            clear c8
            replace H := Option.bind_eq_some_iff.mp H
            obtain ⟨t1001, A90, H⟩ := H
            replace H : (if 0 ≤ t1001 then (sackbutref01_mapped.l0 k1 a0 a1 a2 a3 (Go.bits .or .i64 x9_1 (shl .i64 1 t1001)) a0 (wrap64 (x12_1 + 1))) else (none)) = some r := H
            have A9 := Aside0.mk A90
            clear A90
            by_cases c10 : 0 ≤ t1001
            · rw [if_pos c10] at H
              have c10b0 := eq_true c10
              have c10b1 : decide (0 ≤ t1001) = true := decide_eq_true c10
              clear c10
              obtain ⟨ji11, hji11⟩ : ∃ j_ : Int, (shl .i64 1 t1001) = j_ := ⟨_, rfl⟩
              replace H : (sackbutref01_mapped.l0 k1 a0 a1 a2 a3 (Go.bits .or .i64 x9_1 (ji11)) a0 (wrap64 (x12_1 + 1))) = some r := by first | (rw [hji11] at H; exact H) | (simp only [hji11] at H ⊢; exact H)
              (try rw [hji11] at A9)
              have hji11_ : (IntKind.i64.wrap (1 * 2 ^ min t1001.toNat 64)) = ji11 := hji11
              have hji11z : t1001 ≤ 64 → (IntKind.i64.wrap (1 * 2 ^ t1001.toNat)) = ji11 := shl_small hji11
              have hji11u : (IntKind.i64.wrap (2 ^ min t1001.toNat 64)) = ji11 := by have h_ := hji11_; rw [Int.one_mul] at h_; exact h_
              have hji11v : t1001 ≤ 64 → (IntKind.i64.wrap (2 ^ t1001.toNat)) = ji11 := fun hle_ => by have h_ := hji11z hle_; rw [Int.one_mul] at h_; exact h_
              have hji11y : (wrap64 (1 * 2 ^ min t1001.toNat 64)) = ji11 := (i64_w _).symm.trans hji11_
              have hji11x : t1001 ≤ 64 → (wrap64 (1 * 2 ^ t1001.toNat)) = ji11 := fun h_ => (i64_w _).symm.trans (hji11z h_)
              have H' := Aside0.mk H
              clear H
              go_wp2_with (first | ((with_reducible refine gate_callee (f := 48) rfl ?_); refine goesL_ (some 27) rfl rfl Tryd.func48 (by kernel_rfl) rfl #[.int .i64 (wrap64 ((wrap64 (a2 * x12_1)) + a3)), .int .i64 a0] rfl (by (try simp only [List.map_toArray, List.map_cons, List.map_nil]); first | done | rfl | (simp only [List.length_drop, List.length_take]; rfl)) ?_; (with_reducible refine (sackbutref01_mod.calls (wrap64 ((wrap64 (a2 * x12_1)) + a3)) a0 t1001 _ A9.out).mono ?_); rintro e w' ⟨rfl, ⟨nd, rfl⟩⟩; refine ⟨_, rfl, ?_⟩))
              go_roundg k1
              case measure => have := HK1.out; omega
              case rel => exact ⟨(Go.bits .or .i64 x9_1 (ji11)), (wrap64 (x12_1 + 1)), (by first | rfl | (simp; done) | (simp only [← hji11] <;> (first | rfl | simp)) | (simp [*]; done)), (by first | rfl | (simp; done) | (simp [*]; done)), H', ⟨by have := HK1.out; omega⟩, by repeat (first | exact Drawn0.refl _ | apply Drawn0.step)⟩
            · rw [if_neg c10] at H
              exact absurd H (by simp)
          · rw [if_neg c8] at H
            have c8b0 : ((Go.bits .and .i64 (ji7) 1) == 1) = false := beq_eq_false_iff_ne.mpr c8
            have c8b1 : ((Go.bits .and .i64 (ji7) 1) != 1) = true := bne_iff_ne.mpr c8
            have H' := Aside0.mk H
            clear H
            go_wp2
            go_roundg k1
            case measure => have := HK1.out; omega
            case rel => exact ⟨(x9_1), (wrap64 (x12_1 + 1)), (by first | rfl | (simp; done) | (simp [*]; done)), (by first | rfl | (simp; done) | (simp [*]; done)), H', ⟨by have := HK1.out; omega⟩, by repeat (first | exact Drawn0.refl _ | apply Drawn0.step)⟩
        · rw [if_neg c6] at H
          exact absurd H (by simp)
      · rw [if_neg c5] at H
        have c5b0 : decide (x12_1 < a0) = false := decide_eq_false c5
        clear c5
        obtain rfl := Option.some.inj H
        go_wp2
        go_ret
        exact ⟨by first | rfl | (simp; done) | (simp [*]; done), by repeat (first | exact Drawn0.refl _ | apply Drawn0.step)⟩

end Go.Proofs.YtnjmiodnkjabgaaDoor.P
namespace Go.Proofs.YtnjmiodnkjabgaaDoor.P
open Go.RowKit Go.Proofs.YtnjmiodnkjabgaaDoorW.PrintWords Go.Proofs.YtnjmiodnkjabgaaDoorW.PrintLast Go.Proofs.YtnjmiodnkjabgaaDoorW.PrintMore
attribute [local go_sem] max2_int min2_int max_two min_two max_three min_three max_four min_four   -- for this text's walks alone
set_option linter.unusedVariables false
set_option linter.unusedSimpArgs false

/-! ### sackbutref01_Times: function 22 -/
def sackbutref01_Times.f (k : Nat) (a0 : Int) (a1 : Int) (a2 : Int) : Option (Int) := (sackbutref01_mapped.f k a0 a1 a2 0).bind fun t1001 => (some t1001)
theorem sackbutref01_Times.mono : ∀ a0 a1 a2 k, LeO (sackbutref01_Times.f k a0 a1 a2) (sackbutref01_Times.f (k + 1) a0 a1 a2) := by
  intro a0 a1 a2 k
  unfold sackbutref01_Times.f
  repeat' first
      | (with_reducible exact sackbutref01_mapped.mono _ _ _ _ _)
      | (with_reducible exact LeO.refl _)
      | (with_reducible exact LeO.none _)
      | (with_reducible refine LeO.ite ?_ ?_)
      | (with_reducible refine LeO.bind ?_ (fun _ => ?_))
      | exact sackbutref01_mapped.mono _ _ _ _ _
      | exact LeO.none _
      | refine LeO.ite ?_ ?_
      | refine LeO.bind ?_ (fun _ => ?_)
set_option maxHeartbeats 8000000 in
set_option maxRecDepth 100000 in
theorem sackbutref01_Times.calls (k : Nat) (a0 : Int) (a1 : Int) (a2 : Int) (r : Int) (w : World) (h : sackbutref01_Times.f k a0 a1 a2 = some r) :
    Calls Tryd.prog 22 #[.int .i64 a0, .int .i64 a1, .int .i64 a2] w fun e w' => e = .returned (.int .i64 r) ∧ Drawn0 w w' := by
  have H : ((sackbutref01_mapped.f k a0 a1 a2 0).bind fun t1001 => (some t1001)) = some r := h
  clear h
  replace H := Option.bind_eq_some_iff.mp H
  obtain ⟨t1001, A40, H⟩ := H
  replace H : (some t1001) = some r := H
  have A4 := Aside0.mk A40
  clear A40
  obtain rfl := Option.some.inj H
  go_enter Tryd.func22, Tryd.ntmps22
  go_wp2_with (first | ((with_reducible refine gate_callee (f := 47) rfl ?_); refine goesL_ (some 10) rfl rfl Tryd.func47 (by kernel_rfl) rfl #[.int .i64 a0, .int .i64 a1, .int .i64 a2, .int .i64 0] rfl (by (try simp only [List.map_toArray, List.map_cons, List.map_nil]); first | done | rfl | (simp only [List.length_drop, List.length_take]; rfl)) ?_; (with_reducible refine (sackbutref01_mapped.calls k a0 a1 a2 0 t1001 _ A4.out).mono ?_); rintro e w' ⟨rfl, ⟨nd, rfl⟩⟩; refine ⟨_, rfl, ?_⟩))
  go_ret
  exact ⟨by first | rfl | (simp; done) | (simp [*]; done), by repeat (first | exact Drawn0.refl _ | apply Drawn0.step)⟩

end Go.Proofs.YtnjmiodnkjabgaaDoor.P
namespace Go.Proofs.YtnjmiodnkjabgaaDoor.P
open Go.RowKit Go.Proofs.YtnjmiodnkjabgaaDoorW.PrintWords Go.Proofs.YtnjmiodnkjabgaaDoorW.PrintLast Go.Proofs.YtnjmiodnkjabgaaDoorW.PrintMore
attribute [local go_sem] max2_int min2_int max_two min_two max_three min_three max_four min_four   -- for this text's walks alone
set_option linter.unusedVariables false
set_option linter.unusedSimpArgs false

/-! ### sackbutref01_Move: function 19 -/
def sackbutref01_Move.f (k : Nat) (a0 : Int) (a1 : Int) (a2 : Int) : Option (Int) := (sackbutref01_mod.f a2 a0).bind fun t1001 => ((sackbutref01_mapped.f k a0 a1 1 t1001).bind fun t1002 => (some t1002))
theorem sackbutref01_Move.mono : ∀ a0 a1 a2 k, LeO (sackbutref01_Move.f k a0 a1 a2) (sackbutref01_Move.f (k + 1) a0 a1 a2) := by
  intro a0 a1 a2 k
  unfold sackbutref01_Move.f
  repeat' first
      | (with_reducible exact sackbutref01_mapped.mono _ _ _ _ _)
      | (with_reducible exact LeO.refl _)
      | (with_reducible exact LeO.none _)
      | (with_reducible refine LeO.ite ?_ ?_)
      | (with_reducible refine LeO.bind ?_ (fun _ => ?_))
      | exact sackbutref01_mapped.mono _ _ _ _ _
      | exact LeO.none _
      | refine LeO.ite ?_ ?_
      | refine LeO.bind ?_ (fun _ => ?_)
set_option maxHeartbeats 8000000 in
set_option maxRecDepth 100000 in
theorem sackbutref01_Move.calls (k : Nat) (a0 : Int) (a1 : Int) (a2 : Int) (r : Int) (w : World) (h : sackbutref01_Move.f k a0 a1 a2 = some r) :
    Calls Tryd.prog 19 #[.int .i64 a0, .int .i64 a1, .int .i64 a2] w fun e w' => e = .returned (.int .i64 r) ∧ Drawn0 w w' := by
  have H : ((sackbutref01_mod.f a2 a0).bind fun t1001 => ((sackbutref01_mapped.f k a0 a1 1 t1001).bind fun t1002 => (some t1002))) = some r := h
  clear h
  replace H := Option.bind_eq_some_iff.mp H
  obtain ⟨t1001, A40, H⟩ := H
  replace H : ((sackbutref01_mapped.f k a0 a1 1 t1001).bind fun t1002 => (some t1002)) = some r := H
  have A4 := Aside0.mk A40
  clear A40
  replace H := Option.bind_eq_some_iff.mp H
  obtain ⟨t1002, A50, H⟩ := H
  replace H : (some t1002) = some r := H
  have A5 := Aside0.mk A50
  clear A50
  obtain rfl := Option.some.inj H
  go_enter Tryd.func19, Tryd.ntmps19
  go_wp2_with (first | ((with_reducible refine gate_callee (f := 48) rfl ?_); refine goesL_ (some 11) rfl rfl Tryd.func48 (by kernel_rfl) rfl #[.int .i64 a2, .int .i64 a0] rfl (by (try simp only [List.map_toArray, List.map_cons, List.map_nil]); first | done | rfl | (simp only [List.length_drop, List.length_take]; rfl)) ?_; (with_reducible refine (sackbutref01_mod.calls a2 a0 t1001 _ A4.out).mono ?_); rintro e w' ⟨rfl, ⟨nd, rfl⟩⟩; refine ⟨_, rfl, ?_⟩) | ((with_reducible refine gate_callee (f := 47) rfl ?_); refine goesL_ (some 12) rfl rfl Tryd.func47 (by kernel_rfl) rfl #[.int .i64 a0, .int .i64 a1, .int .i64 1, .int .i64 t1001] rfl (by (try simp only [List.map_toArray, List.map_cons, List.map_nil]); first | done | rfl | (simp only [List.length_drop, List.length_take]; rfl)) ?_; (with_reducible refine (sackbutref01_mapped.calls k a0 a1 1 t1001 t1002 _ A5.out).mono ?_); rintro e w' ⟨rfl, ⟨nd, rfl⟩⟩; refine ⟨_, rfl, ?_⟩))
  go_ret
  exact ⟨by first | rfl | (simp; done) | (simp [*]; done), by repeat (first | exact Drawn0.refl _ | apply Drawn0.step)⟩

end Go.Proofs.YtnjmiodnkjabgaaDoor.P
namespace Go.Proofs.YtnjmiodnkjabgaaDoor.P
open Go.RowKit Go.Proofs.YtnjmiodnkjabgaaDoorW.PrintWords Go.Proofs.YtnjmiodnkjabgaaDoorW.PrintLast Go.Proofs.YtnjmiodnkjabgaaDoorW.PrintMore
attribute [local go_sem] max2_int min2_int max_two min_two max_three min_three max_four min_four   -- for this text's walks alone
set_option linter.unusedVariables false
set_option linter.unusedSimpArgs false

/-! ### sackbutref01_Turn: function 20 -/
def sackbutref01_Turn.f (k : Nat) (a0 : Int) (a1 : Int) : Option (Int) := (sackbutref01_mapped.f k a0 a1 (-1) 0).bind fun t1001 => (some t1001)
theorem sackbutref01_Turn.mono : ∀ a0 a1 k, LeO (sackbutref01_Turn.f k a0 a1) (sackbutref01_Turn.f (k + 1) a0 a1) := by
  intro a0 a1 k
  unfold sackbutref01_Turn.f
  repeat' first
      | (with_reducible exact sackbutref01_mapped.mono _ _ _ _ _)
      | (with_reducible exact LeO.refl _)
      | (with_reducible exact LeO.none _)
      | (with_reducible refine LeO.ite ?_ ?_)
      | (with_reducible refine LeO.bind ?_ (fun _ => ?_))
      | exact sackbutref01_mapped.mono _ _ _ _ _
      | exact LeO.none _
      | refine LeO.ite ?_ ?_
      | refine LeO.bind ?_ (fun _ => ?_)
set_option maxHeartbeats 8000000 in
set_option maxRecDepth 100000 in
theorem sackbutref01_Turn.calls (k : Nat) (a0 : Int) (a1 : Int) (r : Int) (w : World) (h : sackbutref01_Turn.f k a0 a1 = some r) :
    Calls Tryd.prog 20 #[.int .i64 a0, .int .i64 a1] w fun e w' => e = .returned (.int .i64 r) ∧ Drawn0 w w' := by
  have H : ((sackbutref01_mapped.f k a0 a1 (-1) 0).bind fun t1001 => (some t1001)) = some r := h
  clear h
  replace H := Option.bind_eq_some_iff.mp H
  obtain ⟨t1001, A30, H⟩ := H
  replace H : (some t1001) = some r := H
  have A3 := Aside0.mk A30
  clear A30
  obtain rfl := Option.some.inj H
  go_enter Tryd.func20, Tryd.ntmps20
  go_wp2_with (first | ((with_reducible refine gate_callee (f := 47) rfl ?_); refine goesL_ (some 7) rfl rfl Tryd.func47 (by kernel_rfl) rfl #[.int .i64 a0, .int .i64 a1, .int .i64 (-1), .int .i64 0] rfl (by (try simp only [List.map_toArray, List.map_cons, List.map_nil]); first | done | rfl | (simp only [List.length_drop, List.length_take]; rfl)) ?_; (with_reducible refine (sackbutref01_mapped.calls k a0 a1 (-1) 0 t1001 _ A3.out).mono ?_); rintro e w' ⟨rfl, ⟨nd, rfl⟩⟩; refine ⟨_, rfl, ?_⟩))
  go_ret
  exact ⟨by first | rfl | (simp; done) | (simp [*]; done), by repeat (first | exact Drawn0.refl _ | apply Drawn0.step)⟩

end Go.Proofs.YtnjmiodnkjabgaaDoor.P
namespace Go.Proofs.YtnjmiodnkjabgaaDoor.P
open Go.RowKit Go.Proofs.YtnjmiodnkjabgaaDoorW.PrintWords Go.Proofs.YtnjmiodnkjabgaaDoorW.PrintLast Go.Proofs.YtnjmiodnkjabgaaDoorW.PrintMore
attribute [local go_sem] max2_int min2_int max_two min_two max_three min_three max_four min_four   -- for this text's walks alone
set_option linter.unusedVariables false
set_option linter.unusedSimpArgs false

/-! a chord mapped: what the program and the document say -/
def affN (m t : Int) (n x : Nat) : Nat := ((m * (x : Int) + t) % (n : Int)).toNat
theorem affN_lt {m t : Int} {n : Nat} (hn : 1 ≤ n) (x : Nat) : affN m t n x < n := by
  have h0 := Int.emod_nonneg (m * (x : Int) + t) (show (n : Int) ≠ 0 by omega)
  have h1 := Int.emod_lt_of_pos (m * (x : Int) + t) (show (0 : Int) < n by omega)
  unfold affN; omega
theorem refMod_f {a : Int} {n : Nat} (hn : 1 ≤ n) (hn2 : n ≤ 24) : sackbutref01_mod.f a (n : Int) = some (a % (n : Int)) := by
  unfold sackbutref01_mod.f
  rw [if_neg (by omega), tmod_mod (by omega) (by omega)]
theorem bitC_is {n a x : Nat} (hn : n ≤ 24) (ha : a < 2 ^ n) (hx : x ≤ 64) : (Go.bits .and .i64 (shr .i64 (a : Int) (x : Int)) 1 = 1) ↔ a.testBit x = true := by
  have h24 : (2 : Nat) ^ 24 = 16777216 := by decide
  have h63 : (2 : Nat) ^ 63 = 9223372036854775808 := by decide
  have hp : 2 ^ n ≤ 2 ^ 24 := Nat.pow_le_pow_right (by omega) hn
  exact bit1_i64 (by omega) hx
theorem nextC_w {d : Nat} (h : d ≤ 1000) : wrap64 ((d : Int) + 1) = ((d + 1 : Nat) : Int) := by rw [wrap_id (by omega) (by omega)]; omega
theorem mulC_le {m : Int} {d : Nat} (hm : -24 ≤ m) (hm2 : m ≤ 24) (hd : d ≤ 24) : -576 ≤ m * (d : Int) ∧ m * (d : Int) ≤ 576 := by
  have h1 : m * (d : Int) ≤ 24 * (d : Int) := Int.mul_le_mul_of_nonneg_right hm2 (by omega)
  have h2 : -24 * (d : Int) ≤ m * (d : Int) := Int.mul_le_mul_of_nonneg_right hm (by omega)
  omega
theorem aff_nums {m t : Int} {n d o : Nat} (hn : 1 ≤ n) (hn2 : n ≤ 24) (hd : d ≤ 24) (hm : -24 ≤ m) (hm2 : m ≤ 24) (ht : 0 ≤ t) (ht2 : t ≤ 24) (ho : o < 2 ^ n) :
    wrap64 (wrap64 (m * (d : Int)) + t) = m * (d : Int) + t ∧ (m * (d : Int) + t) % (n : Int) = (affN m t n d : Int) ∧ Go.bits .or .i64 (o : Int) (shl .i64 1 (affN m t n d : Int)) = ((o ||| 2 ^ (affN m t n d) : Nat) : Int) := by
  obtain ⟨h1, h2⟩ := mulC_le hm hm2 hd
  have h0 := Int.emod_nonneg (m * (d : Int) + t) (show (n : Int) ≠ 0 by omega)
  have hl := affN_lt (m := m) (t := t) hn d
  refine ⟨?_, ?_, ?_⟩
  · generalize m * (d : Int) = q at *
    rw [wrap_id (n := q) (by omega) (by omega), wrap_id (by omega) (by omega)]
  · unfold affN; omega
  · rw [shl1_i64 (by omega)]
    have h24 : (2 : Nat) ^ 24 = 16777216 := by decide
    have h63 : (2 : Nat) ^ 63 = 9223372036854775808 := by decide
    have hp : 2 ^ n ≤ 2 ^ 24 := Nat.pow_le_pow_right (by omega) hn2
    have hq : 2 ^ affN m t n d < 2 ^ 24 := Nat.pow_lt_pow_right (by omega) (by omega)
    generalize 2 ^ affN m t n d = p at *
    rw [or_i64 (by omega) (by omega)]
theorem refMapped_loop {n c : Nat} {m t : Int} (hn : 1 ≤ n) (hn2 : n ≤ 24) (hc : c < 2 ^ n) (hm : -24 ≤ m) (hm2 : m ≤ 24) (ht : 0 ≤ t) (ht2 : t ≤ 24) : ∀ (r d : Nat), d + r = n →
    Ev (fun k => sackbutref01_mapped.l0 k (n : Int) (c : Int) m t (accTo (affN m t n) c d : Int) (n : Int) (d : Int)) ((imgN (affN m t n) c : Nat) : Int) := by
  intro r
  induction r with
  | zero =>
    intro d hd
    have hdn : d = n := by omega
    subst hdn
    have p1 : ¬ (d : Int) < (d : Int) := by omega
    refine Ev.succ ?_
    simp only [sackbutref01_mapped.l0, if_neg p1, accTo_all hc]
    exact Ev.some _
  | succ r ih =>
    intro d hd
    have p0 : (0 : Int) ≤ (d : Int) := Int.natCast_nonneg d
    have p1 : (d : Int) < (n : Int) := by omega
    have p2 : (0 : Int) ≤ (affN m t n d : Int) := Int.natCast_nonneg _
    have hbit := bitC_is hn2 hc (show d ≤ 64 by omega)
    have go := ih (d + 1) (by omega)
    obtain ⟨e1, e2, e3⟩ := aff_nums (o := accTo (affN m t n) c d) hn hn2 (show d ≤ 24 by omega) hm hm2 ht ht2 (accTo_lt (fun x => affN_lt hn x) c d)
    have hw := nextC_w (d := d) (by omega)
    refine Ev.succ ?_
    simp only [sackbutref01_mapped.l0, if_pos p1, if_pos p0, hw]
    refine Ev.ite (fun e => ?_) (fun e => ?_)
    · rw [hbit] at e
      rw [e1]
      refine Ev.bind_some (refMod_f hn hn2) ?_
      rw [e2]
      simp only [if_pos p2, e3]
      simp only [accTo, if_pos e] at go
      exact go
    · rw [hbit] at e
      simp only [accTo, if_neg e] at go
      exact go
theorem refMapped_ev {n c : Nat} {m t : Int} (hn : 1 ≤ n) (hn2 : n ≤ 24) (hc : c < 2 ^ n) (hm : -24 ≤ m) (hm2 : m ≤ 24) (ht : 0 ≤ t) (ht2 : t ≤ 24) : Ev (fun k => sackbutref01_mapped.f k (n : Int) (c : Int) m t) ((imgN (affN m t n) c : Nat) : Int) := by
  have := refMapped_loop hn hn2 hc hm hm2 ht ht2 n 0 (by omega)
  simpa [sackbutref01_mapped.f, accTo] using this
/-- moved: the set of all tones k higher -/
theorem img_move {n c j : Nat} (hn : 1 ≤ n) (hj : j < n) (hc : c < 2 ^ n) : imgN (affN 1 (j : Int) n) c = moveN n c j := by
  refine bits_ext (n := n) (imgN_lt hc (fun x => affN_lt hn x)) (moveN_lt n c j) (fun i hi => ?_)
  rw [testBit_moveN hc hj hi, Bool.eq_iff_iff, imgN_bit hc]
  have hv : ∀ x : Nat, affN 1 (j : Int) n x = (x + j) % n := fun x => by
    unfold affN
    rw [Int.one_mul, show (x : Int) + (j : Int) = ((x + j : Nat) : Int) by omega, ← Int.natCast_emod, Int.toNat_natCast]
  simp only [hv]
  constructor
  · rintro ⟨x, hx, he⟩
    have hxn := bit_lt hc hx
    have : (i + (n - j)) % n = x := by
      rw [← he, Nat.mod_add_mod, show x + j + (n - j) = x + n by omega, Nat.add_mod_right, Nat.mod_eq_of_lt hxn]
    rw [this]; exact hx
  · intro h
    refine ⟨_, h, ?_⟩
    rw [Nat.mod_add_mod, show i + (n - j) + j = i + n by omega, Nat.add_mod_right, Nat.mod_eq_of_lt hi]
theorem img_turn {n c : Nat} : imgN (affN (-1) 0 n) c = imgN (toN negTo n) c := by
  have : affN (-1) 0 n = toN negTo n := by
    funext x
    unfold affN toN negTo
    rw [show (-1 : Int) * (x : Int) + 0 = -(x : Int) by omega]
  rw [this]
noncomputable def turnN (n c : Nat) : Nat := imgN (toN negTo n) c
theorem turnN_lt {n c : Nat} (hn : 1 ≤ n) (hc : c < 2 ^ n) : turnN n c < 2 ^ n := imgN_lt hc (fun x => toN_lt hn x)
theorem turn_f {n c : Nat} (hn : 1 ≤ n) (hn2 : n ≤ 24) (hc : c < 2 ^ n) : chords_circle_turn.f (n : Int) (c : Int) = some (turnN n c : Int) := by
  unfold chords_circle_turn.f
  rw [Int.toNat_natCast, Int.toNat_natCast, if_pos ⟨by omega, by omega, by omega, by rw [← pow_cast]; omega⟩, accTo_all hc]
  rfl
theorem refTurn_ev {n c : Nat} (hn : 1 ≤ n) (hn2 : n ≤ 24) (hc : c < 2 ^ n) : Ev (fun k => sackbutref01_Turn.f k (n : Int) (c : Int)) (turnN n c : Int) := by
  have := refMapped_ev (m := -1) (t := 0) hn hn2 hc (by omega) (by omega) (by omega) (by omega)
  rw [img_turn] at this
  unfold sackbutref01_Turn.f
  exact Ev.bind this (Ev.some _)
theorem refMove_ev {n c : Nat} (k : Int) (hn : 1 ≤ n) (hn2 : n ≤ 24) (hc : c < 2 ^ n) : Ev (fun q => sackbutref01_Move.f q (n : Int) (c : Int) k) (moveN n c (k % n).toNat : Int) := by
  have h0 := Int.emod_nonneg k (show (n : Int) ≠ 0 by omega)
  have h1 := Int.emod_lt_of_pos k (show (0 : Int) < n by omega)
  unfold sackbutref01_Move.f
  refine Ev.bind_some (refMod_f hn hn2) ?_
  obtain ⟨j, hj⟩ := Int.eq_ofNat_of_zero_le h0
  rw [hj] at h1 ⊢
  have := refMapped_ev (m := 1) (t := (j : Int)) hn hn2 hc (by omega) (by omega) (by omega) (by omega)
  rw [img_move hn (by omega) hc] at this
  rw [Int.toNat_natCast]
  exact Ev.bind this (Ev.some _)
theorem modC_nat {n d : Nat} (h : d < n) : ((d : Int) % (n : Int)).toNat = d := by rw [Int.emod_eq_of_lt (by omega) (by omega)]; omega

end Go.Proofs.YtnjmiodnkjabgaaDoor.P
namespace Go.Proofs.YtnjmiodnkjabgaaDoor.P
open Go.RowKit Go.Proofs.YtnjmiodnkjabgaaDoorW.PrintWords Go.Proofs.YtnjmiodnkjabgaaDoorW.PrintLast Go.Proofs.YtnjmiodnkjabgaaDoorW.PrintMore
attribute [local go_sem] max2_int min2_int max_two min_two max_three min_three max_four min_four   -- for this text's walks alone
set_option linter.unusedVariables false
set_option linter.unusedSimpArgs false

theorem gcd_loop : ∀ b a : Nat, Ev (fun k => chords_gcd.l0 k (a : Int) (b : Int)) (Nat.gcd a b : Int) := by
  intro b
  induction b using Nat.strongRecOn with
  | _ b ih =>
    intro a
    refine Ev.succ ?_
    simp only [chords_gcd.l0]
    refine Ev.ite (fun e => ?_) (fun e => ?_)
    · have : b = 0 := by omega
      subst this
      rw [Nat.gcd_zero_right]
      exact Ev.some _
    · have hm : Int.tmod (a : Int) (b : Int) = ((a % b : Nat) : Int) := by rw [Int.tmod_eq_emod_of_nonneg (by omega)]; exact (Int.natCast_emod _ _).symm
      rw [hm, Nat.gcd_comm, Nat.gcd_rec, Nat.gcd_comm]
      exact ih (a % b) (Nat.mod_lt _ (by omega)) b
theorem coprime_loop : ∀ b a : Nat, Ev (fun k => sackbutref01_Coprime.l0 k (a : Int) (b : Int)) (Nat.gcd a b == 1) := by
  intro b
  induction b using Nat.strongRecOn with
  | _ b ih =>
    intro a
    refine Ev.succ ?_
    simp only [sackbutref01_Coprime.l0]
    refine Ev.ite (fun e => ?_) (fun e => ?_)
    · have : b = 0 := by omega
      subst this
      rw [Nat.gcd_zero_right]
      have : ((a : Int) == 1) = (a == 1) := by rw [Bool.eq_iff_iff, beq_iff_eq, beq_iff_eq]; omega
      rw [this]
      exact Ev.some _
    · have hm : Int.tmod (a : Int) (b : Int) = ((a % b : Nat) : Int) := by rw [Int.tmod_eq_emod_of_nonneg (by omega)]; exact (Int.natCast_emod _ _).symm
      rw [hm, Nat.gcd_comm, Nat.gcd_rec, Nat.gcd_comm]
      exact ih (a % b) (Nat.mod_lt _ (by omega)) b
theorem accTo_congr {φ ψ : Nat → Nat} (c : Nat) : ∀ d, (∀ x, x < d → φ x = ψ x) → accTo φ c d = accTo ψ c d
  | 0, _ => rfl
  | d + 1, h => by simp only [accTo, accTo_congr c d (fun x hx => h x (by omega)), h d (by omega)]
theorem affN_mul (m n x : Nat) : affN (m : Int) 0 n x = mulN m n x := by
  unfold affN mulN
  rw [Int.add_zero, ← Int.natCast_mul, ← Int.natCast_emod, Int.toNat_natCast]
theorem timesTo_is {n c m : Nat} (hn : 1 ≤ n) (hn2 : n ≤ 24) (hm : m ≤ 24) (hc : c < 2 ^ n) : timesTo (n : Int) (c : Int) (m : Int) = (timesN n c m : Int) := by
  unfold timesTo
  rw [Int.toNat_natCast, Int.toNat_natCast]
  have : accTo (toN (mulTo (m : Int)) n) c n = accTo (mulN m n) c n := accTo_congr c n (fun x hx => by
    unfold toN mulTo mulN
    have : m * x ≤ 24 * 24 := Nat.mul_le_mul hm (by omega)
    have e : wrap64 ((m : Int) * (x : Int)) = ((m * x : Nat) : Int) := by rw [← Int.natCast_mul, wrap_id (by omega) (by omega)]
    show (wrap64 ((m : Int) * (x : Int)) % (n : Int)).toNat = m * x % n
    rw [e, ← Int.natCast_emod, Int.toNat_natCast])
  rw [this, accTo_all hc]
  rfl
theorem refTimes_ev {n c m : Nat} (hn : 1 ≤ n) (hn2 : n ≤ 24) (hm : m ≤ 24) (hc : c < 2 ^ n) : Ev (fun k => sackbutref01_Times.f k (n : Int) (c : Int) (m : Int)) (timesN n c m : Int) := by
  have := refMapped_ev (m := (m : Int)) (t := 0) hn hn2 hc (by omega) (by omega) (by omega) (by omega)
  have e : affN (m : Int) 0 n = mulN m n := by funext x; exact affN_mul m n x
  rw [e] at this
  unfold sackbutref01_Times.f
  exact Ev.bind this (Ev.some _)
def TimesOk (n c m : Int) : Prop := ValidC n c ∧ 1 ≤ m ∧ m < n ∧ Nat.gcd m.toNat n.toNat = 1
theorem Times_no {n c m : Int} (h : ¬ TimesOk n c m) : Ev (fun k => chords_Times.f k n c m) (0, 2) := by
  unfold chords_Times.f
  refine Ev.bind_some (valid1_f n c) ?_
  by_cases hv : ValidC n c
  · simp only [hv, decide_true, if_true]
    refine Ev.ite (fun _ => Ev.some _) (fun h1 => ?_)
    refine Ev.ite (fun _ => Ev.some _) (fun h2 => ?_)
    obtain ⟨N, C, rfl, rfl, h2', h16, hC⟩ := validC_nat hv
    obtain ⟨M, rfl⟩ := Int.eq_ofNat_of_zero_le (show 0 ≤ m by omega)
    unfold chords_gcd.f
    refine Ev.bind (gcd_loop N M) ?_
    have hne : ¬ (Nat.gcd M N : Int) = 1 := fun e => h ⟨hv, by omega, by omega, by rw [Int.toNat_natCast, Int.toNat_natCast]; omega⟩
    simp only [if_neg hne]
    exact Ev.some _
  · simp only [hv, decide_false, Bool.false_eq_true, if_false]
    exact Ev.some _
theorem Times_yes {N C M : Nat} (h : TimesOk (N : Int) (C : Int) (M : Int)) : Ev (fun k => chords_Times.f k (N : Int) (C : Int) (M : Int)) ((timesN N C M : Int), 0) := by
  obtain ⟨hv, h1, h2, h3⟩ := h
  have hv' := hv
  obtain ⟨h2', h16, _, hC⟩ := hv'
  rw [Int.toNat_natCast, ← pow_cast] at hC
  rw [Int.toNat_natCast, Int.toNat_natCast] at h3
  unfold chords_Times.f
  refine Ev.bind_some (valid1_f _ _) ?_
  simp only [hv, decide_true, if_true]
  simp only [if_neg (show ¬ (M : Int) < 1 by omega), if_neg (show ¬ (M : Int) ≥ (N : Int) by omega)]
  unfold chords_gcd.f
  refine Ev.bind (gcd_loop N M) ?_
  have hc4 : 1 ≤ (N : Int) ∧ (N : Int) ≤ 24 ∧ 0 ≤ (C : Int) ∧ (C : Int) < 2 ^ (N : Int).toNat := ⟨by omega, by omega, by omega, by rw [Int.toNat_natCast, ← pow_cast]; exact hC⟩
  simp only [if_pos (show (Nat.gcd M N : Int) = 1 by omega), if_pos hc4, timesTo_is (show 1 ≤ N by omega) (show N ≤ 24 by omega) (show M ≤ 24 by omega) (show C < 2 ^ N by omega)]
  exact Ev.some _

end Go.Proofs.YtnjmiodnkjabgaaDoor.P
namespace Go.Proofs.YtnjmiodnkjabgaaDoor.P
open Go.RowKit Go.Proofs.YtnjmiodnkjabgaaDoorW.PrintWords Go.Proofs.YtnjmiodnkjabgaaDoorW.PrintLast Go.Proofs.YtnjmiodnkjabgaaDoorW.PrintMore
attribute [local go_sem] max2_int min2_int max_two min_two max_three min_three max_four min_four   -- for this text's walks alone
set_option linter.unusedVariables false
set_option linter.unusedSimpArgs false

theorem times_nums {n m d y0 : Nat} (hn : n ≤ 16) (hm : m < n) (hd : 1 ≤ d) (hd2 : 2 * d ≤ n) (hy : y0 = mulN m n d) (h0 : y0 < n) :
    Int.tmod (wrap64 ((m : Int) * (d : Int))) (n : Int) = (y0 : Int) ∧ wrap64 ((n : Int) - (y0 : Int)) = ((n - y0 : Nat) : Int) ∧ wrap64 ((d : Int) - 1) = ((d - 1 : Nat) : Int) ∧ wrap64 ((d : Int) + 1) = ((d + 1 : Nat) : Int) ∧
    mn (y0 : Int) ((n - y0 : Nat) : Int) = ((min y0 (n - y0) : Nat) : Int) := by
  have hmd : m * d ≤ 16 * 16 := Nat.mul_le_mul (by omega) (by omega)
  refine ⟨?_, ?_, ?_, ?_, ?_⟩
  · rw [← Int.natCast_mul, wrap_id (by omega) (by omega), Int.tmod_eq_emod_of_nonneg (by omega), ← Int.natCast_emod, hy]; rfl
  · rw [wrap_id (by omega) (by omega)]; omega
  · rw [wrap_id (by omega) (by omega)]; omega
  · rw [wrap_id (by omega) (by omega)]; omega
  · rw [mn_eq]; omega
theorem pred_w {y : Nat} (h : 1 ≤ y) (h2 : y ≤ 100) : wrap64 ((y : Int) - 1) = ((y - 1 : Nat) : Int) := by rw [wrap_id (by omega) (by omega)]; omega
theorem times_loop {n c m : Nat} (hn : 2 ≤ n) (hn2 : n ≤ 16) (hc : c < 2 ^ n) (hm : m < n) (hg : Nat.Coprime m n) : ∀ (r d : Nat), 1 ≤ d → d + r = n / 2 + 1 →
    Ev (fun k => sackbutlaw01_ChordsTimes.l0 k (n : Int) (m : Int) (vecOf n c) (vecOf n (timesN n c m)) (d : Int)) true := by
  intro r
  have hf := half_f n (by omega)
  have hlv := vecOf_length n c; have hlt := vecOf_length n (timesN n c m)
  induction r with
  | zero =>
    intro d h1 hd
    have p1 : ¬ (d : Int) ≤ ((n / 2 : Nat) : Int) := by omega
    refine Ev.succ ?_
    simp only [sackbutlaw01_ChordsTimes.l0, hf, if_neg p1]
    refine Ev.bind_some awake_f ?_
    exact Ev.some _
  | succ r ih =>
    intro d h1 hd
    have hd2 : 2 * d ≤ n := by omega
    have p1 : (d : Int) ≤ ((n / 2 : Nat) : Int) := by omega
    have pn : ¬ (n : Int) = 0 := by omega
    have hy0 : mulN m n d < n := mulN_lt (by omega) d
    obtain ⟨y, hy⟩ : ∃ y, y = min (mulN m n d) (n - mulN m n d) := ⟨_, rfl⟩
    obtain ⟨v1, v2, v3⟩ := times_vec hg hc h1 hd2 hy
    have q1 : ¬ (y : Int) < 1 := by omega
    have q2 : (0 : Int) ≤ ((d - 1 : Nat) : Int) := Int.natCast_nonneg _
    have q3 : ((d - 1 : Nat) : Int) < ((n / 2 : Nat) : Int) := by omega
    have q4 : (0 : Int) ≤ ((y - 1 : Nat) : Int) := Int.natCast_nonneg _
    have q5 : ((y - 1 : Nat) : Int) < ((n / 2 : Nat) : Int) := by omega
    have r1 := vecOf_rd (n := n) (c := c) (i := d - 1) (by omega)
    have r2 := vecOf_rd (n := n) (c := timesN n c m) (i := y - 1) (by omega)
    rw [show d - 1 + 1 = d by omega] at r1
    rw [show y - 1 + 1 = y by omega, v3] at r2
    have go := ih (d + 1) (by omega) (by omega)
    have hpw := pred_w v1 (by omega)
    obtain ⟨w1, w2, w3, w4, w5⟩ := times_nums hn2 hm h1 hd2 rfl hy0
    rw [← hy] at w5
    refine Ev.succ ?_
    simp only [sackbutlaw01_ChordsTimes.l0, hf, if_pos p1, if_neg pn, w1, w2, w5, if_neg q1, w3, hlv, hlt, hpw, if_pos q2, if_pos q3, if_pos q4, if_pos q5, r1, r2, w4, if_true]
    exact go
theorem ChordsTimes : sackbutlaw01_ChordsTimes.Pure := by
  intro n c m _ _ _
  refine Ev.rounds (g := fun q => sackbutlaw01_ChordsTimes.f q n c m) ?_
  unfold sackbutlaw01_ChordsTimes.f
  by_cases ht : TimesOk n c m
  · have hr := refValid_f n c
    have hv := ht.1
    simp only [hv, decide_true] at hr
    obtain ⟨N, C, rfl, rfl, h2, h16, hC⟩ := validC_nat hv
    obtain ⟨M, rfl⟩ := Int.eq_ofNat_of_zero_le (show 0 ≤ m by have := ht.2.1; omega)
    have hm1 := ht.2.1; have hm2 := ht.2.2.1; have hg := ht.2.2.2
    rw [Int.toNat_natCast, Int.toNat_natCast] at hg
    have hw : wrap64 ((N : Int) - 1) = (N : Int) - 1 := wrap_id (by omega) (by omega)
    have hf := half_f N (by omega)
    refine Ev.bind (Times_yes ht) ?_
    simp only [if_true]
    refine Ev.bind_some hr ?_
    simp only [if_true, if_neg (show ¬ (M : Int) < 1 by omega), hw, decide_eq_false (show ¬ (M : Int) > (N : Int) - 1 by omega)]
    refine Ev.succ ?_
    simp only [sackbutlaw01_ChordsTimes.j0, Bool.false_eq_true, if_false]
    refine Ev.bind (Vector_ev N C) ?_
    refine Ev.bind (Vector_ev N (timesN N C M : Int)) ?_
    have hT := timesN_lt (n := N) (c := C) (m := M) (by omega) hC
    have hvT : ValidC (N : Int) (timesN N C M : Int) := ⟨by omega, by omega, by omega, by rw [Int.toNat_natCast, ← pow_cast]; omega⟩
    have hlv := vecOf_length N C; have hlt := vecOf_length N (timesN N C M)
    simp only [hv, hvT, if_true, Int.toNat_natCast, hlv, hlt, hf, bne_self_eq_false]
    refine Ev.succ ?_
    simp only [sackbutlaw01_ChordsTimes.j1, Bool.false_eq_true, if_false]
    exact times_loop h2 h16 hC (by omega) hg (N / 2) 1 (by omega) (by omega)
  · refine Ev.bind (Times_no ht) ?_
    simp only [if_neg (show ¬ (2 : Int) = 0 by decide)]
    refine Ev.succ ?_
    simp only [sackbutlaw01_ChordsTimes.j0, if_true]
    refine Ev.bind_some awake_f ?_
    exact Ev.some _

end Go.Proofs.YtnjmiodnkjabgaaDoor.P
namespace Go.Proofs.YtnjmiodnkjabgaaDoor.Pure
theorem ChordsTimes : Go.Proofs.YtnjmiodnkjabgaaDoor.P.sackbutlaw01_ChordsTimes.Pure := Go.Proofs.YtnjmiodnkjabgaaDoor.P.ChordsTimes
end Go.Proofs.YtnjmiodnkjabgaaDoor.Pure
namespace Go.Proofs.YtnjmiodnkjabgaaDoor.P
open Go.RowKit Go.Proofs.YtnjmiodnkjabgaaDoorW.PrintWords Go.Proofs.YtnjmiodnkjabgaaDoorW.PrintLast Go.Proofs.YtnjmiodnkjabgaaDoorW.PrintMore
attribute [local go_sem] max2_int min2_int max_two min_two max_three min_three max_four min_four   -- for this text's walks alone
set_option linter.unusedVariables false
set_option linter.unusedSimpArgs false

open Go.ChangeShapes Go.WideShapes Go.ChangeAt Go.WideElems
/-! what the row's listed tables give the walks -/
def doorLaid2 : List (String × DataW Unit) := [("math/bits.deBruijn32tab", Rows.laid_math_bits_deBruijn32tab), ("math/bits.deBruijn64tab", Rows.laid_math_bits_deBruijn64tab)]
theorem door_g64 : Tryd.prog.globalNamed "math/bits.deBruijn64tab" = some 1 := by kernel_rfl
theorem door_t64 : (Tryd.prog.globals[1]?).map (·.type) = some 105 := by kernel_rfl
theorem door_met (os : Os) (args : Array Value) : laidMetH Tryd.prog doorLaid2 ((World.doorLaid Tryd.prog 19 os).forCall (fun _ _ => 0) ⟨#[], args, []⟩).memory :=
  laidMetH_of_parts3 (fuel := 8) (laidMet_of_run' 8 (by kernel_rfl) (by kernel_rfl)) (by kernel_rfl) (by kernel_rfl)
theorem door_tab : (Rows.laid_math_bits_deBruijn64tab : DataW Unit) = .agg (tzTab.map fun (n : Nat) => .lit (.int .u8 (n : Int))) := rfl
theorem door_c8 : Tryd.prog.cellsOf 5 = 1 := by kernel_rfl
theorem tabs_of_laid {W : World} (h : laidMetH Tryd.prog doorLaid2 W) : Tabs W := by
  rw [MakeChecks.laidMetH_plain _ _ _ (by kernel_rfl)] at h
  obtain ⟨ps, ⟨g0, t0, cs0, f0, p0, q0, hg0, ht0, hv0, hd0, ⟨g1, t1, cs1, f1, p1, q1, hg1, ht1, hv1, hd1, _, _⟩, _⟩, _, _⟩ := h
  obtain rfl := Option.some.inj (door_g64.symm.trans hg1)
  obtain rfl := Option.some.inj (door_t64.symm.trans ht1)
  obtain ⟨xs, m1, rfl, hx1, hlen, hn, hel⟩ := DataW.trod_array Tryd.underlying105 hd1
  simp only [Prod.mk.injEq] at hx1
  have hl := hx1.1
  rw [door_tab] at hl
  simp only [DataW.agg.injEq] at hl
  intro i hi
  have h0 := hel i hi
  obtain ⟨x, hx⟩ : ∃ x, xs[i]? = some x := ⟨xs[i], by simp [hn, hi]⟩
  rw [hx] at h0
  obtain ⟨k, e1, e2, _⟩ := DataW.trod_int Tryd.underlying5 h0
  have hk := congrArg (fun l => l[i]?) hl
  simp only [List.getElem?_map, hx, Option.map_some, e2] at hk
  have ht : tzTab[i]? = some (tzTab.getD i 0) := by
    rw [List.getD_eq_getElem?_getD]
    have hlen : tzTab.length = 64 := by decide
    rw [List.getElem?_eq_getElem (by omega)]; rfl
  rw [ht] at hk
  simp only [Option.map_some, Option.some.injEq, DataW.lit.injEq, Lit.int.injEq, true_and] at hk
  rw [door_c8, Nat.mul_one] at e1
  have hc := World.var?_cell hg1 hv1 i
  rw [hc]
  have : cs1.toList[i]? = some (.int .u8 k) := by
    have := congrArg (fun l => l[0]?) e1
    simpa using this
  rw [← Array.getElem?_toList, this, hk]

end Go.Proofs.YtnjmiodnkjabgaaDoor.P
namespace Go.Proofs.YtnjmiodnkjabgaaDoor.chordsTimes
open Go.ChangeShapes Go.WideShapes Go.ChangeAt Go.RowKit
open Go.ChangeMaps (open_string shut_string)
set_option linter.unusedVariables false
theorem own : ownKnob Tryd.prog.godebug = none := by kernel_rfl
set_option maxRecDepth 100000 in
theorem lifted (os : Os) (started : os.Started) (H : Type) (enc : TypeId × Value → H) :
    ReturnsInHanded {} Tryd.checked os 5 .any (fun w args => (Rows.chordsTimesSpec.pre enc Tryd.prog Tryd.f5 [] false w args ∧ laidMetH Tryd.prog P.doorLaid2 w) ∧ sizedMet enc Tryd.prog Tryd.f5 (OpenSpec.ofChange Rows.chordsTimesSpec) false w args) (Rows.chordsTimesSpec.post enc Tryd.prog Tryd.f5 false true false false) := by
  refine returnsInHanded_of_change_and (C := Tryd.checked) (X := fun w _ => laidMetH Tryd.prog P.doorLaid2 w) (fun _ _ _ hh h => h.of_heap hh) own started (by kernel_rfl) Tryd.func5
    (ChangeSpec.witness_shaped (enc := enc) (C := Tryd.checked) (os := os) (X := fun w _ => laidMetH Tryd.prog P.doorLaid2 w) false (World.doorLaid Tryd.prog 19 os) #[.int .i64 0, .int .i64 0, .int .i64 0] 8 rfl (World.shaped_of_RefB (by kernel_rfl) (by kernel_rfl)) (by kernel_rfl) (by kernel_rfl) (by kernel_rfl) (P.door_met os _)) ?_
  intro W base args ds gs before hval0 hW hcnd hsz0 hL _
  have hsz : (DataW.weightsEach Tryd.prog (Tryd.f5.params.toList ++ Rows.chordsTimesSpec.plain.varTypes Tryd.prog) (ds ++ gs)).all (· ≤ reachBytes) = true := hsz0
  have hval : ∀ (j : Nat) t v, Tryd.f5.params[j]? = some t → args[j]? = some v → Value.okWide Tryd.prog W .any base t v := hval0
  have hW' := hW
  obtain ⟨p, q, hA0, hV, rfl, hfz, hnd⟩ := hW
  have hA : DataW.TrodAll enc Tryd.prog W 0 (fun _ => true) true Tryd.f5.params.toList args.toList ds p := hA0
  rw [Tryd.params5] at hA hval hsz
  obtain ⟨v0, vs0, d0, ds0, p0, q0, hargs, rfl, rfl, h0, r0⟩ := trodAll_cons hA
  obtain ⟨v1, vs1, d1, ds1, p1, q1, rfl, rfl, rfl, h1, r1⟩ := trodAll_cons r0
  obtain ⟨v2, vs2, d2, ds2, p2, q2, rfl, rfl, rfl, h2, r2⟩ := trodAll_cons r1
  obtain ⟨rfl, rfl, rfl⟩ := trodAll_nil r2
  obtain rfl : args = #[v0, v1, v2] := by cases args; simp_all
  obtain ⟨rfl, rfl⟩ := trodVars_none hV
  obtain ⟨a0, rfl, rfl, rfl, w0⟩ := open_int Tryd.underlying3 (hval 0 3 v0 rfl rfl) h0
  obtain ⟨a1, rfl, rfl, rfl, w1⟩ := open_int Tryd.underlying3 (hval 1 3 v1 rfl rfl) h1
  obtain ⟨a2, rfl, rfl, rfl, w2⟩ := open_int Tryd.underlying3 (hval 2 3 v2 rfl rfl) h2
  clear hA0 hval0 hsz0 hsz
  refine (P.sackbutlaw01_ChordsTimes.walk Pure.ChordsTimes a0 a1 a2 W (P.tabs_of_laid hL) w0 w1 w2).mono fun e W' ⟨he, bel⟩ => ?_
  subst he
  exact ⟨_, rfl, _, _, _, [], _, [], hW', trodAll_mk1 (shut_bool Tryd.underlying4 _), (trodAll_cons_mk (shut_int Tryd.underlying3 w0) (trodAll_cons_mk (shut_int Tryd.underlying3 w1) (trodAll_cons_mk (shut_int Tryd.underlying3 w2) trodAll_mk0))), rfl, bel.frame _, fun h => by cases h⟩
theorem over : Rows.chordsTimesRow.holds Tryd.pinned (OpenSpec.ofChange Rows.chordsTimesSpec) :=
  OpenClaim.holds_of_wide 5 Tryd.f5 rfl rfl rfl rfl rfl rfl rfl ⟨rfl, rfl, rfl, rfl, rfl⟩ rfl rfl rfl rfl rfl (by kernel_rfl) Tryd.func5 (by kernel_rfl)
    (of_decide_eq_true (by kernel_rfl)) (by unfold Func.isWrapper; first | (rw [if_pos (by decide +kernel)]; kernel_rfl) | (rw [if_neg (by decide +kernel)]; exact ⟨rfl, rfl⟩))
    (fun os started H enc _ => lifted os started H enc)
theorem proved : Rows.ChordsTimesSaid := over
#print axioms proved
end Go.Proofs.YtnjmiodnkjabgaaDoor.chordsTimes
namespace Go.Proofs.YtnjmiodnkjabgaaDoor
theorem chordsTimes_row : Rows.ChordsTimesSaid := chordsTimes.proved
/-- The tied card, for the claim. -/
theorem chordsTimes_holds : Rows.ChordsTimesCardSaid :=
  Claim7.holds_tied_plain_at .later [] [.data, .data] true (true, "ac7f7780cdb4c7dbab2161a7813cee9650f1d8372274689d9bbe8f184084de4f") false
    chordsTimes_row (fun _ h => by cases h) (by kernel_rfl) (fun _ h => by cases h) chordsTimes_row_tie rfl ⟨rfl, rfl⟩ (by kernel_rfl) rfl
    (fun f fn hf hfn => by
      obtain rfl : f = 5 := Option.some.inj ((show Tryd.prog.funcNamed "sackbut/sackbutlaw01.ChordsTimes" = some 5 by kernel_rfl).symm.trans hf) |>.symm
      obtain rfl : fn = Tryd.f5 := (Option.some.inj (Tryd.func5.symm.trans hfn)).symm
      exact ⟨by kernel_rfl, fun j t ht => by
        rw [Tryd.params5] at ht
        have hm : t ∈ [3, 3, 3] := by simpa using Array.mem_of_getElem? ht
        have hall : ([3, 3, 3].all fun u => !Tryd.prog.wantsStandIn u) = true := by kernel_rfl
        exact (show Tryd.prog.wantsStandIn t = false by simpa using List.all_eq_true.1 hall t hm)⟩)
    (by kernel_rfl)
end Go.Proofs.YtnjmiodnkjabgaaDoor
