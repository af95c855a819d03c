/- Proved here: the Go function sackbutlaw01.ChordsWays returns true for every input (its printed form comes to true), whatever its arguments. Conditions: none beyond the row's own reach in memory. -/
import Derived.LaidMore
import Derived.Stop.Joined
import Derived.ProofKit
import Derived.OpenShut
import Derived.Test.YtnjmiodnkjabgaaDoorRows
import Derived.WalkKit
import Derived.ShutString
import Derived.ChangeOld
import Derived.Below
import Derived.SizedLaws
import Derived.SevenTiedAt
import Derived.Test.YtnjmiodnkjabgaaDoorCards
import Derived.Test.YtnjmiodnkjabgaaDoorTie
import Derived.Test.YtnjmiodnkjabgaaDoorCChordsWays1
import Derived.Test.YtnjmiodnkjabgaaDoorCChordsWays2
import Derived.Test.YtnjmiodnkjabgaaDoorCChordsWays3
namespace Go.Proofs.YtnjmiodnkjabgaaDoor.P
open Go.RowKit Go.Proofs.YtnjmiodnkjabgaaDoorW.PrintWords Go.Proofs.YtnjmiodnkjabgaaDoorW.PrintLast Go.Proofs.YtnjmiodnkjabgaaDoorW.PrintMore
attribute [local go_sem] max2_int min2_int max_two min_two max_three min_three max_four min_four   -- for this text's walks alone
set_option linter.unusedVariables false
set_option linter.unusedSimpArgs false

/-! ### chords_Vector: function 23 -/
def chords_Vector.f (k : Nat) (a0 : Int) (a1 : Int) : Option (List Int × Int) := (chords_circle_valid.f a0 (([a1] : List Int))).bind fun t1004 => (if t1004 = true then ((chords_circle_vector.f k a0 a1).bind fun t1005 => (some (t1005, 0))) else (some (([] : List Int), 2)))
theorem chords_Vector.mono : ∀ a0 a1 k, LeO (chords_Vector.f k a0 a1) (chords_Vector.f (k + 1) a0 a1) := by
  intro a0 a1 k
  unfold chords_Vector.f
  repeat' first
      | (with_reducible exact chords_circle_vector.mono _ _ _)
      | (with_reducible exact LeO.refl _)
      | (with_reducible exact LeO.none _)
      | (with_reducible refine LeO.ite ?_ ?_)
      | (with_reducible refine LeO.bind ?_ (fun _ => ?_))
      | exact chords_circle_vector.mono _ _ _
      | exact LeO.none _
      | refine LeO.ite ?_ ?_
      | refine LeO.bind ?_ (fun _ => ?_)
set_option maxHeartbeats 8000000 in
set_option maxRecDepth 100000 in
theorem chords_Vector.calls (k : Nat) (a0 : Int) (a1 : Int) (r1 : List Int) (r2 : Int) (w : World) (h : chords_Vector.f k a0 a1 = some (r1, r2)) :
    Calls Tryd.prog 23 #[.int .i64 a0, .int .i64 a1] w fun e w' => ∃ v0_ : Value, e = .returned (.tuple #[v0_, .int .i64 r2]) ∧ Kd.R (Kd.int .i64) 3 w' w.heap.size (fun _ => True) v0_ r1 ∧ Below w.heap.size w w' := by
  have HB := Aside0.mk (Below.refl w.heap.size w)
  have H : ((chords_circle_valid.f a0 (([a1] : List Int))).bind fun t1004 => (if t1004 = true then ((chords_circle_vector.f k a0 a1).bind fun t1005 => (some (t1005, 0))) else (some (([] : List Int), 2)))) = some (r1, r2) := h
  clear h
  obtain ⟨y1001, hy1001⟩ : ∃ y_ : List Int, y_ = (([a1] : List Int)) := ⟨_, rfl⟩
  replace H : ((chords_circle_valid.f a0 y1001).bind fun t1004 => (if t1004 = true then ((chords_circle_vector.f k a0 a1).bind fun t1005 => (some (t1005, 0))) else (some (([] : List Int), 2)))) = some (r1, r2) := by first | (rw [hy1001]; with_reducible exact H) | (have H2_ := (Option.bind_some _ _).symm.trans H; rw [hy1001]; with_reducible exact H2_) | (have H2_ := (Option.bind_some _ _).symm.trans H; with_reducible exact H2_) | with_reducible exact H | (rw [hy1001]; exact H) | exact H
  have Ny1001 := Aside0.mk hy1001
  clear hy1001
  replace H := Option.bind_eq_some_iff.mp H
  obtain ⟨t1004, A30, H⟩ := H
  replace H : (if t1004 = true then ((chords_circle_vector.f k a0 a1).bind fun t1005 => (some (t1005, 0))) else (some (([] : List Int), 2))) = some (r1, r2) := H
  have A3 := Aside0.mk A30
  clear A30
  by_cases c4 : t1004 = true
  · subst c4
    have H1 : ((chords_circle_vector.f k a0 a1).bind fun t1005 => (some (t1005, 0))) = some (r1, r2) := by rw [if_pos rfl] at H; exact H
    clear H
    have H := H1
    clear H1
    replace H := Option.bind_eq_some_iff.mp H
    obtain ⟨t1005, A50, H⟩ := H
    replace H : (some (t1005, 0)) = some (r1, r2) := H
    have A5 := Aside0.mk A50
    clear A50
    simp only [Option.some.injEq, Prod.mk.injEq] at H
    obtain ⟨rfl, rfl⟩ := H
    go_enter Tryd.func23, Tryd.ntmps23
    go_wp2_with (first | ((with_reducible refine gate_dst (N := 8) rfl ?_); refine Kd.R_lit (Kd.int .i64) _ 3 ?hg (N := 8) ?hd (xs := ([a1] : List Int)) (inner := [.int .i64 a1]) (ok := fun _ => True) (okp := fun _ => True) ?hr ?hp (fun _ hk => hk) trivial (Below.refl _ _) (Nat.le_refl _) (by simp) ?_; (case hd => rfl); (case hg => rfl); (case hr => first | (go_simp; done) | (go_simp; rfl)); (case hp => exact (Reps.one (show Kd.M (Kd.int .i64) _ _ _ a1 [.int .i64 a1] from rfl) (Reps.none _ _))); intro v1002 w6 ho7 hb hg_ hnew_; clear hg_ hnew_; (first | rw [← Ny1001.out] at ho7 | (simp only [Int.reduceToNat] at ho7; rw [← Ny1001.out] at ho7)); have n0_ := Aside0.mk (Kd.R_lower ho7 (below_size (by repeat (first | (with_reducible first | exact HB.out | apply below_alloc | apply pw_below_drewN | apply below_drew1) | exact HB.out)))); have n1_ := Aside0.mk (below_step (by repeat (first | (with_reducible first | exact HB.out | apply below_alloc | apply pw_below_drewN | apply below_drew1) | exact HB.out)) hb); clear HB; have HO1003 := n0_; have HB := n1_; clear n0_ n1_; clear hb ho7; obtain ⟨Ao8, co8, eo8⟩ := Kd.R_slice HO1003.out; subst eo8) | ((with_reducible refine gate_callee (f := 41) rfl ?_); refine goesL_ (some 9) rfl rfl Tryd.func41 (by kernel_rfl) rfl #[.int .i64 a0, .slice Ao8 y1001.length co8] rfl (by (try simp only [List.map_toArray, List.map_cons, List.map_nil]); first | done | rfl | (simp only [List.length_drop, List.length_take]; rfl)) ?_; (with_reducible refine (chords_circle_valid.calls a0 _ _ y1001 true _ ?side1 ?side2 A3.out).mono ?_); (case side1 => repeat (first | exact (Kd.R_reads' HO1003.out).2.2 | (with_reducible refine Kd.C_alloc ?_ _) | (with_reducible refine Kd.C_drewN ?_ _) | (with_reducible refine Kd.C_drew ?_))); (case side2 => exact (Kd.R_reads' HO1003.out).2.1); rintro e w9 ⟨rfl, hb⟩; refine ⟨_, rfl, ?_⟩; have n0_ := Aside0.mk (Kd.R_below (by (with_reducible repeat (first | apply Kd.R_alloc | apply Kd.R_drewN | apply Kd.R_drew)); exact HO1003.out) hb); have n1_ := Aside0.mk (below_step (by repeat (first | (with_reducible first | exact HB.out | apply below_alloc | apply pw_below_drewN | apply below_drew1) | exact HB.out)) hb); clear HO1003; clear HB; have HO1003 := n0_; have HB := n1_; clear n0_ n1_; (try clear hb); (try clear hb2); (try clear hk); (try clear hi)) | ((with_reducible refine gate_callee (f := 49) rfl ?_); refine goesL_ (some 13) rfl rfl Tryd.func49 (by kernel_rfl) rfl #[.int .i64 a0, .int .i64 a1] rfl (by (try simp only [List.map_toArray, List.map_cons, List.map_nil]); first | done | rfl | (simp only [List.length_drop, List.length_take]; rfl)) ?_; (with_reducible refine (chords_circle_vector.calls k a0 a1 t1005 _ A5.out).mono ?_); rintro e w10 ⟨v1006, rfl, ho0, hb⟩; refine ⟨_, rfl, ?_⟩; have n0_ := Aside0.mk (Kd.R_elder' (by (with_reducible repeat (first | apply Kd.R_alloc | apply Kd.R_drewN | apply Kd.R_drew)); exact HO1003.out) (Kd.R_base ho0) hb); have n1_ := Aside0.mk (Kd.R_lower (Kd.R_new' ho0 (Kd.R_lt (by (with_reducible repeat (first | apply Kd.R_alloc | apply Kd.R_drewN | apply Kd.R_drew)); exact HO1003.out))) (below_size (by repeat (first | (with_reducible first | exact HB.out | apply below_alloc | apply pw_below_drewN | apply below_drew1) | exact HB.out)))); have n2_ := Aside0.mk (below_step (by repeat (first | (with_reducible first | exact HB.out | apply below_alloc | apply pw_below_drewN | apply below_drew1) | exact HB.out)) hb); clear HO1003; clear HB; have HO1003 := n0_; have HO1007 := n1_; have HB := n2_; clear n0_ n1_ n2_; (try clear hb); (try clear hb2); (try clear hk); (try clear hi); (try clear ho0)))
    go_ret2
    exact ⟨_, by first | rfl | (simp [errW_none, errW_some] <;> rfl) | (simp [*, errW_none, errW_some] <;> rfl), by (with_reducible repeat (first | apply Kd.R_alloc | apply Kd.R_drewN | apply Kd.R_drew)); exact Kd.R_mono HO1007.out (fun _ hk => trivial), by repeat (first | (with_reducible first | exact HB.out | apply below_alloc | apply pw_below_drewN | apply below_drew1) | exact HB.out)⟩
  · replace c4 := Bool.eq_false_iff.mpr c4
    subst c4
    have H1 : (some (([] : List Int), 2)) = some (r1, r2) := by rw [if_neg (show ¬ (false = true) by decide)] at H; exact H
    clear H
    have H := H1
    clear H1
    simp only [Option.some.injEq, Prod.mk.injEq] at H
    obtain ⟨rfl, rfl⟩ := H
    go_enter Tryd.func23, Tryd.ntmps23
    go_wp2_with (first | ((with_reducible refine gate_dst (N := 8) rfl ?_); refine Kd.R_lit (Kd.int .i64) _ 3 ?hg (N := 8) ?hd (xs := ([a1] : List Int)) (inner := [.int .i64 a1]) (ok := fun _ => True) (okp := fun _ => True) ?hr ?hp (fun _ hk => hk) trivial (Below.refl _ _) (Nat.le_refl _) (by simp) ?_; (case hd => rfl); (case hg => rfl); (case hr => first | (go_simp; done) | (go_simp; rfl)); (case hp => exact (Reps.one (show Kd.M (Kd.int .i64) _ _ _ a1 [.int .i64 a1] from rfl) (Reps.none _ _))); intro v1002 w11 ho12 hb hg_ hnew_; clear hg_ hnew_; (first | rw [← Ny1001.out] at ho12 | (simp only [Int.reduceToNat] at ho12; rw [← Ny1001.out] at ho12)); have n0_ := Aside0.mk (Kd.R_lower ho12 (below_size (by repeat (first | (with_reducible first | exact HB.out | apply below_alloc | apply pw_below_drewN | apply below_drew1) | exact HB.out)))); have n1_ := Aside0.mk (below_step (by repeat (first | (with_reducible first | exact HB.out | apply below_alloc | apply pw_below_drewN | apply below_drew1) | exact HB.out)) hb); clear HB; have HO1003 := n0_; have HB := n1_; clear n0_ n1_; clear hb ho12; obtain ⟨Ao13, co13, eo13⟩ := Kd.R_slice HO1003.out; subst eo13) | ((with_reducible refine gate_callee (f := 41) rfl ?_); refine goesL_ (some 9) rfl rfl Tryd.func41 (by kernel_rfl) rfl #[.int .i64 a0, .slice Ao13 y1001.length co13] rfl (by (try simp only [List.map_toArray, List.map_cons, List.map_nil]); first | done | rfl | (simp only [List.length_drop, List.length_take]; rfl)) ?_; (with_reducible refine (chords_circle_valid.calls a0 _ _ y1001 false _ ?side1 ?side2 A3.out).mono ?_); (case side1 => repeat (first | exact (Kd.R_reads' HO1003.out).2.2 | (with_reducible refine Kd.C_alloc ?_ _) | (with_reducible refine Kd.C_drewN ?_ _) | (with_reducible refine Kd.C_drew ?_))); (case side2 => exact (Kd.R_reads' HO1003.out).2.1); rintro e w14 ⟨rfl, hb⟩; refine ⟨_, rfl, ?_⟩; have n0_ := Aside0.mk (Kd.R_below (by (with_reducible repeat (first | apply Kd.R_alloc | apply Kd.R_drewN | apply Kd.R_drew)); exact HO1003.out) hb); have n1_ := Aside0.mk (below_step (by repeat (first | (with_reducible first | exact HB.out | apply below_alloc | apply pw_below_drewN | apply below_drew1) | exact HB.out)) hb); clear HO1003; clear HB; have HO1003 := n0_; have HB := n1_; clear n0_ n1_; (try clear hb); (try clear hb2); (try clear hk); (try clear hi)))
    go_ret2
    exact ⟨_, by first | rfl | (simp [errW_none, errW_some] <;> rfl) | (simp [*, errW_none, errW_some] <;> rfl), by first | exact Kd.R_nil _ _ _ _ _ | exact Kd.N_nil _ _ _ _ _ | exact Kd.V_nil _ _ _ _ _ | exact Kd.Q_nil _ _ _ _ _ | exact Kd.S_nil _ _ _ _ _, by repeat (first | (with_reducible first | exact HB.out | apply below_alloc | apply pw_below_drewN | apply below_drew1) | exact HB.out)⟩

end Go.Proofs.YtnjmiodnkjabgaaDoor.P
namespace Go.Proofs.YtnjmiodnkjabgaaDoor.P
open Go.RowKit Go.Proofs.YtnjmiodnkjabgaaDoorW.PrintWords Go.Proofs.YtnjmiodnkjabgaaDoorW.PrintLast Go.Proofs.YtnjmiodnkjabgaaDoorW.PrintMore
attribute [local go_sem] max2_int min2_int max_two min_two max_three min_three max_four min_four   -- for this text's walks alone
set_option linter.unusedVariables false
set_option linter.unusedSimpArgs false

/-! math/bits.OnesCount of a set of at most 24 numbers -/
theorem u64_id {n : Int} (h0 : 0 ≤ n) (h1 : n < 18446744073709551616) : IntKind.u64.wrap n = n := by
  simp only [IntKind.wrap, IntKind.bits, IntKind.signed]
  simp
  omega
theorem and_u64 {a b : Nat} (ha : a < 2 ^ 64) (hb : b < 2 ^ 64) : Go.bits .and .u64 (a : Int) (b : Int) = ((a &&& b : Nat) : Int) := by
  refine (bits_nat .u64 64 (by decide) (fun n h0 h1 => u64_id h0 ?_) a b ha hb).1
  have : (2 : Int) ^ 64 = 18446744073709551616 := by decide
  omega
theorem pop1_eq {a : Nat} (ha : a < 2 ^ 24) : IntKind.u64.wrap ((Go.bits .and .u64 ((a : Int) / 2) 6148914691236517205) + (Go.bits .and .u64 (a : Int) 6148914691236517205)) = (pop1 a : Int) ∧ pop1 a < 2 ^ 25 := by
  have e0 : ((a : Int) / 2) = ((a / 2 : Nat) : Int) := by omega
  have h1 := and_u64 (a := a / 2) (b := 6148914691236517205) (by omega) (by decide)
  have h2 := and_u64 (a := a) (b := 6148914691236517205) (by omega) (by decide)
  have l1 : a / 2 &&& 6148914691236517205 ≤ a / 2 := Nat.and_le_left
  have l2 : a &&& 6148914691236517205 ≤ a := Nat.and_le_left
  rw [show ((6148914691236517205 : Nat) : Int) = 6148914691236517205 from rfl] at h1 h2
  rw [e0, h1, h2]
  unfold pop1
  have h24 : (2 : Nat) ^ 24 = 16777216 := by decide
  have h25 : (2 : Nat) ^ 25 = 33554432 := by decide
  exact ⟨by rw [u64_id (by omega) (by omega)]; omega, by omega⟩
theorem pop2_eq {a : Nat} (ha : a < 2 ^ 25) : IntKind.u64.wrap ((Go.bits .and .u64 ((a : Int) / 4) 3689348814741910323) + (Go.bits .and .u64 (a : Int) 3689348814741910323)) = (pop2 a : Int) ∧ pop2 a < 2 ^ 26 := by
  have e0 : ((a : Int) / 4) = ((a / 4 : Nat) : Int) := by omega
  have h25 : (2 : Nat) ^ 25 = 33554432 := by decide
  have h26 : (2 : Nat) ^ 26 = 67108864 := by decide
  have h1 := and_u64 (a := a / 4) (b := 3689348814741910323) (by omega) (by decide)
  have h2 := and_u64 (a := a) (b := 3689348814741910323) (by omega) (by decide)
  have l1 : a / 4 &&& 3689348814741910323 ≤ a / 4 := Nat.and_le_left
  have l2 : a &&& 3689348814741910323 ≤ a := Nat.and_le_left
  rw [show ((3689348814741910323 : Nat) : Int) = 3689348814741910323 from rfl] at h1 h2
  rw [e0, h1, h2]
  unfold pop2
  exact ⟨by rw [u64_id (by omega) (by omega)]; omega, by omega⟩
theorem pop3_eq {a : Nat} (ha : a < 2 ^ 26) : Go.bits .and .u64 (IntKind.u64.wrap ((a : Int) / 16 + a)) 1085102592571150095 = (pop3 a : Int) ∧ pop3 a < 2 ^ 27 := by
  have h26 : (2 : Nat) ^ 26 = 67108864 := by decide
  have h27 : (2 : Nat) ^ 27 = 134217728 := by decide
  have e0 : IntKind.u64.wrap ((a : Int) / 16 + a) = ((a / 16 + a : Nat) : Int) := by rw [u64_id (by omega) (by omega)]; omega
  have h1 := and_u64 (a := a / 16 + a) (b := 1085102592571150095) (by omega) (by decide)
  have l1 : a / 16 + a &&& 1085102592571150095 ≤ a / 16 + a := Nat.and_le_left
  rw [show ((1085102592571150095 : Nat) : Int) = 1085102592571150095 from rfl] at h1
  rw [e0, h1]
  unfold pop3
  exact ⟨rfl, by omega⟩
theorem pop4_eq {a : Nat} (ha : a < 2 ^ 27) : IntKind.u64.wrap ((a : Int) + (a : Int) / 256) = (pop4 a : Int) ∧ pop4 a < 2 ^ 28 := by
  have h27 : (2 : Nat) ^ 27 = 134217728 := by decide
  have h28 : (2 : Nat) ^ 28 = 268435456 := by decide
  unfold pop4
  exact ⟨by rw [u64_id (by omega) (by omega)]; omega, by omega⟩
theorem pop5_eq {a : Nat} (ha : a < 2 ^ 28) : IntKind.u64.wrap ((a : Int) + (a : Int) / 65536) = (pop5 a : Int) ∧ pop5 a < 2 ^ 29 := by
  have h28 : (2 : Nat) ^ 28 = 268435456 := by decide
  have h29 : (2 : Nat) ^ 29 = 536870912 := by decide
  unfold pop5
  exact ⟨by rw [u64_id (by omega) (by omega)]; omega, by omega⟩
theorem pop6_eq {a : Nat} (ha : a < 2 ^ 29) : IntKind.u64.wrap ((a : Int) + (a : Int) / 4294967296) = (pop6 a : Int) ∧ pop6 a < 2 ^ 30 := by
  have h29 : (2 : Nat) ^ 29 = 536870912 := by decide
  have h30 : (2 : Nat) ^ 30 = 1073741824 := by decide
  unfold pop6
  exact ⟨by rw [u64_id (by omega) (by omega)]; omega, by omega⟩
theorem OnesCount64_f {a : Nat} (ha : a < 2 ^ 24) : bits_OnesCount64.f (a : Int) = some (pop64 a : Int) := by
  obtain ⟨e1, l1⟩ := pop1_eq ha
  obtain ⟨e2, l2⟩ := pop2_eq l1
  obtain ⟨e3, l3⟩ := pop3_eq l2
  obtain ⟨e4, l4⟩ := pop4_eq l3
  obtain ⟨e5, l5⟩ := pop5_eq l4
  obtain ⟨e6, l6⟩ := pop6_eq l5
  unfold bits_OnesCount64.f
  simp only [e1, e2, e3, e4, e5, e6]
  have h30 : (2 : Nat) ^ 30 = 1073741824 := by decide
  have h63 : (2 : Nat) ^ 63 = 9223372036854775808 := by decide
  rw [wrap_id (by omega) (by omega)]
  have h := and_i64 (a := pop6 (pop5 (pop4 (pop3 (pop2 (pop1 a)))))) (b := 127) (by omega) (by decide)
  rw [show ((127 : Nat) : Int) = 127 from rfl] at h
  rw [h]
  rfl
theorem OnesCount_f {n a : Nat} (hn : n ≤ 24) (ha : a < 2 ^ n) : bits_OnesCount.f (IntKind.u64.wrap (a : Int)) = some (chSize n a : Int) := by
  have h24 : a < 2 ^ 24 := Nat.lt_of_lt_of_le ha (Nat.pow_le_pow_right (by omega) hn)
  have e : (2 : Nat) ^ 24 = 16777216 := by decide
  rw [u64_id (by omega) (by omega)]
  unfold bits_OnesCount.f
  rw [OnesCount64_f h24, pop64_cnt hn ha, chSize_bits]
  rfl

end Go.Proofs.YtnjmiodnkjabgaaDoor.P
namespace Go.Proofs.YtnjmiodnkjabgaaDoor.P
open Go.RowKit Go.Proofs.YtnjmiodnkjabgaaDoorW.PrintWords Go.Proofs.YtnjmiodnkjabgaaDoorW.PrintLast Go.Proofs.YtnjmiodnkjabgaaDoorW.PrintMore
attribute [local go_sem] max2_int min2_int max_two min_two max_three min_three max_four min_four   -- for this text's walks alone
set_option linter.unusedVariables false
set_option linter.unusedSimpArgs false

/-! what the functions on chords come to -/
def ValidC (n c : Int) : Prop := 2 ≤ n ∧ n ≤ 16 ∧ 0 ≤ c ∧ c < 2 ^ n.toNat
instance (n c : Int) : Decidable (ValidC n c) := by unfold ValidC; infer_instance
theorem shl_n {n : Int} (h0 : 0 ≤ n) (h : n ≤ 62) : shl .i64 1 n = 2 ^ n.toNat := by
  obtain ⟨m, rfl⟩ := Int.eq_ofNat_of_zero_le h0
  rw [shl1_i64 (by omega), pow_cast, Int.toNat_natCast]
theorem badChord_iff {n c : Int} (h2 : 2 ≤ n) (h16 : n ≤ 16) : badChord n c = false ↔ ValidC n c := by
  unfold badChord ValidC
  rw [shl_n (by omega) (by omega), Bool.or_eq_false_iff, decide_eq_false_iff_not, decide_eq_false_iff_not]
  omega
theorem valid1_f (n c : Int) : chords_circle_valid.f n [c] = some (decide (ValidC n c)) := by
  unfold chords_circle_valid.f
  by_cases h2 : n ≥ 2
  · by_cases h16 : n ≤ 16
    · rw [if_pos h2, if_pos h16, if_pos (by simp)]
      congr 1
      have := badChord_iff (c := c) h2 h16
      rw [Bool.eq_iff_iff]
      simp only [List.any_cons, List.any_nil, Bool.or_false, Bool.not_eq_true', decide_eq_true_eq]
      exact this
    · rw [if_pos h2, if_neg h16]
      have : ¬ ValidC n c := fun h => h16 h.2.1
      simp [this]
  · rw [if_neg h2]
    have : ¬ ValidC n c := fun h => h2 h.1
    simp [this]
theorem valid2_f (n a b : Int) : chords_circle_valid.f n [a, b] = some (decide (ValidC n a ∧ ValidC n b)) := by
  unfold chords_circle_valid.f
  by_cases h2 : n ≥ 2
  · by_cases h16 : n ≤ 16
    · rw [if_pos h2, if_pos h16, if_pos (by simp)]
      congr 1
      have h1 := badChord_iff (c := a) h2 h16
      have h2 := badChord_iff (c := b) h2 h16
      rw [Bool.eq_iff_iff]
      simp only [List.any_cons, List.any_nil, Bool.or_false, Bool.not_eq_true', decide_eq_true_eq, Bool.or_eq_false_iff]
      rw [h1, h2]
    · rw [if_pos h2, if_neg h16]
      have : ¬ (ValidC n a ∧ ValidC n b) := fun h => h16 h.1.2.1
      simp [this]
  · rw [if_neg h2]
    have : ¬ (ValidC n a ∧ ValidC n b) := fun h => h2 h.1.1
    simp [this]
theorem refValid_f (n c : Int) : sackbutref01_Valid.f n c = some (decide (ValidC n c)) := by
  unfold sackbutref01_Valid.f
  by_cases h2 : n ≥ 2
  · by_cases h16 : n ≤ 16
    · by_cases h0 : c ≥ 0
      · rw [if_pos h2, if_pos h16, if_pos h0, if_pos (by omega), shl_n (by omega) (by omega)]
        congr 1
        rw [decide_eq_decide]
        unfold ValidC
        omega
      · rw [if_pos h2, if_pos h16, if_neg h0]
        have : ¬ ValidC n c := fun h => h0 h.2.2.1
        simp [this]
    · rw [if_pos h2, if_neg h16]
      have : ¬ ValidC n c := fun h => h16 h.2.1
      simp [this]
  · rw [if_neg h2]
    have : ¬ ValidC n c := fun h => h2 h.1
    simp [this]
theorem validC_nat {n c : Int} (h : ValidC n c) : ∃ N C : Nat, n = N ∧ c = C ∧ 2 ≤ N ∧ N ≤ 16 ∧ C < 2 ^ N := by
  obtain ⟨h1, h2, h3, h4⟩ := h
  obtain ⟨N, rfl⟩ := Int.eq_ofNat_of_zero_le (show 0 ≤ n by omega)
  obtain ⟨C, rfl⟩ := Int.eq_ofNat_of_zero_le h3
  rw [Int.toNat_natCast, ← pow_cast] at h4
  exact ⟨N, C, rfl, rfl, by omega, by omega, by omega⟩
theorem pow16 {n : Nat} (h : n ≤ 16) : 2 ^ n ≤ 65536 := by
  have : 2 ^ n ≤ 2 ^ 16 := Nat.pow_le_pow_right (by omega) h
  omega
theorem count_f {n a : Nat} (hn : n ≤ 24) (ha : a < 2 ^ n) : chords_count.f (a : Int) = some (chSize n a : Int) := by
  unfold chords_count.f
  rw [OnesCount_f hn ha]
  rfl
theorem move_f {n c : Nat} (k : Int) (hn : 1 ≤ n) (hn2 : n ≤ 24) (hc : c < 2 ^ n) : chords_circle_move.f (n : Int) (c : Int) k = some (moveN n c (k % n).toNat : Int) := by
  unfold chords_circle_move.f
  rw [if_neg (by omega), tmod_mod (by omega) (by omega)]
  have h0 := Int.emod_nonneg k (show (n : Int) ≠ 0 by omega)
  have h1 := Int.emod_lt_of_pos k (show (0 : Int) < n by omega)
  obtain ⟨j, hj⟩ := Int.eq_ofNat_of_zero_le h0
  rw [hj] at h1 ⊢
  have hjn : j < n := by omega
  have hw : wrap64 ((n : Int) - (j : Int)) = ((n - j : Nat) : Int) := by rw [wrap_id (by omega) (by omega)]; omega
  have hp : 2 ^ n ≤ 2 ^ 24 := Nat.pow_le_pow_right (by omega) hn2
  have hpj : 2 ^ j ≤ 2 ^ 24 := Nat.pow_le_pow_right (by omega) (by omega)
  have h24 : (2 : Nat) ^ 24 = 16777216 := by decide
  have h63 : (2 : Nat) ^ 63 = 9223372036854775808 := by decide
  have hm : c * 2 ^ j < 2 ^ 63 := by
    have : c * 2 ^ j ≤ 16777216 * 16777216 := Nat.mul_le_mul (by omega) (by omega)
    omega
  have hw2 : wrap64 (shl .i64 1 (n : Int) - 1) = ((2 ^ n - 1 : Nat) : Int) := by
    rw [shl1_i64 (by omega), wrap_id (by omega) (by omega)]
    have := Nat.two_pow_pos n
    omega
  have hd : c / 2 ^ (n - j) < 2 ^ 63 := Nat.lt_of_le_of_lt (Nat.div_le_self _ _) (by omega)
  have hor : c * 2 ^ j ||| c / 2 ^ (n - j) < 2 ^ 63 := Nat.or_lt_two_pow hm hd
  rw [hw, if_pos (by omega), if_pos (by omega), if_pos (by omega), hw2, shl_i64 (by omega) hm, shr_i64 _ _ (by omega), or_i64 hm hd, and_i64 hor (by omega), Int.toNat_natCast]
  unfold moveN
  rfl
theorem and_chord {n a b : Nat} (hn : n ≤ 24) (ha : a < 2 ^ n) (hb : b < 2 ^ n) : Go.bits .and .i64 (a : Int) (b : Int) = ((a &&& b : Nat) : Int) := by
  have hp : 2 ^ n ≤ 2 ^ 24 := Nat.pow_le_pow_right (by omega) hn
  have h24 : (2 : Nat) ^ 24 = 16777216 := by decide
  have h63 : (2 : Nat) ^ 63 = 9223372036854775808 := by decide
  exact and_i64 (by omega) (by omega)
theorem common_f {n a b : Nat} {d : Nat} (hn : 1 ≤ n) (hn2 : n ≤ 24) (ha : a < 2 ^ n) (hb : b < 2 ^ n) (hd : d < n) :
    ((chords_circle_move.f (n : Int) (b : Int) (d : Int)).bind fun t => chords_count.f (Go.bits .and .i64 (a : Int) t)) = some (common n a b d : Int) := by
  rw [move_f (d : Int) hn hn2 hb]
  have : ((d : Int) % (n : Int)).toNat = d := by rw [Int.emod_eq_of_lt (by omega) (by omega)]; omega
  rw [this, Option.bind_some, and_chord hn2 ha (moveN_lt n b d), count_f hn2 (Nat.lt_of_le_of_lt Nat.and_le_left ha), chSize_and_move hb hd]
theorem half_f (n : Nat) (hn : n ≤ 24) : wrap64 (Int.tdiv (n : Int) 2) = ((n / 2 : Nat) : Int) := by
  rw [Int.tdiv_eq_ediv_of_nonneg (by omega), wrap_id (by omega) (by omega)]; omega
theorem vector_loop {n c : Nat} (hn : 2 ≤ n) (hn2 : n ≤ 24) (hc : c < 2 ^ n) : ∀ (m d : Nat), d + m = n / 2 →
    Ev (fun k => chords_circle_vector.l0 k (n : Int) (c : Int) ((List.range d).map (fun i => (vecAt n c (i + 1) : Int))) ((d : Int) + 1)) (vecOf n c) := by
  intro m
  induction m with
  | zero =>
    intro d hd
    refine Ev.succ ?_
    simp only [chords_circle_vector.l0, half_f n hn2, if_neg (show ¬ (d : Int) + 1 ≤ ((n / 2 : Nat) : Int) by omega)]
    have : d = n / 2 := by omega
    rw [this]
    rw [vecOf_eq]
    exact Ev.some _
  | succ m ih =>
    intro d hd
    refine Ev.succ ?_
    have hcm := common_f (n := n) (a := c) (b := c) (d := d + 1) (by omega) hn2 hc hc (by omega)
    rw [show ((d + 1 : Nat) : Int) = (d : Int) + 1 by omega] at hcm
    obtain ⟨t, ht, ht2⟩ := Option.bind_eq_some_iff.1 hcm
    have hw : wrap64 (2 * ((d : Int) + 1)) = 2 * ((d : Int) + 1) := wrap_id (by omega) (by omega)
    have hw2 : wrap64 ((d : Int) + 1 + 1) = ((d + 1 : Nat) : Int) + 1 := by rw [wrap_id (by omega) (by omega)]; omega
    have hlen : ((List.range d).map (fun i => (vecAt n c (i + 1) : Int))).length < 17592186044416 := by simp; omega
    have hle := common_le n c c (d + 1)
    have hdiv : wrap64 (Int.tdiv (common n c c (d + 1) : Int) 2) = ((common n c c (d + 1) / 2 : Nat) : Int) := by
      rw [Int.tdiv_eq_ediv_of_nonneg (by omega), wrap_id (by omega) (by omega)]; omega
    simp only [chords_circle_vector.l0, half_f n hn2, if_pos (show (d : Int) + 1 ≤ ((n / 2 : Nat) : Int) by omega)]
    refine Ev.bind_some ht ?_
    refine Ev.bind_some ht2 ?_
    simp only [hw, hw2, if_pos hlen, hdiv]
    have go : ∀ v : Nat, v = vecAt n c (d + 1) → Ev (fun k => chords_circle_vector.l0 k (n : Int) (c : Int) ((List.range d).map (fun i => (vecAt n c (i + 1) : Int)) ++ [(v : Int)]) (((d + 1 : Nat) : Int) + 1)) (vecOf n c) := by
      rintro v rfl
      have := ih (d + 1) (by omega)
      simp only [List.range_succ, List.map_append, List.map_cons, List.map_nil] at this
      exact this
    refine Ev.ite (fun e => go _ ?_) (fun e => go _ ?_)
    · unfold vecAt; rw [if_pos (by omega)]
    · unfold vecAt; rw [if_neg (by omega)]
theorem vector_ev {n c : Nat} (hn : 2 ≤ n) (hn2 : n ≤ 24) (hc : c < 2 ^ n) : Ev (fun k => chords_circle_vector.f k (n : Int) (c : Int)) (vecOf n c) := by
  have := vector_loop hn hn2 hc (n / 2) 0 (by omega)
  simpa [chords_circle_vector.f] using this
theorem Vector_ev (n c : Int) : Ev (fun k => chords_Vector.f k n c) (if ValidC n c then (vecOf n.toNat c.toNat, 0) else ([], 2)) := by
  unfold chords_Vector.f
  refine Ev.bind_some (valid1_f n c) ?_
  by_cases h : ValidC n c
  · simp only [h, decide_true, if_true]
    obtain ⟨N, C, rfl, rfl, h2, h16, hC⟩ := validC_nat h
    simp only [Int.toNat_natCast]
    exact Ev.bind (vector_ev h2 (by omega) hC) (Ev.some _)
  · simp only [h, decide_false, Bool.false_eq_true, if_false]
    exact Ev.some _
theorem Size_loop (n : Nat) (hn : n ≤ 24) : ∀ (m a : Nat), a < 2 ^ n → chSize n a = m → ∀ c : Nat, c + m ≤ 1000 →
    Ev (fun k => sackbutref01_Size.l0 k (a : Int) (c : Int)) ((c + m : Nat) : Int) := by
  intro m
  induction m with
  | zero =>
    intro a ha hm c hc
    have h0 : a = 0 := eq_zero_of_chSize ha hm
    subst h0
    refine Ev.succ ?_
    simp only [sackbutref01_Size.l0, if_neg (show ¬ ((0 : Nat) : Int) > 0 by omega)]
    exact Ev.some _
  | succ m ih =>
    intro a ha hm c hc
    have hpos : 0 < a := by
      rcases Nat.eq_zero_or_pos a with h | h
      · subst h
        have := chSize_zero n
        omega
      · exact h
    have hp : 2 ^ n ≤ 2 ^ 24 := Nat.pow_le_pow_right (by omega) hn
    have h24 : (2 : Nat) ^ 24 = 16777216 := by decide
    have hw : wrap64 ((a : Int) - 1) = ((a - 1 : Nat) : Int) := by rw [wrap_id (by omega) (by omega)]; omega
    have hw2 : wrap64 ((c : Int) + 1) = ((c + 1 : Nat) : Int) := by rw [wrap_id (by omega) (by omega)]; omega
    refine Ev.succ ?_
    simp only [sackbutref01_Size.l0, if_pos (show (a : Int) > 0 by omega), hw, hw2, and_chord hn ha (show a - 1 < 2 ^ n by omega)]
    have := ih (a &&& (a - 1)) (Nat.lt_of_le_of_lt Nat.and_le_left ha) (by have := chSize_drop ha hpos; omega) (c + 1) (by omega)
    rw [show c + (m + 1) = c + 1 + m by omega]
    exact this
theorem Size_ev {n a : Nat} (hn : n ≤ 24) (ha : a < 2 ^ n) : Ev (fun k => sackbutref01_Size.f k (a : Int)) (chSize n a : Int) := by
  have := Size_loop n hn (chSize n a) a ha rfl 0 (by have := chSize_le n a; omega)
  simpa [sackbutref01_Size.f] using this
theorem awake_f : sackbutlaw01_awake.f = some true := by
  unfold sackbutlaw01_awake.f chords_Move.f
  have h : ValidC 4 3 := by decide
  rw [valid1_f]
  simp only [h, decide_true, Option.bind_some, if_true]
  have := move_f (n := 4) (c := 3) 1 (by omega) (by omega) (by decide)
  have e : moveN 4 3 ((1 : Int) % (4 : Nat)).toNat = 6 := by unfold moveN; decide
  rw [e] at this
  rw [show chords_circle_move.f 4 3 1 = some 6 from this]
  rfl

end Go.Proofs.YtnjmiodnkjabgaaDoor.P
namespace Go.Proofs.YtnjmiodnkjabgaaDoor.P
open Go.RowKit Go.Proofs.YtnjmiodnkjabgaaDoorW.PrintWords Go.Proofs.YtnjmiodnkjabgaaDoorW.PrintLast Go.Proofs.YtnjmiodnkjabgaaDoorW.PrintMore
attribute [local go_sem] max2_int min2_int max_two min_two max_three min_three max_four min_four   -- for this text's walks alone
set_option linter.unusedVariables false
set_option linter.unusedSimpArgs false

/-! chords.Common -/
noncomputable def comOf (n a b : Nat) : List Int := Seal ((List.range n).map (fun k => (common n a b k : Int)))
theorem comOf_eq (n a b : Nat) : comOf n a b = (List.range n).map (fun k => (common n a b k : Int)) := Seal_eq _
theorem comOf_length (n a b : Nat) : (comOf n a b).length = n := by simp [comOf_eq]
theorem comOf_rd {n a b : Nat} {k : Nat} (hk : k < n) : rd (comOf n a b) (k : Int) = (common n a b k : Int) := by
  rw [rd_nat, List.getD_eq_getElem?_getD, comOf_eq]
  simp [hk]
theorem vecOf_rd {n c : Nat} {i : Nat} (hi : i < n / 2) : rd (vecOf n c) (i : Int) = (vecAt n c (i + 1) : Int) := by
  rw [rd_nat, List.getD_eq_getElem?_getD, vecOf_get hi]
  rfl
theorem Common_loop {n a b : Nat} (hn : 2 ≤ n) (hn2 : n ≤ 16) (ha : a < 2 ^ n) (hb : b < 2 ^ n) : ∀ (m d : Nat), d + m = n →
    Ev (fun k => chords_Common.l0 k (a : Int) (b : Int) (n : Int) ((List.range d).map (fun k => (common n a b k : Int))) (n : Int) (d : Int)) (comOf n a b, 0) := by
  intro m
  induction m with
  | zero =>
    intro d hd
    refine Ev.succ ?_
    simp only [chords_Common.l0, if_neg (show ¬ (d : Int) < (n : Int) by omega)]
    have : d = n := by omega
    rw [this, comOf_eq]
    exact Ev.some _
  | succ m ih =>
    intro d hd
    have p1 : (d : Int) < (n : Int) := by omega
    have p2 : ((List.range d).map (fun k => (common n a b k : Int))).length < 17592186044416 := by rw [List.length_map, List.length_range]; omega
    have hcm := common_f (n := n) (a := a) (b := b) (d := d) (by omega) (by omega) ha hb (by omega)
    obtain ⟨t, ht, ht2⟩ := Option.bind_eq_some_iff.1 hcm
    have hw : wrap64 ((d : Int) + 1) = ((d + 1 : Nat) : Int) := by rw [wrap_id (by omega) (by omega)]; omega
    have go := ih (d + 1) (by omega)
    simp only [List.range_succ, List.map_append, List.map_cons, List.map_nil] at go
    refine Ev.succ ?_
    simp only [chords_Common.l0, if_pos p1]
    refine Ev.bind_some ht ?_
    refine Ev.bind_some ht2 ?_
    simp only [if_pos p2, hw]
    exact go
theorem Common_ev (n a b : Int) : Ev (fun k => chords_Common.f k n a b) (if ValidC n a ∧ ValidC n b then (comOf n.toNat a.toNat b.toNat, 0) else ([], 2)) := by
  unfold chords_Common.f
  refine Ev.bind_some (valid2_f n a b) ?_
  by_cases h : ValidC n a ∧ ValidC n b
  · simp only [h, decide_true, if_true]
    obtain ⟨N, A, rfl, rfl, h2, h16, hA⟩ := validC_nat h.1
    obtain ⟨N', B, e, rfl, _, _, hB⟩ := validC_nat h.2
    obtain rfl : N = N' := by omega
    simp only [Int.toNat_natCast, and_self, if_true]
    exact Common_loop h2 h16 hA hB N 0 (by omega)
  · simp only [h, decide_false, Bool.false_eq_true, if_false]
    exact Ev.some _

end Go.Proofs.YtnjmiodnkjabgaaDoor.P
namespace Go.Proofs.YtnjmiodnkjabgaaDoor.P
open Go.RowKit Go.Proofs.YtnjmiodnkjabgaaDoorW.PrintWords Go.Proofs.YtnjmiodnkjabgaaDoorW.PrintLast Go.Proofs.YtnjmiodnkjabgaaDoorW.PrintMore
attribute [local go_sem] max2_int min2_int max_two min_two max_three min_three max_four min_four   -- for this text's walks alone
set_option linter.unusedVariables false
set_option linter.unusedSimpArgs false

/-! slices.Equal -/
theorem Equal_loop (l0 l1 : List Int) (hlen : l0.length = l1.length) (hb : l0.length < 9223372036854775807) : ∀ (xs ys pre pre1 : List Int), l0 = pre ++ xs → l1 = pre1 ++ ys → pre.length = pre1.length →
    Ev (fun k => slices_Equal_int_int.l0 k l0 l1 (l0.length : Int) (pre.length : Int)) (decide (xs = ys)) := by
  intro xs
  induction xs with
  | nil =>
    intro ys pre pre1 h0 h1 hp
    have hy : ys = [] := by
      have := congrArg List.length h0; have := congrArg List.length h1
      simp at *
      exact List.eq_nil_of_length_eq_zero (by omega)
    subst hy
    refine Ev.succ ?_
    simp only [slices_Equal_int_int.l0, if_neg (mid_end h0)]
    simpa using Ev.some true
  | cons x xs ih =>
    intro ys pre pre1 h0 h1 hp
    cases ys with
    | nil => exfalso; have := congrArg List.length h0; have := congrArg List.length h1; simp at *; omega
    | cons y ys =>
      have r1 : rd l1 (pre.length : Int) = y := by rw [hp]; exact mid_rd h1
      have l1' : (pre.length : Int) < (l1.length : Int) := by rw [hp]; exact mid_lt h1
      refine Ev.succ ?_
      simp only [slices_Equal_int_int.l0, if_pos (mid_lt h0), if_pos (show (0 : Int) ≤ (pre.length : Int) by omega), if_pos l1', mid_rd h0, r1, mid_next h0 hb]
      refine Ev.ite (fun e => ?_) (fun e => ?_)
      · have := ih ys (pre ++ [x]) (pre1 ++ [y]) (mid_mv h0) (mid_mv h1) (by simp [hp])
        simpa [e] using this
      · simpa [e] using Ev.some false
theorem Equal_ev (l0 l1 : List Int) (hb : l0.length < 9223372036854775807) : Ev (fun k => slices_Equal_int_int.f k l0 l1) (decide (l0 = l1)) := by
  unfold slices_Equal_int_int.f
  refine Ev.ite (fun e => ?_) (fun e => ?_)
  · exact Equal_loop l0 l1 (by omega) hb l0 l1 [] [] rfl rfl rfl
  · have : l0 ≠ l1 := fun h => e (by rw [h])
    simpa [this] using Ev.some false


end Go.Proofs.YtnjmiodnkjabgaaDoor.P
namespace Go.Proofs.YtnjmiodnkjabgaaDoor.P
open Go.RowKit Go.Proofs.YtnjmiodnkjabgaaDoorW.PrintWords Go.Proofs.YtnjmiodnkjabgaaDoorW.PrintLast Go.Proofs.YtnjmiodnkjabgaaDoorW.PrintMore
attribute [local go_sem] max2_int min2_int max_two min_two max_three min_three max_four min_four   -- for this text's walks alone
set_option linter.unusedVariables false
set_option linter.unusedSimpArgs false

/-! a chord mapped: what the program and the document say -/
def affN (m t : Int) (n x : Nat) : Nat := ((m * (x : Int) + t) % (n : Int)).toNat
theorem affN_lt {m t : Int} {n : Nat} (hn : 1 ≤ n) (x : Nat) : affN m t n x < n := by
  have h0 := Int.emod_nonneg (m * (x : Int) + t) (show (n : Int) ≠ 0 by omega)
  have h1 := Int.emod_lt_of_pos (m * (x : Int) + t) (show (0 : Int) < n by omega)
  unfold affN; omega
theorem refMod_f {a : Int} {n : Nat} (hn : 1 ≤ n) (hn2 : n ≤ 24) : sackbutref01_mod.f a (n : Int) = some (a % (n : Int)) := by
  unfold sackbutref01_mod.f
  rw [if_neg (by omega), tmod_mod (by omega) (by omega)]
theorem bitC_is {n a x : Nat} (hn : n ≤ 24) (ha : a < 2 ^ n) (hx : x ≤ 64) : (Go.bits .and .i64 (shr .i64 (a : Int) (x : Int)) 1 = 1) ↔ a.testBit x = true := by
  have h24 : (2 : Nat) ^ 24 = 16777216 := by decide
  have h63 : (2 : Nat) ^ 63 = 9223372036854775808 := by decide
  have hp : 2 ^ n ≤ 2 ^ 24 := Nat.pow_le_pow_right (by omega) hn
  exact bit1_i64 (by omega) hx
theorem nextC_w {d : Nat} (h : d ≤ 1000) : wrap64 ((d : Int) + 1) = ((d + 1 : Nat) : Int) := by rw [wrap_id (by omega) (by omega)]; omega
theorem mulC_le {m : Int} {d : Nat} (hm : -24 ≤ m) (hm2 : m ≤ 24) (hd : d ≤ 24) : -576 ≤ m * (d : Int) ∧ m * (d : Int) ≤ 576 := by
  have h1 : m * (d : Int) ≤ 24 * (d : Int) := Int.mul_le_mul_of_nonneg_right hm2 (by omega)
  have h2 : -24 * (d : Int) ≤ m * (d : Int) := Int.mul_le_mul_of_nonneg_right hm (by omega)
  omega
theorem aff_nums {m t : Int} {n d o : Nat} (hn : 1 ≤ n) (hn2 : n ≤ 24) (hd : d ≤ 24) (hm : -24 ≤ m) (hm2 : m ≤ 24) (ht : 0 ≤ t) (ht2 : t ≤ 24) (ho : o < 2 ^ n) :
    wrap64 (wrap64 (m * (d : Int)) + t) = m * (d : Int) + t ∧ (m * (d : Int) + t) % (n : Int) = (affN m t n d : Int) ∧ Go.bits .or .i64 (o : Int) (shl .i64 1 (affN m t n d : Int)) = ((o ||| 2 ^ (affN m t n d) : Nat) : Int) := by
  obtain ⟨h1, h2⟩ := mulC_le hm hm2 hd
  have h0 := Int.emod_nonneg (m * (d : Int) + t) (show (n : Int) ≠ 0 by omega)
  have hl := affN_lt (m := m) (t := t) hn d
  refine ⟨?_, ?_, ?_⟩
  · generalize m * (d : Int) = q at *
    rw [wrap_id (n := q) (by omega) (by omega), wrap_id (by omega) (by omega)]
  · unfold affN; omega
  · rw [shl1_i64 (by omega)]
    have h24 : (2 : Nat) ^ 24 = 16777216 := by decide
    have h63 : (2 : Nat) ^ 63 = 9223372036854775808 := by decide
    have hp : 2 ^ n ≤ 2 ^ 24 := Nat.pow_le_pow_right (by omega) hn2
    have hq : 2 ^ affN m t n d < 2 ^ 24 := Nat.pow_lt_pow_right (by omega) (by omega)
    generalize 2 ^ affN m t n d = p at *
    rw [or_i64 (by omega) (by omega)]
theorem refMapped_loop {n c : Nat} {m t : Int} (hn : 1 ≤ n) (hn2 : n ≤ 24) (hc : c < 2 ^ n) (hm : -24 ≤ m) (hm2 : m ≤ 24) (ht : 0 ≤ t) (ht2 : t ≤ 24) : ∀ (r d : Nat), d + r = n →
    Ev (fun k => sackbutref01_mapped.l0 k (n : Int) (c : Int) m t (accTo (affN m t n) c d : Int) (n : Int) (d : Int)) ((imgN (affN m t n) c : Nat) : Int) := by
  intro r
  induction r with
  | zero =>
    intro d hd
    have hdn : d = n := by omega
    subst hdn
    have p1 : ¬ (d : Int) < (d : Int) := by omega
    refine Ev.succ ?_
    simp only [sackbutref01_mapped.l0, if_neg p1, accTo_all hc]
    exact Ev.some _
  | succ r ih =>
    intro d hd
    have p0 : (0 : Int) ≤ (d : Int) := Int.natCast_nonneg d
    have p1 : (d : Int) < (n : Int) := by omega
    have p2 : (0 : Int) ≤ (affN m t n d : Int) := Int.natCast_nonneg _
    have hbit := bitC_is hn2 hc (show d ≤ 64 by omega)
    have go := ih (d + 1) (by omega)
    obtain ⟨e1, e2, e3⟩ := aff_nums (o := accTo (affN m t n) c d) hn hn2 (show d ≤ 24 by omega) hm hm2 ht ht2 (accTo_lt (fun x => affN_lt hn x) c d)
    have hw := nextC_w (d := d) (by omega)
    refine Ev.succ ?_
    simp only [sackbutref01_mapped.l0, if_pos p1, if_pos p0, hw]
    refine Ev.ite (fun e => ?_) (fun e => ?_)
    · rw [hbit] at e
      rw [e1]
      refine Ev.bind_some (refMod_f hn hn2) ?_
      rw [e2]
      simp only [if_pos p2, e3]
      simp only [accTo, if_pos e] at go
      exact go
    · rw [hbit] at e
      simp only [accTo, if_neg e] at go
      exact go
theorem refMapped_ev {n c : Nat} {m t : Int} (hn : 1 ≤ n) (hn2 : n ≤ 24) (hc : c < 2 ^ n) (hm : -24 ≤ m) (hm2 : m ≤ 24) (ht : 0 ≤ t) (ht2 : t ≤ 24) : Ev (fun k => sackbutref01_mapped.f k (n : Int) (c : Int) m t) ((imgN (affN m t n) c : Nat) : Int) := by
  have := refMapped_loop hn hn2 hc hm hm2 ht ht2 n 0 (by omega)
  simpa [sackbutref01_mapped.f, accTo] using this
/-- moved: the set of all tones k higher -/
theorem img_move {n c j : Nat} (hn : 1 ≤ n) (hj : j < n) (hc : c < 2 ^ n) : imgN (affN 1 (j : Int) n) c = moveN n c j := by
  refine bits_ext (n := n) (imgN_lt hc (fun x => affN_lt hn x)) (moveN_lt n c j) (fun i hi => ?_)
  rw [testBit_moveN hc hj hi, Bool.eq_iff_iff, imgN_bit hc]
  have hv : ∀ x : Nat, affN 1 (j : Int) n x = (x + j) % n := fun x => by
    unfold affN
    rw [Int.one_mul, show (x : Int) + (j : Int) = ((x + j : Nat) : Int) by omega, ← Int.natCast_emod, Int.toNat_natCast]
  simp only [hv]
  constructor
  · rintro ⟨x, hx, he⟩
    have hxn := bit_lt hc hx
    have : (i + (n - j)) % n = x := by
      rw [← he, Nat.mod_add_mod, show x + j + (n - j) = x + n by omega, Nat.add_mod_right, Nat.mod_eq_of_lt hxn]
    rw [this]; exact hx
  · intro h
    refine ⟨_, h, ?_⟩
    rw [Nat.mod_add_mod, show i + (n - j) + j = i + n by omega, Nat.add_mod_right, Nat.mod_eq_of_lt hi]
theorem img_turn {n c : Nat} : imgN (affN (-1) 0 n) c = imgN (toN negTo n) c := by
  have : affN (-1) 0 n = toN negTo n := by
    funext x
    unfold affN toN negTo
    rw [show (-1 : Int) * (x : Int) + 0 = -(x : Int) by omega]
  rw [this]
noncomputable def turnN (n c : Nat) : Nat := imgN (toN negTo n) c
theorem turnN_lt {n c : Nat} (hn : 1 ≤ n) (hc : c < 2 ^ n) : turnN n c < 2 ^ n := imgN_lt hc (fun x => toN_lt hn x)
theorem turn_f {n c : Nat} (hn : 1 ≤ n) (hn2 : n ≤ 24) (hc : c < 2 ^ n) : chords_circle_turn.f (n : Int) (c : Int) = some (turnN n c : Int) := by
  unfold chords_circle_turn.f
  rw [Int.toNat_natCast, Int.toNat_natCast, if_pos ⟨by omega, by omega, by omega, by rw [← pow_cast]; omega⟩, accTo_all hc]
  rfl
theorem refTurn_ev {n c : Nat} (hn : 1 ≤ n) (hn2 : n ≤ 24) (hc : c < 2 ^ n) : Ev (fun k => sackbutref01_Turn.f k (n : Int) (c : Int)) (turnN n c : Int) := by
  have := refMapped_ev (m := -1) (t := 0) hn hn2 hc (by omega) (by omega) (by omega) (by omega)
  rw [img_turn] at this
  unfold sackbutref01_Turn.f
  exact Ev.bind this (Ev.some _)
theorem refMove_ev {n c : Nat} (k : Int) (hn : 1 ≤ n) (hn2 : n ≤ 24) (hc : c < 2 ^ n) : Ev (fun q => sackbutref01_Move.f q (n : Int) (c : Int) k) (moveN n c (k % n).toNat : Int) := by
  have h0 := Int.emod_nonneg k (show (n : Int) ≠ 0 by omega)
  have h1 := Int.emod_lt_of_pos k (show (0 : Int) < n by omega)
  unfold sackbutref01_Move.f
  refine Ev.bind_some (refMod_f hn hn2) ?_
  obtain ⟨j, hj⟩ := Int.eq_ofNat_of_zero_le h0
  rw [hj] at h1 ⊢
  have := refMapped_ev (m := 1) (t := (j : Int)) hn hn2 hc (by omega) (by omega) (by omega) (by omega)
  rw [img_move hn (by omega) hc] at this
  rw [Int.toNat_natCast]
  exact Ev.bind this (Ev.some _)
theorem modC_nat {n d : Nat} (h : d < n) : ((d : Int) % (n : Int)).toNat = d := by rw [Int.emod_eq_of_lt (by omega) (by omega)]; omega

end Go.Proofs.YtnjmiodnkjabgaaDoor.P
namespace Go.Proofs.YtnjmiodnkjabgaaDoor.P
open Go.RowKit Go.Proofs.YtnjmiodnkjabgaaDoorW.PrintWords Go.Proofs.YtnjmiodnkjabgaaDoorW.PrintLast Go.Proofs.YtnjmiodnkjabgaaDoorW.PrintMore
attribute [local go_sem] max2_int min2_int max_two min_two max_three min_three max_four min_four   -- for this text's walks alone
set_option linter.unusedVariables false
set_option linter.unusedSimpArgs false

theorem refCommon_loop {n a b : Nat} (hn : 2 ≤ n) (hn2 : n ≤ 16) (ha : a < 2 ^ n) (hb : b < 2 ^ n) : ∀ (m d : Nat), d + m = n →
    Ev (fun k => sackbutref01_Common.l0 k (n : Int) (a : Int) (b : Int) ((List.range d).map (fun k => (common n a b k : Int))) (n : Int) (d : Int)) (comOf n a b) := by
  intro m
  induction m with
  | zero =>
    intro d hd
    refine Ev.succ ?_
    simp only [sackbutref01_Common.l0, if_neg (show ¬ (d : Int) < (n : Int) by omega)]
    have : d = n := by omega
    rw [this, comOf_eq]
    exact Ev.some _
  | succ m ih =>
    intro d hd
    have p1 : (d : Int) < (n : Int) := by omega
    have hdn : d < n := by omega
    have p2 : ((List.range d).map (fun k => (common n a b k : Int))).length < 17592186044416 := by rw [List.length_map, List.length_range]; omega
    have r1 := refMove_ev (d : Int) (show 1 ≤ n by omega) (show n ≤ 24 by omega) hb
    rw [modC_nat hdn] at r1
    have hand := and_chord (show n ≤ 24 by omega) ha (moveN_lt n b d)
    have hs := Size_ev (n := n) (a := a &&& moveN n b d) (by omega) (Nat.lt_of_le_of_lt Nat.and_le_left ha)
    rw [chSize_and_move hb hdn] at hs
    have hw : wrap64 ((d : Int) + 1) = ((d + 1 : Nat) : Int) := by rw [wrap_id (by omega) (by omega)]; omega
    have go := ih (d + 1) (by omega)
    simp only [List.range_succ, List.map_append, List.map_cons, List.map_nil] at go
    refine Ev.succ ?_
    simp only [sackbutref01_Common.l0, if_pos p1]
    refine Ev.bind r1 ?_
    rw [hand]
    refine Ev.bind hs ?_
    simp only [if_pos p2, hw]
    exact go
theorem refCommon_ev {n a b : Nat} (hn : 2 ≤ n) (hn2 : n ≤ 16) (ha : a < 2 ^ n) (hb : b < 2 ^ n) : Ev (fun k => sackbutref01_Common.f k (n : Int) (a : Int) (b : Int)) (comOf n a b) := by
  have := refCommon_loop hn hn2 ha hb n 0 (by omega)
  simpa [sackbutref01_Common.f] using this
abbrev ftL : List Bool := [false, true]
theorem way_false {n c : Nat} {b : Int} (hn : 1 ≤ n) (hn2 : n ≤ 24) (hc : c < 2 ^ n) (r0 : Int × Bool × Int)
    (h1 : Ev (fun k => chords_Way.l0 k (n : Int) (c : Int) b (n : Int) ftL (ftL.length : Int) 1) r0) (h2 : Ev (fun k => sackbutref01_Way.l0 k (n : Int) (c : Int) b ftL (ftL.length : Int) 1) r0) : ∀ (m d : Nat), d + m = n →
    ∃ r, Ev (fun k => chords_Way.l1 k (n : Int) (c : Int) b (n : Int) false ftL (ftL.length : Int) 0 (n : Int) (d : Int)) r ∧ Ev (fun k => sackbutref01_Way.l1 k (n : Int) (c : Int) b false ftL (ftL.length : Int) 0 (n : Int) (d : Int)) r := by
  intro m
  have hw1 : wrap64 ((0 : Int) + 1) = 1 := by rw [wrap_id (by omega) (by omega)]; rfl
  induction m with
  | zero =>
    intro d hd
    have p1 : ¬ (d : Int) < (n : Int) := by omega
    refine ⟨r0, Ev.succ ?_, Ev.succ ?_⟩
    · simp only [chords_Way.l1, if_neg p1, hw1]; exact h1
    · simp only [sackbutref01_Way.l1, if_neg p1, hw1]; exact h2
  | succ m ih =>
    intro d hd
    have p1 : (d : Int) < (n : Int) := by omega
    have hdn : d < n := by omega
    have m1 := move_f (d : Int) hn hn2 hc
    have r1 := refMove_ev (d : Int) hn hn2 hc
    rw [modC_nat hdn] at m1 r1
    have hw := nextC_w (d := d) (by omega)
    by_cases e : (moveN n c d : Int) = b
    · refine ⟨((d : Int), false, 0), Ev.succ ?_, Ev.succ ?_⟩
      · simp only [chords_Way.l1, if_pos p1]
        refine Ev.bind_some m1 ?_
        simp only [if_pos e]; exact Ev.some _
      · simp only [sackbutref01_Way.l1, if_pos p1, Bool.false_eq_true, if_false]
        refine Ev.bind r1 ?_
        simp only [if_pos e]; exact Ev.some _
    · obtain ⟨r, g1, g2⟩ := ih (d + 1) (by omega)
      refine ⟨r, Ev.succ ?_, Ev.succ ?_⟩
      · simp only [chords_Way.l1, if_pos p1]
        refine Ev.bind_some m1 ?_
        simp only [if_neg e, hw]; exact g1
      · simp only [sackbutref01_Way.l1, if_pos p1, Bool.false_eq_true, if_false]
        refine Ev.bind r1 ?_
        simp only [if_neg e, hw]; exact g2
theorem way_true {n c : Nat} {b : Int} (hn : 1 ≤ n) (hn2 : n ≤ 24) (hc : c < 2 ^ n) : ∀ (m d : Nat), d + m = n →
    ∃ r, Ev (fun k => chords_Way.l1 k (n : Int) (turnN n c : Int) b (n : Int) true ftL (ftL.length : Int) 1 (n : Int) (d : Int)) r ∧ Ev (fun k => sackbutref01_Way.l1 k (n : Int) (c : Int) b true ftL (ftL.length : Int) 1 (n : Int) (d : Int)) r := by
  intro m
  have hw2 : wrap64 ((1 : Int) + 1) = 2 := by rw [wrap_id (by omega) (by omega)]; rfl
  have p2 : ¬ (2 : Int) < (ftL.length : Int) := by decide
  induction m with
  | zero =>
    intro d hd
    have p1 : ¬ (d : Int) < (n : Int) := by omega
    refine ⟨(0, false, 4), Ev.succ (Ev.succ ?_), Ev.succ (Ev.succ ?_)⟩
    · simp only [chords_Way.l1, if_neg p1, hw2, chords_Way.l0, if_neg p2]; exact Ev.some _
    · simp only [sackbutref01_Way.l1, if_neg p1, hw2, sackbutref01_Way.l0, if_neg p2]; exact Ev.some _
  | succ m ih =>
    intro d hd
    have p1 : (d : Int) < (n : Int) := by omega
    have hdn : d < n := by omega
    have m1 := move_f (d : Int) hn hn2 (turnN_lt hn hc)
    have r1 := refMove_ev (d : Int) hn hn2 (turnN_lt hn hc)
    rw [modC_nat hdn] at m1 r1
    have hw := nextC_w (d := d) (by omega)
    by_cases e : (moveN n (turnN n c) d : Int) = b
    · refine ⟨((d : Int), true, 0), Ev.succ ?_, Ev.succ ?_⟩
      · simp only [chords_Way.l1, if_pos p1]
        refine Ev.bind_some m1 ?_
        simp only [if_pos e]; exact Ev.some _
      · simp only [sackbutref01_Way.l1, if_pos p1, if_true]
        refine Ev.bind (refTurn_ev hn hn2 hc) ?_
        refine Ev.bind r1 ?_
        simp only [if_pos e]; exact Ev.some _
    · obtain ⟨r, g1, g2⟩ := ih (d + 1) (by omega)
      refine ⟨r, Ev.succ ?_, Ev.succ ?_⟩
      · simp only [chords_Way.l1, if_pos p1]
        refine Ev.bind_some m1 ?_
        simp only [if_neg e, hw]; exact g1
      · simp only [sackbutref01_Way.l1, if_pos p1, if_true]
        refine Ev.bind (refTurn_ev hn hn2 hc) ?_
        refine Ev.bind r1 ?_
        simp only [if_neg e, hw]; exact g2
theorem way_ev {n c : Nat} {b : Int} (hn : 1 ≤ n) (hn2 : n ≤ 24) (hc : c < 2 ^ n) : ∃ r, Ev (fun k => chords_Way.l0 k (n : Int) (c : Int) b (n : Int) ftL (ftL.length : Int) 0) r ∧ Ev (fun k => sackbutref01_Way.l0 k (n : Int) (c : Int) b ftL (ftL.length : Int) 0) r := by
  have a0 : (0 : Int) < (ftL.length : Int) := by decide
  have a1 : (0 : Int) ≤ 0 := by decide
  have a2 : (1 : Int) < (ftL.length : Int) := by decide
  have a3 : (0 : Int) ≤ 1 := by decide
  have f0 : rdOf false ftL 0 = false := by decide
  have f1 : rdOf false ftL 1 = true := by decide
  obtain ⟨r1, g1, g2⟩ := way_true (b := b) hn hn2 hc n 0 (by omega)
  have k1 : Ev (fun k => chords_Way.l0 k (n : Int) (c : Int) b (n : Int) ftL (ftL.length : Int) 1) r1 := by
    refine Ev.succ ?_
    simp only [chords_Way.l0, if_pos a2, if_pos a3, f1, if_true]
    refine Ev.bind_some (turn_f hn hn2 hc) ?_
    refine Ev.succ ?_
    simp only [chords_Way.j1]
    exact g1
  have k2 : Ev (fun k => sackbutref01_Way.l0 k (n : Int) (c : Int) b ftL (ftL.length : Int) 1) r1 := by
    refine Ev.succ ?_
    simp only [sackbutref01_Way.l0, if_pos a2, if_pos a3, f1]
    exact g2
  obtain ⟨r, q1, q2⟩ := way_false (b := b) hn hn2 hc r1 k1 k2 n 0 (by omega)
  refine ⟨r, Ev.succ ?_, Ev.succ ?_⟩
  · simp only [chords_Way.l0, if_pos a0, if_pos a1, f0, Bool.false_eq_true, if_false]
    refine Ev.succ ?_
    simp only [chords_Way.j1]
    exact q1
  · simp only [sackbutref01_Way.l0, if_pos a0, if_pos a1, f0]
    exact q2
theorem ChordsWays : sackbutlaw01_ChordsWays.Pure := by
  intro n a b _ _ _
  refine Ev.rounds (g := fun q => sackbutlaw01_ChordsWays.f q n a b) ?_
  unfold sackbutlaw01_ChordsWays.f
  have hr1 := refValid_f n a; have hr2 := refValid_f n b
  have hC := Common_ev n a b
  by_cases h : ValidC n a ∧ ValidC n b
  · simp only [h.1, decide_true] at hr1
    simp only [h.2, decide_true] at hr2
    have hv := valid2_f n a b
    simp only [h, and_self, decide_true] at hv
    simp only [h, and_self, if_true] at hC
    obtain ⟨N, A, rfl, rfl, h2, h16, hA⟩ := validC_nat h.1
    obtain ⟨N', B, e, rfl, _, _, hB⟩ := validC_nat h.2
    obtain rfl : N = N' := by omega
    simp only [Int.toNat_natCast] at hC
    obtain ⟨r, g1, g2⟩ := way_ev (n := N) (c := A) (b := (B : Int)) (by omega) (by omega) hA
    have f1 : Ev (fun k => chords_Way.f k (N : Int) (A : Int) (B : Int)) r := by
      unfold chords_Way.f
      refine Ev.bind_some hv ?_
      simp only [if_true]
      exact Ev.bind_some rfl g1
    have f2 : Ev (fun k => sackbutref01_Way.f k (N : Int) (A : Int) (B : Int)) r := by
      unfold sackbutref01_Way.f
      exact Ev.bind_some rfl g2
    refine Ev.bind f1 ?_
    refine Ev.bind hC ?_
    refine Ev.bind_some hr1 ?_
    simp only [if_true]
    refine Ev.bind_some hr2 ?_
    refine Ev.succ ?_
    simp only [sackbutlaw01_ChordsWays.j0, Bool.not_true, Bool.false_eq_true, if_false]
    refine Ev.bind f2 ?_
    simp only [if_true, beq_self_eq_true]
    refine Ev.bind (refCommon_ev h2 h16 hA hB) ?_
    refine Ev.bind (Equal_ev _ _ (by rw [comOf_length]; omega)) ?_
    simp only [decide_true, if_true]
    refine Ev.bind_some awake_f ?_
    exact Ev.some _
  · have hv := valid2_f n a b
    simp only [h, decide_false] at hv
    simp only [h, if_false] at hC
    have f1 : Ev (fun k => chords_Way.f k n a b) (0, false, 2) := by
      unfold chords_Way.f
      refine Ev.bind_some hv ?_
      simp only [Bool.false_eq_true, if_false]
      exact Ev.some _
    refine Ev.bind f1 ?_
    refine Ev.bind hC ?_
    have fin : Ev (fun k => sackbutlaw01_ChordsWays.j0 k n a b 0 false 2 [] 2 true) true := by
      refine Ev.succ ?_
      simp only [sackbutlaw01_ChordsWays.j0, if_true, Bool.false_eq_true, if_false, List.length_nil, Int.natCast_zero]
      refine Ev.bind_some awake_f ?_
      exact Ev.some _
    refine Ev.bind_some hr1 ?_
    by_cases ha : ValidC n a
    · simp only [ha, decide_true, if_true]
      refine Ev.bind_some hr2 ?_
      have hb : ¬ ValidC n b := fun hb => h ⟨ha, hb⟩
      simp only [hb, decide_false, Bool.not_false]
      exact fin
    · simp only [ha, decide_false, Bool.false_eq_true, if_false]
      exact fin

end Go.Proofs.YtnjmiodnkjabgaaDoor.P
namespace Go.Proofs.YtnjmiodnkjabgaaDoor.Pure
theorem ChordsWays : Go.Proofs.YtnjmiodnkjabgaaDoor.P.sackbutlaw01_ChordsWays.Pure := Go.Proofs.YtnjmiodnkjabgaaDoor.P.ChordsWays
end Go.Proofs.YtnjmiodnkjabgaaDoor.Pure
namespace Go.Proofs.YtnjmiodnkjabgaaDoor.P
open Go.RowKit Go.Proofs.YtnjmiodnkjabgaaDoorW.PrintWords Go.Proofs.YtnjmiodnkjabgaaDoorW.PrintLast Go.Proofs.YtnjmiodnkjabgaaDoorW.PrintMore
attribute [local go_sem] max2_int min2_int max_two min_two max_three min_three max_four min_four   -- for this text's walks alone
set_option linter.unusedVariables false
set_option linter.unusedSimpArgs false

open Go.ChangeShapes Go.WideShapes Go.ChangeAt Go.WideElems
/-! what the row's listed tables give the walks -/
def doorLaid2 : List (String × DataW Unit) := [("math/bits.deBruijn32tab", Rows.laid_math_bits_deBruijn32tab), ("math/bits.deBruijn64tab", Rows.laid_math_bits_deBruijn64tab)]
theorem door_g64 : Tryd.prog.globalNamed "math/bits.deBruijn64tab" = some 1 := by kernel_rfl
theorem door_t64 : (Tryd.prog.globals[1]?).map (·.type) = some 105 := by kernel_rfl
theorem door_met (os : Os) (args : Array Value) : laidMetH Tryd.prog doorLaid2 ((World.doorLaid Tryd.prog 19 os).forCall (fun _ _ => 0) ⟨#[], args, []⟩).memory :=
  laidMetH_of_parts3 (fuel := 8) (laidMet_of_run' 8 (by kernel_rfl) (by kernel_rfl)) (by kernel_rfl) (by kernel_rfl)
theorem door_tab : (Rows.laid_math_bits_deBruijn64tab : DataW Unit) = .agg (tzTab.map fun (n : Nat) => .lit (.int .u8 (n : Int))) := rfl
theorem door_c8 : Tryd.prog.cellsOf 5 = 1 := by kernel_rfl
theorem tabs_of_laid {W : World} (h : laidMetH Tryd.prog doorLaid2 W) : Tabs W := by
  rw [MakeChecks.laidMetH_plain _ _ _ (by kernel_rfl)] at h
  obtain ⟨ps, ⟨g0, t0, cs0, f0, p0, q0, hg0, ht0, hv0, hd0, ⟨g1, t1, cs1, f1, p1, q1, hg1, ht1, hv1, hd1, _, _⟩, _⟩, _, _⟩ := h
  obtain rfl := Option.some.inj (door_g64.symm.trans hg1)
  obtain rfl := Option.some.inj (door_t64.symm.trans ht1)
  obtain ⟨xs, m1, rfl, hx1, hlen, hn, hel⟩ := DataW.trod_array Tryd.underlying105 hd1
  simp only [Prod.mk.injEq] at hx1
  have hl := hx1.1
  rw [door_tab] at hl
  simp only [DataW.agg.injEq] at hl
  intro i hi
  have h0 := hel i hi
  obtain ⟨x, hx⟩ : ∃ x, xs[i]? = some x := ⟨xs[i], by simp [hn, hi]⟩
  rw [hx] at h0
  obtain ⟨k, e1, e2, _⟩ := DataW.trod_int Tryd.underlying5 h0
  have hk := congrArg (fun l => l[i]?) hl
  simp only [List.getElem?_map, hx, Option.map_some, e2] at hk
  have ht : tzTab[i]? = some (tzTab.getD i 0) := by
    rw [List.getD_eq_getElem?_getD]
    have hlen : tzTab.length = 64 := by decide
    rw [List.getElem?_eq_getElem (by omega)]; rfl
  rw [ht] at hk
  simp only [Option.map_some, Option.some.injEq, DataW.lit.injEq, Lit.int.injEq, true_and] at hk
  rw [door_c8, Nat.mul_one] at e1
  have hc := World.var?_cell hg1 hv1 i
  rw [hc]
  have : cs1.toList[i]? = some (.int .u8 k) := by
    have := congrArg (fun l => l[0]?) e1
    simpa using this
  rw [← Array.getElem?_toList, this, hk]

end Go.Proofs.YtnjmiodnkjabgaaDoor.P
namespace Go.Proofs.YtnjmiodnkjabgaaDoor.chordsWays
open Go.ChangeShapes Go.WideShapes Go.ChangeAt Go.RowKit
open Go.ChangeMaps (open_string shut_string)
set_option linter.unusedVariables false
theorem own : ownKnob Tryd.prog.godebug = none := by kernel_rfl
set_option maxRecDepth 100000 in
theorem lifted (os : Os) (started : os.Started) (H : Type) (enc : TypeId × Value → H) :
    ReturnsInHanded {} Tryd.checked os 6 .any (fun w args => (Rows.chordsWaysSpec.pre enc Tryd.prog Tryd.f6 [] false w args ∧ laidMetH Tryd.prog P.doorLaid2 w) ∧ sizedMet enc Tryd.prog Tryd.f6 (OpenSpec.ofChange Rows.chordsWaysSpec) false w args) (Rows.chordsWaysSpec.post enc Tryd.prog Tryd.f6 false true false false) := by
  refine returnsInHanded_of_change_and (C := Tryd.checked) (X := fun w _ => laidMetH Tryd.prog P.doorLaid2 w) (fun _ _ _ hh h => h.of_heap hh) own started (by kernel_rfl) Tryd.func6
    (ChangeSpec.witness_shaped (enc := enc) (C := Tryd.checked) (os := os) (X := fun w _ => laidMetH Tryd.prog P.doorLaid2 w) false (World.doorLaid Tryd.prog 19 os) #[.int .i64 0, .int .i64 0, .int .i64 0] 8 rfl (World.shaped_of_RefB (by kernel_rfl) (by kernel_rfl)) (by kernel_rfl) (by kernel_rfl) (by kernel_rfl) (P.door_met os _)) ?_
  intro W base args ds gs before hval0 hW hcnd hsz0 hL _
  have hsz : (DataW.weightsEach Tryd.prog (Tryd.f6.params.toList ++ Rows.chordsWaysSpec.plain.varTypes Tryd.prog) (ds ++ gs)).all (· ≤ reachBytes) = true := hsz0
  have hval : ∀ (j : Nat) t v, Tryd.f6.params[j]? = some t → args[j]? = some v → Value.okWide Tryd.prog W .any base t v := hval0
  have hW' := hW
  obtain ⟨p, q, hA0, hV, rfl, hfz, hnd⟩ := hW
  have hA : DataW.TrodAll enc Tryd.prog W 0 (fun _ => true) true Tryd.f6.params.toList args.toList ds p := hA0
  rw [Tryd.params6] at hA hval hsz
  obtain ⟨v0, vs0, d0, ds0, p0, q0, hargs, rfl, rfl, h0, r0⟩ := trodAll_cons hA
  obtain ⟨v1, vs1, d1, ds1, p1, q1, rfl, rfl, rfl, h1, r1⟩ := trodAll_cons r0
  obtain ⟨v2, vs2, d2, ds2, p2, q2, rfl, rfl, rfl, h2, r2⟩ := trodAll_cons r1
  obtain ⟨rfl, rfl, rfl⟩ := trodAll_nil r2
  obtain rfl : args = #[v0, v1, v2] := by cases args; simp_all
  obtain ⟨rfl, rfl⟩ := trodVars_none hV
  obtain ⟨a0, rfl, rfl, rfl, w0⟩ := open_int Tryd.underlying3 (hval 0 3 v0 rfl rfl) h0
  obtain ⟨a1, rfl, rfl, rfl, w1⟩ := open_int Tryd.underlying3 (hval 1 3 v1 rfl rfl) h1
  obtain ⟨a2, rfl, rfl, rfl, w2⟩ := open_int Tryd.underlying3 (hval 2 3 v2 rfl rfl) h2
  clear hA0 hval0 hsz0 hsz
  refine (P.sackbutlaw01_ChordsWays.walk Pure.ChordsWays a0 a1 a2 W (P.tabs_of_laid hL) w0 w1 w2).mono fun e W' ⟨he, bel⟩ => ?_
  subst he
  exact ⟨_, rfl, _, _, _, [], _, [], hW', trodAll_mk1 (shut_bool Tryd.underlying4 _), (trodAll_cons_mk (shut_int Tryd.underlying3 w0) (trodAll_cons_mk (shut_int Tryd.underlying3 w1) (trodAll_cons_mk (shut_int Tryd.underlying3 w2) trodAll_mk0))), rfl, bel.frame _, fun h => by cases h⟩
theorem over : Rows.chordsWaysRow.holds Tryd.pinned (OpenSpec.ofChange Rows.chordsWaysSpec) :=
  OpenClaim.holds_of_wide 6 Tryd.f6 rfl rfl rfl rfl rfl rfl rfl ⟨rfl, rfl, rfl, rfl, rfl⟩ rfl rfl rfl rfl rfl (by kernel_rfl) Tryd.func6 (by kernel_rfl)
    (of_decide_eq_true (by kernel_rfl)) (by unfold Func.isWrapper; first | (rw [if_pos (by decide +kernel)]; kernel_rfl) | (rw [if_neg (by decide +kernel)]; exact ⟨rfl, rfl⟩))
    (fun os started H enc _ => lifted os started H enc)
theorem proved : Rows.ChordsWaysSaid := over
#print axioms proved
end Go.Proofs.YtnjmiodnkjabgaaDoor.chordsWays
namespace Go.Proofs.YtnjmiodnkjabgaaDoor
theorem chordsWays_row : Rows.ChordsWaysSaid := chordsWays.proved
/-- The tied card, for the claim. -/
theorem chordsWays_holds : Rows.ChordsWaysCardSaid :=
  Claim7.holds_tied_plain_at .later [] [.data, .data] true (true, "ac7f7780cdb4c7dbab2161a7813cee9650f1d8372274689d9bbe8f184084de4f") false
    chordsWays_row (fun _ h => by cases h) (by kernel_rfl) (fun _ h => by cases h) chordsWays_row_tie rfl ⟨rfl, rfl⟩ (by kernel_rfl) rfl
    (fun f fn hf hfn => by
      obtain rfl : f = 6 := Option.some.inj ((show Tryd.prog.funcNamed "sackbut/sackbutlaw01.ChordsWays" = some 6 by kernel_rfl).symm.trans hf) |>.symm
      obtain rfl : fn = Tryd.f6 := (Option.some.inj (Tryd.func6.symm.trans hfn)).symm
      exact ⟨by kernel_rfl, fun j t ht => by
        rw [Tryd.params6] at ht
        have hm : t ∈ [3, 3, 3] := by simpa using Array.mem_of_getElem? ht
        have hall : ([3, 3, 3].all fun u => !Tryd.prog.wantsStandIn u) = true := by kernel_rfl
        exact (show Tryd.prog.wantsStandIn t = false by simpa using List.all_eq_true.1 hall t hm)⟩)
    (by kernel_rfl)
end Go.Proofs.YtnjmiodnkjabgaaDoor
