/- A part of a proof that a law's Go function returns true for every input, laid by this session's program mp.py (which drives the kit's print). Conditions: as each theorem states them. -/
import Derived.Test.YtkidgakjeahebaaCCanonFills1
import Derived.Test.YtkidgakjeahebaaCCanonFills2
import Derived.Test.YtkidgakjeahebaaCCanonFills3
import Derived.Test.YtkidgakjeahebaaCCanonFills4
namespace Go.Proofs.Ytkidgakjeahebaa.P
open Go.RowKit Go.Proofs.YtkidgakjeahebaaW.PrintWords Go.Proofs.YtkidgakjeahebaaW.PrintLast Go.Proofs.YtkidgakjeahebaaW.PrintMore
attribute [local go_sem] max2_int min2_int max_two min_two max_three min_three max_four min_four   -- for this text's walks alone
set_option linter.unusedVariables false
set_option linter.unusedSimpArgs false

/-! ### sackbutref02_Tiles: function 12 -/
def sackbutref02_Tiles.l0 : Nat → Int → Int → Int → Int → Int → Int → Option (Bool)
  | 0, _, _, _, _, _, _ => none
  | k + 1, x0, x1, x2, x7, x9, x10 => if x10 < x9 then (if 0 ≤ x10 then (if (Go.bits .and .i64 (shr .i64 x2 x10) 1) = 1 then ((sackbutref02_moved.f x0 x1 x10).bind fun t1001 => (if (Go.bits .and .i64 x7 t1001) = 0 then ((sackbutref02_moved.f x0 x1 x10).bind fun t1002 => (sackbutref02_Tiles.l0 k x0 x1 x2 (Go.bits .or .i64 x7 t1002) x9 (wrap64 (x10 + 1)))) else (some false))) else (sackbutref02_Tiles.l0 k x0 x1 x2 x7 x9 (wrap64 (x10 + 1)))) else (none)) else (if 0 ≤ x0 then (some (x7 == (wrap64 ((shl .i64 1 x0) - 1)))) else (none))
def sackbutref02_Tiles.f (k : Nat) (a0 : Int) (a1 : Int) (a2 : Int) : Option (Bool) := sackbutref02_Tiles.l0 k a0 a1 a2 0 a0 0
theorem sackbutref02_Tiles.mono_l : ∀ k, (∀ y0 y1 y2 y3 y4 y5, LeO (sackbutref02_Tiles.l0 k y0 y1 y2 y3 y4 y5) (sackbutref02_Tiles.l0 (k + 1) y0 y1 y2 y3 y4 y5))
  | 0 => fun _ _ _ _ _ _ r h => by simp [sackbutref02_Tiles.l0] at h
  | k + 1 => by
    have ih0 := sackbutref02_Tiles.mono_l k
    · intro y0 y1 y2 y3 y4 y5
      unfold sackbutref02_Tiles.l0
      repeat' first
      | (with_reducible exact ih0 _ _ _ _ _ _)
      | (with_reducible exact LeO.refl _)
      | (with_reducible exact LeO.none _)
      | (with_reducible refine LeO.ite ?_ ?_)
      | (with_reducible refine LeO.bind ?_ (fun _ => ?_))
      | exact ih0 _ _ _ _ _ _
      | exact LeO.none _
      | refine LeO.ite ?_ ?_
      | refine LeO.bind ?_ (fun _ => ?_)
theorem sackbutref02_Tiles.mono : ∀ a0 a1 a2 k, LeO (sackbutref02_Tiles.f k a0 a1 a2) (sackbutref02_Tiles.f (k + 1) a0 a1 a2) := by
  intro a0 a1 a2 k
  have ih0 := sackbutref02_Tiles.mono_l k
  unfold sackbutref02_Tiles.f
  repeat' first
      | (with_reducible exact ih0 _ _ _ _ _ _)
      | (with_reducible exact LeO.refl _)
      | (with_reducible exact LeO.none _)
      | (with_reducible refine LeO.ite ?_ ?_)
      | (with_reducible refine LeO.bind ?_ (fun _ => ?_))
      | exact ih0 _ _ _ _ _ _
      | exact LeO.none _
      | refine LeO.ite ?_ ?_
      | refine LeO.bind ?_ (fun _ => ?_)
set_option maxHeartbeats 8000000 in
set_option maxRecDepth 100000 in
theorem sackbutref02_Tiles.calls (k : Nat) (a0 : Int) (a1 : Int) (a2 : Int) (r : Bool) (w : World) (h : sackbutref02_Tiles.f k a0 a1 a2 = some r) :
    Calls Try.prog 12 #[.int .i64 a0, .int .i64 a1, .int .i64 a2] w fun e w' => e = .returned (.bool r) ∧ Drawn0 w w' := by
  have H : (sackbutref02_Tiles.l0 k a0 a1 a2 0 a0 0) = some r := h
  clear h
  have H' := Aside0.mk H
  clear H
  go_enter Try.func12, Try.ntmps12
  go_wp2
  go_loopg [7, 10] k (fun kq v7 v10 w' => ∃ (x7_1 : Int) (x10_1 : Int), v7 = .int .i64 x7_1 ∧ v10 = .int .i64 x10_1 ∧ Aside0 (sackbutref02_Tiles.l0 kq a0 a1 a2 x7_1 a0 x10_1 = some r) ∧ Aside0 (kq ≤ k) ∧ Drawn0 w w')
  case atStart => exact ⟨(0), (0), (by first | rfl | (simp; done) | (simp [*]; done)), (by first | rfl | (simp; done) | (simp [*]; done)), H', ⟨Nat.le_refl _⟩, by repeat (first | exact Drawn0.refl _ | apply Drawn0.step)⟩
  case round =>
    clear H'
    try clear c1
    try clear p2
    obtain ⟨x7_1, x10_1, rfl, rfl, HA, HK1, ⟨m1, rfl⟩⟩ := hrel
    cases gk with
    | zero => exact absurd HA.out (by simp [sackbutref02_Tiles.l0])
    | succ k1 =>
      have H := HA.out
      clear HA
      simp only [sackbutref02_Tiles.l0] at H
      by_cases c4 : x10_1 < a0
      · rw [if_pos c4] at H
        have c4b0 : decide (x10_1 < a0) = true := decide_eq_true c4
        clear c4
        by_cases c5 : 0 ≤ x10_1
        · rw [if_pos c5] at H
          have c5b0 := eq_true c5
          have c5b1 : decide (0 ≤ x10_1) = true := decide_eq_true c5
          clear c5
          obtain ⟨ji6, hji6⟩ : ∃ j_ : Int, (shr .i64 a2 x10_1) = j_ := ⟨_, rfl⟩
          replace H : (if (Go.bits .and .i64 (ji6) 1) = 1 then ((sackbutref02_moved.f a0 a1 x10_1).bind fun t1001 => (if (Go.bits .and .i64 x7_1 t1001) = 0 then ((sackbutref02_moved.f a0 a1 x10_1).bind fun t1002 => (sackbutref02_Tiles.l0 k1 a0 a1 a2 (Go.bits .or .i64 x7_1 t1002) a0 (wrap64 (x10_1 + 1)))) else (some false))) else (sackbutref02_Tiles.l0 k1 a0 a1 a2 x7_1 a0 (wrap64 (x10_1 + 1)))) = some r := by first | (rw [hji6] at H; exact H) | (simp only [hji6] at H ⊢; exact H)
          have hji6_ : (a2 / 2 ^ min x10_1.toNat 64) = ji6 := hji6
          have hji6z : x10_1 ≤ 64 → (a2 / 2 ^ x10_1.toNat) = ji6 := shr_small hji6
          by_cases c7 : (Go.bits .and .i64 (ji6) 1) = 1
          · rw [if_pos c7] at H
            have c7b0 : ((Go.bits .and .i64 (ji6) 1) == 1) = true := beq_iff_eq.mpr c7
            have c7b1 : ((Go.bits .and .i64 (ji6) 1) != 1) = false := bne_eq_false_iff_eq.mpr c7
            clear c7
            replace H := Option.bind_eq_some_iff.mp H
            obtain ⟨t1001, A80, H⟩ := H
            replace H : (if (Go.bits .and .i64 x7_1 t1001) = 0 then ((sackbutref02_moved.f a0 a1 x10_1).bind fun t1002 => (sackbutref02_Tiles.l0 k1 a0 a1 a2 (Go.bits .or .i64 x7_1 t1002) a0 (wrap64 (x10_1 + 1)))) else (some false)) = some r := H
            have A8 := Aside0.mk A80
            clear A80
            by_cases c9 : (Go.bits .and .i64 x7_1 t1001) = 0
            · rw [if_pos c9] at H
              have c9b0 : ((Go.bits .and .i64 x7_1 t1001) == 0) = true := beq_iff_eq.mpr c9
              have c9b1 : ((Go.bits .and .i64 x7_1 t1001) != 0) = false := bne_eq_false_iff_eq.mpr c9
              clear c9
              replace H := Option.bind_eq_some_iff.mp H
              obtain ⟨t1002, A100, H⟩ := H
              replace H : (sackbutref02_Tiles.l0 k1 a0 a1 a2 (Go.bits .or .i64 x7_1 t1002) a0 (wrap64 (x10_1 + 1))) = some r := H
              have A10 := Aside0.mk A100
              clear A100
              have H' := Aside0.mk H
              clear H
              go_wp2_with (first | ((with_reducible refine gate_callee (f := 33) rfl ?_); refine goesL_ (some 22) rfl rfl Try.func33 (by kernel_rfl) rfl #[.int .i64 a0, .int .i64 a1, .int .i64 x10_1] rfl (by (try simp only [List.map_toArray, List.map_cons, List.map_nil]); first | done | rfl | (simp only [List.length_drop, List.length_take]; rfl)) ?_; (with_reducible refine (sackbutref02_moved.calls a0 a1 x10_1 t1001 _ A8.out).mono ?_); rintro e w' ⟨rfl, ⟨nd, rfl⟩⟩; refine ⟨_, rfl, ?_⟩) | ((with_reducible refine gate_callee (f := 33) rfl ?_); refine goesL_ (some 29) rfl rfl Try.func33 (by kernel_rfl) rfl #[.int .i64 a0, .int .i64 a1, .int .i64 x10_1] rfl (by (try simp only [List.map_toArray, List.map_cons, List.map_nil]); first | done | rfl | (simp only [List.length_drop, List.length_take]; rfl)) ?_; (with_reducible refine (sackbutref02_moved.calls a0 a1 x10_1 t1002 _ A10.out).mono ?_); rintro e w' ⟨rfl, ⟨nd, rfl⟩⟩; refine ⟨_, rfl, ?_⟩))
              go_roundg k1
              case measure => have := HK1.out; omega
              case rel => exact ⟨(Go.bits .or .i64 x7_1 t1002), (wrap64 (x10_1 + 1)), (by first | rfl | (simp; done) | (simp [*]; done)), (by first | rfl | (simp; done) | (simp [*]; done)), H', ⟨by have := HK1.out; omega⟩, by repeat (first | exact Drawn0.refl _ | apply Drawn0.step)⟩
            · rw [if_neg c9] at H
              have c9b0 : ((Go.bits .and .i64 x7_1 t1001) == 0) = false := beq_eq_false_iff_ne.mpr c9
              have c9b1 : ((Go.bits .and .i64 x7_1 t1001) != 0) = true := bne_iff_ne.mpr c9
              obtain rfl := Option.some.inj H
              go_wp2_with (first | ((with_reducible refine gate_callee (f := 33) rfl ?_); refine goesL_ (some 22) rfl rfl Try.func33 (by kernel_rfl) rfl #[.int .i64 a0, .int .i64 a1, .int .i64 x10_1] rfl (by (try simp only [List.map_toArray, List.map_cons, List.map_nil]); first | done | rfl | (simp only [List.length_drop, List.length_take]; rfl)) ?_; (with_reducible refine (sackbutref02_moved.calls a0 a1 x10_1 t1001 _ A8.out).mono ?_); rintro e w' ⟨rfl, ⟨nd, rfl⟩⟩; refine ⟨_, rfl, ?_⟩))
              go_ret
              exact ⟨by first | rfl | (simp; done) | (simp only [← hji6] <;> (first | rfl | simp)) | (simp [*]; done), by repeat (first | exact Drawn0.refl _ | apply Drawn0.step)⟩
          · rw [if_neg c7] at H
            have c7b0 : ((Go.bits .and .i64 (ji6) 1) == 1) = false := beq_eq_false_iff_ne.mpr c7
            have c7b1 : ((Go.bits .and .i64 (ji6) 1) != 1) = true := bne_iff_ne.mpr c7
            have H' := Aside0.mk H
            clear H
            go_wp2
            go_roundg k1
            case measure => have := HK1.out; omega
            case rel => exact ⟨(x7_1), (wrap64 (x10_1 + 1)), (by first | rfl | (simp; done) | (simp [*]; done)), (by first | rfl | (simp; done) | (simp [*]; done)), H', ⟨by have := HK1.out; omega⟩, by repeat (first | exact Drawn0.refl _ | apply Drawn0.step)⟩
        · rw [if_neg c5] at H
          exact absurd H (by simp)
      · rw [if_neg c4] at H
        have c4b0 : decide (x10_1 < a0) = false := decide_eq_false c4
        clear c4
        by_cases c11 : 0 ≤ a0
        · rw [if_pos c11] at H
          have c11b0 := eq_true c11
          have c11b1 : decide (0 ≤ a0) = true := decide_eq_true c11
          clear c11
          obtain ⟨ji12, hji12⟩ : ∃ j_ : Int, (shl .i64 1 a0) = j_ := ⟨_, rfl⟩
          replace H : (some (x7_1 == (wrap64 ((ji12) - 1)))) = some r := by first | (rw [hji12] at H; exact H) | (simp only [hji12] at H ⊢; exact H)
          have hji12_ : (IntKind.i64.wrap (1 * 2 ^ min a0.toNat 64)) = ji12 := hji12
          have hji12z : a0 ≤ 64 → (IntKind.i64.wrap (1 * 2 ^ a0.toNat)) = ji12 := shl_small hji12
          have hji12u : (IntKind.i64.wrap (2 ^ min a0.toNat 64)) = ji12 := by have h_ := hji12_; rw [Int.one_mul] at h_; exact h_
          have hji12v : a0 ≤ 64 → (IntKind.i64.wrap (2 ^ a0.toNat)) = ji12 := fun hle_ => by have h_ := hji12z hle_; rw [Int.one_mul] at h_; exact h_
          have hji12y : (wrap64 (1 * 2 ^ min a0.toNat 64)) = ji12 := (i64_w _).symm.trans hji12_
          have hji12x : a0 ≤ 64 → (wrap64 (1 * 2 ^ a0.toNat)) = ji12 := fun h_ => (i64_w _).symm.trans (hji12z h_)
          obtain rfl := Option.some.inj H
          go_wp2
          go_ret
          exact ⟨by first | rfl | (simp; done) | (simp only [← hji12] <;> (first | rfl | simp)) | (simp [*]; done), by repeat (first | exact Drawn0.refl _ | apply Drawn0.step)⟩
        · rw [if_neg c11] at H
          exact absurd H (by simp)

end Go.Proofs.Ytkidgakjeahebaa.P
namespace Go.Proofs.Ytkidgakjeahebaa.P
open Go.RowKit Go.Proofs.YtkidgakjeahebaaW.PrintWords Go.Proofs.YtkidgakjeahebaaW.PrintLast Go.Proofs.YtkidgakjeahebaaW.PrintMore
attribute [local go_sem] max2_int min2_int max_two min_two max_three min_three max_four min_four   -- for this text's walks alone
set_option linter.unusedVariables false
set_option linter.unusedSimpArgs false

/-! math/bits.OnesCount of a set of at most 24 numbers -/
theorem u64_id {n : Int} (h0 : 0 ≤ n) (h1 : n < 18446744073709551616) : IntKind.u64.wrap n = n := by
  simp only [IntKind.wrap, IntKind.bits, IntKind.signed]
  simp
  omega
theorem and_u64 {a b : Nat} (ha : a < 2 ^ 64) (hb : b < 2 ^ 64) : Go.bits .and .u64 (a : Int) (b : Int) = ((a &&& b : Nat) : Int) := by
  refine (bits_nat .u64 64 (by decide) (fun n h0 h1 => u64_id h0 ?_) a b ha hb).1
  have : (2 : Int) ^ 64 = 18446744073709551616 := by decide
  omega
theorem pop1_eq {a : Nat} (ha : a < 2 ^ 24) : IntKind.u64.wrap ((Go.bits .and .u64 ((a : Int) / 2) 6148914691236517205) + (Go.bits .and .u64 (a : Int) 6148914691236517205)) = (pop1 a : Int) ∧ pop1 a < 2 ^ 25 := by
  have e0 : ((a : Int) / 2) = ((a / 2 : Nat) : Int) := by omega
  have h1 := and_u64 (a := a / 2) (b := 6148914691236517205) (by omega) (by decide)
  have h2 := and_u64 (a := a) (b := 6148914691236517205) (by omega) (by decide)
  have l1 : a / 2 &&& 6148914691236517205 ≤ a / 2 := Nat.and_le_left
  have l2 : a &&& 6148914691236517205 ≤ a := Nat.and_le_left
  rw [show ((6148914691236517205 : Nat) : Int) = 6148914691236517205 from rfl] at h1 h2
  rw [e0, h1, h2]
  unfold pop1
  have h24 : (2 : Nat) ^ 24 = 16777216 := by decide
  have h25 : (2 : Nat) ^ 25 = 33554432 := by decide
  exact ⟨by rw [u64_id (by omega) (by omega)]; omega, by omega⟩
theorem pop2_eq {a : Nat} (ha : a < 2 ^ 25) : IntKind.u64.wrap ((Go.bits .and .u64 ((a : Int) / 4) 3689348814741910323) + (Go.bits .and .u64 (a : Int) 3689348814741910323)) = (pop2 a : Int) ∧ pop2 a < 2 ^ 26 := by
  have e0 : ((a : Int) / 4) = ((a / 4 : Nat) : Int) := by omega
  have h25 : (2 : Nat) ^ 25 = 33554432 := by decide
  have h26 : (2 : Nat) ^ 26 = 67108864 := by decide
  have h1 := and_u64 (a := a / 4) (b := 3689348814741910323) (by omega) (by decide)
  have h2 := and_u64 (a := a) (b := 3689348814741910323) (by omega) (by decide)
  have l1 : a / 4 &&& 3689348814741910323 ≤ a / 4 := Nat.and_le_left
  have l2 : a &&& 3689348814741910323 ≤ a := Nat.and_le_left
  rw [show ((3689348814741910323 : Nat) : Int) = 3689348814741910323 from rfl] at h1 h2
  rw [e0, h1, h2]
  unfold pop2
  exact ⟨by rw [u64_id (by omega) (by omega)]; omega, by omega⟩
theorem pop3_eq {a : Nat} (ha : a < 2 ^ 26) : Go.bits .and .u64 (IntKind.u64.wrap ((a : Int) / 16 + a)) 1085102592571150095 = (pop3 a : Int) ∧ pop3 a < 2 ^ 27 := by
  have h26 : (2 : Nat) ^ 26 = 67108864 := by decide
  have h27 : (2 : Nat) ^ 27 = 134217728 := by decide
  have e0 : IntKind.u64.wrap ((a : Int) / 16 + a) = ((a / 16 + a : Nat) : Int) := by rw [u64_id (by omega) (by omega)]; omega
  have h1 := and_u64 (a := a / 16 + a) (b := 1085102592571150095) (by omega) (by decide)
  have l1 : a / 16 + a &&& 1085102592571150095 ≤ a / 16 + a := Nat.and_le_left
  rw [show ((1085102592571150095 : Nat) : Int) = 1085102592571150095 from rfl] at h1
  rw [e0, h1]
  unfold pop3
  exact ⟨rfl, by omega⟩
theorem pop4_eq {a : Nat} (ha : a < 2 ^ 27) : IntKind.u64.wrap ((a : Int) + (a : Int) / 256) = (pop4 a : Int) ∧ pop4 a < 2 ^ 28 := by
  have h27 : (2 : Nat) ^ 27 = 134217728 := by decide
  have h28 : (2 : Nat) ^ 28 = 268435456 := by decide
  unfold pop4
  exact ⟨by rw [u64_id (by omega) (by omega)]; omega, by omega⟩
theorem pop5_eq {a : Nat} (ha : a < 2 ^ 28) : IntKind.u64.wrap ((a : Int) + (a : Int) / 65536) = (pop5 a : Int) ∧ pop5 a < 2 ^ 29 := by
  have h28 : (2 : Nat) ^ 28 = 268435456 := by decide
  have h29 : (2 : Nat) ^ 29 = 536870912 := by decide
  unfold pop5
  exact ⟨by rw [u64_id (by omega) (by omega)]; omega, by omega⟩
theorem pop6_eq {a : Nat} (ha : a < 2 ^ 29) : IntKind.u64.wrap ((a : Int) + (a : Int) / 4294967296) = (pop6 a : Int) ∧ pop6 a < 2 ^ 30 := by
  have h29 : (2 : Nat) ^ 29 = 536870912 := by decide
  have h30 : (2 : Nat) ^ 30 = 1073741824 := by decide
  unfold pop6
  exact ⟨by rw [u64_id (by omega) (by omega)]; omega, by omega⟩
theorem OnesCount64_f {a : Nat} (ha : a < 2 ^ 24) : bits_OnesCount64.f (a : Int) = some (pop64 a : Int) := by
  obtain ⟨e1, l1⟩ := pop1_eq ha
  obtain ⟨e2, l2⟩ := pop2_eq l1
  obtain ⟨e3, l3⟩ := pop3_eq l2
  obtain ⟨e4, l4⟩ := pop4_eq l3
  obtain ⟨e5, l5⟩ := pop5_eq l4
  obtain ⟨e6, l6⟩ := pop6_eq l5
  unfold bits_OnesCount64.f
  simp only [e1, e2, e3, e4, e5, e6]
  have h30 : (2 : Nat) ^ 30 = 1073741824 := by decide
  have h63 : (2 : Nat) ^ 63 = 9223372036854775808 := by decide
  rw [wrap_id (by omega) (by omega)]
  have h := and_i64 (a := pop6 (pop5 (pop4 (pop3 (pop2 (pop1 a)))))) (b := 127) (by omega) (by decide)
  rw [show ((127 : Nat) : Int) = 127 from rfl] at h
  rw [h]
  rfl
theorem OnesCount_f {n a : Nat} (hn : n ≤ 24) (ha : a < 2 ^ n) : bits_OnesCount.f (IntKind.u64.wrap (a : Int)) = some (chSize n a : Int) := by
  have h24 : a < 2 ^ 24 := Nat.lt_of_lt_of_le ha (Nat.pow_le_pow_right (by omega) hn)
  have e : (2 : Nat) ^ 24 = 16777216 := by decide
  rw [u64_id (by omega) (by omega)]
  unfold bits_OnesCount.f
  rw [OnesCount64_f h24, pop64_cnt hn ha, chSize_bits]
  rfl

end Go.Proofs.Ytkidgakjeahebaa.P
namespace Go.Proofs.Ytkidgakjeahebaa.P
open Go.RowKit Go.Proofs.YtkidgakjeahebaaW.PrintWords Go.Proofs.YtkidgakjeahebaaW.PrintLast Go.Proofs.YtkidgakjeahebaaW.PrintMore
attribute [local go_sem] max2_int min2_int max_two min_two max_three min_three max_four min_four   -- for this text's walks alone
set_option linter.unusedVariables false
set_option linter.unusedSimpArgs false

/-! what the functions on rhythms come to -/
def ValidR (n c : Int) : Prop := 2 ≤ n ∧ n ≤ 24 ∧ 0 ≤ c ∧ c < 2 ^ n.toNat ∧ c % 2 = 1
instance (n c : Int) : Decidable (ValidR n c) := by unfold ValidR; infer_instance
theorem shl_n {n : Int} (h0 : 0 ≤ n) (h : n ≤ 62) : shl .i64 1 n = 2 ^ n.toNat := by
  obtain ⟨m, rfl⟩ := Int.eq_ofNat_of_zero_le h0
  rw [shl1_i64 (by omega), pow_cast, Int.toNat_natCast]
theorem pow24 {n : Nat} (h : n ≤ 24) : 2 ^ n ≤ 16777216 := by
  have : 2 ^ n ≤ 2 ^ 24 := Nat.pow_le_pow_right (by omega) h
  omega
theorem and_one {c : Int} {N : Nat} (hN : N ≤ 24) (h0 : 0 ≤ c) (h1 : c < 2 ^ N) : Go.bits .and .i64 c 1 = c % 2 := by
  obtain ⟨C, rfl⟩ := Int.eq_ofNat_of_zero_le h0
  have hp := pow24 hN
  rw [← pow_cast] at h1
  have h := and_i64 (a := C) (b := 1) (by omega) (by omega)
  rw [show ((1 : Nat) : Int) = 1 from rfl] at h
  rw [h, Nat.and_one_is_mod]
  omega
theorem badBeat_iff {n c : Int} (h2 : 2 ≤ n) (h24 : n ≤ 24) : badBeat n c = false ↔ ValidR n c := by
  unfold badBeat ValidR
  rw [shl_n (by omega) (by omega), Bool.or_eq_false_iff, Bool.or_eq_false_iff, decide_eq_false_iff_not, decide_eq_false_iff_not, decide_eq_false_iff_not]
  constructor
  · rintro ⟨h3, h4, h5⟩
    rw [and_one (N := n.toNat) (by omega) (by omega) (by omega)] at h5
    omega
  · rintro ⟨_, _, h3, h4, h5⟩
    refine ⟨by omega, by omega, ?_⟩
    rw [and_one (N := n.toNat) (by omega) (by omega) (by omega)]
    omega
theorem valid0_f (n : Int) : canon_circle_valid.f n [] = some (decide (2 ≤ n ∧ n ≤ 24)) := by
  unfold canon_circle_valid.f
  by_cases h2 : n ≥ 2
  · by_cases h24 : n ≤ 24
    · rw [if_pos h2, if_pos h24, if_pos (by simp)]
      simp only [List.any_nil, Bool.not_false, Option.some.injEq]
      exact (decide_eq_true ⟨h2, h24⟩).symm
    · rw [if_pos h2, if_neg h24, decide_eq_false (fun h => h24 h.2)]
  · rw [if_neg h2, decide_eq_false (fun h => h2 h.1)]
theorem valid1_f (n c : Int) : canon_circle_valid.f n [c] = some (decide (ValidR n c)) := by
  unfold canon_circle_valid.f
  by_cases h2 : n ≥ 2
  · by_cases h24 : n ≤ 24
    · rw [if_pos h2, if_pos h24, if_pos (by simp)]
      congr 1
      have := badBeat_iff (c := c) h2 h24
      rw [Bool.eq_iff_iff]
      simp only [List.any_cons, List.any_nil, Bool.or_false, Bool.not_eq_true', decide_eq_true_eq]
      exact this
    · rw [if_pos h2, if_neg h24]
      have : ¬ ValidR n c := fun h => h24 h.2.1
      simp [this]
  · rw [if_neg h2]
    have : ¬ ValidR n c := fun h => h2 h.1
    simp [this]
theorem valid2_f (n a b : Int) : canon_circle_valid.f n [a, b] = some (decide (ValidR n a ∧ ValidR n b)) := by
  unfold canon_circle_valid.f
  by_cases h2 : n ≥ 2
  · by_cases h24 : n ≤ 24
    · rw [if_pos h2, if_pos h24, if_pos (by simp)]
      congr 1
      have h1 := badBeat_iff (c := a) h2 h24
      have h2 := badBeat_iff (c := b) h2 h24
      rw [Bool.eq_iff_iff]
      simp only [List.any_cons, List.any_nil, Bool.or_false, Bool.not_eq_true', decide_eq_true_eq, Bool.or_eq_false_iff]
      rw [h1, h2]
    · rw [if_pos h2, if_neg h24]
      have : ¬ (ValidR n a ∧ ValidR n b) := fun h => h24 h.1.2.1
      simp [this]
  · rw [if_neg h2]
    have : ¬ (ValidR n a ∧ ValidR n b) := fun h => h2 h.1.1
    simp [this]
theorem rhythm_f (n c : Int) : sackbutref02_Rhythm.f n c = some (decide (ValidR n c)) := by
  unfold sackbutref02_Rhythm.f
  by_cases h2 : n ≥ 2
  · by_cases h24 : n ≤ 24
    · by_cases h0 : c ≥ 0
      · rw [if_pos h2, if_pos h24, if_pos h0, if_pos (by omega), shl_n (by omega) (by omega)]
        by_cases h1 : c < 2 ^ n.toNat
        · rw [if_pos h1, and_one (N := n.toNat) (by omega) (by omega) h1]
          congr 1
          rw [Bool.eq_iff_iff, beq_iff_eq, decide_eq_true_eq]
          unfold ValidR
          omega
        · rw [if_neg h1]
          have : ¬ ValidR n c := fun h => h1 h.2.2.2.1
          simp [this]
      · rw [if_pos h2, if_pos h24, if_neg h0]
        have : ¬ ValidR n c := fun h => h0 h.2.2.1
        simp [this]
    · rw [if_pos h2, if_neg h24]
      have : ¬ ValidR n c := fun h => h24 h.2.1
      simp [this]
  · rw [if_neg h2]
    have : ¬ ValidR n c := fun h => h2 h.1
    simp [this]
theorem validR_nat {n c : Int} (h : ValidR n c) : ∃ N C : Nat, n = N ∧ c = C ∧ 2 ≤ N ∧ N ≤ 24 ∧ C < 2 ^ N ∧ C.testBit 0 = true := by
  obtain ⟨h1, h2, h3, h4, h5⟩ := h
  obtain ⟨N, rfl⟩ := Int.eq_ofNat_of_zero_le (show 0 ≤ n by omega)
  obtain ⟨C, rfl⟩ := Int.eq_ofNat_of_zero_le h3
  rw [Int.toNat_natCast, ← pow_cast] at h4
  refine ⟨N, C, rfl, rfl, by omega, by omega, by omega, ?_⟩
  rw [Nat.testBit_zero]
  simp only [decide_eq_true_eq]
  omega
theorem count_f {n a : Nat} (hn : n ≤ 24) (ha : a < 2 ^ n) : canon_count.f (a : Int) = some (chSize n a : Int) := by
  unfold canon_count.f
  rw [OnesCount_f hn ha]
  rfl
theorem full_w {n : Nat} (hn : n ≤ 24) : wrap64 (shl .i64 1 (n : Int) - 1) = ((2 ^ n - 1 : Nat) : Int) := by
  have hp := pow24 hn
  have := Nat.two_pow_pos n
  rw [shl1_i64 (by omega), wrap_id (by omega) (by omega)]
  omega
theorem all_f {n : Nat} (hn : n ≤ 24) : canon_circle_all.f (n : Int) = some ((2 ^ n - 1 : Nat) : Int) := by
  unfold canon_circle_all.f
  rw [if_pos (by omega), full_w hn]
theorem move_bits {n c j : Nat} (hn : n ≤ 24) (hj : j ≤ n) (hc : c < 2 ^ n) :
    Go.bits .and .i64 (Go.bits .or .i64 (shl .i64 (c : Int) (j : Int)) (shr .i64 (c : Int) ((n - j : Nat) : Int))) ((2 ^ n - 1 : Nat) : Int) = (moveN n c j : Int) := by
  have hp := pow24 hn
  have hpj := pow24 (n := j) (by omega)
  have h63 : (2 : Nat) ^ 63 = 9223372036854775808 := by decide
  have hm : c * 2 ^ j < 2 ^ 63 := by
    have : c * 2 ^ j ≤ 16777216 * 16777216 := Nat.mul_le_mul (by omega) (by omega)
    omega
  have hd : c / 2 ^ (n - j) < 2 ^ 63 := Nat.lt_of_le_of_lt (Nat.div_le_self _ _) (by omega)
  have hor : c * 2 ^ j ||| c / 2 ^ (n - j) < 2 ^ 63 := Nat.or_lt_two_pow hm hd
  rw [shl_i64 (by omega) hm, shr_i64 _ _ (by omega), or_i64 hm hd, and_i64 hor (by omega)]
  rfl
theorem move_w {n j : Nat} (hn : n ≤ 24) (hj : j ≤ n) : wrap64 ((n : Int) - (j : Int)) = ((n - j : Nat) : Int) := by rw [wrap_id (by omega) (by omega)]; omega
theorem move_f {n c j : Nat} (hn : n ≤ 24) (hj : j ≤ n) (hc : c < 2 ^ n) : canon_circle_move.f (n : Int) (c : Int) (j : Int) = some (moveN n c j : Int) := by
  unfold canon_circle_move.f
  rw [move_w hn hj, if_pos (by omega), if_pos (by omega), all_f hn, Option.bind_some, move_bits hn hj hc]
theorem moved_f {n c j : Nat} (hn : n ≤ 24) (hj : j ≤ n) (hc : c < 2 ^ n) : sackbutref02_moved.f (n : Int) (c : Int) (j : Int) = some (moveN n c j : Int) := by
  unfold sackbutref02_moved.f
  rw [move_w hn hj, if_pos (by omega), if_pos (by omega), if_pos (by omega), full_w hn, move_bits hn hj hc]
theorem and_r {n a b : Nat} (hn : n ≤ 24) (ha : a < 2 ^ n) (hb : b < 2 ^ n) : Go.bits .and .i64 (a : Int) (b : Int) = ((a &&& b : Nat) : Int) := by
  have hp := pow24 hn
  exact and_i64 (by omega) (by omega)
theorem or_r {n a b : Nat} (hn : n ≤ 24) (ha : a < 2 ^ n) (hb : b < 2 ^ n) : Go.bits .or .i64 (a : Int) (b : Int) = ((a ||| b : Nat) : Int) := by
  have hp := pow24 hn
  exact or_i64 (by omega) (by omega)
theorem bit_r {n a x : Nat} (hn : n ≤ 24) (ha : a < 2 ^ n) (hx : x ≤ 64) : Go.bits .and .i64 (shr .i64 (a : Int) (x : Int)) 1 = if a.testBit x then 1 else 0 := by
  have hp := pow24 hn
  exact bit_i64 (by omega) hx
theorem bit_is {n a x : Nat} (hn : n ≤ 24) (ha : a < 2 ^ n) (hx : x ≤ 64) : (Go.bits .and .i64 (shr .i64 (a : Int) (x : Int)) 1 = 1) ↔ a.testBit x = true := by
  rw [bit_r hn ha hx]; cases a.testBit x <;> simp
theorem bit_not {n a x : Nat} (hn : n ≤ 24) (ha : a < 2 ^ n) (hx : x ≤ 64) : (Go.bits .and .i64 (shr .i64 (a : Int) (x : Int)) 1 = 0) ↔ ¬ a.testBit x = true := by
  rw [bit_r hn ha hx]; cases a.testBit x <;> simp
theorem next_w {d : Nat} (h : d ≤ 1000) : wrap64 ((d : Int) + 1) = ((d + 1 : Nat) : Int) := by rw [wrap_id (by omega) (by omega)]; omega
theorem tiles_loop {n a b : Nat} (hn : n ≤ 24) (ha : a < 2 ^ n) (hb : b < 2 ^ n) : ∀ (m d : Nat), d + m = n →
    Ev (fun k => canon_circle_tiles.l0 k (n : Int) (a : Int) (b : Int) (filled n a b d : Int) (n : Int) (d : Int)) (decide (filled n a b n = 2 ^ n - 1)) := by
  intro m
  induction m with
  | zero =>
    intro d hd
    have hdn : d = n := by omega
    subst hdn
    have p1 : ¬ (d : Int) < (d : Int) := by omega
    refine Ev.succ ?_
    simp only [canon_circle_tiles.l0, if_neg p1]
    refine Ev.bind_some (all_f hn) ?_
    have : (((filled d a b d : Nat) : Int) == ((2 ^ d - 1 : Nat) : Int)) = decide (filled d a b d = 2 ^ d - 1) := by
      rw [Bool.eq_iff_iff, beq_iff_eq, decide_eq_true_eq]; omega
    rw [this]
    exact Ev.some _
  | succ m ih =>
    intro d hd
    have p0 : (0 : Int) ≤ (d : Int) := Int.natCast_nonneg d
    have p1 : (d : Int) < (n : Int) := by omega
    have hbit := bit_is hn hb (show d ≤ 64 by omega)
    have go := ih (d + 1) (by omega)
    have hor := or_r hn (filled_lt n a b d) (moveN_lt n a d)
    have hw := next_w (d := d) (by omega)
    refine Ev.succ ?_
    simp only [canon_circle_tiles.l0, if_pos p0, if_pos p1, hw]
    refine Ev.ite (fun e => ?_) (fun e => ?_)
    · rw [hbit] at e
      refine Ev.bind_some (move_f hn (by omega) ha) ?_
      rw [hor]
      simp only [filled, e, if_true] at go
      exact go
    · rw [hbit] at e
      simp only [filled, if_neg e] at go
      exact go
theorem tiles_ev {n a b : Nat} (hn : n ≤ 24) (ha : a < 2 ^ n) (hb : b < 2 ^ n) : Ev (fun k => canon_circle_tiles.f k (n : Int) (a : Int) (b : Int)) (decide (Tiled n a b)) := by
  have hA := chSize_le n a; have hB := chSize_le n b
  have hm : chSize n a * chSize n b ≤ 24 * 24 := Nat.mul_le_mul (by omega) (by omega)
  have hw : wrap64 ((chSize n a : Int) * (chSize n b : Int)) = ((chSize n a * chSize n b : Nat) : Int) := by
    rw [← Int.natCast_mul, wrap_id (by omega) (by omega)]
  have hl := tiles_loop hn ha hb n 0 (by omega)
  have ht := tiled_iff (b := b) ha
  unfold canon_circle_tiles.f
  refine Ev.bind_some (count_f hn ha) ?_
  refine Ev.bind_some (count_f hn hb) ?_
  rw [hw]
  refine Ev.ite (fun e => ?_) (fun e => ?_)
  · have e2 : chSize n a * chSize n b = n := by omega
    have : decide (Tiled n a b) = decide (filled n a b n = 2 ^ n - 1) := by
      rw [decide_eq_decide, ← ht]; simp [e2]
    rw [this]
    exact hl
  · have : ¬ Tiled n a b := fun h => e (by have := (ht.2 h).1; omega)
    rw [decide_eq_false this]
    exact Ev.some _
theorem Tiles_ev (n a b : Int) : Ev (fun k => canon_Tiles.f k n a b) (if ValidR n a ∧ ValidR n b then (decide (Tiled n.toNat a.toNat b.toNat), 0) else (false, 2)) := by
  unfold canon_Tiles.f
  refine Ev.bind_some (valid2_f n a b) ?_
  by_cases h : ValidR n a ∧ ValidR n b
  · simp only [h, and_self, decide_true, if_true]
    obtain ⟨N, A, rfl, rfl, h2, h24, hA, _⟩ := validR_nat h.1
    obtain ⟨N', B, e, rfl, _, _, hB, _⟩ := validR_nat h.2
    obtain rfl : N = N' := by omega
    simp only [Int.toNat_natCast]
    exact Ev.bind (tiles_ev h24 hA hB) (Ev.some _)
  · simp only [h, decide_false, Bool.false_eq_true, if_false]
    exact Ev.some _
theorem refTiles_loop {n a b : Nat} (hn : n ≤ 24) (ha : a < 2 ^ n) (hb : b < 2 ^ n) : ∀ (m d : Nat), d + m = n → (∀ x, x < n → cv n a b d x ≤ 1) →
    Ev (fun k => sackbutref02_Tiles.l0 k (n : Int) (a : Int) (b : Int) (filled n a b d : Int) (n : Int) (d : Int)) (decide (Tiled n a b)) := by
  intro m
  induction m with
  | zero =>
    intro d hd hx
    have hdn : d = n := by omega
    subst hdn
    have p1 : ¬ (d : Int) < (d : Int) := by omega
    have p0 : (0 : Int) ≤ (d : Int) := Int.natCast_nonneg d
    refine Ev.succ ?_
    simp only [sackbutref02_Tiles.l0, if_neg p1, if_pos p0, full_w hn]
    have : (((filled d a b d : Nat) : Int) == ((2 ^ d - 1 : Nat) : Int)) = decide (Tiled d a b) := by
      rw [Bool.eq_iff_iff, beq_iff_eq, decide_eq_true_eq, ← filled_end hx]; omega
    rw [this]
    exact Ev.some _
  | succ m ih =>
    intro d hd hx
    have p0 : (0 : Int) ≤ (d : Int) := Int.natCast_nonneg d
    have p1 : (d : Int) < (n : Int) := by omega
    have p2 : d < n := by omega
    have hbit := bit_is hn hb (show d ≤ 64 by omega)
    have hor := or_r hn (filled_lt n a b d) (moveN_lt n a d)
    have hand := and_r hn (filled_lt n a b d) (moveN_lt n a d)
    have go := ih (d + 1) (by omega)
    have hw := next_w (d := d) (by omega)
    refine Ev.succ ?_
    simp only [sackbutref02_Tiles.l0, if_pos p0, if_pos p1, hw]
    refine Ev.ite (fun e => ?_) (fun e => ?_)
    · rw [hbit] at e
      refine Ev.bind_some (moved_f hn (by omega) ha) ?_
      rw [hand]
      refine Ev.ite (fun e2 => ?_) (fun e2 => ?_)
      · refine Ev.bind_some (moved_f hn (by omega) ha) ?_
        rw [hor]
        have := go (filled_apart hx e (by omega))
        simp only [filled, e, if_true] at this
        exact this
      · rw [decide_eq_false (filled_meet p2 e (fun h => e2 (by rw [h]; rfl)))]
        exact Ev.some _
    · rw [hbit] at e
      have := go (filled_step_not hx e)
      simp only [filled, if_neg e] at this
      exact this
theorem refTiles_ev {n a b : Nat} (hn : n ≤ 24) (ha : a < 2 ^ n) (hb : b < 2 ^ n) : Ev (fun k => sackbutref02_Tiles.f k (n : Int) (a : Int) (b : Int)) (decide (Tiled n a b)) := by
  have := refTiles_loop hn ha hb n 0 (by omega) (fun x _ => by rw [cv_zero]; omega)
  simpa [sackbutref02_Tiles.f, filled] using this
theorem awake_tiled : Tiled 2 3 1 := by
  have h := (tiled_iff (n := 2) (a := 3) (b := 1) (by decide)).1
  refine h ⟨?_, by decide⟩
  unfold chSize
  rw [cnt_eq, cnt_eq]
  decide
theorem awake_ev : Ev (fun k => sackbutlaw02_awake.f k) true := by
  unfold sackbutlaw02_awake.f
  refine Ev.bind (Tiles_ev 2 3 1) ?_
  have h : ValidR 2 3 ∧ ValidR 2 1 := by decide
  have ht : decide (Tiled (2 : Int).toNat (3 : Int).toNat (1 : Int).toNat) = true := decide_eq_true awake_tiled
  simp only [h, and_self, if_true, ht]
  exact Ev.some _

end Go.Proofs.Ytkidgakjeahebaa.P
namespace Go.Proofs.Ytkidgakjeahebaa.P
open Go.RowKit Go.Proofs.YtkidgakjeahebaaW.PrintWords Go.Proofs.YtkidgakjeahebaaW.PrintLast Go.Proofs.YtkidgakjeahebaaW.PrintMore
attribute [local go_sem] max2_int min2_int max_two min_two max_three min_three max_four min_four   -- for this text's walks alone
set_option linter.unusedVariables false
set_option linter.unusedSimpArgs false

/-! polynomials: long division as both programs do it -/
theorem ReverseY_loop : ∀ (d : Nat) (M A B : List Int), M.length ≤ d → (A ++ M ++ B).length < 9223372036854775807 →
    Ev (fun k => canon_polynomial_int_58.l0 k (A ++ M ++ B) (A.length : Int) ((A.length : Int) + M.length - 1)) (A ++ M.reverse ++ B) := by
  intro d
  induction d with
  | zero =>
    intro M A B hd hb
    obtain rfl : M = [] := List.eq_nil_of_length_eq_zero (by omega)
    refine Ev.succ ?_
    have : ¬ (A.length : Int) < (A.length : Int) + (([] : List Int).length : Int) - 1 := by simp; omega
    simp only [canon_polynomial_int_58.l0, if_neg this]
    exact Ev.some _
  | succ d ih =>
    intro M A B hd hb
    match M, hd with
    | [], _ => exact ih [] A B (by simp) hb
    | [x], _ =>
      refine Ev.succ ?_
      have : ¬ (A.length : Int) < (A.length : Int) + (([x] : List Int).length : Int) - 1 := by simp
      simp only [canon_polynomial_int_58.l0, if_neg this, List.reverse_singleton]
      exact Ev.some _
    | x :: y :: M', hd =>
      obtain ⟨M2, z, hM⟩ : ∃ M2 z, y :: M' = M2 ++ [z] := ⟨(y :: M').dropLast, (y :: M').getLast (by simp), (List.dropLast_concat_getLast (by simp)).symm⟩
      rw [hM] at hd hb ⊢
      have hl : (A ++ x :: (M2 ++ [z]) ++ B).length = A.length + M2.length + 2 + B.length := by simp; omega
      have hj : (A.length : Int) + ((x :: (M2 ++ [z])).length : Int) - 1 = ((A.length + M2.length + 1 : Nat) : Int) := by simp; omega
      have e1 : A ++ x :: (M2 ++ [z]) ++ B = (A ++ x :: M2) ++ z :: B := by simp
      have r1 : rd (A ++ x :: (M2 ++ [z]) ++ B) (A.length : Int) = x := by
        rw [show A ++ x :: (M2 ++ [z]) ++ B = A ++ x :: (M2 ++ [z] ++ B) by simp]
        exact mid_rd rfl
      have r2 : rd (A ++ x :: (M2 ++ [z]) ++ B) ((A.length + M2.length + 1 : Nat) : Int) = z := by
        rw [e1, show A.length + M2.length + 1 = (A ++ x :: M2).length by simp; omega]
        exact mid_rd rfl
      have s1 : ((A ++ x :: (M2 ++ [z]) ++ B).set A.length z).set (A.length + M2.length + 1) x = (A ++ [z]) ++ M2 ++ (x :: B) := by
        rw [show A ++ x :: (M2 ++ [z]) ++ B = A ++ x :: (M2 ++ z :: B) by simp, List.set_append_right _ _ (Nat.le_refl _)]
        rw [Nat.sub_self, List.set_cons_zero]
        rw [show A ++ z :: (M2 ++ z :: B) = (A ++ z :: M2) ++ z :: B by simp, List.set_append_right _ _ (by simp; omega)]
        rw [show A.length + M2.length + 1 - (A ++ z :: M2).length = 0 by simp; omega, List.set_cons_zero]
        simp
      refine Ev.succ ?_
      rw [hj]
      have c1 : (A.length : Int) < ((A.length + M2.length + 1 : Nat) : Int) := by omega
      have c2 : (0 : Int) ≤ ((A.length + M2.length + 1 : Nat) : Int) := by omega
      have c3 : ((A.length + M2.length + 1 : Nat) : Int) < ((A ++ x :: (M2 ++ [z]) ++ B).length : Int) := by rw [hl]; omega
      have c4 : (A.length : Int) < ((A ++ x :: (M2 ++ [z]) ++ B).length : Int) := by rw [hl]; omega
      have w1 : wrap64 ((A.length : Int) + 1) = ((A ++ [z]).length : Int) := by rw [wrap_id (by omega) (by omega)]; simp
      have w2 : wrap64 (((A.length + M2.length + 1 : Nat) : Int) - 1) = ((A ++ [z]).length : Int) + M2.length - 1 := by rw [wrap_id (by omega) (by omega)]; simp; omega
      simp only [canon_polynomial_int_58.l0, if_pos c1, if_pos c2, if_pos c3, if_pos c4, if_pos (show (0 : Int) ≤ (A.length : Int) by omega), r1, r2, Int.toNat_natCast, s1, w1, w2]
      have := ih M2 (A ++ [z]) (x :: B) (by simp at hd; omega) (by simp at hb ⊢; omega)
      have e2 : A ++ [z] ++ M2.reverse ++ x :: B = A ++ (x :: (M2 ++ [z])).reverse ++ B := by simp
      rw [← e2]
      exact this
theorem ReverseY_ev (l : List Int) (hb : l.length < 9223372036854775807) : Ev (fun k => canon_polynomial_int_58.f k l) l.reverse := by
  have h := ReverseY_loop l.length l [] [] (Nat.le_refl _) (by simpa using hb)
  have w : wrap64 ((l.length : Int) - 1) = ((([] : List Int).length : Nat) : Int) + l.length - 1 := by rw [wrap_id (by omega) (by omega)]; simp
  unfold canon_polynomial_int_58.f
  rw [w]
  simpa using h
def subRow (c : Int) : List Int → List Int → Nat → List Int
  | [], r, _ => r
  | x :: xs, r, o => subRow c xs (r.set o (wrap64 (r.getD o 0 - wrap64 (c * x)))) (o + 1)
theorem subRow_len (c : Int) : ∀ (g r : List Int) (o : Nat), (subRow c g r o).length = r.length
  | [], r, o => rfl
  | x :: xs, r, o => by unfold subRow; rw [subRow_len c xs]; simp
theorem subRow_far (c : Int) : ∀ (g r : List Int) (o i : Nat), (i < o ∨ o + g.length ≤ i) → (subRow c g r o).getD i 0 = r.getD i 0
  | [], r, o, i, _ => rfl
  | x :: xs, r, o, i, h => by
    unfold subRow
    rw [subRow_far c xs _ (o + 1) i (by simp at h; omega)]
    simp only [List.getD_eq_getElem?_getD]
    rw [List.getElem?_set_ne (by simp at h; omega)]
def divRun (g : List Int) (d : Nat) : Nat → List Int → List Int → List Int × List Int
  | 0, q, r => (q, r)
  | m + 1, q, r => divRun g d m (q ++ [r.getD (m + d) 0]) (subRow (r.getD (m + d) 0) g r m)
theorem divRun_len (g : List Int) (d : Nat) : ∀ (m : Nat) (q r : List Int), (divRun g d m q r).2.length = r.length ∧ (divRun g d m q r).1.length = q.length + m
  | 0, q, r => ⟨rfl, rfl⟩
  | m + 1, q, r => by
    unfold divRun
    obtain ⟨h1, h2⟩ := divRun_len g d m (q ++ [r.getD (m + d) 0]) (subRow (r.getD (m + d) 0) g r m)
    exact ⟨by rw [h1, subRow_len], by rw [h2]; simp; omega⟩
theorem rd_natY (r : List Int) (i : Nat) : rd r (i : Int) = r.getD i 0 := by unfold rd; rw [Int.toNat_natCast]
section
variable (g : List Int) (d : Nat)
theorem over_l1 (q : List Int) (o : Nat) (c : Int) (hg2 : g.length < 1000) (ho : o + d < 1000) (res : List Int × List Int) : ∀ (suf pre r : List Int), g = pre ++ suf → o + g.length ≤ r.length → r.length < 1000 →
    Ev (fun k => canon_polynomial_over.l0 k g q (subRow c suf r (o + pre.length)) (d : Int) (wrap64 (((o + d : Nat) : Int) - 1))) res →
    Ev (fun k => canon_polynomial_over.l1 k g q r (d : Int) ((o + d : Nat) : Int) c g (g.length : Int) (pre.length : Int)) res := by
  intro suf
  induction suf with
  | nil =>
    intro pre r hp hl hr hend
    refine Ev.succ ?_
    have : g.length = pre.length := by rw [hp]; simp
    simp only [canon_polynomial_over.l1, if_neg (show ¬ (pre.length : Int) < (g.length : Int) by omega)]
    exact hend
  | cons x xs ih =>
    intro pre r hp hl hr hend
    have hlen : g.length = pre.length + (xs.length + 1) := by rw [hp]; simp
    have hw1 : wrap64 (((o + d : Nat) : Int) - (d : Int)) = (o : Int) := by rw [wrap_id (by omega) (by omega)]; omega
    have hw2 : wrap64 ((o : Int) + (pre.length : Int)) = ((o + pre.length : Nat) : Int) := by rw [wrap_id (by omega) (by omega)]; omega
    have hx : rd g (pre.length : Int) = x := mid_rd hp
    have go := ih (pre ++ [x]) (r.set (o + pre.length) (wrap64 (r.getD (o + pre.length) 0 - wrap64 (c * x)))) (by rw [hp]; simp) (by simpa using hl) (by simpa using hr) (by
      unfold subRow at hend
      have e : o + (pre ++ [x]).length = o + pre.length + 1 := by simp; omega
      rw [e]; exact hend)
    refine Ev.succ ?_
    simp only [canon_polynomial_over.l1, if_pos (show (pre.length : Int) < (g.length : Int) by omega), if_pos (show (0 : Int) ≤ (pre.length : Int) by omega), hw1, hw2, if_pos (show (0 : Int) ≤ ((o + pre.length : Nat) : Int) by omega), if_pos (show ((o + pre.length : Nat) : Int) < (r.length : Int) by omega), Int.toNat_natCast, rd_natY, mid_next hp (by omega)]
    rw [← rd_natY g, hx]
    exact go
theorem over_l0 (hg : g.length = d + 1) (hd : d < 500) : ∀ (m : Nat) (q r : List Int), m + d ≤ r.length → r.length < 500 → q.length + m < 500 →
    Ev (fun k => canon_polynomial_over.l0 k g q r (d : Int) (((m + d : Nat) : Int) - 1)) ((divRun g d m q r).1.reverse, (divRun g d m q r).2.take (min d r.length)) := by
  intro m
  induction m with
  | zero =>
    intro q r h1 h2 h3
    refine Ev.succ ?_
    simp only [canon_polynomial_over.l0, if_neg (show ¬ (((0 + d : Nat) : Int) - 1 ≥ (d : Int)) by omega), mn_eq]
    have hmin : min (d : Int) (r.length : Int) = ((min d r.length : Nat) : Int) := by omega
    rw [hmin]
    refine Ev.bind (ReverseY_ev q (by omega)) ?_
    simp only [if_pos (show (0 : Int) ≤ ((min d r.length : Nat) : Int) by omega), if_pos (show ((min d r.length : Nat) : Int) ≤ (r.length : Int) by omega), Int.toNat_natCast]
    exact Ev.some _
  | succ m ih =>
    intro q r h1 h2 h3
    have e1 : ((m + 1 + d : Nat) : Int) - 1 = ((m + d : Nat) : Int) := by omega
    rw [e1]
    refine Ev.succ ?_
    simp only [canon_polynomial_over.l0, if_pos (show ((m + d : Nat) : Int) ≥ (d : Int) by omega), if_pos (show (0 : Int) ≤ ((m + d : Nat) : Int) by omega), if_pos (show ((m + d : Nat) : Int) < (r.length : Int) by omega), if_pos (show q.length < 17592186044416 by omega), rd_natY]
    have hw : wrap64 (((m + d : Nat) : Int) - 1) = ((m + d : Nat) : Int) - 1 := wrap_id (by omega) (by omega)
    have go := ih (q ++ [r.getD (m + d) 0]) (subRow (r.getD (m + d) 0) g r m) (by rw [subRow_len]; omega) (by rw [subRow_len]; omega) (by simp; omega)
    rw [subRow_len] at go
    have := over_l1 g d (q ++ [r.getD (m + d) 0]) m (r.getD (m + d) 0) (by omega) (by omega) _ g [] r rfl (by omega) (by omega) (by rw [hw]; exact go)
    exact this
end
/-- quotient and rest -/
def divQ (f g : List Int) : List Int × List Int := ((divRun g (g.length - 1) (f.length - (g.length - 1)) [] f).1.reverse, (divRun g (g.length - 1) (f.length - (g.length - 1)) [] f).2)
theorem over_ev (f g : List Int) (hg : 1 ≤ g.length) (hg2 : g.length < 500) (hf : f.length < 500) (hfg : g.length - 1 ≤ f.length) : Ev (fun k => canon_polynomial_over.f k f g) ((divQ f g).1, (divQ f g).2.take (g.length - 1)) := by
  unfold canon_polynomial_over.f
  refine Ev.bind_some (show canon_polynomial_int_57.f f = some f by unfold canon_polynomial_int_57.f; rw [if_pos (by omega)]) ?_
  have hw1 : wrap64 ((g.length : Int) - 1) = ((g.length - 1 : Nat) : Int) := by rw [wrap_id (by omega) (by omega)]; omega
  have hw2 : wrap64 ((f.length : Int) - 1) = (((f.length - (g.length - 1)) + (g.length - 1) : Nat) : Int) - 1 := by rw [wrap_id (by omega) (by omega)]; omega
  have := over_l0 g (g.length - 1) (by omega) (by omega) (f.length - (g.length - 1)) [] f (by omega) hf (by simp; omega)
  rw [hw1, hw2]
  rw [Nat.min_eq_left hfg] at this
  exact this
section
variable (g : List Int) (d : Nat)
theorem div_l1 (q : List Int) (o : Nat) (c : Int) (hg2 : g.length < 1000) (ho : o + d < 1000) (res : List Int × Bool) : ∀ (suf pre r : List Int), g = pre ++ suf → o + g.length ≤ r.length → r.length < 1000 →
    Ev (fun k => sackbutref02_divide.l0 k g (subRow c suf r (o + pre.length)) (d : Int) q (wrap64 (((o + d : Nat) : Int) - 1))) res →
    Ev (fun k => sackbutref02_divide.l1 k g r (d : Int) q ((o + d : Nat) : Int) c g (g.length : Int) (pre.length : Int)) res := by
  intro suf
  induction suf with
  | nil =>
    intro pre r hp hl hr hend
    refine Ev.succ ?_
    have : g.length = pre.length := by rw [hp]; simp
    simp only [sackbutref02_divide.l1, if_neg (show ¬ (pre.length : Int) < (g.length : Int) by omega)]
    exact hend
  | cons x xs ih =>
    intro pre r hp hl hr hend
    have hlen : g.length = pre.length + (xs.length + 1) := by rw [hp]; simp
    have hw1 : wrap64 (((o + d : Nat) : Int) - (d : Int)) = (o : Int) := by rw [wrap_id (by omega) (by omega)]; omega
    have hw2 : wrap64 ((o : Int) + (pre.length : Int)) = ((o + pre.length : Nat) : Int) := by rw [wrap_id (by omega) (by omega)]; omega
    have hx : rd g (pre.length : Int) = x := mid_rd hp
    have go := ih (pre ++ [x]) (r.set (o + pre.length) (wrap64 (r.getD (o + pre.length) 0 - wrap64 (c * x)))) (by rw [hp]; simp) (by simpa using hl) (by simpa using hr) (by
      unfold subRow at hend
      have e : o + (pre ++ [x]).length = o + pre.length + 1 := by simp; omega
      rw [e]; exact hend)
    refine Ev.succ ?_
    simp only [sackbutref02_divide.l1, if_pos (show (pre.length : Int) < (g.length : Int) by omega), if_pos (show (0 : Int) ≤ (pre.length : Int) by omega), hw1, hw2, if_pos (show (0 : Int) ≤ ((o + pre.length : Nat) : Int) by omega), if_pos (show ((o + pre.length : Nat) : Int) < (r.length : Int) by omega), Int.toNat_natCast, rd_natY, mid_next hp (by omega)]
    rw [← rd_natY g, hx]
    exact go
theorem div_l2 (q r : List Int) (hr : r.length < 1000) : ∀ (suf pre : List Int), r = pre ++ suf → Ev (fun k => sackbutref02_divide.l2 k r q (r.length : Int) (pre.length : Int)) (if suf.all (fun x => decide (x = 0)) then (q, true) else ([], false)) := by
  intro suf
  induction suf with
  | nil =>
    intro pre hp
    have : r.length = pre.length := by rw [hp]; simp
    refine Ev.succ ?_
    simp only [sackbutref02_divide.l2, if_neg (show ¬ (pre.length : Int) < (r.length : Int) by omega), List.all_nil, if_true]
    exact Ev.some _
  | cons x xs ih =>
    intro pre hp
    have hlen : r.length = pre.length + (xs.length + 1) := by rw [hp]; simp
    have hx : rd r (pre.length : Int) = x := mid_rd hp
    have go := ih (pre ++ [x]) (by rw [hp]; simp)
    refine Ev.succ ?_
    simp only [sackbutref02_divide.l2, if_pos (show (pre.length : Int) < (r.length : Int) by omega), if_pos (show (0 : Int) ≤ (pre.length : Int) by omega), hx, mid_next hp (by omega), List.all_cons]
    refine Ev.ite (fun e => ?_) (fun e => ?_)
    · subst e; simp only [decide_true, Bool.true_and]; exact go
    · simp only [e, decide_false, Bool.false_and, Bool.false_eq_true, if_false]; exact Ev.some _
theorem div_l0 (hg : g.length = d + 1) (hd : d < 500) (n : Nat) (hn : n < 500) : ∀ (m : Nat) (q r : List Int), m + d ≤ r.length → r.length < 500 → q.length + m = n →
    Ev (fun k => sackbutref02_divide.l0 k g r (d : Int) (List.replicate m 0 ++ q.reverse) (((m + d : Nat) : Int) - 1)) (if (divRun g d m q r).2.all (fun x => decide (x = 0)) then ((divRun g d m q r).1.reverse, true) else ([], false)) := by
  intro m
  induction m with
  | zero =>
    intro q r h1 h2 h3
    refine Ev.succ ?_
    simp only [sackbutref02_divide.l0, if_neg (show ¬ (((0 + d : Nat) : Int) - 1 ≥ (d : Int)) by omega)]
    exact div_l2 (List.replicate 0 0 ++ q.reverse) r (by omega) r [] rfl
  | succ m ih =>
    intro q r h1 h2 h3
    have e1 : ((m + 1 + d : Nat) : Int) - 1 = ((m + d : Nat) : Int) := by omega
    rw [e1]
    have hol : (List.replicate (m + 1) (0 : Int) ++ q.reverse).length = n := by simp; omega
    have hw0 : wrap64 (((m + d : Nat) : Int) - (d : Int)) = (m : Int) := by rw [wrap_id (by omega) (by omega)]; omega
    have hw : wrap64 (((m + d : Nat) : Int) - 1) = ((m + d : Nat) : Int) - 1 := wrap_id (by omega) (by omega)
    have hset : (List.replicate (m + 1) (0 : Int) ++ q.reverse).set m (r.getD (m + d) 0) = List.replicate m 0 ++ (q ++ [r.getD (m + d) 0]).reverse := by
      rw [List.replicate_succ', List.append_assoc, List.set_append_right _ _ (by simp)]
      simp
    have go := ih (q ++ [r.getD (m + d) 0]) (subRow (r.getD (m + d) 0) g r m) (by rw [subRow_len]; omega) (by rw [subRow_len]; omega) (by simp; omega)
    refine Ev.succ ?_
    simp only [sackbutref02_divide.l0, if_pos (show ((m + d : Nat) : Int) ≥ (d : Int) by omega), if_pos (show (0 : Int) ≤ ((m + d : Nat) : Int) by omega), if_pos (show ((m + d : Nat) : Int) < (r.length : Int) by omega), hw0, if_pos (show (0 : Int) ≤ (m : Int) by omega), hol, if_pos (show (m : Int) < (n : Int) by omega), rd_natY, Int.toNat_natCast, hset]
    exact div_l1 g d _ m (r.getD (m + d) 0) (by omega) (by omega) _ g [] r rfl (by omega) (by omega) (by rw [hw]; exact go)
end
theorem divide_ev (f g : List Int) (hg : 1 ≤ g.length) (hg2 : g.length < 500) (hf : f.length < 500) (hfg : g.length - 1 ≤ f.length) : Ev (fun k => sackbutref02_divide.f k f g) (if (divQ f g).2.all (fun x => decide (x = 0)) then ((divQ f g).1, true) else ([], false)) := by
  unfold sackbutref02_divide.f
  have hw1 : wrap64 ((g.length : Int) - 1) = ((g.length - 1 : Nat) : Int) := by rw [wrap_id (by omega) (by omega)]; omega
  have hw2 : wrap64 ((f.length : Int) - 1) = (((f.length - (g.length - 1)) + (g.length - 1) : Nat) : Int) - 1 := by rw [wrap_id (by omega) (by omega)]; omega
  have hw3 : wrap64 ((f.length : Int) - ((g.length - 1 : Nat) : Int)) = ((f.length - (g.length - 1) : Nat) : Int) := by rw [wrap_id (by omega) (by omega)]; omega
  have hmx : mx 0 ((f.length - (g.length - 1) : Nat) : Int) = ((f.length - (g.length - 1) : Nat) : Int) := by rw [mx_eq]; omega
  simp only [Option.bind_some, List.nil_append, List.length_nil, if_pos (show 0 + f.length < 17592186044416 by omega), hw1, hw3, hmx, if_pos (show (0 : Int) ≤ ((f.length - (g.length - 1) : Nat) : Int) by omega), Int.toNat_natCast, if_pos (show f.length - (g.length - 1) ≤ 35184372088832 by omega), hw2]
  have := div_l0 g (g.length - 1) (by omega) (by omega) (f.length - (g.length - 1)) (by omega) (f.length - (g.length - 1)) [] f (by omega) hf (by simp)
  rw [List.reverse_nil, List.append_nil] at this
  exact this

end Go.Proofs.Ytkidgakjeahebaa.P
namespace Go.Proofs.Ytkidgakjeahebaa.P
open Go.RowKit Go.Proofs.YtkidgakjeahebaaW.PrintWords Go.Proofs.YtkidgakjeahebaaW.PrintLast Go.Proofs.YtkidgakjeahebaaW.PrintMore
attribute [local go_sem] max2_int min2_int max_two min_two max_three min_three max_four min_four   -- for this text's walks alone
set_option linter.unusedVariables false
set_option linter.unusedSimpArgs false

/-! the document's number of beats -/
theorem refSize_loop (n : Nat) (hn : n ≤ 24) : ∀ (m a : Nat), a < 2 ^ n → chSize n a = m → ∀ c : Nat, c + m ≤ 1000 →
    Ev (fun k => sackbutref02_Size.l0 k (a : Int) (c : Int)) ((c + m : Nat) : Int) := by
  intro m
  induction m with
  | zero =>
    intro a ha hm c hc
    have h0 : a = 0 := eq_zero_of_chSize ha hm
    subst h0
    refine Ev.succ ?_
    simp only [sackbutref02_Size.l0, if_neg (show ¬ ((0 : Nat) : Int) > 0 by omega)]
    exact Ev.some _
  | succ m ih =>
    intro a ha hm c hc
    have hpos : 0 < a := by
      rcases Nat.eq_zero_or_pos a with h | h
      · subst h
        have := chSize_zero n
        omega
      · exact h
    have hp : 2 ^ n ≤ 2 ^ 24 := Nat.pow_le_pow_right (by omega) hn
    have h24 : (2 : Nat) ^ 24 = 16777216 := by decide
    have hw : wrap64 ((a : Int) - 1) = ((a - 1 : Nat) : Int) := by rw [wrap_id (by omega) (by omega)]; omega
    have hw2 : wrap64 ((c : Int) + 1) = ((c + 1 : Nat) : Int) := by rw [wrap_id (by omega) (by omega)]; omega
    refine Ev.succ ?_
    simp only [sackbutref02_Size.l0, if_pos (show (a : Int) > 0 by omega), hw, hw2, and_r hn ha (show a - 1 < 2 ^ n by omega)]
    have := ih (a &&& (a - 1)) (Nat.lt_of_le_of_lt Nat.and_le_left ha) (by have := chSize_drop ha hpos; omega) (c + 1) (by omega)
    rw [show c + (m + 1) = c + 1 + m by omega]
    exact this
theorem refSize_ev {n a : Nat} (hn : n ≤ 24) (ha : a < 2 ^ n) : Ev (fun k => sackbutref02_Size.f k (a : Int)) (chSize n a : Int) := by
  have := refSize_loop n hn (chSize n a) a ha rfl 0 (by have := chSize_le n a; omega)
  simpa [sackbutref02_Size.f] using this

end Go.Proofs.Ytkidgakjeahebaa.P
namespace Go.Proofs.Ytkidgakjeahebaa.P
open Go.RowKit Go.Proofs.YtkidgakjeahebaaW.PrintWords Go.Proofs.YtkidgakjeahebaaW.PrintLast Go.Proofs.YtkidgakjeahebaaW.PrintMore
attribute [local go_sem] max2_int min2_int max_two min_two max_three min_three max_four min_four   -- for this text's walks alone
set_option linter.unusedVariables false
set_option linter.unusedSimpArgs false

/-! cyclotomic polynomials up to the order 24, and the roots of a rhythm -/
def cycT : List (List Int) := [[], [-1, 1], [1, 1], [1, 1, 1], [1, 0, 1], [1, 1, 1, 1, 1], [1, -1, 1], [1, 1, 1, 1, 1, 1, 1], [1, 0, 0, 0, 1], [1, 0, 0, 1, 0, 0, 1], [1, -1, 1, -1, 1], [1, 1, 1, 1, 1, 1, 1, 1, 1, 1, 1], [1, 0, -1, 0, 1], [1, 1, 1, 1, 1, 1, 1, 1, 1, 1, 1, 1, 1], [1, -1, 1, -1, 1, -1, 1], [1, -1, 0, 1, -1, 1, 0, -1, 1], [1, 0, 0, 0, 0, 0, 0, 0, 1], [1, 1, 1, 1, 1, 1, 1, 1, 1, 1, 1, 1, 1, 1, 1, 1, 1], [1, 0, 0, -1, 0, 0, 1], [1, 1, 1, 1, 1, 1, 1, 1, 1, 1, 1, 1, 1, 1, 1, 1, 1, 1, 1], [1, 0, -1, 0, 1, 0, -1, 0, 1], [1, -1, 0, 1, -1, 0, 1, 0, -1, 1, 0, -1, 1], [1, -1, 1, -1, 1, -1, 1, -1, 1, -1, 1], [1, 1, 1, 1, 1, 1, 1, 1, 1, 1, 1, 1, 1, 1, 1, 1, 1, 1, 1, 1, 1, 1, 1], [1, 0, 0, 0, -1, 0, 0, 0, 1]]
def cycN (n : Nat) : List Int := cycT.getD n []
def cycGo (n : Nat) : Nat → Nat → List Int → List Int
  | 0, _, f => f
  | m + 1, d, f => cycGo n m (d + 1) (if n % d = 0 then (divQ f (cycN d)).1 else f)
def cycOk (n : Nat) : Nat → Nat → List Int → Bool
  | 0, _, f => true
  | m + 1, d, f => (if n % d = 0 then decide (1 ≤ (cycN d).length) && decide ((cycN d).length < 500) && decide (f.length < 500) && decide ((cycN d).length - 1 ≤ f.length) && (divQ f (cycN d)).2.all (fun x => decide (x = 0)) else true) && cycOk n m (d + 1) (if n % d = 0 then (divQ f (cycN d)).1 else f)
def cycInit (n : Nat) : List Int := ((List.replicate (n + 1) (0 : Int)).set 0 (-1)).set n 1
theorem cyc_table : (List.range 25).all (fun n => n == 0 || (cycOk n (n - 1) 1 (cycInit n) && decide (cycGo n (n - 1) 1 (cycInit n) = cycN n))) = true := by kernel_rfl
theorem cyc_shape : (List.range 25).all (fun n => n == 0 || (decide (1 ≤ (cycN n).length) && decide ((cycN n).length ≤ n + 1) && decide ((cycN n).getD ((cycN n).length - 1) 0 = 1))) = true := by kernel_rfl
theorem cyc_at {n : Nat} (h1 : 1 ≤ n) (h2 : n ≤ 24) : cycOk n (n - 1) 1 (cycInit n) = true ∧ cycGo n (n - 1) 1 (cycInit n) = cycN n := by
  have h := List.all_eq_true.1 cyc_table n (List.mem_range.2 (by omega))
  have h0 : (n == 0) = false := beq_eq_false_iff_ne.2 (by omega)
  rw [h0, Bool.false_or, Bool.and_eq_true] at h
  exact ⟨h.1, of_decide_eq_true h.2⟩
theorem cyc_len {n : Nat} (h1 : 1 ≤ n) (h2 : n ≤ 24) : 1 ≤ (cycN n).length ∧ (cycN n).length ≤ n + 1 ∧ (cycN n).getD ((cycN n).length - 1) 0 = 1 := by
  have h := List.all_eq_true.1 cyc_shape n (List.mem_range.2 (by omega))
  have h0 : (n == 0) = false := beq_eq_false_iff_ne.2 (by omega)
  rw [h0, Bool.false_or, Bool.and_eq_true, Bool.and_eq_true] at h
  exact ⟨of_decide_eq_true h.1.1, of_decide_eq_true h.1.2, of_decide_eq_true h.2⟩
theorem cyc_l0 (n : Nat) (hn : n ≤ 24) (ih : ∀ d, 1 ≤ d → d < n → Ev (fun k => canon_cyclotomic.f k (d : Int)) (cycN d)) : ∀ (m d : Nat) (f : List Int), 1 ≤ d → d + m = n → cycOk n m d f = true →
    Ev (fun k => canon_cyclotomic.l0 k (n : Int) f (d : Int)) (cycGo n m d f) := by
  intro m
  induction m with
  | zero =>
    intro d f hd hm hok
    refine Ev.succ ?_
    simp only [canon_cyclotomic.l0, if_neg (show ¬ (d : Int) < (n : Int) by omega)]
    exact Ev.some _
  | succ m im =>
    intro d f hd hm hok
    have hw : wrap64 ((d : Int) + 1) = ((d + 1 : Nat) : Int) := by rw [wrap_id (by omega) (by omega)]; omega
    have ht : Int.tmod (n : Int) (d : Int) = ((n % d : Nat) : Int) := by rw [Int.tmod_eq_emod_of_nonneg (by omega)]; simp
    unfold cycOk at hok
    unfold cycGo
    rw [Bool.and_eq_true] at hok
    refine Ev.succ ?_
    simp only [canon_cyclotomic.l0, if_pos (show (d : Int) < (n : Int) by omega), if_neg (show ¬ (d : Int) = 0 by omega), ht, hw]
    by_cases hz : n % d = 0
    · rw [if_pos hz] at hok ⊢
      rw [if_pos hz] at hok
      simp only [hz, Int.natCast_zero, if_true]
      obtain ⟨h1, h2⟩ := hok
      simp only [Bool.and_eq_true, decide_eq_true_eq] at h1
      refine Ev.bind (ih d hd (by omega)) ?_
      refine Ev.bind (over_ev f (cycN d) h1.1.1.1.1 h1.1.1.1.2 h1.1.1.2 h1.1.2) ?_
      exact im (d + 1) _ (by omega) (by omega) h2
    · rw [if_neg hz] at hok ⊢
      rw [if_neg hz] at hok
      simp only [if_neg (show ¬ ((n % d : Nat) : Int) = 0 by omega)]
      exact im (d + 1) _ (by omega) (by omega) hok.2
theorem cyc_ev : ∀ n : Nat, 1 ≤ n → n ≤ 24 → Ev (fun k => canon_cyclotomic.f k (n : Int)) (cycN n) := by
  intro n
  induction n using Nat.strongRecOn with
  | ind n ih =>
    intro h1 h2
    obtain ⟨a1, a2⟩ := cyc_at h1 h2
    have hw : wrap64 ((n : Int) + 1) = ((n + 1 : Nat) : Int) := by rw [wrap_id (by omega) (by omega)]; omega
    have := cyc_l0 n h2 (fun d hd hdn => ih d hdn hd (by omega)) (n - 1) 1 (cycInit n) (Nat.le_refl _) (by omega) a1
    rw [a2] at this
    refine Ev.succ ?_
    simp only [canon_cyclotomic.f, hw, if_pos (show (0 : Int) ≤ ((n + 1 : Nat) : Int) by omega), Int.toNat_natCast, if_pos (show n + 1 ≤ 35184372088832 by omega), Option.bind_some, List.length_replicate, if_pos (show (0 : Int) < ((n + 1 : Nat) : Int) by omega), if_pos (show (0 : Int) ≤ (n : Int) by omega), if_pos (show (n : Int) < ((n + 1 : Nat) : Int) by omega), Int.toNat_zero]
    exact this
theorem rcyc_l0 (n : Nat) (hn : n ≤ 24) (ih : ∀ d, 1 ≤ d → d < n → Ev (fun k => sackbutref02_cyclotomic.f k (d : Int)) (cycN d)) : ∀ (m d : Nat) (f : List Int), 1 ≤ d → d + m = n → cycOk n m d f = true →
    Ev (fun k => sackbutref02_cyclotomic.l0 k (n : Int) f (d : Int)) (cycGo n m d f) := by
  intro m
  induction m with
  | zero =>
    intro d f hd hm hok
    refine Ev.succ ?_
    simp only [sackbutref02_cyclotomic.l0, if_neg (show ¬ (d : Int) < (n : Int) by omega)]
    exact Ev.some _
  | succ m im =>
    intro d f hd hm hok
    have hw : wrap64 ((d : Int) + 1) = ((d + 1 : Nat) : Int) := by rw [wrap_id (by omega) (by omega)]; omega
    have ht : Int.tmod (n : Int) (d : Int) = ((n % d : Nat) : Int) := by rw [Int.tmod_eq_emod_of_nonneg (by omega)]; simp
    unfold cycOk at hok
    unfold cycGo
    rw [Bool.and_eq_true] at hok
    refine Ev.succ ?_
    simp only [sackbutref02_cyclotomic.l0, if_pos (show (d : Int) < (n : Int) by omega), if_neg (show ¬ (d : Int) = 0 by omega), ht, hw]
    by_cases hz : n % d = 0
    · rw [if_pos hz] at hok ⊢
      rw [if_pos hz] at hok
      simp only [hz, Int.natCast_zero, if_true]
      obtain ⟨h1, h2⟩ := hok
      rw [Bool.and_eq_true] at h1
      obtain ⟨h1, h3⟩ := h1
      simp only [Bool.and_eq_true, decide_eq_true_eq] at h1
      refine Ev.bind (ih d hd (by omega)) ?_
      have hd2 := divide_ev f (cycN d) h1.1.1.1 h1.1.1.2 h1.1.2 h1.2
      rw [h3, if_pos rfl] at hd2
      refine Ev.bind hd2 ?_
      exact im (d + 1) _ (by omega) (by omega) h2
    · rw [if_neg hz] at hok ⊢
      rw [if_neg hz] at hok
      simp only [if_neg (show ¬ ((n % d : Nat) : Int) = 0 by omega)]
      exact im (d + 1) _ (by omega) (by omega) hok.2
theorem rcyc_ev : ∀ n : Nat, 1 ≤ n → n ≤ 24 → Ev (fun k => sackbutref02_cyclotomic.f k (n : Int)) (cycN n) := by
  intro n
  induction n using Nat.strongRecOn with
  | ind n ih =>
    intro h1 h2
    obtain ⟨a1, a2⟩ := cyc_at h1 h2
    have hw : wrap64 ((n : Int) + 1) = ((n + 1 : Nat) : Int) := by rw [wrap_id (by omega) (by omega)]; omega
    have := rcyc_l0 n h2 (fun d hd hdn => ih d hdn hd (by omega)) (n - 1) 1 (cycInit n) (Nat.le_refl _) (by omega) a1
    rw [a2] at this
    refine Ev.succ ?_
    simp only [sackbutref02_cyclotomic.f, hw, if_pos (show (0 : Int) ≤ ((n + 1 : Nat) : Int) by omega), Int.toNat_natCast, if_pos (show n + 1 ≤ 35184372088832 by omega), Option.bind_some, List.length_replicate, if_pos (show (0 : Int) < ((n + 1 : Nat) : Int) by omega), if_pos (show (0 : Int) ≤ (n : Int) by omega), if_pos (show (n : Int) < ((n + 1 : Nat) : Int) by omega), Int.toNat_zero]
    exact this
/-! the rest of a division by a polynomial whose last coefficient is 1 is 0 from its degree on -/
def InR (r : List Int) : Prop := ∀ x ∈ r, -9223372036854775808 ≤ x ∧ x < 9223372036854775808
theorem wrap_in (z : Int) : -9223372036854775808 ≤ wrap64 z ∧ wrap64 z < 9223372036854775808 := by unfold wrap64; omega
theorem subRow_in (c : Int) : ∀ (g r : List Int) (o : Nat), InR r → InR (subRow c g r o)
  | [], _, _, h => h
  | x :: xs, r, o, h => by
    unfold subRow
    refine subRow_in c xs _ (o + 1) (fun y hy => ?_)
    rcases List.mem_or_eq_of_mem_set hy with h1 | h1
    · exact h y h1
    · subst h1; exact wrap_in _
theorem getD_in {r : List Int} (h : InR r) (i : Nat) : -9223372036854775808 ≤ r.getD i 0 ∧ r.getD i 0 < 9223372036854775808 := by
  rw [List.getD_eq_getElem?_getD]
  cases e : r[i]? with
  | none => simp
  | some v => exact h v (List.mem_of_getElem? e)
theorem subRow_last (c x : Int) : ∀ (g r : List Int) (o : Nat), o + g.length < r.length → (subRow c (g ++ [x]) r o).getD (o + g.length) 0 = wrap64 (r.getD (o + g.length) 0 - wrap64 (c * x))
  | [], r, o, h => by
    simp only [List.nil_append, subRow, List.length_nil, Nat.add_zero, List.getD_eq_getElem?_getD] at h ⊢
    rw [List.getElem?_set_self h]; rfl
  | y :: g, r, o, h => by
    simp only [List.cons_append, subRow, List.length_cons] at h ⊢
    have := subRow_last c x g (r.set o (wrap64 (r.getD o 0 - wrap64 (c * y)))) (o + 1) (by simp; omega)
    rw [show o + (g.length + 1) = o + 1 + g.length by omega, this]
    congr 2
    simp only [List.getD_eq_getElem?_getD]
    rw [List.getElem?_set_ne (by omega)]
theorem divRun_far (g : List Int) (d : Nat) (hg : g.length = d + 1) : ∀ (m : Nat) (q r : List Int) (i : Nat), m + d ≤ i → (divRun g d m q r).2.getD i 0 = r.getD i 0
  | 0, q, r, i, _ => rfl
  | m + 1, q, r, i, h => by
    unfold divRun
    rw [divRun_far g d hg m _ _ i (by omega), subRow_far _ _ _ _ _ (by omega)]
theorem divRun_high (g0 : List Int) (d : Nat) (hg : g0.length = d) : ∀ (m : Nat) (q r : List Int), InR r → m + d ≤ r.length → ∀ i, d ≤ i → i < m + d → (divRun (g0 ++ [1]) d m q r).2.getD i 0 = 0
  | 0, q, r, _, _, i, h1, h2 => by omega
  | m + 1, q, r, hr, hl, i, h1, h2 => by
    unfold divRun
    have hin := subRow_in (r.getD (m + d) 0) (g0 ++ [1]) r m hr
    by_cases hi : i < m + d
    · exact divRun_high g0 d hg m _ _ hin (by rw [subRow_len]; omega) i h1 hi
    · have e : i = m + d := by omega
      rw [divRun_far (g0 ++ [1]) d (by simp [hg]) m _ _ i (by omega), e]
      have := subRow_last (r.getD (m + d) 0) 1 g0 r m (by omega)
      rw [hg] at this
      rw [this, Int.mul_one]
      have hc := getD_in hr (m + d)
      rw [wrap_id hc.1 hc.2, Int.sub_self]
      exact wrap_id (by omega) (by omega)
theorem all_take {r : List Int} {d : Nat} (h : ∀ i, d ≤ i → i < r.length → r.getD i 0 = 0) : (r.take d).all (fun x => decide (x = 0)) = r.all (fun x => decide (x = 0)) := by
  have hs : r = r.take d ++ r.drop d := (List.take_append_drop d r).symm
  have hz : (r.drop d).all (fun x => decide (x = 0)) = true := by
    rw [List.all_eq_true]
    intro x hx
    obtain ⟨j, hj, rfl⟩ := List.mem_iff_getElem.1 hx
    rw [List.getElem_drop]
    have hjl : d + j < r.length := by rw [List.length_drop] at hj; omega
    have := h (d + j) (by omega) hjl
    rw [List.getD_eq_getElem?_getD, List.getElem?_eq_getElem hjl] at this
    exact decide_eq_true this
  conv => rhs; rw [hs, List.all_append, hz, Bool.and_true]

end Go.Proofs.Ytkidgakjeahebaa.P
namespace Go.Proofs.Ytkidgakjeahebaa.P
open Go.RowKit Go.Proofs.YtkidgakjeahebaaW.PrintWords Go.Proofs.YtkidgakjeahebaaW.PrintLast Go.Proofs.YtkidgakjeahebaaW.PrintMore
attribute [local go_sem] max2_int min2_int max_two min_two max_three min_three max_four min_four   -- for this text's walks alone
set_option linter.unusedVariables false
set_option linter.unusedSimpArgs false

/-! the roots of a rhythm, and the first condition -/
def bitsN (n a : Nat) : List Int := (List.range n).map fun i => if a.testBit i then (1 : Int) else 0
theorem bitsN_len (n a : Nat) : (bitsN n a).length = n := by unfold bitsN; simp
theorem bitsN_in (n a : Nat) : InR (bitsN n a) := fun x hx => by
  unfold bitsN at hx
  obtain ⟨i, _, rfl⟩ := List.mem_map.1 hx
  split <;> omega
theorem bits_set {n a i : Nat} (hi : i < n) : ((bitsN n a).take i ++ List.replicate (n - i) (0 : Int)).set i (if a.testBit i then 1 else 0) = (bitsN n a).take (i + 1) ++ List.replicate (n - (i + 1)) 0 := by
  have hl : ((bitsN n a).take i).length = i := by rw [List.length_take, bitsN_len]; omega
  have e : (bitsN n a).take (i + 1) = (bitsN n a).take i ++ [if a.testBit i then (1 : Int) else 0] := by
    rw [List.take_succ_eq_append_getElem (by rw [bitsN_len]; exact hi)]
    congr 2
    simp [bitsN]
  obtain ⟨m, hm⟩ : ∃ m, n - i = m + 1 := ⟨n - i - 1, by omega⟩
  rw [e, hm, show n - (i + 1) = m by omega, List.set_append_right _ _ (by omega), hl, Nat.sub_self, List.replicate_succ, List.set_cons_zero, List.append_assoc]
  rfl
theorem of_loop {n a : Nat} (hn : n ≤ 24) (ha : a < 2 ^ n) : ∀ (m i : Nat), i + m = n →
    Ev (fun k => canon_circle_of.l0 k (a : Int) ((bitsN n a).take i ++ List.replicate (n - i) 0) (n : Int) (i : Int)) (bitsN n a) := by
  intro m
  induction m with
  | zero =>
    intro i hi
    have : i = n := by omega
    subst this
    refine Ev.succ ?_
    simp only [canon_circle_of.l0, if_neg (show ¬ (i : Int) < (i : Int) by omega), Nat.sub_self, List.replicate_zero, List.append_nil]
    rw [List.take_of_length_le (by rw [bitsN_len]; exact Nat.le_refl _)]
    exact Ev.some _
  | succ m ih =>
    intro i hi
    have hw : wrap64 ((i : Int) + 1) = ((i + 1 : Nat) : Int) := by rw [wrap_id (by omega) (by omega)]; omega
    have hlen : ((bitsN n a).take i ++ List.replicate (n - i) (0 : Int)).length = n := by rw [List.length_append, List.length_take, bitsN_len, List.length_replicate]; omega
    refine Ev.succ ?_
    simp only [canon_circle_of.l0, if_pos (show (i : Int) < (n : Int) by omega), if_pos (show (0 : Int) ≤ (i : Int) by omega), hlen, Int.toNat_natCast, hw]
    rw [bit_r hn ha (by omega), bits_set (by omega)]
    exact ih (i + 1) (by omega)
theorem of_ev {n a : Nat} (hn : n ≤ 24) (ha : a < 2 ^ n) : Ev (fun k => canon_circle_of.f k (n : Int) (a : Int)) (bitsN n a) := by
  unfold canon_circle_of.f
  simp only [if_pos (show (0 : Int) ≤ (n : Int) by omega), Int.toNat_natCast, if_pos (show n ≤ 35184372088832 by omega), Option.bind_some, List.length_replicate]
  have := of_loop hn ha n 0 (by omega)
  rw [List.take_zero, List.nil_append, Nat.sub_zero] at this
  exact this
/-- a number of steps is a root -/
def isRt (n a s : Nat) : Bool := (divQ (bitsN n a) (cycN s)).2.all (fun x => decide (x = 0))
theorem rest_take {n a s : Nat} (h1 : 1 ≤ s) (h2 : s ≤ 24) (hs : s ≤ n) : ((divQ (bitsN n a) (cycN s)).2.take ((cycN s).length - 1)).all (fun x => decide (x = 0)) = isRt n a s := by
  obtain ⟨c1, c2, c3⟩ := cyc_len h1 h2
  have hg : cycN s = (cycN s).dropLast ++ [1] := by
    have hne : cycN s ≠ [] := fun e => by rw [e] at c1; simp at c1
    conv => lhs; rw [← List.dropLast_concat_getLast hne]
    congr 2
    rw [List.getLast_eq_getElem]
    rw [List.getD_eq_getElem?_getD, List.getElem?_eq_getElem (by omega)] at c3
    exact c3
  have hdl : (cycN s).dropLast.length = (cycN s).length - 1 := List.length_dropLast
  unfold isRt
  refine all_take (fun i hi hil => ?_)
  unfold divQ at hil ⊢
  simp only at hil ⊢
  rw [(divRun_len _ _ _ _ _).1, bitsN_len] at hil
  have := divRun_high (cycN s).dropLast ((cycN s).length - 1) hdl ((bitsN n a).length - ((cycN s).length - 1)) [] (bitsN n a) (bitsN_in n a) (by rw [bitsN_len]; omega) i hi (by rw [bitsN_len]; omega)
  rw [← hg] at this
  exact this
theorem zero_f (l : List Int) : canon_polynomial_zero.f l = some (l.all (fun x => decide (x = 0))) := by
  unfold canon_polynomial_zero.f
  congr 1
  induction l with
  | nil => rfl
  | cons x l ih =>
    rw [List.any_cons, List.all_cons, Bool.not_or, ih]
    congr 1
    unfold notZ
    by_cases h : x = 0 <;> simp [h]
def rootsN (n a : Nat) : List Nat := (List.range' 2 (n - 1)).filter fun s => decide (n % s = 0) && isRt n a s
def numsI (l : List Nat) : List Int := l.map Int.ofNat
theorem roots_loop {n a : Nat} (hn : n ≤ 24) (ha : a < 2 ^ n) : ∀ (m s : Nat) (acc : List Int), 2 ≤ s → s + m = n + 1 → acc.length + m < 1000 →
    Ev (fun k => canon_circle_roots.l0 k (n : Int) (a : Int) acc (s : Int)) (acc ++ numsI ((List.range' s m).filter fun s => decide (n % s = 0) && isRt n a s)) := by
  intro m
  induction m with
  | zero =>
    intro s acc hs hm hl
    refine Ev.succ ?_
    simp only [canon_circle_roots.l0, if_neg (show ¬ (s : Int) ≤ (n : Int) by omega)]
    have : acc ++ numsI ((List.range' s 0).filter fun s => decide (n % s = 0) && isRt n a s) = acc := by simp [numsI]
    rw [this]
    exact Ev.some _
  | succ m ih =>
    intro s acc hs hm hl
    have hw : wrap64 ((s : Int) + 1) = ((s + 1 : Nat) : Int) := by rw [wrap_id (by omega) (by omega)]; omega
    have ht : Int.tmod (n : Int) (s : Int) = ((n % s : Nat) : Int) := by rw [Int.tmod_eq_emod_of_nonneg (by omega)]; simp
    refine Ev.succ ?_
    simp only [canon_circle_roots.l0, if_pos (show (s : Int) ≤ (n : Int) by omega), if_neg (show ¬ (s : Int) = 0 by omega), ht, hw]
    rw [List.range'_succ, List.filter_cons]
    by_cases hz : n % s = 0
    · simp only [hz, Int.natCast_zero, if_true, decide_true, Bool.true_and]
      obtain ⟨c1, c2, c3⟩ := cyc_len (n := s) (by omega) (by omega)
      refine Ev.bind (of_ev hn ha) ?_
      refine Ev.bind (cyc_ev s (by omega) (by omega)) ?_
      refine Ev.bind (over_ev (bitsN n a) (cycN s) c1 (by omega) (by rw [bitsN_len]; omega) (by rw [bitsN_len]; omega)) ?_
      refine Ev.bind_some (zero_f _) ?_
      rw [rest_take (by omega) (by omega) (by omega)]
      cases hr : isRt n a s with
      | true =>
        simp only [if_true, if_pos (show acc.length < 17592186044416 by omega)]
        have := ih (s + 1) (acc ++ [(s : Int)]) (by omega) (by omega) (by simp; omega)
        rw [List.append_assoc] at this
        exact this
      | false =>
        simp only [Bool.false_eq_true, if_false]
        exact ih (s + 1) acc (by omega) (by omega) (by omega)
    · simp only [if_neg (show ¬ ((n % s : Nat) : Int) = 0 by omega), decide_eq_false hz, Bool.false_and, Bool.false_eq_true, if_false]
      exact ih (s + 1) acc (by omega) (by omega) (by omega)
theorem roots_ev {n a : Nat} (h2 : 2 ≤ n) (hn : n ≤ 24) (ha : a < 2 ^ n) : Ev (fun k => canon_circle_roots.f k (n : Int) (a : Int)) (numsI (rootsN n a)) := by
  unfold canon_circle_roots.f
  have := roots_loop hn ha (n - 1) 2 [] (Nat.le_refl _) (by omega) (by simp; omega)
  rw [List.nil_append] at this
  exact this
theorem isRoot_loop {n a s : Nat} (h1 : 1 ≤ s) (h24 : s ≤ 24) (hs : s ≤ n) (hn : n ≤ 24) (ha : a < 2 ^ n) : ∀ (m i : Nat), i + m = n →
    Ev (fun k => sackbutref02_IsRoot.l0 k (a : Int) (s : Int) ((bitsN n a).take i ++ List.replicate (n - i) 0) (n : Int) (i : Int)) (isRt n a s) := by
  intro m
  induction m with
  | zero =>
    intro i hi
    have : i = n := by omega
    subst this
    refine Ev.succ ?_
    simp only [sackbutref02_IsRoot.l0, if_neg (show ¬ (i : Int) < (i : Int) by omega), Nat.sub_self, List.replicate_zero, List.append_nil]
    rw [List.take_of_length_le (by rw [bitsN_len]; exact Nat.le_refl _)]
    obtain ⟨c1, c2, c3⟩ := cyc_len h1 h24
    refine Ev.bind (rcyc_ev s h1 h24) ?_
    refine Ev.bind (divide_ev (bitsN i a) (cycN s) c1 (by omega) (by rw [bitsN_len]; omega) (by rw [bitsN_len]; omega)) ?_
    have e : (if (divQ (bitsN i a) (cycN s)).2.all (fun x => decide (x = 0)) = true then ((divQ (bitsN i a) (cycN s)).1, true) else (([] : List Int), false)).2 = isRt i a s := by
      unfold isRt
      cases (divQ (bitsN i a) (cycN s)).2.all (fun x => decide (x = 0)) <;> rfl
    rw [e]
    exact Ev.some _
  | succ m ih =>
    intro i hi
    have hw : wrap64 ((i : Int) + 1) = ((i + 1 : Nat) : Int) := by rw [wrap_id (by omega) (by omega)]; omega
    have hlen : ((bitsN n a).take i ++ List.replicate (n - i) (0 : Int)).length = n := by rw [List.length_append, List.length_take, bitsN_len, List.length_replicate]; omega
    refine Ev.succ ?_
    simp only [sackbutref02_IsRoot.l0, if_pos (show (i : Int) < (n : Int) by omega), if_pos (show (0 : Int) ≤ (i : Int) by omega), hlen, Int.toNat_natCast, hw]
    rw [bit_r hn ha (by omega), bits_set (by omega)]
    exact ih (i + 1) (by omega)
theorem isRoot_ev {n a s : Nat} (h1 : 1 ≤ s) (hs : s ≤ n) (hn : n ≤ 24) (ha : a < 2 ^ n) : Ev (fun k => sackbutref02_IsRoot.f k (n : Int) (a : Int) (s : Int)) (isRt n a s) := by
  unfold sackbutref02_IsRoot.f
  simp only [if_pos (show (0 : Int) ≤ (n : Int) by omega), Int.toNat_natCast, if_pos (show n ≤ 35184372088832 by omega), Option.bind_some, List.length_replicate]
  have := isRoot_loop h1 (by omega) hs hn ha n 0 (by omega)
  rw [List.take_zero, List.nil_append, Nat.sub_zero] at this
  exact this
theorem rroots_loop {n a : Nat} (hn : n ≤ 24) (ha : a < 2 ^ n) : ∀ (m s : Nat) (acc : List Int), 2 ≤ s → s + m = n + 1 → acc.length + m < 1000 →
    Ev (fun k => sackbutref02_Roots.l0 k (n : Int) (a : Int) acc (s : Int)) (acc ++ numsI ((List.range' s m).filter fun s => decide (n % s = 0) && isRt n a s)) := by
  intro m
  induction m with
  | zero =>
    intro s acc hs hm hl
    refine Ev.succ ?_
    simp only [sackbutref02_Roots.l0, if_neg (show ¬ (s : Int) ≤ (n : Int) by omega)]
    have : acc ++ numsI ((List.range' s 0).filter fun s => decide (n % s = 0) && isRt n a s) = acc := by simp [numsI]
    rw [this]
    exact Ev.some _
  | succ m ih =>
    intro s acc hs hm hl
    have hw : wrap64 ((s : Int) + 1) = ((s + 1 : Nat) : Int) := by rw [wrap_id (by omega) (by omega)]; omega
    have ht : Int.tmod (n : Int) (s : Int) = ((n % s : Nat) : Int) := by rw [Int.tmod_eq_emod_of_nonneg (by omega)]; simp
    refine Ev.succ ?_
    simp only [sackbutref02_Roots.l0, if_pos (show (s : Int) ≤ (n : Int) by omega), if_neg (show ¬ (s : Int) = 0 by omega), ht, hw]
    rw [List.range'_succ, List.filter_cons]
    by_cases hz : n % s = 0
    · simp only [hz, Int.natCast_zero, if_true, decide_true, Bool.true_and]
      refine Ev.bind (isRoot_ev (by omega) (by omega) hn ha) ?_
      cases hr : isRt n a s with
      | true =>
        simp only [if_true, if_pos (show acc.length < 17592186044416 by omega)]
        have := ih (s + 1) (acc ++ [(s : Int)]) (by omega) (by omega) (by simp; omega)
        rw [List.append_assoc] at this
        exact this
      | false =>
        simp only [Bool.false_eq_true, if_false]
        exact ih (s + 1) acc (by omega) (by omega) (by omega)
    · simp only [if_neg (show ¬ ((n % s : Nat) : Int) = 0 by omega), decide_eq_false hz, Bool.false_and, Bool.false_eq_true, if_false]
      exact ih (s + 1) acc (by omega) (by omega) (by omega)
theorem rroots_ev {n a : Nat} (h2 : 2 ≤ n) (hn : n ≤ 24) (ha : a < 2 ^ n) : Ev (fun k => sackbutref02_Roots.f k (n : Int) (a : Int)) (numsI (rootsN n a)) := by
  unfold sackbutref02_Roots.f
  have := rroots_loop hn ha (n - 1) 2 [] (Nat.le_refl _) (by omega) (by simp; omega)
  rw [List.nil_append] at this
  exact this
/-! primes -/
def prT : List Nat := [0, 0, 2, 3, 2, 5, 0, 7, 2, 3, 0, 11, 0, 13, 0, 0, 2, 17, 0, 19, 0, 0, 0, 23, 0]
def prN (s : Nat) : Nat := prT.getD s 0
theorem prime_table : (List.range 25).all (fun s => decide (s < 2) || decide (canon_prime.f 60 (s : Int) = some (prN s : Int))) = true := by kernel_rfl
theorem base_table : (List.range 25).all (fun s => decide (s < 2) || decide (sackbutref02_base.f 60 (s : Int) = some (prN s : Int))) = true := by kernel_rfl
theorem prime_at {s : Nat} (h1 : 2 ≤ s) (h2 : s ≤ 24) : canon_prime.f 60 (s : Int) = some (prN s : Int) := by
  have h := List.all_eq_true.1 prime_table s (List.mem_range.2 (by omega))
  rw [decide_eq_false (show ¬ s < 2 by omega), Bool.false_or] at h
  exact of_decide_eq_true h
theorem prime_ev {s : Nat} (h1 : 2 ≤ s) (h2 : s ≤ 24) : Ev (fun k => canon_prime.f k (s : Int)) (prN s : Int) := Ev.of (canon_prime.mono (s : Int)) (prime_at h1 h2)
theorem base_ev {s : Nat} (h1 : 2 ≤ s) (h2 : s ≤ 24) : Ev (fun k => sackbutref02_base.f k (s : Int)) (prN s : Int) := by
  have h := List.all_eq_true.1 base_table s (List.mem_range.2 (by omega))
  rw [decide_eq_false (show ¬ s < 2 by omega), Bool.false_or] at h
  exact Ev.of (sackbutref02_base.mono (s : Int)) (of_decide_eq_true h)
theorem rootsN_mem {n a s : Nat} : s ∈ rootsN n a ↔ 2 ≤ s ∧ s ≤ n ∧ n % s = 0 ∧ isRt n a s = true := by
  unfold rootsN
  rw [List.mem_filter, List.mem_range'_1, Bool.and_eq_true, decide_eq_true_eq]
  constructor
  · rintro ⟨⟨h1, h2⟩, h3, h4⟩; exact ⟨h1, by omega, h3, h4⟩
  · rintro ⟨h1, h2, h3, h4⟩; exact ⟨⟨h1, by omega⟩, h3, h4⟩
def prodP (p : Int) (l : List Nat) : Int := l.foldl (fun p s => if (prN s : Int) > 0 then wrap64 (p * (prN s : Int)) else p) p
theorem first_loop {n a : Nat} (hn : n ≤ 24) (ha : a < 2 ^ n) (rs : List Nat) (hr : ∀ s ∈ rs, 2 ≤ s ∧ s ≤ 24) (hl : rs.length < 1000) : ∀ (suf pre : List Nat) (p : Int), rs = pre ++ suf →
    Ev (fun k => canon_circle_first.l0 k (a : Int) p (numsI rs) (rs.length : Int) (pre.length : Int)) (prodP p suf == (chSize n a : Int)) := by
  have hlen : (numsI rs).length = rs.length := by unfold numsI; simp
  intro suf
  induction suf with
  | nil =>
    intro pre p hp
    have : rs.length = pre.length := by rw [hp]; simp
    refine Ev.succ ?_
    simp only [canon_circle_first.l0, if_neg (show ¬ (pre.length : Int) < (rs.length : Int) by omega)]
    exact Ev.bind_some (count_f hn ha) (Ev.some _)
  | cons s suf ih =>
    intro pre p hp
    have hl2 : rs.length = pre.length + (suf.length + 1) := by rw [hp]; simp
    have hs := hr s (by rw [hp]; simp)
    have hrd : rd (numsI rs) (pre.length : Int) = (s : Int) := by
      have e : numsI rs = numsI pre ++ (s : Int) :: numsI suf := by rw [hp]; simp [numsI]
      have := mid_rd (pre := numsI pre) e
      have hpl : (numsI pre).length = pre.length := by simp [numsI]
      rw [hpl] at this; exact this
    have hw : wrap64 ((pre.length : Int) + 1) = ((pre ++ [s]).length : Int) := by rw [wrap_id (by omega) (by omega)]; simp
    refine Ev.succ ?_
    simp only [canon_circle_first.l0, if_pos (show (pre.length : Int) < (rs.length : Int) by omega), if_pos (show (0 : Int) ≤ (pre.length : Int) by omega), hlen, hrd, hw]
    refine Ev.bind (prime_ev hs.1 hs.2) ?_
    have e : prodP p (s :: suf) = prodP (if (prN s : Int) > 0 then wrap64 (p * (prN s : Int)) else p) suf := rfl
    rw [e]
    by_cases hp0 : (prN s : Int) > 0
    · rw [if_pos hp0]
      simp only [if_pos hp0]
      exact ih (pre ++ [s]) _ (by rw [hp]; simp)
    · rw [if_neg hp0]
      simp only [if_neg hp0]
      exact ih (pre ++ [s]) _ (by rw [hp]; simp)
theorem rfirst_loop {n a : Nat} (hn : n ≤ 24) (ha : a < 2 ^ n) (rs : List Nat) (hr : ∀ s ∈ rs, 2 ≤ s ∧ s ≤ 24) (hl : rs.length < 1000) : ∀ (suf pre : List Nat) (p : Int), rs = pre ++ suf →
    Ev (fun k => sackbutref02_First.l0 k (a : Int) p (numsI rs) (rs.length : Int) (pre.length : Int)) (prodP p suf == (chSize n a : Int)) := by
  have hlen : (numsI rs).length = rs.length := by unfold numsI; simp
  intro suf
  induction suf with
  | nil =>
    intro pre p hp
    have : rs.length = pre.length := by rw [hp]; simp
    refine Ev.succ ?_
    simp only [sackbutref02_First.l0, if_neg (show ¬ (pre.length : Int) < (rs.length : Int) by omega)]
    exact Ev.bind (refSize_ev hn ha) (Ev.some _)
  | cons s suf ih =>
    intro pre p hp
    have hl2 : rs.length = pre.length + (suf.length + 1) := by rw [hp]; simp
    have hs := hr s (by rw [hp]; simp)
    have hrd : rd (numsI rs) (pre.length : Int) = (s : Int) := by
      have e : numsI rs = numsI pre ++ (s : Int) :: numsI suf := by rw [hp]; simp [numsI]
      have := mid_rd (pre := numsI pre) e
      have hpl : (numsI pre).length = pre.length := by simp [numsI]
      rw [hpl] at this; exact this
    have hw : wrap64 ((pre.length : Int) + 1) = ((pre ++ [s]).length : Int) := by rw [wrap_id (by omega) (by omega)]; simp
    refine Ev.succ ?_
    simp only [sackbutref02_First.l0, if_pos (show (pre.length : Int) < (rs.length : Int) by omega), if_pos (show (0 : Int) ≤ (pre.length : Int) by omega), hlen, hrd, hw]
    refine Ev.bind (base_ev hs.1 hs.2) ?_
    have e : prodP p (s :: suf) = prodP (if (prN s : Int) > 0 then wrap64 (p * (prN s : Int)) else p) suf := rfl
    rw [e]
    by_cases hp0 : (prN s : Int) > 0
    · rw [if_pos hp0]
      simp only [if_pos hp0]
      exact ih (pre ++ [s]) _ (by rw [hp]; simp)
    · rw [if_neg hp0]
      simp only [if_neg hp0]
      exact ih (pre ++ [s]) _ (by rw [hp]; simp)
noncomputable def firstB (n a : Nat) : Bool := prodP 1 (rootsN n a) == (chSize n a : Int)
theorem rootsN_len (n a : Nat) (hn : n ≤ 24) : (rootsN n a).length < 1000 := by
  unfold rootsN
  have := List.length_filter_le (fun s => decide (n % s = 0) && isRt n a s) (List.range' 2 (n - 1))
  rw [List.length_range'] at this; omega
theorem first_ev {n a : Nat} (h2 : 2 ≤ n) (hn : n ≤ 24) (ha : a < 2 ^ n) : Ev (fun k => canon_circle_first.f k (n : Int) (a : Int)) (firstB n a) := by
  unfold canon_circle_first.f
  refine Ev.bind (roots_ev h2 hn ha) ?_
  have hlen : (numsI (rootsN n a)).length = (rootsN n a).length := by unfold numsI; simp
  rw [hlen]
  exact first_loop hn ha (rootsN n a) (fun s hs => by have := rootsN_mem.1 hs; omega) (rootsN_len n a hn) (rootsN n a) [] 1 rfl
theorem rfirst_ev {n a : Nat} (h2 : 2 ≤ n) (hn : n ≤ 24) (ha : a < 2 ^ n) : Ev (fun k => sackbutref02_First.f k (n : Int) (a : Int)) (firstB n a) := by
  unfold sackbutref02_First.f
  refine Ev.bind (rroots_ev h2 hn ha) ?_
  have hlen : (numsI (rootsN n a)).length = (rootsN n a).length := by unfold numsI; simp
  rw [hlen]
  exact rfirst_loop hn ha (rootsN n a) (fun s hs => by have := rootsN_mem.1 hs; omega) (rootsN_len n a hn) (rootsN n a) [] 1 rfl

end Go.Proofs.Ytkidgakjeahebaa.P
