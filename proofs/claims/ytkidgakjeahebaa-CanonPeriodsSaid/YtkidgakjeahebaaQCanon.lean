/- A part of a proof that a law's Go function returns true for every input, laid by this session's program mp.py (which drives the kit's print). Conditions: as each theorem states them. -/
import Derived.Test.YtkidgakjeahebaaGCaValid
import Derived.Test.YtkidgakjeahebaaMCirc
import Derived.Test.YtkidgakjeahebaaMTile
import Derived.Test.YtkidgakjeahebaaP0
import Derived.Test.YtkidgakjeahebaaPf10
import Derived.Test.YtkidgakjeahebaaPf11
import Derived.Test.YtkidgakjeahebaaPf12
import Derived.Test.YtkidgakjeahebaaPf31
import Derived.Test.YtkidgakjeahebaaPf32
import Derived.Test.YtkidgakjeahebaaPf33
import Derived.Test.YtkidgakjeahebaaPf46
import Derived.Test.YtkidgakjeahebaaPf47
import Derived.Test.YtkidgakjeahebaaPf8
import Derived.Test.YtkidgakjeahebaaQBase
import Derived.Test.YtkidgakjeahebaaQCount
namespace Go.Proofs.Ytkidgakjeahebaa.P
open Go.RowKit Go.Proofs.YtkidgakjeahebaaW.PrintWords Go.Proofs.YtkidgakjeahebaaW.PrintLast Go.Proofs.YtkidgakjeahebaaW.PrintMore
attribute [local go_sem] max2_int min2_int max_two min_two max_three min_three max_four min_four   -- for this text's walks alone
set_option linter.unusedVariables false
set_option linter.unusedSimpArgs false

/-! what the functions on rhythms come to -/
def ValidR (n c : Int) : Prop := 2 ≤ n ∧ n ≤ 24 ∧ 0 ≤ c ∧ c < 2 ^ n.toNat ∧ c % 2 = 1
instance (n c : Int) : Decidable (ValidR n c) := by unfold ValidR; infer_instance
theorem shl_n {n : Int} (h0 : 0 ≤ n) (h : n ≤ 62) : shl .i64 1 n = 2 ^ n.toNat := by
  obtain ⟨m, rfl⟩ := Int.eq_ofNat_of_zero_le h0
  rw [shl1_i64 (by omega), pow_cast, Int.toNat_natCast]
theorem pow24 {n : Nat} (h : n ≤ 24) : 2 ^ n ≤ 16777216 := by
  have : 2 ^ n ≤ 2 ^ 24 := Nat.pow_le_pow_right (by omega) h
  omega
theorem and_one {c : Int} {N : Nat} (hN : N ≤ 24) (h0 : 0 ≤ c) (h1 : c < 2 ^ N) : Go.bits .and .i64 c 1 = c % 2 := by
  obtain ⟨C, rfl⟩ := Int.eq_ofNat_of_zero_le h0
  have hp := pow24 hN
  rw [← pow_cast] at h1
  have h := and_i64 (a := C) (b := 1) (by omega) (by omega)
  rw [show ((1 : Nat) : Int) = 1 from rfl] at h
  rw [h, Nat.and_one_is_mod]
  omega
theorem badBeat_iff {n c : Int} (h2 : 2 ≤ n) (h24 : n ≤ 24) : badBeat n c = false ↔ ValidR n c := by
  unfold badBeat ValidR
  rw [shl_n (by omega) (by omega), Bool.or_eq_false_iff, Bool.or_eq_false_iff, decide_eq_false_iff_not, decide_eq_false_iff_not, decide_eq_false_iff_not]
  constructor
  · rintro ⟨h3, h4, h5⟩
    rw [and_one (N := n.toNat) (by omega) (by omega) (by omega)] at h5
    omega
  · rintro ⟨_, _, h3, h4, h5⟩
    refine ⟨by omega, by omega, ?_⟩
    rw [and_one (N := n.toNat) (by omega) (by omega) (by omega)]
    omega
theorem valid0_f (n : Int) : canon_circle_valid.f n [] = some (decide (2 ≤ n ∧ n ≤ 24)) := by
  unfold canon_circle_valid.f
  by_cases h2 : n ≥ 2
  · by_cases h24 : n ≤ 24
    · rw [if_pos h2, if_pos h24, if_pos (by simp)]
      simp only [List.any_nil, Bool.not_false, Option.some.injEq]
      exact (decide_eq_true ⟨h2, h24⟩).symm
    · rw [if_pos h2, if_neg h24, decide_eq_false (fun h => h24 h.2)]
  · rw [if_neg h2, decide_eq_false (fun h => h2 h.1)]
theorem valid1_f (n c : Int) : canon_circle_valid.f n [c] = some (decide (ValidR n c)) := by
  unfold canon_circle_valid.f
  by_cases h2 : n ≥ 2
  · by_cases h24 : n ≤ 24
    · rw [if_pos h2, if_pos h24, if_pos (by simp)]
      congr 1
      have := badBeat_iff (c := c) h2 h24
      rw [Bool.eq_iff_iff]
      simp only [List.any_cons, List.any_nil, Bool.or_false, Bool.not_eq_true', decide_eq_true_eq]
      exact this
    · rw [if_pos h2, if_neg h24]
      have : ¬ ValidR n c := fun h => h24 h.2.1
      simp [this]
  · rw [if_neg h2]
    have : ¬ ValidR n c := fun h => h2 h.1
    simp [this]
theorem valid2_f (n a b : Int) : canon_circle_valid.f n [a, b] = some (decide (ValidR n a ∧ ValidR n b)) := by
  unfold canon_circle_valid.f
  by_cases h2 : n ≥ 2
  · by_cases h24 : n ≤ 24
    · rw [if_pos h2, if_pos h24, if_pos (by simp)]
      congr 1
      have h1 := badBeat_iff (c := a) h2 h24
      have h2 := badBeat_iff (c := b) h2 h24
      rw [Bool.eq_iff_iff]
      simp only [List.any_cons, List.any_nil, Bool.or_false, Bool.not_eq_true', decide_eq_true_eq, Bool.or_eq_false_iff]
      rw [h1, h2]
    · rw [if_pos h2, if_neg h24]
      have : ¬ (ValidR n a ∧ ValidR n b) := fun h => h24 h.1.2.1
      simp [this]
  · rw [if_neg h2]
    have : ¬ (ValidR n a ∧ ValidR n b) := fun h => h2 h.1.1
    simp [this]
theorem rhythm_f (n c : Int) : sackbutref02_Rhythm.f n c = some (decide (ValidR n c)) := by
  unfold sackbutref02_Rhythm.f
  by_cases h2 : n ≥ 2
  · by_cases h24 : n ≤ 24
    · by_cases h0 : c ≥ 0
      · rw [if_pos h2, if_pos h24, if_pos h0, if_pos (by omega), shl_n (by omega) (by omega)]
        by_cases h1 : c < 2 ^ n.toNat
        · rw [if_pos h1, and_one (N := n.toNat) (by omega) (by omega) h1]
          congr 1
          rw [Bool.eq_iff_iff, beq_iff_eq, decide_eq_true_eq]
          unfold ValidR
          omega
        · rw [if_neg h1]
          have : ¬ ValidR n c := fun h => h1 h.2.2.2.1
          simp [this]
      · rw [if_pos h2, if_pos h24, if_neg h0]
        have : ¬ ValidR n c := fun h => h0 h.2.2.1
        simp [this]
    · rw [if_pos h2, if_neg h24]
      have : ¬ ValidR n c := fun h => h24 h.2.1
      simp [this]
  · rw [if_neg h2]
    have : ¬ ValidR n c := fun h => h2 h.1
    simp [this]
theorem validR_nat {n c : Int} (h : ValidR n c) : ∃ N C : Nat, n = N ∧ c = C ∧ 2 ≤ N ∧ N ≤ 24 ∧ C < 2 ^ N ∧ C.testBit 0 = true := by
  obtain ⟨h1, h2, h3, h4, h5⟩ := h
  obtain ⟨N, rfl⟩ := Int.eq_ofNat_of_zero_le (show 0 ≤ n by omega)
  obtain ⟨C, rfl⟩ := Int.eq_ofNat_of_zero_le h3
  rw [Int.toNat_natCast, ← pow_cast] at h4
  refine ⟨N, C, rfl, rfl, by omega, by omega, by omega, ?_⟩
  rw [Nat.testBit_zero]
  simp only [decide_eq_true_eq]
  omega
theorem count_f {n a : Nat} (hn : n ≤ 24) (ha : a < 2 ^ n) : canon_count.f (a : Int) = some (chSize n a : Int) := by
  unfold canon_count.f
  rw [OnesCount_f hn ha]
  rfl
theorem full_w {n : Nat} (hn : n ≤ 24) : wrap64 (shl .i64 1 (n : Int) - 1) = ((2 ^ n - 1 : Nat) : Int) := by
  have hp := pow24 hn
  have := Nat.two_pow_pos n
  rw [shl1_i64 (by omega), wrap_id (by omega) (by omega)]
  omega
theorem all_f {n : Nat} (hn : n ≤ 24) : canon_circle_all.f (n : Int) = some ((2 ^ n - 1 : Nat) : Int) := by
  unfold canon_circle_all.f
  rw [if_pos (by omega), full_w hn]
theorem move_bits {n c j : Nat} (hn : n ≤ 24) (hj : j ≤ n) (hc : c < 2 ^ n) :
    Go.bits .and .i64 (Go.bits .or .i64 (shl .i64 (c : Int) (j : Int)) (shr .i64 (c : Int) ((n - j : Nat) : Int))) ((2 ^ n - 1 : Nat) : Int) = (moveN n c j : Int) := by
  have hp := pow24 hn
  have hpj := pow24 (n := j) (by omega)
  have h63 : (2 : Nat) ^ 63 = 9223372036854775808 := by decide
  have hm : c * 2 ^ j < 2 ^ 63 := by
    have : c * 2 ^ j ≤ 16777216 * 16777216 := Nat.mul_le_mul (by omega) (by omega)
    omega
  have hd : c / 2 ^ (n - j) < 2 ^ 63 := Nat.lt_of_le_of_lt (Nat.div_le_self _ _) (by omega)
  have hor : c * 2 ^ j ||| c / 2 ^ (n - j) < 2 ^ 63 := Nat.or_lt_two_pow hm hd
  rw [shl_i64 (by omega) hm, shr_i64 _ _ (by omega), or_i64 hm hd, and_i64 hor (by omega)]
  rfl
theorem move_w {n j : Nat} (hn : n ≤ 24) (hj : j ≤ n) : wrap64 ((n : Int) - (j : Int)) = ((n - j : Nat) : Int) := by rw [wrap_id (by omega) (by omega)]; omega
theorem move_f {n c j : Nat} (hn : n ≤ 24) (hj : j ≤ n) (hc : c < 2 ^ n) : canon_circle_move.f (n : Int) (c : Int) (j : Int) = some (moveN n c j : Int) := by
  unfold canon_circle_move.f
  rw [move_w hn hj, if_pos (by omega), if_pos (by omega), all_f hn, Option.bind_some, move_bits hn hj hc]
theorem moved_f {n c j : Nat} (hn : n ≤ 24) (hj : j ≤ n) (hc : c < 2 ^ n) : sackbutref02_moved.f (n : Int) (c : Int) (j : Int) = some (moveN n c j : Int) := by
  unfold sackbutref02_moved.f
  rw [move_w hn hj, if_pos (by omega), if_pos (by omega), if_pos (by omega), full_w hn, move_bits hn hj hc]
theorem and_r {n a b : Nat} (hn : n ≤ 24) (ha : a < 2 ^ n) (hb : b < 2 ^ n) : Go.bits .and .i64 (a : Int) (b : Int) = ((a &&& b : Nat) : Int) := by
  have hp := pow24 hn
  exact and_i64 (by omega) (by omega)
theorem or_r {n a b : Nat} (hn : n ≤ 24) (ha : a < 2 ^ n) (hb : b < 2 ^ n) : Go.bits .or .i64 (a : Int) (b : Int) = ((a ||| b : Nat) : Int) := by
  have hp := pow24 hn
  exact or_i64 (by omega) (by omega)
theorem bit_r {n a x : Nat} (hn : n ≤ 24) (ha : a < 2 ^ n) (hx : x ≤ 64) : Go.bits .and .i64 (shr .i64 (a : Int) (x : Int)) 1 = if a.testBit x then 1 else 0 := by
  have hp := pow24 hn
  exact bit_i64 (by omega) hx
theorem bit_is {n a x : Nat} (hn : n ≤ 24) (ha : a < 2 ^ n) (hx : x ≤ 64) : (Go.bits .and .i64 (shr .i64 (a : Int) (x : Int)) 1 = 1) ↔ a.testBit x = true := by
  rw [bit_r hn ha hx]; cases a.testBit x <;> simp
theorem bit_not {n a x : Nat} (hn : n ≤ 24) (ha : a < 2 ^ n) (hx : x ≤ 64) : (Go.bits .and .i64 (shr .i64 (a : Int) (x : Int)) 1 = 0) ↔ ¬ a.testBit x = true := by
  rw [bit_r hn ha hx]; cases a.testBit x <;> simp
theorem next_w {d : Nat} (h : d ≤ 1000) : wrap64 ((d : Int) + 1) = ((d + 1 : Nat) : Int) := by rw [wrap_id (by omega) (by omega)]; omega
theorem tiles_loop {n a b : Nat} (hn : n ≤ 24) (ha : a < 2 ^ n) (hb : b < 2 ^ n) : ∀ (m d : Nat), d + m = n →
    Ev (fun k => canon_circle_tiles.l0 k (n : Int) (a : Int) (b : Int) (filled n a b d : Int) (n : Int) (d : Int)) (decide (filled n a b n = 2 ^ n - 1)) := by
  intro m
  induction m with
  | zero =>
    intro d hd
    have hdn : d = n := by omega
    subst hdn
    have p1 : ¬ (d : Int) < (d : Int) := by omega
    refine Ev.succ ?_
    simp only [canon_circle_tiles.l0, if_neg p1]
    refine Ev.bind_some (all_f hn) ?_
    have : (((filled d a b d : Nat) : Int) == ((2 ^ d - 1 : Nat) : Int)) = decide (filled d a b d = 2 ^ d - 1) := by
      rw [Bool.eq_iff_iff, beq_iff_eq, decide_eq_true_eq]; omega
    rw [this]
    exact Ev.some _
  | succ m ih =>
    intro d hd
    have p0 : (0 : Int) ≤ (d : Int) := Int.natCast_nonneg d
    have p1 : (d : Int) < (n : Int) := by omega
    have hbit := bit_is hn hb (show d ≤ 64 by omega)
    have go := ih (d + 1) (by omega)
    have hor := or_r hn (filled_lt n a b d) (moveN_lt n a d)
    have hw := next_w (d := d) (by omega)
    refine Ev.succ ?_
    simp only [canon_circle_tiles.l0, if_pos p0, if_pos p1, hw]
    refine Ev.ite (fun e => ?_) (fun e => ?_)
    · rw [hbit] at e
      refine Ev.bind_some (move_f hn (by omega) ha) ?_
      rw [hor]
      simp only [filled, e, if_true] at go
      exact go
    · rw [hbit] at e
      simp only [filled, if_neg e] at go
      exact go
theorem tiles_ev {n a b : Nat} (hn : n ≤ 24) (ha : a < 2 ^ n) (hb : b < 2 ^ n) : Ev (fun k => canon_circle_tiles.f k (n : Int) (a : Int) (b : Int)) (decide (Tiled n a b)) := by
  have hA := chSize_le n a; have hB := chSize_le n b
  have hm : chSize n a * chSize n b ≤ 24 * 24 := Nat.mul_le_mul (by omega) (by omega)
  have hw : wrap64 ((chSize n a : Int) * (chSize n b : Int)) = ((chSize n a * chSize n b : Nat) : Int) := by
    rw [← Int.natCast_mul, wrap_id (by omega) (by omega)]
  have hl := tiles_loop hn ha hb n 0 (by omega)
  have ht := tiled_iff (b := b) ha
  unfold canon_circle_tiles.f
  refine Ev.bind_some (count_f hn ha) ?_
  refine Ev.bind_some (count_f hn hb) ?_
  rw [hw]
  refine Ev.ite (fun e => ?_) (fun e => ?_)
  · have e2 : chSize n a * chSize n b = n := by omega
    have : decide (Tiled n a b) = decide (filled n a b n = 2 ^ n - 1) := by
      rw [decide_eq_decide, ← ht]; simp [e2]
    rw [this]
    exact hl
  · have : ¬ Tiled n a b := fun h => e (by have := (ht.2 h).1; omega)
    rw [decide_eq_false this]
    exact Ev.some _
theorem Tiles_ev (n a b : Int) : Ev (fun k => canon_Tiles.f k n a b) (if ValidR n a ∧ ValidR n b then (decide (Tiled n.toNat a.toNat b.toNat), 0) else (false, 2)) := by
  unfold canon_Tiles.f
  refine Ev.bind_some (valid2_f n a b) ?_
  by_cases h : ValidR n a ∧ ValidR n b
  · simp only [h, and_self, decide_true, if_true]
    obtain ⟨N, A, rfl, rfl, h2, h24, hA, _⟩ := validR_nat h.1
    obtain ⟨N', B, e, rfl, _, _, hB, _⟩ := validR_nat h.2
    obtain rfl : N = N' := by omega
    simp only [Int.toNat_natCast]
    exact Ev.bind (tiles_ev h24 hA hB) (Ev.some _)
  · simp only [h, decide_false, Bool.false_eq_true, if_false]
    exact Ev.some _
theorem refTiles_loop {n a b : Nat} (hn : n ≤ 24) (ha : a < 2 ^ n) (hb : b < 2 ^ n) : ∀ (m d : Nat), d + m = n → (∀ x, x < n → cv n a b d x ≤ 1) →
    Ev (fun k => sackbutref02_Tiles.l0 k (n : Int) (a : Int) (b : Int) (filled n a b d : Int) (n : Int) (d : Int)) (decide (Tiled n a b)) := by
  intro m
  induction m with
  | zero =>
    intro d hd hx
    have hdn : d = n := by omega
    subst hdn
    have p1 : ¬ (d : Int) < (d : Int) := by omega
    have p0 : (0 : Int) ≤ (d : Int) := Int.natCast_nonneg d
    refine Ev.succ ?_
    simp only [sackbutref02_Tiles.l0, if_neg p1, if_pos p0, full_w hn]
    have : (((filled d a b d : Nat) : Int) == ((2 ^ d - 1 : Nat) : Int)) = decide (Tiled d a b) := by
      rw [Bool.eq_iff_iff, beq_iff_eq, decide_eq_true_eq, ← filled_end hx]; omega
    rw [this]
    exact Ev.some _
  | succ m ih =>
    intro d hd hx
    have p0 : (0 : Int) ≤ (d : Int) := Int.natCast_nonneg d
    have p1 : (d : Int) < (n : Int) := by omega
    have p2 : d < n := by omega
    have hbit := bit_is hn hb (show d ≤ 64 by omega)
    have hor := or_r hn (filled_lt n a b d) (moveN_lt n a d)
    have hand := and_r hn (filled_lt n a b d) (moveN_lt n a d)
    have go := ih (d + 1) (by omega)
    have hw := next_w (d := d) (by omega)
    refine Ev.succ ?_
    simp only [sackbutref02_Tiles.l0, if_pos p0, if_pos p1, hw]
    refine Ev.ite (fun e => ?_) (fun e => ?_)
    · rw [hbit] at e
      refine Ev.bind_some (moved_f hn (by omega) ha) ?_
      rw [hand]
      refine Ev.ite (fun e2 => ?_) (fun e2 => ?_)
      · refine Ev.bind_some (moved_f hn (by omega) ha) ?_
        rw [hor]
        have := go (filled_apart hx e (by omega))
        simp only [filled, e, if_true] at this
        exact this
      · rw [decide_eq_false (filled_meet p2 e (fun h => e2 (by rw [h]; rfl)))]
        exact Ev.some _
    · rw [hbit] at e
      have := go (filled_step_not hx e)
      simp only [filled, if_neg e] at this
      exact this
theorem refTiles_ev {n a b : Nat} (hn : n ≤ 24) (ha : a < 2 ^ n) (hb : b < 2 ^ n) : Ev (fun k => sackbutref02_Tiles.f k (n : Int) (a : Int) (b : Int)) (decide (Tiled n a b)) := by
  have := refTiles_loop hn ha hb n 0 (by omega) (fun x _ => by rw [cv_zero]; omega)
  simpa [sackbutref02_Tiles.f, filled] using this
theorem awake_tiled : Tiled 2 3 1 := by
  have h := (tiled_iff (n := 2) (a := 3) (b := 1) (by decide)).1
  refine h ⟨?_, by decide⟩
  unfold chSize
  rw [cnt_eq, cnt_eq]
  decide
theorem awake_ev : Ev (fun k => sackbutlaw02_awake.f k) true := by
  unfold sackbutlaw02_awake.f
  refine Ev.bind (Tiles_ev 2 3 1) ?_
  have h : ValidR 2 3 ∧ ValidR 2 1 := by decide
  have ht : decide (Tiled (2 : Int).toNat (3 : Int).toNat (1 : Int).toNat) = true := decide_eq_true awake_tiled
  simp only [h, and_self, if_true, ht]
  exact Ev.some _

end Go.Proofs.Ytkidgakjeahebaa.P
