/- A part of a proof that a law's Go function returns true for every input, laid by this session's program mp.py (which drives the kit's print). Conditions: as each theorem states them. -/
import Derived.RowKit
import Derived.Tactics
import Derived.Test.YtfpnojcbhbkfaaaCTopSilent1
import Derived.Test.YtfpnojcbhbkfaaaCTopSilent3
import Derived.Test.YtfpnojcbhbkfaaaCTopSilent4
import Derived.Test.YtfpnojcbhbkfaaaCTopSilent5
import Derived.Test.YtfpnojcbhbkfaaaCTopSilent6
namespace Go.Proofs.Ytfpnojcbhbkfaaa.P
open Go.RowKit Go.Proofs.YtfpnojcbhbkfaaaW.PrintWords Go.Proofs.YtfpnojcbhbkfaaaW.PrintLast Go.Proofs.YtfpnojcbhbkfaaaW.PrintMore
attribute [local go_sem] max2_int min2_int max_two min_two max_three min_three max_four min_four   -- for this text's walks alone
set_option linter.unusedVariables false
set_option linter.unusedSimpArgs false

/-! (gathered by mk_cond.py out of q_Canon, for seats that lack the document's functions) -/
/-! what the functions on rhythms come to -/
def ValidR (n c : Int) : Prop := 2 ≤ n ∧ n ≤ 24 ∧ 0 ≤ c ∧ c < 2 ^ n.toNat ∧ c % 2 = 1
instance (n c : Int) : Decidable (ValidR n c) := by unfold ValidR; infer_instance
theorem cshl_n {n : Int} (h0 : 0 ≤ n) (h : n ≤ 62) : shl .i64 1 n = 2 ^ n.toNat := by
  obtain ⟨m, rfl⟩ := Int.eq_ofNat_of_zero_le h0
  rw [shl1_i64 (by omega), pow_cast, Int.toNat_natCast]
theorem pow24 {n : Nat} (h : n ≤ 24) : 2 ^ n ≤ 16777216 := by
  have : 2 ^ n ≤ 2 ^ 24 := Nat.pow_le_pow_right (by omega) h
  omega
theorem and_one {c : Int} {N : Nat} (hN : N ≤ 24) (h0 : 0 ≤ c) (h1 : c < 2 ^ N) : Go.bits .and .i64 c 1 = c % 2 := by
  obtain ⟨C, rfl⟩ := Int.eq_ofNat_of_zero_le h0
  have hp := pow24 hN
  rw [← pow_cast] at h1
  have h := and_i64 (a := C) (b := 1) (by omega) (by omega)
  rw [show ((1 : Nat) : Int) = 1 from rfl] at h
  rw [h, Nat.and_one_is_mod]
  omega
theorem badBeat_iff {n c : Int} (h2 : 2 ≤ n) (h24 : n ≤ 24) : badBeat n c = false ↔ ValidR n c := by
  unfold badBeat ValidR
  rw [cshl_n (by omega) (by omega), Bool.or_eq_false_iff, Bool.or_eq_false_iff, decide_eq_false_iff_not, decide_eq_false_iff_not, decide_eq_false_iff_not]
  constructor
  · rintro ⟨h3, h4, h5⟩
    rw [and_one (N := n.toNat) (by omega) (by omega) (by omega)] at h5
    omega
  · rintro ⟨_, _, h3, h4, h5⟩
    refine ⟨by omega, by omega, ?_⟩
    rw [and_one (N := n.toNat) (by omega) (by omega) (by omega)]
    omega
theorem valid0_f (n : Int) : canon_circle_valid.f n [] = some (decide (2 ≤ n ∧ n ≤ 24)) := by
  unfold canon_circle_valid.f
  by_cases h2 : n ≥ 2
  · by_cases h24 : n ≤ 24
    · rw [if_pos h2, if_pos h24, if_pos (by simp)]
      simp only [List.any_nil, Bool.not_false, Option.some.injEq]
      exact (decide_eq_true ⟨h2, h24⟩).symm
    · rw [if_pos h2, if_neg h24, decide_eq_false (fun h => h24 h.2)]
  · rw [if_neg h2, decide_eq_false (fun h => h2 h.1)]
theorem cvalid1_f (n c : Int) : canon_circle_valid.f n [c] = some (decide (ValidR n c)) := by
  unfold canon_circle_valid.f
  by_cases h2 : n ≥ 2
  · by_cases h24 : n ≤ 24
    · rw [if_pos h2, if_pos h24, if_pos (by simp)]
      congr 1
      have := badBeat_iff (c := c) h2 h24
      rw [Bool.eq_iff_iff]
      simp only [List.any_cons, List.any_nil, Bool.or_false, Bool.not_eq_true', decide_eq_true_eq]
      exact this
    · rw [if_pos h2, if_neg h24]
      have : ¬ ValidR n c := fun h => h24 h.2.1
      simp [this]
  · rw [if_neg h2]
    have : ¬ ValidR n c := fun h => h2 h.1
    simp [this]
theorem valid2_f (n a b : Int) : canon_circle_valid.f n [a, b] = some (decide (ValidR n a ∧ ValidR n b)) := by
  unfold canon_circle_valid.f
  by_cases h2 : n ≥ 2
  · by_cases h24 : n ≤ 24
    · rw [if_pos h2, if_pos h24, if_pos (by simp)]
      congr 1
      have h1 := badBeat_iff (c := a) h2 h24
      have h2 := badBeat_iff (c := b) h2 h24
      rw [Bool.eq_iff_iff]
      simp only [List.any_cons, List.any_nil, Bool.or_false, Bool.not_eq_true', decide_eq_true_eq, Bool.or_eq_false_iff]
      rw [h1, h2]
    · rw [if_pos h2, if_neg h24]
      have : ¬ (ValidR n a ∧ ValidR n b) := fun h => h24 h.1.2.1
      simp [this]
  · rw [if_neg h2]
    have : ¬ (ValidR n a ∧ ValidR n b) := fun h => h2 h.1.1
    simp [this]
theorem rhythm_f (n c : Int) : sackbutref02_Rhythm.f n c = some (decide (ValidR n c)) := by
  unfold sackbutref02_Rhythm.f
  by_cases h2 : n ≥ 2
  · by_cases h24 : n ≤ 24
    · by_cases h0 : c ≥ 0
      · rw [if_pos h2, if_pos h24, if_pos h0, if_pos (by omega), cshl_n (by omega) (by omega)]
        by_cases h1 : c < 2 ^ n.toNat
        · rw [if_pos h1, and_one (N := n.toNat) (by omega) (by omega) h1]
          congr 1
          rw [Bool.eq_iff_iff, beq_iff_eq, decide_eq_true_eq]
          unfold ValidR
          omega
        · rw [if_neg h1]
          have : ¬ ValidR n c := fun h => h1 h.2.2.2.1
          simp [this]
      · rw [if_pos h2, if_pos h24, if_neg h0]
        have : ¬ ValidR n c := fun h => h0 h.2.2.1
        simp [this]
    · rw [if_pos h2, if_neg h24]
      have : ¬ ValidR n c := fun h => h24 h.2.1
      simp [this]
  · rw [if_neg h2]
    have : ¬ ValidR n c := fun h => h2 h.1
    simp [this]
theorem validR_nat {n c : Int} (h : ValidR n c) : ∃ N C : Nat, n = N ∧ c = C ∧ 2 ≤ N ∧ N ≤ 24 ∧ C < 2 ^ N ∧ C.testBit 0 = true := by
  obtain ⟨h1, h2, h3, h4, h5⟩ := h
  obtain ⟨N, rfl⟩ := Int.eq_ofNat_of_zero_le (show 0 ≤ n by omega)
  obtain ⟨C, rfl⟩ := Int.eq_ofNat_of_zero_le h3
  rw [Int.toNat_natCast, ← pow_cast] at h4
  refine ⟨N, C, rfl, rfl, by omega, by omega, by omega, ?_⟩
  rw [Nat.testBit_zero]
  simp only [decide_eq_true_eq]
  omega
theorem count_f {n a : Nat} (hn : n ≤ 24) (ha : a < 2 ^ n) : canon_count.f (a : Int) = some (chSize n a : Int) := by
  unfold canon_count.f
  rw [OnesCount_f hn ha]
  rfl
theorem full_w {n : Nat} (hn : n ≤ 24) : wrap64 (shl .i64 1 (n : Int) - 1) = ((2 ^ n - 1 : Nat) : Int) := by
  have hp := pow24 hn
  have := Nat.two_pow_pos n
  rw [shl1_i64 (by omega), wrap_id (by omega) (by omega)]
  omega
theorem all_f {n : Nat} (hn : n ≤ 24) : canon_circle_all.f (n : Int) = some ((2 ^ n - 1 : Nat) : Int) := by
  unfold canon_circle_all.f
  rw [if_pos (by omega), full_w hn]
theorem move_bits {n c j : Nat} (hn : n ≤ 24) (hj : j ≤ n) (hc : c < 2 ^ n) :
    Go.bits .and .i64 (Go.bits .or .i64 (shl .i64 (c : Int) (j : Int)) (shr .i64 (c : Int) ((n - j : Nat) : Int))) ((2 ^ n - 1 : Nat) : Int) = (moveN n c j : Int) := by
  have hp := pow24 hn
  have hpj := pow24 (n := j) (by omega)
  have h63 : (2 : Nat) ^ 63 = 9223372036854775808 := by decide
  have hm : c * 2 ^ j < 2 ^ 63 := by
    have : c * 2 ^ j ≤ 16777216 * 16777216 := Nat.mul_le_mul (by omega) (by omega)
    omega
  have hd : c / 2 ^ (n - j) < 2 ^ 63 := Nat.lt_of_le_of_lt (Nat.div_le_self _ _) (by omega)
  have hor : c * 2 ^ j ||| c / 2 ^ (n - j) < 2 ^ 63 := Nat.or_lt_two_pow hm hd
  rw [shl_i64 (by omega) hm, shr_i64 _ _ (by omega), or_i64 hm hd, and_i64 hor (by omega)]
  rfl
theorem move_w {n j : Nat} (hn : n ≤ 24) (hj : j ≤ n) : wrap64 ((n : Int) - (j : Int)) = ((n - j : Nat) : Int) := by rw [wrap_id (by omega) (by omega)]; omega
theorem cmove_f {n c j : Nat} (hn : n ≤ 24) (hj : j ≤ n) (hc : c < 2 ^ n) : canon_circle_move.f (n : Int) (c : Int) (j : Int) = some (moveN n c j : Int) := by
  unfold canon_circle_move.f
  rw [move_w hn hj, if_pos (by omega), if_pos (by omega), all_f hn, Option.bind_some, move_bits hn hj hc]
theorem and_r {n a b : Nat} (hn : n ≤ 24) (ha : a < 2 ^ n) (hb : b < 2 ^ n) : Go.bits .and .i64 (a : Int) (b : Int) = ((a &&& b : Nat) : Int) := by
  have hp := pow24 hn
  exact and_i64 (by omega) (by omega)
theorem or_r {n a b : Nat} (hn : n ≤ 24) (ha : a < 2 ^ n) (hb : b < 2 ^ n) : Go.bits .or .i64 (a : Int) (b : Int) = ((a ||| b : Nat) : Int) := by
  have hp := pow24 hn
  exact or_i64 (by omega) (by omega)
theorem bit_r {n a x : Nat} (hn : n ≤ 24) (ha : a < 2 ^ n) (hx : x ≤ 64) : Go.bits .and .i64 (shr .i64 (a : Int) (x : Int)) 1 = if a.testBit x then 1 else 0 := by
  have hp := pow24 hn
  exact bit_i64 (by omega) hx
theorem bit_is {n a x : Nat} (hn : n ≤ 24) (ha : a < 2 ^ n) (hx : x ≤ 64) : (Go.bits .and .i64 (shr .i64 (a : Int) (x : Int)) 1 = 1) ↔ a.testBit x = true := by
  rw [bit_r hn ha hx]; cases a.testBit x <;> simp
theorem bit_not {n a x : Nat} (hn : n ≤ 24) (ha : a < 2 ^ n) (hx : x ≤ 64) : (Go.bits .and .i64 (shr .i64 (a : Int) (x : Int)) 1 = 0) ↔ ¬ a.testBit x = true := by
  rw [bit_r hn ha hx]; cases a.testBit x <;> simp
theorem next_w {d : Nat} (h : d ≤ 1000) : wrap64 ((d : Int) + 1) = ((d + 1 : Nat) : Int) := by rw [wrap_id (by omega) (by omega)]; omega
theorem tiles_loop {n a b : Nat} (hn : n ≤ 24) (ha : a < 2 ^ n) (hb : b < 2 ^ n) : ∀ (m d : Nat), d + m = n →
    Ev (fun k => canon_circle_tiles.l0 k (n : Int) (a : Int) (b : Int) (filled n a b d : Int) (n : Int) (d : Int)) (decide (filled n a b n = 2 ^ n - 1)) := by
  intro m
  induction m with
  | zero =>
    intro d hd
    have hdn : d = n := by omega
    subst hdn
    have p1 : ¬ (d : Int) < (d : Int) := by omega
    refine Ev.succ ?_
    simp only [canon_circle_tiles.l0, if_neg p1]
    refine Ev.bind_some (all_f hn) ?_
    have : (((filled d a b d : Nat) : Int) == ((2 ^ d - 1 : Nat) : Int)) = decide (filled d a b d = 2 ^ d - 1) := by
      rw [Bool.eq_iff_iff, beq_iff_eq, decide_eq_true_eq]; omega
    rw [this]
    exact Ev.some _
  | succ m ih =>
    intro d hd
    have p0 : (0 : Int) ≤ (d : Int) := Int.natCast_nonneg d
    have p1 : (d : Int) < (n : Int) := by omega
    have hbit := bit_is hn hb (show d ≤ 64 by omega)
    have go := ih (d + 1) (by omega)
    have hor := or_r hn (filled_lt n a b d) (moveN_lt n a d)
    have hw := next_w (d := d) (by omega)
    refine Ev.succ ?_
    simp only [canon_circle_tiles.l0, if_pos p0, if_pos p1, hw]
    refine Ev.ite (fun e => ?_) (fun e => ?_)
    · rw [hbit] at e
      refine Ev.bind_some (cmove_f hn (by omega) ha) ?_
      rw [hor]
      simp only [filled, e, if_true] at go
      exact go
    · rw [hbit] at e
      simp only [filled, if_neg e] at go
      exact go
theorem tiles_ev {n a b : Nat} (hn : n ≤ 24) (ha : a < 2 ^ n) (hb : b < 2 ^ n) : Ev (fun k => canon_circle_tiles.f k (n : Int) (a : Int) (b : Int)) (decide (Tiled n a b)) := by
  have hA := chSize_le n a; have hB := chSize_le n b
  have hm : chSize n a * chSize n b ≤ 24 * 24 := Nat.mul_le_mul (by omega) (by omega)
  have hw : wrap64 ((chSize n a : Int) * (chSize n b : Int)) = ((chSize n a * chSize n b : Nat) : Int) := by
    rw [← Int.natCast_mul, wrap_id (by omega) (by omega)]
  have hl := tiles_loop hn ha hb n 0 (by omega)
  have ht := tiled_iff (b := b) ha
  unfold canon_circle_tiles.f
  refine Ev.bind_some (count_f hn ha) ?_
  refine Ev.bind_some (count_f hn hb) ?_
  rw [hw]
  refine Ev.ite (fun e => ?_) (fun e => ?_)
  · have e2 : chSize n a * chSize n b = n := by omega
    have : decide (Tiled n a b) = decide (filled n a b n = 2 ^ n - 1) := by
      rw [decide_eq_decide, ← ht]; simp [e2]
    rw [this]
    exact hl
  · have : ¬ Tiled n a b := fun h => e (by have := (ht.2 h).1; omega)
    rw [decide_eq_false this]
    exact Ev.some _
theorem Tiles_ev (n a b : Int) : Ev (fun k => canon_Tiles.f k n a b) (if ValidR n a ∧ ValidR n b then (decide (Tiled n.toNat a.toNat b.toNat), 0) else (false, 2)) := by
  unfold canon_Tiles.f
  refine Ev.bind_some (valid2_f n a b) ?_
  by_cases h : ValidR n a ∧ ValidR n b
  · simp only [h, and_self, decide_true, if_true]
    obtain ⟨N, A, rfl, rfl, h2, h24, hA, _⟩ := validR_nat h.1
    obtain ⟨N', B, e, rfl, _, _, hB, _⟩ := validR_nat h.2
    obtain rfl : N = N' := by omega
    simp only [Int.toNat_natCast]
    exact Ev.bind (tiles_ev h24 hA hB) (Ev.some _)
  · simp only [h, decide_false, Bool.false_eq_true, if_false]
    exact Ev.some _
theorem awake_tiled : Tiled 2 3 1 := by
  have h := (tiled_iff (n := 2) (a := 3) (b := 1) (by decide)).1
  refine h ⟨?_, by decide⟩
  unfold chSize
  rw [cnt_eq, cnt_eq]
  decide

end Go.Proofs.Ytfpnojcbhbkfaaa.P
namespace Go.Proofs.Ytfpnojcbhbkfaaa.P
open Go.RowKit Go.Proofs.YtfpnojcbhbkfaaaW.PrintWords Go.Proofs.YtfpnojcbhbkfaaaW.PrintLast Go.Proofs.YtfpnojcbhbkfaaaW.PrintMore
attribute [local go_sem] max2_int min2_int max_two min_two max_three min_three max_four min_four   -- for this text's walks alone
set_option linter.unusedVariables false
set_option linter.unusedSimpArgs false

/-! slices.Equal -/
theorem Equal_loop (l0 l1 : List Int) (hlen : l0.length = l1.length) (hb : l0.length < 9223372036854775807) : ∀ (xs ys pre pre1 : List Int), l0 = pre ++ xs → l1 = pre1 ++ ys → pre.length = pre1.length →
    Ev (fun k => slices_Equal_int_int.l0 k l0 l1 (l0.length : Int) (pre.length : Int)) (decide (xs = ys)) := by
  intro xs
  induction xs with
  | nil =>
    intro ys pre pre1 h0 h1 hp
    have hy : ys = [] := by
      have := congrArg List.length h0; have := congrArg List.length h1
      simp at *
      exact List.eq_nil_of_length_eq_zero (by omega)
    subst hy
    refine Ev.succ ?_
    simp only [slices_Equal_int_int.l0, if_neg (mid_end h0)]
    simpa using Ev.some true
  | cons x xs ih =>
    intro ys pre pre1 h0 h1 hp
    cases ys with
    | nil => exfalso; have := congrArg List.length h0; have := congrArg List.length h1; simp at *; omega
    | cons y ys =>
      have r1 : rd l1 (pre.length : Int) = y := by rw [hp]; exact mid_rd h1
      have l1' : (pre.length : Int) < (l1.length : Int) := by rw [hp]; exact mid_lt h1
      refine Ev.succ ?_
      simp only [slices_Equal_int_int.l0, if_pos (mid_lt h0), if_pos (show (0 : Int) ≤ (pre.length : Int) by omega), if_pos l1', mid_rd h0, r1, mid_next h0 hb]
      refine Ev.ite (fun e => ?_) (fun e => ?_)
      · have := ih ys (pre ++ [x]) (pre1 ++ [y]) (mid_mv h0) (mid_mv h1) (by simp [hp])
        simpa [e] using this
      · simpa [e] using Ev.some false
theorem Equal_ev (l0 l1 : List Int) (hb : l0.length < 9223372036854775807) : Ev (fun k => slices_Equal_int_int.f k l0 l1) (decide (l0 = l1)) := by
  unfold slices_Equal_int_int.f
  refine Ev.ite (fun e => ?_) (fun e => ?_)
  · exact Equal_loop l0 l1 (by omega) hb l0 l1 [] [] rfl rfl rfl
  · have : l0 ≠ l1 := fun h => e (by rw [h])
    simpa [this] using Ev.some false


end Go.Proofs.Ytfpnojcbhbkfaaa.P
namespace Go.Proofs.Ytfpnojcbhbkfaaa.P
open Go.RowKit Go.Proofs.YtfpnojcbhbkfaaaW.PrintWords Go.Proofs.YtfpnojcbhbkfaaaW.PrintLast Go.Proofs.YtfpnojcbhbkfaaaW.PrintMore
attribute [local go_sem] max2_int min2_int max_two min_two max_three min_three max_four min_four   -- for this text's walks alone
set_option linter.unusedVariables false
set_option linter.unusedSimpArgs false

/-! (gathered by mk_cond.py: what q_Poly, q_Roots and q_Roots2 say of the program's own functions) -/
/-! polynomials: long division as both programs do it -/
theorem ReverseY_loop : ∀ (d : Nat) (M A B : List Int), M.length ≤ d → (A ++ M ++ B).length < 9223372036854775807 →
    Ev (fun k => canon_polynomial_int_38.l0 k (A ++ M ++ B) (A.length : Int) ((A.length : Int) + M.length - 1)) (A ++ M.reverse ++ B) := by
  intro d
  induction d with
  | zero =>
    intro M A B hd hb
    obtain rfl : M = [] := List.eq_nil_of_length_eq_zero (by omega)
    refine Ev.succ ?_
    have : ¬ (A.length : Int) < (A.length : Int) + (([] : List Int).length : Int) - 1 := by simp; omega
    simp only [canon_polynomial_int_38.l0, if_neg this]
    exact Ev.some _
  | succ d ih =>
    intro M A B hd hb
    match M, hd with
    | [], _ => exact ih [] A B (by simp) hb
    | [x], _ =>
      refine Ev.succ ?_
      have : ¬ (A.length : Int) < (A.length : Int) + (([x] : List Int).length : Int) - 1 := by simp
      simp only [canon_polynomial_int_38.l0, if_neg this, List.reverse_singleton]
      exact Ev.some _
    | x :: y :: M', hd =>
      obtain ⟨M2, z, hM⟩ : ∃ M2 z, y :: M' = M2 ++ [z] := ⟨(y :: M').dropLast, (y :: M').getLast (by simp), (List.dropLast_concat_getLast (by simp)).symm⟩
      rw [hM] at hd hb ⊢
      have hl : (A ++ x :: (M2 ++ [z]) ++ B).length = A.length + M2.length + 2 + B.length := by simp; omega
      have hj : (A.length : Int) + ((x :: (M2 ++ [z])).length : Int) - 1 = ((A.length + M2.length + 1 : Nat) : Int) := by simp; omega
      have e1 : A ++ x :: (M2 ++ [z]) ++ B = (A ++ x :: M2) ++ z :: B := by simp
      have r1 : rd (A ++ x :: (M2 ++ [z]) ++ B) (A.length : Int) = x := by
        rw [show A ++ x :: (M2 ++ [z]) ++ B = A ++ x :: (M2 ++ [z] ++ B) by simp]
        exact mid_rd rfl
      have r2 : rd (A ++ x :: (M2 ++ [z]) ++ B) ((A.length + M2.length + 1 : Nat) : Int) = z := by
        rw [e1, show A.length + M2.length + 1 = (A ++ x :: M2).length by simp; omega]
        exact mid_rd rfl
      have s1 : ((A ++ x :: (M2 ++ [z]) ++ B).set A.length z).set (A.length + M2.length + 1) x = (A ++ [z]) ++ M2 ++ (x :: B) := by
        rw [show A ++ x :: (M2 ++ [z]) ++ B = A ++ x :: (M2 ++ z :: B) by simp, List.set_append_right _ _ (Nat.le_refl _)]
        rw [Nat.sub_self, List.set_cons_zero]
        rw [show A ++ z :: (M2 ++ z :: B) = (A ++ z :: M2) ++ z :: B by simp, List.set_append_right _ _ (by simp; omega)]
        rw [show A.length + M2.length + 1 - (A ++ z :: M2).length = 0 by simp; omega, List.set_cons_zero]
        simp
      refine Ev.succ ?_
      rw [hj]
      have c1 : (A.length : Int) < ((A.length + M2.length + 1 : Nat) : Int) := by omega
      have c2 : (0 : Int) ≤ ((A.length + M2.length + 1 : Nat) : Int) := by omega
      have c3 : ((A.length + M2.length + 1 : Nat) : Int) < ((A ++ x :: (M2 ++ [z]) ++ B).length : Int) := by rw [hl]; omega
      have c4 : (A.length : Int) < ((A ++ x :: (M2 ++ [z]) ++ B).length : Int) := by rw [hl]; omega
      have w1 : wrap64 ((A.length : Int) + 1) = ((A ++ [z]).length : Int) := by rw [wrap_id (by omega) (by omega)]; simp
      have w2 : wrap64 (((A.length + M2.length + 1 : Nat) : Int) - 1) = ((A ++ [z]).length : Int) + M2.length - 1 := by rw [wrap_id (by omega) (by omega)]; simp; omega
      simp only [canon_polynomial_int_38.l0, if_pos c1, if_pos c2, if_pos c3, if_pos c4, if_pos (show (0 : Int) ≤ (A.length : Int) by omega), r1, r2, Int.toNat_natCast, s1, w1, w2]
      have := ih M2 (A ++ [z]) (x :: B) (by simp at hd; omega) (by simp at hb ⊢; omega)
      have e2 : A ++ [z] ++ M2.reverse ++ x :: B = A ++ (x :: (M2 ++ [z])).reverse ++ B := by simp
      rw [← e2]
      exact this
theorem ReverseY_ev (l : List Int) (hb : l.length < 9223372036854775807) : Ev (fun k => canon_polynomial_int_38.f k l) l.reverse := by
  have h := ReverseY_loop l.length l [] [] (Nat.le_refl _) (by simpa using hb)
  have w : wrap64 ((l.length : Int) - 1) = ((([] : List Int).length : Nat) : Int) + l.length - 1 := by rw [wrap_id (by omega) (by omega)]; simp
  unfold canon_polynomial_int_38.f
  rw [w]
  simpa using h
def subRow (c : Int) : List Int → List Int → Nat → List Int
  | [], r, _ => r
  | x :: xs, r, o => subRow c xs (r.set o (wrap64 (r.getD o 0 - wrap64 (c * x)))) (o + 1)
theorem subRow_len (c : Int) : ∀ (g r : List Int) (o : Nat), (subRow c g r o).length = r.length
  | [], r, o => rfl
  | x :: xs, r, o => by unfold subRow; rw [subRow_len c xs]; simp
theorem subRow_far (c : Int) : ∀ (g r : List Int) (o i : Nat), (i < o ∨ o + g.length ≤ i) → (subRow c g r o).getD i 0 = r.getD i 0
  | [], r, o, i, _ => rfl
  | x :: xs, r, o, i, h => by
    unfold subRow
    rw [subRow_far c xs _ (o + 1) i (by simp at h; omega)]
    simp only [List.getD_eq_getElem?_getD]
    rw [List.getElem?_set_ne (by simp at h; omega)]
def divRun (g : List Int) (d : Nat) : Nat → List Int → List Int → List Int × List Int
  | 0, q, r => (q, r)
  | m + 1, q, r => divRun g d m (q ++ [r.getD (m + d) 0]) (subRow (r.getD (m + d) 0) g r m)
theorem divRun_len (g : List Int) (d : Nat) : ∀ (m : Nat) (q r : List Int), (divRun g d m q r).2.length = r.length ∧ (divRun g d m q r).1.length = q.length + m
  | 0, q, r => ⟨rfl, rfl⟩
  | m + 1, q, r => by
    unfold divRun
    obtain ⟨h1, h2⟩ := divRun_len g d m (q ++ [r.getD (m + d) 0]) (subRow (r.getD (m + d) 0) g r m)
    exact ⟨by rw [h1, subRow_len], by rw [h2]; simp; omega⟩
theorem rd_natY (r : List Int) (i : Nat) : rd r (i : Int) = r.getD i 0 := by unfold rd; rw [Int.toNat_natCast]
section
variable (g : List Int) (d : Nat)
theorem over_l1 (q : List Int) (o : Nat) (c : Int) (hg2 : g.length < 1000) (ho : o + d < 1000) (res : List Int × List Int) : ∀ (suf pre r : List Int), g = pre ++ suf → o + g.length ≤ r.length → r.length < 1000 →
    Ev (fun k => canon_polynomial_over.l0 k g q (subRow c suf r (o + pre.length)) (d : Int) (wrap64 (((o + d : Nat) : Int) - 1))) res →
    Ev (fun k => canon_polynomial_over.l1 k g q r (d : Int) ((o + d : Nat) : Int) c g (g.length : Int) (pre.length : Int)) res := by
  intro suf
  induction suf with
  | nil =>
    intro pre r hp hl hr hend
    refine Ev.succ ?_
    have : g.length = pre.length := by rw [hp]; simp
    simp only [canon_polynomial_over.l1, if_neg (show ¬ (pre.length : Int) < (g.length : Int) by omega)]
    exact hend
  | cons x xs ih =>
    intro pre r hp hl hr hend
    have hlen : g.length = pre.length + (xs.length + 1) := by rw [hp]; simp
    have hw1 : wrap64 (((o + d : Nat) : Int) - (d : Int)) = (o : Int) := by rw [wrap_id (by omega) (by omega)]; omega
    have hw2 : wrap64 ((o : Int) + (pre.length : Int)) = ((o + pre.length : Nat) : Int) := by rw [wrap_id (by omega) (by omega)]; omega
    have hx : rd g (pre.length : Int) = x := mid_rd hp
    have go := ih (pre ++ [x]) (r.set (o + pre.length) (wrap64 (r.getD (o + pre.length) 0 - wrap64 (c * x)))) (by rw [hp]; simp) (by simpa using hl) (by simpa using hr) (by
      unfold subRow at hend
      have e : o + (pre ++ [x]).length = o + pre.length + 1 := by simp; omega
      rw [e]; exact hend)
    refine Ev.succ ?_
    simp only [canon_polynomial_over.l1, if_pos (show (pre.length : Int) < (g.length : Int) by omega), if_pos (show (0 : Int) ≤ (pre.length : Int) by omega), hw1, hw2, if_pos (show (0 : Int) ≤ ((o + pre.length : Nat) : Int) by omega), if_pos (show ((o + pre.length : Nat) : Int) < (r.length : Int) by omega), Int.toNat_natCast, rd_natY, mid_next hp (by omega)]
    rw [← rd_natY g, hx]
    exact go
theorem over_l0 (hg : g.length = d + 1) (hd : d < 500) : ∀ (m : Nat) (q r : List Int), m + d ≤ r.length → r.length < 500 → q.length + m < 500 →
    Ev (fun k => canon_polynomial_over.l0 k g q r (d : Int) (((m + d : Nat) : Int) - 1)) ((divRun g d m q r).1.reverse, (divRun g d m q r).2.take (min d r.length)) := by
  intro m
  induction m with
  | zero =>
    intro q r h1 h2 h3
    refine Ev.succ ?_
    simp only [canon_polynomial_over.l0, if_neg (show ¬ (((0 + d : Nat) : Int) - 1 ≥ (d : Int)) by omega), mn_eq]
    have hmin : min (d : Int) (r.length : Int) = ((min d r.length : Nat) : Int) := by omega
    rw [hmin]
    refine Ev.bind (ReverseY_ev q (by omega)) ?_
    simp only [if_pos (show (0 : Int) ≤ ((min d r.length : Nat) : Int) by omega), if_pos (show ((min d r.length : Nat) : Int) ≤ (r.length : Int) by omega), Int.toNat_natCast]
    exact Ev.some _
  | succ m ih =>
    intro q r h1 h2 h3
    have e1 : ((m + 1 + d : Nat) : Int) - 1 = ((m + d : Nat) : Int) := by omega
    rw [e1]
    refine Ev.succ ?_
    simp only [canon_polynomial_over.l0, if_pos (show ((m + d : Nat) : Int) ≥ (d : Int) by omega), if_pos (show (0 : Int) ≤ ((m + d : Nat) : Int) by omega), if_pos (show ((m + d : Nat) : Int) < (r.length : Int) by omega), if_pos (show q.length < 17592186044416 by omega), rd_natY]
    have hw : wrap64 (((m + d : Nat) : Int) - 1) = ((m + d : Nat) : Int) - 1 := wrap_id (by omega) (by omega)
    have go := ih (q ++ [r.getD (m + d) 0]) (subRow (r.getD (m + d) 0) g r m) (by rw [subRow_len]; omega) (by rw [subRow_len]; omega) (by simp; omega)
    rw [subRow_len] at go
    have := over_l1 g d (q ++ [r.getD (m + d) 0]) m (r.getD (m + d) 0) (by omega) (by omega) _ g [] r rfl (by omega) (by omega) (by rw [hw]; exact go)
    exact this
end
/-- quotient and rest -/
def divQ (f g : List Int) : List Int × List Int := ((divRun g (g.length - 1) (f.length - (g.length - 1)) [] f).1.reverse, (divRun g (g.length - 1) (f.length - (g.length - 1)) [] f).2)
theorem over_ev (f g : List Int) (hg : 1 ≤ g.length) (hg2 : g.length < 500) (hf : f.length < 500) (hfg : g.length - 1 ≤ f.length) : Ev (fun k => canon_polynomial_over.f k f g) ((divQ f g).1, (divQ f g).2.take (g.length - 1)) := by
  unfold canon_polynomial_over.f
  refine Ev.bind_some (show canon_polynomial_int_37.f f = some f by unfold canon_polynomial_int_37.f; rw [if_pos (by omega)]) ?_
  have hw1 : wrap64 ((g.length : Int) - 1) = ((g.length - 1 : Nat) : Int) := by rw [wrap_id (by omega) (by omega)]; omega
  have hw2 : wrap64 ((f.length : Int) - 1) = (((f.length - (g.length - 1)) + (g.length - 1) : Nat) : Int) - 1 := by rw [wrap_id (by omega) (by omega)]; omega
  have := over_l0 g (g.length - 1) (by omega) (by omega) (f.length - (g.length - 1)) [] f (by omega) hf (by simp; omega)
  rw [hw1, hw2]
  rw [Nat.min_eq_left hfg] at this
  exact this
section
variable (g : List Int) (d : Nat)
end
/-! cyclotomic polynomials up to the order 24, and the roots of a rhythm -/
def cycT : List (List Int) := [[], [-1, 1], [1, 1], [1, 1, 1], [1, 0, 1], [1, 1, 1, 1, 1], [1, -1, 1], [1, 1, 1, 1, 1, 1, 1], [1, 0, 0, 0, 1], [1, 0, 0, 1, 0, 0, 1], [1, -1, 1, -1, 1], [1, 1, 1, 1, 1, 1, 1, 1, 1, 1, 1], [1, 0, -1, 0, 1], [1, 1, 1, 1, 1, 1, 1, 1, 1, 1, 1, 1, 1], [1, -1, 1, -1, 1, -1, 1], [1, -1, 0, 1, -1, 1, 0, -1, 1], [1, 0, 0, 0, 0, 0, 0, 0, 1], [1, 1, 1, 1, 1, 1, 1, 1, 1, 1, 1, 1, 1, 1, 1, 1, 1], [1, 0, 0, -1, 0, 0, 1], [1, 1, 1, 1, 1, 1, 1, 1, 1, 1, 1, 1, 1, 1, 1, 1, 1, 1, 1], [1, 0, -1, 0, 1, 0, -1, 0, 1], [1, -1, 0, 1, -1, 0, 1, 0, -1, 1, 0, -1, 1], [1, -1, 1, -1, 1, -1, 1, -1, 1, -1, 1], [1, 1, 1, 1, 1, 1, 1, 1, 1, 1, 1, 1, 1, 1, 1, 1, 1, 1, 1, 1, 1, 1, 1], [1, 0, 0, 0, -1, 0, 0, 0, 1]]
def cycN (n : Nat) : List Int := cycT.getD n []
def cycGo (n : Nat) : Nat → Nat → List Int → List Int
  | 0, _, f => f
  | m + 1, d, f => cycGo n m (d + 1) (if n % d = 0 then (divQ f (cycN d)).1 else f)
def cycOk (n : Nat) : Nat → Nat → List Int → Bool
  | 0, _, f => true
  | m + 1, d, f => (if n % d = 0 then decide (1 ≤ (cycN d).length) && decide ((cycN d).length < 500) && decide (f.length < 500) && decide ((cycN d).length - 1 ≤ f.length) && (divQ f (cycN d)).2.all (fun x => decide (x = 0)) else true) && cycOk n m (d + 1) (if n % d = 0 then (divQ f (cycN d)).1 else f)
def cycInit (n : Nat) : List Int := ((List.replicate (n + 1) (0 : Int)).set 0 (-1)).set n 1
theorem cyc_table : (List.range 25).all (fun n => n == 0 || (cycOk n (n - 1) 1 (cycInit n) && decide (cycGo n (n - 1) 1 (cycInit n) = cycN n))) = true := by kernel_rfl
theorem cyc_shape : (List.range 25).all (fun n => n == 0 || (decide (1 ≤ (cycN n).length) && decide ((cycN n).length ≤ n + 1) && decide ((cycN n).getD ((cycN n).length - 1) 0 = 1))) = true := by kernel_rfl
theorem cyc_at {n : Nat} (h1 : 1 ≤ n) (h2 : n ≤ 24) : cycOk n (n - 1) 1 (cycInit n) = true ∧ cycGo n (n - 1) 1 (cycInit n) = cycN n := by
  have h := List.all_eq_true.1 cyc_table n (List.mem_range.2 (by omega))
  have h0 : (n == 0) = false := beq_eq_false_iff_ne.2 (by omega)
  rw [h0, Bool.false_or, Bool.and_eq_true] at h
  exact ⟨h.1, of_decide_eq_true h.2⟩
theorem cyc_len {n : Nat} (h1 : 1 ≤ n) (h2 : n ≤ 24) : 1 ≤ (cycN n).length ∧ (cycN n).length ≤ n + 1 ∧ (cycN n).getD ((cycN n).length - 1) 0 = 1 := by
  have h := List.all_eq_true.1 cyc_shape n (List.mem_range.2 (by omega))
  have h0 : (n == 0) = false := beq_eq_false_iff_ne.2 (by omega)
  rw [h0, Bool.false_or, Bool.and_eq_true, Bool.and_eq_true] at h
  exact ⟨of_decide_eq_true h.1.1, of_decide_eq_true h.1.2, of_decide_eq_true h.2⟩
theorem cyc_l0 (n : Nat) (hn : n ≤ 24) (ih : ∀ d, 1 ≤ d → d < n → Ev (fun k => canon_cyclotomic.f k (d : Int)) (cycN d)) : ∀ (m d : Nat) (f : List Int), 1 ≤ d → d + m = n → cycOk n m d f = true →
    Ev (fun k => canon_cyclotomic.l0 k (n : Int) f (d : Int)) (cycGo n m d f) := by
  intro m
  induction m with
  | zero =>
    intro d f hd hm hok
    refine Ev.succ ?_
    simp only [canon_cyclotomic.l0, if_neg (show ¬ (d : Int) < (n : Int) by omega)]
    exact Ev.some _
  | succ m im =>
    intro d f hd hm hok
    have hw : wrap64 ((d : Int) + 1) = ((d + 1 : Nat) : Int) := by rw [wrap_id (by omega) (by omega)]; omega
    have ht : Int.tmod (n : Int) (d : Int) = ((n % d : Nat) : Int) := by rw [Int.tmod_eq_emod_of_nonneg (by omega)]; simp
    unfold cycOk at hok
    unfold cycGo
    rw [Bool.and_eq_true] at hok
    refine Ev.succ ?_
    simp only [canon_cyclotomic.l0, if_pos (show (d : Int) < (n : Int) by omega), if_neg (show ¬ (d : Int) = 0 by omega), ht, hw]
    by_cases hz : n % d = 0
    · rw [if_pos hz] at hok ⊢
      rw [if_pos hz] at hok
      simp only [hz, Int.natCast_zero, if_true]
      obtain ⟨h1, h2⟩ := hok
      simp only [Bool.and_eq_true, decide_eq_true_eq] at h1
      refine Ev.bind (ih d hd (by omega)) ?_
      refine Ev.bind (over_ev f (cycN d) h1.1.1.1.1 h1.1.1.1.2 h1.1.1.2 h1.1.2) ?_
      exact im (d + 1) _ (by omega) (by omega) h2
    · rw [if_neg hz] at hok ⊢
      rw [if_neg hz] at hok
      simp only [if_neg (show ¬ ((n % d : Nat) : Int) = 0 by omega)]
      exact im (d + 1) _ (by omega) (by omega) hok.2
theorem cyc_ev : ∀ n : Nat, 1 ≤ n → n ≤ 24 → Ev (fun k => canon_cyclotomic.f k (n : Int)) (cycN n) := by
  intro n
  induction n using Nat.strongRecOn with
  | ind n ih =>
    intro h1 h2
    obtain ⟨a1, a2⟩ := cyc_at h1 h2
    have hw : wrap64 ((n : Int) + 1) = ((n + 1 : Nat) : Int) := by rw [wrap_id (by omega) (by omega)]; omega
    have := cyc_l0 n h2 (fun d hd hdn => ih d hdn hd (by omega)) (n - 1) 1 (cycInit n) (Nat.le_refl _) (by omega) a1
    rw [a2] at this
    refine Ev.succ ?_
    simp only [canon_cyclotomic.f, hw, if_pos (show (0 : Int) ≤ ((n + 1 : Nat) : Int) by omega), Int.toNat_natCast, if_pos (show n + 1 ≤ 35184372088832 by omega), Option.bind_some, List.length_replicate, if_pos (show (0 : Int) < ((n + 1 : Nat) : Int) by omega), if_pos (show (0 : Int) ≤ (n : Int) by omega), if_pos (show (n : Int) < ((n + 1 : Nat) : Int) by omega), Int.toNat_zero]
    exact this
/-! the rest of a division by a polynomial whose last coefficient is 1 is 0 from its degree on -/
def InR (r : List Int) : Prop := ∀ x ∈ r, -9223372036854775808 ≤ x ∧ x < 9223372036854775808
theorem wrap_in (z : Int) : -9223372036854775808 ≤ wrap64 z ∧ wrap64 z < 9223372036854775808 := by unfold wrap64; omega
theorem subRow_in (c : Int) : ∀ (g r : List Int) (o : Nat), InR r → InR (subRow c g r o)
  | [], _, _, h => h
  | x :: xs, r, o, h => by
    unfold subRow
    refine subRow_in c xs _ (o + 1) (fun y hy => ?_)
    rcases List.mem_or_eq_of_mem_set hy with h1 | h1
    · exact h y h1
    · subst h1; exact wrap_in _
theorem getD_in {r : List Int} (h : InR r) (i : Nat) : -9223372036854775808 ≤ r.getD i 0 ∧ r.getD i 0 < 9223372036854775808 := by
  rw [List.getD_eq_getElem?_getD]
  cases e : r[i]? with
  | none => simp
  | some v => exact h v (List.mem_of_getElem? e)
theorem subRow_last (c x : Int) : ∀ (g r : List Int) (o : Nat), o + g.length < r.length → (subRow c (g ++ [x]) r o).getD (o + g.length) 0 = wrap64 (r.getD (o + g.length) 0 - wrap64 (c * x))
  | [], r, o, h => by
    simp only [List.nil_append, subRow, List.length_nil, Nat.add_zero, List.getD_eq_getElem?_getD] at h ⊢
    rw [List.getElem?_set_self h]; rfl
  | y :: g, r, o, h => by
    simp only [List.cons_append, subRow, List.length_cons] at h ⊢
    have := subRow_last c x g (r.set o (wrap64 (r.getD o 0 - wrap64 (c * y)))) (o + 1) (by simp; omega)
    rw [show o + (g.length + 1) = o + 1 + g.length by omega, this]
    congr 2
    simp only [List.getD_eq_getElem?_getD]
    rw [List.getElem?_set_ne (by omega)]
theorem divRun_far (g : List Int) (d : Nat) (hg : g.length = d + 1) : ∀ (m : Nat) (q r : List Int) (i : Nat), m + d ≤ i → (divRun g d m q r).2.getD i 0 = r.getD i 0
  | 0, q, r, i, _ => rfl
  | m + 1, q, r, i, h => by
    unfold divRun
    rw [divRun_far g d hg m _ _ i (by omega), subRow_far _ _ _ _ _ (by omega)]
theorem divRun_high (g0 : List Int) (d : Nat) (hg : g0.length = d) : ∀ (m : Nat) (q r : List Int), InR r → m + d ≤ r.length → ∀ i, d ≤ i → i < m + d → (divRun (g0 ++ [1]) d m q r).2.getD i 0 = 0
  | 0, q, r, _, _, i, h1, h2 => by omega
  | m + 1, q, r, hr, hl, i, h1, h2 => by
    unfold divRun
    have hin := subRow_in (r.getD (m + d) 0) (g0 ++ [1]) r m hr
    by_cases hi : i < m + d
    · exact divRun_high g0 d hg m _ _ hin (by rw [subRow_len]; omega) i h1 hi
    · have e : i = m + d := by omega
      rw [divRun_far (g0 ++ [1]) d (by simp [hg]) m _ _ i (by omega), e]
      have := subRow_last (r.getD (m + d) 0) 1 g0 r m (by omega)
      rw [hg] at this
      rw [this, Int.mul_one]
      have hc := getD_in hr (m + d)
      rw [wrap_id hc.1 hc.2, Int.sub_self]
      exact wrap_id (by omega) (by omega)
theorem all_take {r : List Int} {d : Nat} (h : ∀ i, d ≤ i → i < r.length → r.getD i 0 = 0) : (r.take d).all (fun x => decide (x = 0)) = r.all (fun x => decide (x = 0)) := by
  have hs : r = r.take d ++ r.drop d := (List.take_append_drop d r).symm
  have hz : (r.drop d).all (fun x => decide (x = 0)) = true := by
    rw [List.all_eq_true]
    intro x hx
    obtain ⟨j, hj, rfl⟩ := List.mem_iff_getElem.1 hx
    rw [List.getElem_drop]
    have hjl : d + j < r.length := by rw [List.length_drop] at hj; omega
    have := h (d + j) (by omega) hjl
    rw [List.getD_eq_getElem?_getD, List.getElem?_eq_getElem hjl] at this
    exact decide_eq_true this
  conv => rhs; rw [hs, List.all_append, hz, Bool.and_true]

/-! the roots of a rhythm, and the first condition -/
def bitsN (n a : Nat) : List Int := (List.range n).map fun i => if a.testBit i then (1 : Int) else 0
theorem bitsN_len (n a : Nat) : (bitsN n a).length = n := by unfold bitsN; simp
theorem bitsN_in (n a : Nat) : InR (bitsN n a) := fun x hx => by
  unfold bitsN at hx
  obtain ⟨i, _, rfl⟩ := List.mem_map.1 hx
  split <;> omega
theorem bits_set {n a i : Nat} (hi : i < n) : ((bitsN n a).take i ++ List.replicate (n - i) (0 : Int)).set i (if a.testBit i then 1 else 0) = (bitsN n a).take (i + 1) ++ List.replicate (n - (i + 1)) 0 := by
  have hl : ((bitsN n a).take i).length = i := by rw [List.length_take, bitsN_len]; omega
  have e : (bitsN n a).take (i + 1) = (bitsN n a).take i ++ [if a.testBit i then (1 : Int) else 0] := by
    rw [List.take_succ_eq_append_getElem (by rw [bitsN_len]; exact hi)]
    congr 2
    simp [bitsN]
  obtain ⟨m, hm⟩ : ∃ m, n - i = m + 1 := ⟨n - i - 1, by omega⟩
  rw [e, hm, show n - (i + 1) = m by omega, List.set_append_right _ _ (by omega), hl, Nat.sub_self, List.replicate_succ, List.set_cons_zero, List.append_assoc]
  rfl
theorem of_loop {n a : Nat} (hn : n ≤ 24) (ha : a < 2 ^ n) : ∀ (m i : Nat), i + m = n →
    Ev (fun k => canon_circle_of.l0 k (a : Int) ((bitsN n a).take i ++ List.replicate (n - i) 0) (n : Int) (i : Int)) (bitsN n a) := by
  intro m
  induction m with
  | zero =>
    intro i hi
    have : i = n := by omega
    subst this
    refine Ev.succ ?_
    simp only [canon_circle_of.l0, if_neg (show ¬ (i : Int) < (i : Int) by omega), Nat.sub_self, List.replicate_zero, List.append_nil]
    rw [List.take_of_length_le (by rw [bitsN_len]; exact Nat.le_refl _)]
    exact Ev.some _
  | succ m ih =>
    intro i hi
    have hw : wrap64 ((i : Int) + 1) = ((i + 1 : Nat) : Int) := by rw [wrap_id (by omega) (by omega)]; omega
    have hlen : ((bitsN n a).take i ++ List.replicate (n - i) (0 : Int)).length = n := by rw [List.length_append, List.length_take, bitsN_len, List.length_replicate]; omega
    refine Ev.succ ?_
    simp only [canon_circle_of.l0, if_pos (show (i : Int) < (n : Int) by omega), if_pos (show (0 : Int) ≤ (i : Int) by omega), hlen, Int.toNat_natCast, hw]
    rw [bit_r hn ha (by omega), bits_set (by omega)]
    exact ih (i + 1) (by omega)
theorem of_ev {n a : Nat} (hn : n ≤ 24) (ha : a < 2 ^ n) : Ev (fun k => canon_circle_of.f k (n : Int) (a : Int)) (bitsN n a) := by
  unfold canon_circle_of.f
  simp only [if_pos (show (0 : Int) ≤ (n : Int) by omega), Int.toNat_natCast, if_pos (show n ≤ 35184372088832 by omega), Option.bind_some, List.length_replicate]
  have := of_loop hn ha n 0 (by omega)
  rw [List.take_zero, List.nil_append, Nat.sub_zero] at this
  exact this
/-- a number of steps is a root -/
def isRt (n a s : Nat) : Bool := (divQ (bitsN n a) (cycN s)).2.all (fun x => decide (x = 0))
theorem rest_take {n a s : Nat} (h1 : 1 ≤ s) (h2 : s ≤ 24) (hs : s ≤ n) : ((divQ (bitsN n a) (cycN s)).2.take ((cycN s).length - 1)).all (fun x => decide (x = 0)) = isRt n a s := by
  obtain ⟨c1, c2, c3⟩ := cyc_len h1 h2
  have hg : cycN s = (cycN s).dropLast ++ [1] := by
    have hne : cycN s ≠ [] := fun e => by rw [e] at c1; simp at c1
    conv => lhs; rw [← List.dropLast_concat_getLast hne]
    congr 2
    rw [List.getLast_eq_getElem]
    rw [List.getD_eq_getElem?_getD, List.getElem?_eq_getElem (by omega)] at c3
    exact c3
  have hdl : (cycN s).dropLast.length = (cycN s).length - 1 := List.length_dropLast
  unfold isRt
  refine all_take (fun i hi hil => ?_)
  unfold divQ at hil ⊢
  simp only at hil ⊢
  rw [(divRun_len _ _ _ _ _).1, bitsN_len] at hil
  have := divRun_high (cycN s).dropLast ((cycN s).length - 1) hdl ((bitsN n a).length - ((cycN s).length - 1)) [] (bitsN n a) (bitsN_in n a) (by rw [bitsN_len]; omega) i hi (by rw [bitsN_len]; omega)
  rw [← hg] at this
  exact this
theorem zero_f (l : List Int) : canon_polynomial_zero.f l = some (l.all (fun x => decide (x = 0))) := by
  unfold canon_polynomial_zero.f
  congr 1
  induction l with
  | nil => rfl
  | cons x l ih =>
    rw [List.any_cons, List.all_cons, Bool.not_or, ih]
    congr 1
    unfold notZ
    by_cases h : x = 0 <;> simp [h]
def rootsN (n a : Nat) : List Nat := (List.range' 2 (n - 1)).filter fun s => decide (n % s = 0) && isRt n a s
def numsI (l : List Nat) : List Int := l.map Int.ofNat
theorem roots_loop {n a : Nat} (hn : n ≤ 24) (ha : a < 2 ^ n) : ∀ (m s : Nat) (acc : List Int), 2 ≤ s → s + m = n + 1 → acc.length + m < 1000 →
    Ev (fun k => canon_circle_roots.l0 k (n : Int) (a : Int) acc (s : Int)) (acc ++ numsI ((List.range' s m).filter fun s => decide (n % s = 0) && isRt n a s)) := by
  intro m
  induction m with
  | zero =>
    intro s acc hs hm hl
    refine Ev.succ ?_
    simp only [canon_circle_roots.l0, if_neg (show ¬ (s : Int) ≤ (n : Int) by omega)]
    have : acc ++ numsI ((List.range' s 0).filter fun s => decide (n % s = 0) && isRt n a s) = acc := by simp [numsI]
    rw [this]
    exact Ev.some _
  | succ m ih =>
    intro s acc hs hm hl
    have hw : wrap64 ((s : Int) + 1) = ((s + 1 : Nat) : Int) := by rw [wrap_id (by omega) (by omega)]; omega
    have ht : Int.tmod (n : Int) (s : Int) = ((n % s : Nat) : Int) := by rw [Int.tmod_eq_emod_of_nonneg (by omega)]; simp
    refine Ev.succ ?_
    simp only [canon_circle_roots.l0, if_pos (show (s : Int) ≤ (n : Int) by omega), if_neg (show ¬ (s : Int) = 0 by omega), ht, hw]
    rw [List.range'_succ, List.filter_cons]
    by_cases hz : n % s = 0
    · simp only [hz, Int.natCast_zero, if_true, decide_true, Bool.true_and]
      obtain ⟨c1, c2, c3⟩ := cyc_len (n := s) (by omega) (by omega)
      refine Ev.bind (of_ev hn ha) ?_
      refine Ev.bind (cyc_ev s (by omega) (by omega)) ?_
      refine Ev.bind (over_ev (bitsN n a) (cycN s) c1 (by omega) (by rw [bitsN_len]; omega) (by rw [bitsN_len]; omega)) ?_
      refine Ev.bind_some (zero_f _) ?_
      rw [rest_take (by omega) (by omega) (by omega)]
      cases hr : isRt n a s with
      | true =>
        simp only [if_true, if_pos (show acc.length < 17592186044416 by omega)]
        have := ih (s + 1) (acc ++ [(s : Int)]) (by omega) (by omega) (by simp; omega)
        rw [List.append_assoc] at this
        exact this
      | false =>
        simp only [Bool.false_eq_true, if_false]
        exact ih (s + 1) acc (by omega) (by omega) (by omega)
    · simp only [if_neg (show ¬ ((n % s : Nat) : Int) = 0 by omega), decide_eq_false hz, Bool.false_and, Bool.false_eq_true, if_false]
      exact ih (s + 1) acc (by omega) (by omega) (by omega)
theorem roots_ev {n a : Nat} (h2 : 2 ≤ n) (hn : n ≤ 24) (ha : a < 2 ^ n) : Ev (fun k => canon_circle_roots.f k (n : Int) (a : Int)) (numsI (rootsN n a)) := by
  unfold canon_circle_roots.f
  have := roots_loop hn ha (n - 1) 2 [] (Nat.le_refl _) (by omega) (by simp; omega)
  rw [List.nil_append] at this
  exact this
/-! primes -/
def prT : List Nat := [0, 0, 2, 3, 2, 5, 0, 7, 2, 3, 0, 11, 0, 13, 0, 0, 2, 17, 0, 19, 0, 0, 0, 23, 0]
def prN (s : Nat) : Nat := prT.getD s 0
theorem rootsN_mem {n a s : Nat} : s ∈ rootsN n a ↔ 2 ≤ s ∧ s ≤ n ∧ n % s = 0 ∧ isRt n a s = true := by
  unfold rootsN
  rw [List.mem_filter, List.mem_range'_1, Bool.and_eq_true, decide_eq_true_eq]
  constructor
  · rintro ⟨⟨h1, h2⟩, h3, h4⟩; exact ⟨h1, by omega, h3, h4⟩
  · rintro ⟨h1, h2, h3, h4⟩; exact ⟨⟨h1, by omega⟩, h3, h4⟩
def prodP (p : Int) (l : List Nat) : Int := l.foldl (fun p s => if (prN s : Int) > 0 then wrap64 (p * (prN s : Int)) else p) p
noncomputable def firstB (n a : Nat) : Bool := prodP 1 (rootsN n a) == (chSize n a : Int)
theorem rootsN_len (n a : Nat) (hn : n ≤ 24) : (rootsN n a).length < 1000 := by
  unfold rootsN
  have := List.length_filter_le (fun s => decide (n % s = 0) && isRt n a s) (List.range' 2 (n - 1))
  rw [List.length_range'] at this; omega

end Go.Proofs.Ytfpnojcbhbkfaaa.P
namespace Go.Proofs.Ytfpnojcbhbkfaaa.P
/-! All partners of a rhythm by filling the first free beat: what such a search comes to. Plain Lean. -/
theorem cnt_le_of {p q : Nat → Bool} (n : Nat) (h : ∀ i, i < n → p i = true → q i = true) : cnt n p ≤ cnt n q := by
  rw [cnt_eq, cnt_eq]
  refine List.countP_mono_left (fun x hx hp => ?_)
  exact h x (List.mem_range.1 hx) hp
theorem cnt_lt_of {p q : Nat → Bool} : ∀ (n : Nat), (∀ i, i < n → p i = true → q i = true) → ∀ j, j < n → p j = false → q j = true → cnt n p < cnt n q
  | 0, _, j, hj, _, _ => by omega
  | n + 1, h, j, hj, h1, h2 => by
    rw [cnt_succ, cnt_succ]
    by_cases e : j = n
    · subst e
      have := cnt_le_of (p := p) (q := q) j (fun i hi => h i (by omega))
      rw [h1, h2]; simp; omega
    · have := cnt_lt_of n (fun i hi => h i (by omega)) j (by omega) h1 h2
      have h3 := h n (by omega)
      cases hp : p n with
      | false => simp; omega
      | true => rw [h3 hp]; simp; omega
/-- two rhythms fill the circle: each beat is met, by one entry -/
def Fills (n a c : Nat) : Prop := (∀ x, x < n → ∃ y, y < n ∧ c.testBit y = true ∧ (moveN n a y).testBit x = true) ∧
  (∀ x, x < n → ∀ y, y < n → ∀ z, z < n → c.testBit y = true → c.testBit z = true → (moveN n a y).testBit x = true → (moveN n a z).testBit x = true → y = z)
theorem tiled_fills {n a c : Nat} : Tiled n a c ↔ Fills n a c := by
  constructor
  · intro h
    refine ⟨fun x hx => ?_, fun x hx y hy z hz h1 h2 h3 h4 => ?_⟩
    · obtain ⟨y, h1, h2, h3, _⟩ := tiled_enter h hx
      exact ⟨y, h1, h2, h3⟩
    · obtain ⟨w, _, _, _, _, hu⟩ := tiled_enter h hx
      rw [hu y hy h1 h3, hu z hz h2 h4]
  · rintro ⟨h1, h2⟩ x hx
    obtain ⟨y, hy, hc, hm⟩ := h1 x hx
    have h3 : 1 ≤ cv n a c n x := cnt_pos (p := fun y => c.testBit y && (moveN n a y).testBit x) hy (by simp [hc, hm])
    have h4 : cv n a c n x ≤ 1 := by
      have : cv n a c n x ≤ cnt n (fun i => decide (i = y)) := cnt_le_of n (fun i hi hp => by
        simp only [Bool.and_eq_true] at hp
        simpa using h2 x hx i hi y hy hp.1 hc hp.2 hm)
      have h5 : ∀ m, cnt m (fun i => decide (i = y)) ≤ 1 := by
        intro m
        rcases Nat.lt_or_ge (cnt m (fun i => decide (i = y))) 2 with h | h
        · omega
        · exfalso
          induction m with
          | zero => rw [cnt_zero] at h; omega
          | succ m ih =>
            rw [cnt_succ] at h
            by_cases e : m = y
            · subst e
              have : cnt m (fun i => decide (i = m)) = 0 := by
                have e1 := cnt_congr (n := m) (p := fun i => decide (i = m)) (q := fun _ => false) (fun i hi => by simp; omega)
                rw [e1, cnt_eq]; simp
              simp at h; omega
            · simp [e] at h
              exact ih h
      have := h5 n
      omega
    omega
/-- the first beat that is free -/
def lowFree (F : Nat) : Nat → Nat → Nat
  | 0, i => i
  | d + 1, i => if F.testBit i then lowFree F d (i + 1) else i
theorem lowFree_spec {F : Nat} : ∀ (d i : Nat), (∀ j, j < i → F.testBit j = true) → (∃ j, i ≤ j ∧ j < i + d ∧ F.testBit j = false) →
    lowFree F d i < i + d ∧ F.testBit (lowFree F d i) = false ∧ ∀ j, j < lowFree F d i → F.testBit j = true
  | 0, i, _, h => by obtain ⟨j, h1, h2, _⟩ := h; omega
  | d + 1, i, h0, h => by
    simp only [lowFree]
    cases hb : F.testBit i with
    | false => simp only [Bool.false_eq_true, if_false]; exact ⟨by omega, hb, h0⟩
    | true =>
      simp only [if_true]
      have := lowFree_spec d (i + 1) (fun j hj => by
        by_cases e : j = i
        · subst e; exact hb
        · exact h0 j (by omega)) (by
        obtain ⟨j, h1, h2, h3⟩ := h
        refine ⟨j, ?_, by omega, h3⟩
        by_cases e : j = i
        · subst e; rw [hb] at h3; cases h3
        · omega)
      exact ⟨by omega, this.2⟩
def freeAt (n F : Nat) : Nat := lowFree F n 0
theorem freeAt_spec {n F : Nat} (hF : F < 2 ^ n) (h : F ≠ 2 ^ n - 1) : freeAt n F < n ∧ F.testBit (freeAt n F) = false ∧ ∀ j, j < freeAt n F → F.testBit j = true := by
  have := lowFree_spec (F := F) n 0 (fun j hj => by omega) (by
    rcases Classical.em (∃ j, j < n ∧ F.testBit j = false) with ⟨j, h1, h2⟩ | h'
    · exact ⟨j, by omega, by omega, h2⟩
    · exfalso
      refine h ((fillsAll_iff hF).2 (fun x hx => ?_))
      cases hb : F.testBit x with
      | true => rfl
      | false => exact absurd ⟨x, hx, hb⟩ h')
  unfold freeAt
  exact ⟨by omega, this.2⟩
def vis (n a : Nat) (st : Nat → Nat → Option Nat) : Nat → Nat → Nat → List Nat
  | 0, _, _ => []
  | d + 1, b, F => if F = 2 ^ n - 1 then [b] else (List.range n).flatMap fun x =>
      match st (freeAt n F) x with
      | some k => if moveN n a k &&& F = 0 then vis n a st d (b ||| 2 ^ k) (F ||| moveN n a k) else []
      | none => []
/-- what the entries chosen so far fill -/
def Part (n a b F : Nat) : Prop := b < 2 ^ n ∧ F < 2 ^ n ∧ (∀ x, x < n → (F.testBit x = true ↔ ∃ y, y < n ∧ b.testBit y = true ∧ (moveN n a y).testBit x = true)) ∧
  (∀ x, x < n → ∀ y, y < n → ∀ z, z < n → b.testBit y = true → b.testBit z = true → (moveN n a y).testBit x = true → (moveN n a z).testBit x = true → y = z)
/-- the ways in which a free beat can be filled, each once -/
def StepOk (n a : Nat) (st : Nat → Nat → Option Nat) : Prop := (∀ f x k, f < n → x < n → st f x = some k → k < n ∧ (moveN n a k).testBit f = true) ∧
  (∀ f k, f < n → k < n → (moveN n a k).testBit f = true → ∃ x, x < n ∧ st f x = some k) ∧ (∀ f x y k, f < n → x < n → y < n → st f x = some k → st f y = some k → x = y)
theorem moveN_self {n a y : Nat} (ha : a < 2 ^ n) (h0 : a.testBit 0 = true) (hy : y < n) : (moveN n a y).testBit y = true := by
  rw [testBit_moveN ha hy hy]
  have : (y + (n - y)) % n = 0 := by rw [show y + (n - y) = n by omega, Nat.mod_self]
  rw [this]; exact h0
theorem Part.add {n a b F k : Nat} (h : Part n a b F) (hk : k < n) (hm : moveN n a k &&& F = 0) : Part n a (b ||| 2 ^ k) (F ||| moveN n a k) := by
  obtain ⟨hb, hF, h1, h2⟩ := h
  have hp : 2 ^ k < 2 ^ n := Nat.pow_lt_pow_right (by omega) hk
  have hno : ∀ x, x < n → (moveN n a k).testBit x = true → F.testBit x = false := by
    intro x hx hx1
    have : (moveN n a k &&& F).testBit x = false := by rw [hm]; simp
    rw [Nat.testBit_and, hx1, Bool.true_and] at this
    exact this
  refine ⟨Nat.or_lt_two_pow hb hp, Nat.or_lt_two_pow hF (moveN_lt n a k), fun x hx => ?_, fun x hx y hy z hz => ?_⟩
  · rw [Nat.testBit_or, Bool.or_eq_true, h1 x hx]
    constructor
    · rintro (⟨y, h3, h4, h5⟩ | h3)
      · exact ⟨y, h3, by rw [testBit_or_two_pow, h4]; rfl, h5⟩
      · exact ⟨k, hk, by rw [testBit_or_two_pow]; simp, h3⟩
    · rintro ⟨y, h3, h4, h5⟩
      rw [testBit_or_two_pow, Bool.or_eq_true, decide_eq_true_eq] at h4
      rcases h4 with h4 | rfl
      · exact .inl ⟨y, h3, h4, h5⟩
      · exact .inr h5
  · rw [testBit_or_two_pow, testBit_or_two_pow, Bool.or_eq_true, Bool.or_eq_true, decide_eq_true_eq, decide_eq_true_eq]
    rintro (h3 | rfl) (h4 | rfl) h5 h6
    · exact h2 x hx y hy z hz h3 h4 h5 h6
    · exfalso
      have := hno x hx h6
      rw [(h1 x hx).2 ⟨y, hy, h3, h5⟩] at this; cases this
    · exfalso
      have := hno x hx h5
      rw [(h1 x hx).2 ⟨z, hz, h4, h6⟩] at this; cases this
    · rfl
theorem vis_spec {n a : Nat} {st : Nat → Nat → Option Nat} (ha : a < 2 ^ n) (h0 : a.testBit 0 = true) (hst : StepOk n a st) : ∀ (d b F : Nat), Part n a b F → cnt n (fun i => !F.testBit i) < d →
    (vis n a st d b F).Nodup ∧ ∀ c, c ∈ vis n a st d b F ↔ (c < 2 ^ n ∧ Fills n a c ∧ ∀ y, b.testBit y = true → c.testBit y = true)
  | 0, b, F, _, hd => by omega
  | d + 1, b, F, hP, hd => by
    have hP' := hP
    obtain ⟨hb, hF, h1, h2⟩ := hP
    simp only [vis]
    by_cases e : F = 2 ^ n - 1
    · rw [if_pos e]
      have hall := (fillsAll_iff hF).1 e
      refine ⟨by simp, fun c => ?_⟩
      rw [List.mem_singleton]
      constructor
      · rintro rfl
        exact ⟨hb, ⟨fun x hx => (h1 x hx).1 (hall x hx), h2⟩, fun _ h => h⟩
      · rintro ⟨hc, ⟨h3, h4⟩, h5⟩
        refine bits_ext hc hb (fun i hi => ?_)
        cases hbi : b.testBit i with
        | true => exact h5 i hbi
        | false =>
          cases hci : c.testBit i with
          | false => rfl
          | true =>
            exfalso
            obtain ⟨z, hz, hbz, hmz⟩ := (h1 i hi).1 (hall i hi)
            have := h4 i hi i hi z hz hci (h5 z hbz) (moveN_self ha h0 hi) hmz
            subst this
            rw [hbi] at hbz; cases hbz
    · rw [if_neg e]
      obtain ⟨hf, hf0, _⟩ := freeAt_spec hF e
      obtain ⟨s1, s2, s3⟩ := hst
      have ih : ∀ k, k < n → (moveN n a k).testBit (freeAt n F) = true → moveN n a k &&& F = 0 → _ := fun k hk hkf hm =>
        vis_spec ha h0 ⟨s1, s2, s3⟩ d (b ||| 2 ^ k) (F ||| moveN n a k) (hP'.add hk hm) (by
          have := cnt_lt_of (p := fun i => !(F ||| moveN n a k).testBit i) (q := fun i => !F.testBit i) n (fun i _ hp => by
            rw [Nat.testBit_or] at hp; cases hq : F.testBit i <;> simp_all) (freeAt n F) hf (by rw [Nat.testBit_or, hkf]; simp) (by rw [hf0]; rfl)
          omega)
      have hmem : ∀ x c, x < n → (c ∈ (match st (freeAt n F) x with
          | some k => if moveN n a k &&& F = 0 then vis n a st d (b ||| 2 ^ k) (F ||| moveN n a k) else []
          | none => []) ↔ ∃ k, st (freeAt n F) x = some k ∧ moveN n a k &&& F = 0 ∧ c < 2 ^ n ∧ Fills n a c ∧ ∀ y, (b ||| 2 ^ k).testBit y = true → c.testBit y = true) := by
        intro x c hx
        cases hs : st (freeAt n F) x with
        | none => simp
        | some k =>
          obtain ⟨hk, hkf⟩ := s1 _ _ _ hf hx hs
          by_cases hm : moveN n a k &&& F = 0
          · simp only [hm, if_true]
            rw [(ih k hk hkf hm).2 c]
            constructor
            · rintro ⟨h3, h4, h5⟩; exact ⟨k, rfl, hm, h3, h4, h5⟩
            · rintro ⟨k', e', _, h3, h4, h5⟩; cases e'; exact ⟨h3, h4, h5⟩
          · simp only [hm, if_false]
            constructor
            · intro h; cases h
            · rintro ⟨k', e', hm', _⟩; cases e'; exact absurd hm' hm
      constructor
      · refine List.pairwise_flatMap.2 ⟨fun x hx => ?_, ?_⟩
        · rw [List.mem_range] at hx
          cases hs : st (freeAt n F) x with
          | none => exact List.Pairwise.nil
          | some k =>
            obtain ⟨hk, hkf⟩ := s1 _ _ _ hf hx hs
            by_cases hm : moveN n a k &&& F = 0
            · simp only [hm, if_true]; exact (ih k hk hkf hm).1
            · simp only [hm, if_false]; exact List.Pairwise.nil
        · refine List.Pairwise.imp_of_mem (R := fun x y => x < y) ?_ List.pairwise_lt_range
          intro x y hx hy hxy c hc c' hc' hcc
          rw [List.mem_range] at hx hy
          subst hcc
          obtain ⟨k, hs, _, hcl, hfc, hsub⟩ := (hmem x c hx).1 hc
          obtain ⟨k', hs', _, _, _, hsub'⟩ := (hmem y c hy).1 hc'
          obtain ⟨hk, hkf⟩ := s1 _ _ _ hf hx hs
          obtain ⟨hk', hkf'⟩ := s1 _ _ _ hf hy hs'
          have e1 := hsub k (by rw [testBit_or_two_pow]; simp)
          have e2 := hsub' k' (by rw [testBit_or_two_pow]; simp)
          have := hfc.2 _ hf k hk k' hk' e1 e2 hkf hkf'
          subst this
          have := s3 _ _ _ _ hf hx hy hs hs'
          omega
      · intro c
        rw [List.mem_flatMap]
        constructor
        · rintro ⟨x, hx, hc⟩
          rw [List.mem_range] at hx
          obtain ⟨k, _, _, h3, h4, h5⟩ := (hmem x c hx).1 hc
          exact ⟨h3, h4, fun y hy => h5 y (by rw [testBit_or_two_pow, hy]; rfl)⟩
        · rintro ⟨hc, hfc, hsub⟩
          obtain ⟨k, hk, hck, hkf⟩ := hfc.1 _ hf
          obtain ⟨x, hx, hs⟩ := s2 _ k hf hk hkf
          refine ⟨x, List.mem_range.2 hx, (hmem x c hx).2 ⟨k, hs, ?_, hc, hfc, fun y hy => ?_⟩⟩
          · refine bits_ext (n := n) (Nat.lt_of_le_of_lt Nat.and_le_left (moveN_lt n a k)) (Nat.two_pow_pos n) (fun i hi => ?_)
            rw [Nat.zero_testBit, Nat.testBit_and]
            cases hi1 : (moveN n a k).testBit i with
            | false => rfl
            | true =>
              cases hi2 : F.testBit i with
              | false => rfl
              | true =>
                exfalso
                obtain ⟨z, hz, hbz, hmz⟩ := (h1 i hi).1 hi2
                have := hfc.2 i hi k hk z hz hck (hsub z hbz) hi1 hmz
                subst this
                rw [(h1 _ hf).2 ⟨k, hk, hbz, hkf⟩] at hf0; cases hf0
          · rw [testBit_or_two_pow, Bool.or_eq_true, decide_eq_true_eq] at hy
            rcases hy with hy | rfl
            · exact hsub y hy
            · exact hck
theorem moveN_zero {n a : Nat} (hn : 1 ≤ n) (ha : a < 2 ^ n) : moveN n a 0 = a :=
  bits_ext (moveN_lt n a 0) ha (fun i hi => by rw [testBit_moveN ha (by omega) hi]; congr 1; rw [Nat.sub_zero, Nat.add_mod_right, Nat.mod_eq_of_lt hi])
theorem one_bit (y : Nat) : (1 : Nat).testBit y = decide (y = 0) := by
  cases y with
  | zero => rfl
  | succ y => rw [Nat.testBit_succ]; simp
theorem Part.start {n a : Nat} (hn : 1 ≤ n) (ha : a < 2 ^ n) : Part n a 1 a := by
  have h1 := one_bit
  refine ⟨Nat.lt_of_lt_of_le (by decide : 1 < 2 ^ 1) (Nat.pow_le_pow_right (by omega) hn), ha, fun x hx => ?_, fun x hx y hy z hz h2 h3 _ _ => ?_⟩
  · constructor
    · intro h; exact ⟨0, by omega, by rw [h1]; rfl, by rw [moveN_zero hn ha]; exact h⟩
    · rintro ⟨y, hy, h2, h3⟩
      rw [h1, decide_eq_true_eq] at h2
      subst h2
      rw [moveN_zero hn ha] at h3; exact h3
  · rw [h1, decide_eq_true_eq] at h2 h3; omega
/-- the way of the program: the beats of a, in order; the way of the document: the entries, in order -/
def stA (n a f x : Nat) : Option Nat := if a.testBit x then some ((f + (n - x)) % n) else none
def stR (n a f y : Nat) : Option Nat := if (moveN n a y).testBit f then some y else none
theorem sub_mod_two {n f x : Nat} (hf : f < n) (hx : x < n) : (f + (n - (f + (n - x)) % n)) % n = x := by
  rcases Nat.lt_or_ge f x with h | h
  · rw [Nat.mod_eq_of_lt (show f + (n - x) < n by omega), show f + (n - (f + (n - x))) = x by omega, Nat.mod_eq_of_lt hx]
  · have e : (f + (n - x)) % n = f - x := by
      rw [show f + (n - x) = (f - x) + n by omega, Nat.add_mod_right, Nat.mod_eq_of_lt (by omega)]
    rw [e]
    rw [show f + (n - (f - x)) = x + n by omega, Nat.add_mod_right, Nat.mod_eq_of_lt hx]
theorem stepOk_A {n a : Nat} (ha : a < 2 ^ n) : StepOk n a (stA n a) := by
  refine ⟨fun f x k hf hx h => ?_, fun f k hf hk h => ?_, fun f x y k hf hx hy h h' => ?_⟩
  · unfold stA at h
    split at h
    · rename_i hb
      cases h
      have hk : (f + (n - x)) % n < n := Nat.mod_lt _ (by omega)
      refine ⟨hk, ?_⟩
      rw [testBit_moveN ha hk hf, sub_mod_two hf hx]; exact hb
    · cases h
  · rw [testBit_moveN ha hk hf] at h
    refine ⟨(f + (n - k)) % n, Nat.mod_lt _ (by omega), ?_⟩
    unfold stA
    rw [if_pos h, sub_mod_two hf hk]
  · unfold stA at h h'
    split at h
    · split at h'
      · cases h; injection h' with h'
        have := sub_mod_two hf hx; have := sub_mod_two hf hy; rw [h'] at this; omega
      · cases h'
    · cases h
theorem stepOk_R {n a : Nat} : StepOk n a (stR n a) := by
  refine ⟨fun f x k hf hx h => ?_, fun f k hf hk h => ⟨k, hk, by unfold stR; rw [if_pos h]⟩, fun f x y k hf hx hy h h' => ?_⟩
  · unfold stR at h
    split at h
    · rename_i hb; cases h; exact ⟨hx, hb⟩
    · cases h
  · unfold stR at h h'
    split at h
    · split at h'
      · cases h; injection h' with h'; exact h'.symm
      · cases h'
    · cases h
theorem start_cnt {n a : Nat} : cnt n (fun i => !a.testBit i) < n + 1 := by have := cnt_le n (fun i => !a.testBit i); omega
theorem partners_spec {n a : Nat} {st : Nat → Nat → Option Nat} (hn : 1 ≤ n) (ha : a < 2 ^ n) (h0 : a.testBit 0 = true) (hst : StepOk n a st) :
    (vis n a st (n + 1) 1 a).Nodup ∧ ∀ c, c ∈ vis n a st (n + 1) 1 a ↔ (c < 2 ^ n ∧ Tiled n a c ∧ c.testBit 0 = true) := by
  obtain ⟨h1, h2⟩ := vis_spec ha h0 hst (n + 1) 1 a (Part.start hn ha) start_cnt
  refine ⟨h1, fun c => ?_⟩
  rw [h2 c, tiled_fills]
  constructor
  · rintro ⟨h3, h4, h5⟩; exact ⟨h3, h4, h5 0 rfl⟩
  · rintro ⟨h3, h4, h5⟩
    refine ⟨h3, h4, fun y hy => ?_⟩
    rw [one_bit, decide_eq_true_eq] at hy
    subst hy; exact h5
theorem part_full {n a b F : Nat} (h : Part n a b F) (e : F = 2 ^ n - 1) : Tiled n a b := by
  obtain ⟨_, _, h3, h4⟩ := h
  refine tiled_fills.2 ⟨fun x hx => (h3 x hx).1 ?_, h4⟩
  rw [e, Nat.testBit_two_pow_sub_one]; simp [hx]
/-- lists without repetition with the same members are equally long -/
theorem nodup_length_le : ∀ (l l' : List Nat), l.Nodup → (∀ c, c ∈ l → c ∈ l') → l.length ≤ l'.length
  | [], _, _, _ => Nat.zero_le _
  | c :: l, l', hd, hs => by
    have h1 := hs c (by simp)
    have hd' := List.nodup_cons.1 hd
    have := nodup_length_le l (l'.erase c) hd'.2 (fun x hx => by
      have hx' := hs x (by simp [hx])
      have hne : x ≠ c := fun e => hd'.1 (e ▸ hx)
      exact (List.mem_erase_of_ne hne).2 hx')
    rw [List.length_erase_of_mem h1] at this
    have hp : 0 < l'.length := List.length_pos_of_mem h1
    simp only [List.length_cons]; omega
end Go.Proofs.Ytfpnojcbhbkfaaa.P
namespace Go.Proofs.Ytfpnojcbhbkfaaa.P
/-! Periods of a rhythm. Plain Lean. -/
def IsPer (n a d : Nat) : Prop := 1 ≤ d ∧ d ≤ n ∧ n % d = 0 ∧ moveN n a d = a
instance (n a d : Nat) : Decidable (IsPer n a d) := by unfold IsPer; infer_instance
theorem moveN_all {n a : Nat} (ha : a < 2 ^ n) : moveN n a n = a := by
  unfold moveN
  rw [Nat.sub_self, Nat.pow_zero, Nat.div_one]
  refine bits_ext (n := n) (Nat.lt_of_le_of_lt Nat.and_le_right (by have := Nat.two_pow_pos n; omega)) ha (fun i hi => ?_)
  rw [Nat.testBit_and, Nat.testBit_or, Nat.testBit_two_pow_sub_one, ← Nat.shiftLeft_eq, Nat.testBit_shiftLeft]
  simp [hi, Nat.not_le.2 hi]
theorem isPer_all {n a : Nat} (hn : 1 ≤ n) (ha : a < 2 ^ n) : IsPer n a n := ⟨hn, Nat.le_refl _, Nat.mod_self n, moveN_all ha⟩
theorem least_per {n a : Nat} (hn : 1 ≤ n) (ha : a < 2 ^ n) : ∃ p, IsPer n a p ∧ ∀ d, d < p → ¬ IsPer n a d := by
  have go : ∀ m, (∃ p, p ≤ m ∧ IsPer n a p) → ∃ p, IsPer n a p ∧ ∀ d, d < p → ¬ IsPer n a d := by
    intro m
    induction m with
    | zero =>
      rintro ⟨p, hp, h⟩
      exact ⟨p, h, fun d hd => by omega⟩
    | succ m ih =>
      rintro ⟨p, hp, h⟩
      by_cases hq : ∃ q, q ≤ m ∧ IsPer n a q
      · exact ih hq
      · exact ⟨p, h, fun d hd hd2 => hq ⟨d, by omega, hd2⟩⟩
  exact go n ⟨n, Nat.le_refl _, isPer_all hn ha⟩
theorem per_bit {n a d : Nat} (ha : a < 2 ^ n) (h : IsPer n a d) : ∀ (q x : Nat), x + q * d < n → a.testBit (x + q * d) = a.testBit x := by
  obtain ⟨h1, h2, h3, h4⟩ := h
  intro q
  induction q with
  | zero => intro x _; rw [Nat.zero_mul, Nat.add_zero]
  | succ q ih =>
    intro x hx
    rw [Nat.succ_mul] at hx
    rw [← ih x (by omega)]
    rcases Nat.lt_or_ge d n with c | c
    · have h5 := testBit_moveN (i := x + (q + 1) * d) ha c (by rw [Nat.succ_mul]; omega)
      rw [h4] at h5
      rw [h5]
      congr 1
      rw [Nat.succ_mul, show x + (q * d + d) + (n - d) = x + q * d + n by omega, Nat.add_mod_right, Nat.mod_eq_of_lt (by omega)]
    · omega
/-- the beats of one period, gathered -/
def foldTo (a d : Nat) : Nat → Nat
  | 0 => 0
  | x + 1 => if a.testBit x then foldTo a d x ||| 2 ^ (x % d) else foldTo a d x
theorem foldTo_bit {n a d : Nat} (ha : a < 2 ^ n) (h : IsPer n a d) (i : Nat) : ∀ x, x ≤ n → (foldTo a d x).testBit i = (decide (i < d) && (decide (i < x) && a.testBit i)) := by
  have h1 := h.1
  intro x
  induction x with
  | zero => intro _; simp [foldTo]
  | succ x ih =>
    intro hx
    have hi := ih (by omega)
    have hp := per_bit ha h (x / d) (x % d) (by rw [Nat.mul_comm, Nat.mod_add_div]; omega)
    rw [Nat.mul_comm, Nat.mod_add_div] at hp
    have hmd := Nat.mod_lt x (show d > 0 by omega)
    have hml := Nat.mod_le x d
    simp only [foldTo]
    cases hb : a.testBit x with
    | true =>
      rw [if_pos rfl, Nat.testBit_or, hi, Nat.testBit_two_pow]
      rw [hb] at hp
      by_cases e : x % d = i
      · subst e
        rw [← hp]
        simp only [decide_true, Bool.or_true, Bool.and_true]
        rw [decide_eq_true hmd, decide_eq_true (show x % d < x + 1 by omega)]
        rfl
      · rw [decide_eq_false e, Bool.or_false]
        by_cases hid : i < d
        · rw [decide_eq_true hid, Bool.true_and, Bool.true_and]
          have : decide (i < x) = decide (i < x + 1) := by
            rw [decide_eq_decide]
            have : i ≠ x := fun h => e (by rw [← h, Nat.mod_eq_of_lt hid])
            omega
          rw [this]
        · rw [decide_eq_false hid, Bool.false_and, Bool.false_and]
    | false =>
      rw [if_neg (by simp), hi]
      by_cases e : i = x
      · subst e; rw [hb]; simp
      · have : decide (i < x) = decide (i < x + 1) := by rw [decide_eq_decide]; omega
        rw [this]
theorem foldTo_all {n a d : Nat} (ha : a < 2 ^ n) (h : IsPer n a d) : foldTo a d n = a &&& (2 ^ d - 1) := by
  refine Nat.eq_of_testBit_eq (fun i => ?_)
  rw [foldTo_bit ha h i n (Nat.le_refl _), Nat.testBit_and, Nat.testBit_two_pow_sub_one]
  by_cases hi : i < d
  · have := h.2.1
    rw [decide_eq_true hi, decide_eq_true (show i < n by omega)]; simp
  · rw [decide_eq_false hi]; simp
theorem foldTo_lt {n a d : Nat} (hd : 1 ≤ d) (hdn : d ≤ n) : ∀ x, foldTo a d x < 2 ^ n
  | 0 => Nat.two_pow_pos n
  | x + 1 => by
    have h := foldTo_lt (n := n) (a := a) hd hdn x
    simp only [foldTo]
    split
    · exact Nat.or_lt_two_pow h (Nat.pow_lt_pow_right (by omega) (Nat.lt_of_lt_of_le (Nat.mod_lt x (by omega)) hdn))
    · exact h
end Go.Proofs.Ytfpnojcbhbkfaaa.P
namespace Go.Proofs.Ytfpnojcbhbkfaaa.P
/-! Of two rhythms that fill a circle of at most 24 beats one has a period: one of them has at most four beats; all such are looked through. Plain Lean. -/
/-- the search for partners, over the beats of a, with a test at each end -/
def visOk (n a full : Nat) (al : List Nat) (ok : Nat → Bool) : Nat → Nat → Nat → Bool
  | 0, _, _ => true
  | d + 1, b, F => bif Nat.beq F full then ok b else
      let f := freeAt n F
      al.all fun x =>
        let k := (f + (n - x)) % n
        let m := moveN n a k
        bif Nat.beq (m &&& F) 0 then visOk n a full al ok d (b ||| 2 ^ k) (F ||| m) else true
theorem visOk_spec {n a : Nat} {al : List Nat} {ok : Nat → Bool} (hal : ∀ x, x < n → a.testBit x = true → x ∈ al) : ∀ (d b F : Nat), visOk n a (2 ^ n - 1) al ok d b F = true → ∀ c ∈ vis n a (stA n a) d b F, ok c = true
  | 0, b, F, _, c, hc => by simp [vis] at hc
  | d + 1, b, F, h, c, hc => by
    simp only [vis] at hc
    simp only [visOk] at h
    by_cases e : F = 2 ^ n - 1
    · rw [if_pos e, List.mem_singleton] at hc
      rw [show Nat.beq F (2 ^ n - 1) = true from Nat.beq_eq.mpr e, cond_true] at h
      rw [hc]; exact h
    · rw [if_neg e, List.mem_flatMap] at hc
      rw [show Nat.beq F (2 ^ n - 1) = false from by rw [Bool.eq_false_iff]; exact fun h => e (Nat.eq_of_beq_eq_true h), cond_false, List.all_eq_true] at h
      obtain ⟨x, hx, hc⟩ := hc
      rw [List.mem_range] at hx
      unfold stA at hc
      cases hb : a.testBit x with
      | false => rw [hb] at hc; simp at hc
      | true =>
        rw [hb] at hc
        simp only [if_true] at hc
        have h2 := h x (hal x hx hb)
        by_cases hm : moveN n a ((freeAt n F + (n - x)) % n) &&& F = 0
        · rw [if_pos hm] at hc
          rw [show Nat.beq (moveN n a ((freeAt n F + (n - x)) % n) &&& F) 0 = true from Nat.beq_eq.mpr hm, cond_true] at h2
          exact visOk_spec hal d _ _ h2 c hc
        · rw [if_neg hm] at hc; cases hc
/-- has a period below the circle -/
def perB (n a : Nat) : Bool := (List.range n).any fun d => decide (1 ≤ d) && (decide (n % d = 0) && Nat.beq (moveN n a d) a)
theorem perB_iff {n a : Nat} : perB n a = true ↔ ∃ d, d < n ∧ IsPer n a d := by
  unfold perB IsPer
  rw [List.any_eq_true]
  constructor
  · rintro ⟨d, hd, h⟩
    rw [List.mem_range] at hd
    simp only [Bool.and_eq_true, decide_eq_true_iff] at h
    exact ⟨d, hd, h.1, by omega, h.2.1, Nat.eq_of_beq_eq_true h.2.2⟩
  · rintro ⟨d, hd, h1, _, h2, h3⟩
    refine ⟨d, List.mem_range.2 hd, ?_⟩
    simp only [Bool.and_eq_true, decide_eq_true_iff]
    exact ⟨h1, h2, Nat.beq_eq.mpr h3⟩
def setOf (al : List Nat) : Nat := al.foldl (fun s x => s ||| 2 ^ x) 0
def chkA (n : Nat) (al : List Nat) : Bool :=
  let a := setOf al
  perB n a || visOk n a (2 ^ n - 1) al (perB n) (n + 1) 1 a
/-- all rising lists of k numbers from lo to n - 1 behind some -/
def chkR (n : Nat) : Nat → Nat → List Nat → Bool
  | 0, _, al => chkA n al
  | k + 1, lo, al => (List.range (n - lo)).all fun i => chkR n k (lo + i + 1) (al ++ [lo + i])
def chkN (n : Nat) : Bool := [1, 2, 3, 4].all fun s => decide (n % s ≠ 0) || chkR n (s - 1) 1 [0]
theorem chkR_spec {n : Nat} : ∀ (k lo : Nat) (al l : List Nat), chkR n k lo al = true → l.length = k → l.Pairwise (· < ·) → (∀ x ∈ l, lo ≤ x ∧ x < n) → chkA n (al ++ l) = true
  | 0, lo, al, l, h, hl, _, _ => by
    rw [List.length_eq_zero_iff] at hl
    subst hl
    rw [List.append_nil]; exact h
  | k + 1, lo, al, x :: l, h, hl, hp, hr => by
    simp only [chkR, List.all_eq_true, List.mem_range] at h
    have hx := hr x (by simp)
    have h2 := h (x - lo) (by omega)
    rw [show lo + (x - lo) = x by omega] at h2
    rw [List.pairwise_cons] at hp
    have := chkR_spec k (x + 1) (al ++ [x]) l h2 (by simpa using hl) hp.2 (fun y hy => ⟨hp.1 y hy, (hr y (by simp [hy])).2⟩)
    rwa [List.append_assoc] at this
  | k + 1, _, _, [], _, hl, _, _ => by simp at hl
set_option maxHeartbeats 20000000 in
theorem chk_2 : chkN 2 = true := by kernel_rfl
set_option maxHeartbeats 20000000 in
theorem chk_3 : chkN 3 = true := by kernel_rfl
set_option maxHeartbeats 20000000 in
theorem chk_4 : chkN 4 = true := by kernel_rfl
set_option maxHeartbeats 20000000 in
theorem chk_5 : chkN 5 = true := by kernel_rfl
set_option maxHeartbeats 20000000 in
theorem chk_6 : chkN 6 = true := by kernel_rfl
set_option maxHeartbeats 20000000 in
theorem chk_7 : chkN 7 = true := by kernel_rfl
set_option maxHeartbeats 20000000 in
theorem chk_8 : chkN 8 = true := by kernel_rfl
set_option maxHeartbeats 20000000 in
theorem chk_9 : chkN 9 = true := by kernel_rfl
set_option maxHeartbeats 20000000 in
theorem chk_10 : chkN 10 = true := by kernel_rfl
set_option maxHeartbeats 20000000 in
theorem chk_11 : chkN 11 = true := by kernel_rfl
set_option maxHeartbeats 20000000 in
theorem chk_12 : chkN 12 = true := by kernel_rfl
set_option maxHeartbeats 20000000 in
theorem chk_13 : chkN 13 = true := by kernel_rfl
set_option maxHeartbeats 20000000 in
theorem chk_14 : chkN 14 = true := by kernel_rfl
set_option maxHeartbeats 20000000 in
theorem chk_15 : chkN 15 = true := by kernel_rfl
set_option maxHeartbeats 20000000 in
theorem chk_16 : chkN 16 = true := by kernel_rfl
set_option maxHeartbeats 20000000 in
theorem chk_17 : chkN 17 = true := by kernel_rfl
set_option maxHeartbeats 20000000 in
theorem chk_18 : chkN 18 = true := by kernel_rfl
set_option maxHeartbeats 20000000 in
theorem chk_19 : chkN 19 = true := by kernel_rfl
set_option maxHeartbeats 20000000 in
theorem chk_20 : chkN 20 = true := by kernel_rfl
set_option maxHeartbeats 20000000 in
theorem chk_21 : chkN 21 = true := by kernel_rfl
set_option maxHeartbeats 20000000 in
theorem chk_22 : chkN 22 = true := by kernel_rfl
set_option maxHeartbeats 20000000 in
theorem chk_23 : chkN 23 = true := by kernel_rfl
set_option maxHeartbeats 20000000 in
theorem chk24_1 : chkR 24 2 2 [0, 1] = true := by kernel_rfl
set_option maxHeartbeats 20000000 in
theorem chk24_2 : chkR 24 2 3 [0, 2] = true := by kernel_rfl
set_option maxHeartbeats 20000000 in
theorem chk24_3 : chkR 24 2 4 [0, 3] = true := by kernel_rfl
set_option maxHeartbeats 20000000 in
theorem chk24_4 : chkR 24 2 5 [0, 4] = true := by kernel_rfl
set_option maxHeartbeats 20000000 in
theorem chk24_5 : chkR 24 2 6 [0, 5] = true := by kernel_rfl
set_option maxHeartbeats 20000000 in
theorem chk24_6 : chkR 24 2 7 [0, 6] = true := by kernel_rfl
set_option maxHeartbeats 20000000 in
theorem chk24_7 : chkR 24 2 8 [0, 7] = true := by kernel_rfl
set_option maxHeartbeats 20000000 in
theorem chk24_8 : chkR 24 2 9 [0, 8] = true := by kernel_rfl
set_option maxHeartbeats 20000000 in
theorem chk24_9 : chkR 24 2 10 [0, 9] = true := by kernel_rfl
set_option maxHeartbeats 20000000 in
theorem chk24_10 : chkR 24 2 11 [0, 10] = true := by kernel_rfl
set_option maxHeartbeats 20000000 in
theorem chk24_11 : chkR 24 2 12 [0, 11] = true := by kernel_rfl
set_option maxHeartbeats 20000000 in
theorem chk24_12 : chkR 24 2 13 [0, 12] = true := by kernel_rfl
set_option maxHeartbeats 20000000 in
theorem chk24_13 : chkR 24 2 14 [0, 13] = true := by kernel_rfl
set_option maxHeartbeats 20000000 in
theorem chk24_14 : chkR 24 2 15 [0, 14] = true := by kernel_rfl
set_option maxHeartbeats 20000000 in
theorem chk24_15 : chkR 24 2 16 [0, 15] = true := by kernel_rfl
set_option maxHeartbeats 20000000 in
theorem chk24_16 : chkR 24 2 17 [0, 16] = true := by kernel_rfl
set_option maxHeartbeats 20000000 in
theorem chk24_17 : chkR 24 2 18 [0, 17] = true := by kernel_rfl
set_option maxHeartbeats 20000000 in
theorem chk24_18 : chkR 24 2 19 [0, 18] = true := by kernel_rfl
set_option maxHeartbeats 20000000 in
theorem chk24_19 : chkR 24 2 20 [0, 19] = true := by kernel_rfl
set_option maxHeartbeats 20000000 in
theorem chk24_20 : chkR 24 2 21 [0, 20] = true := by kernel_rfl
set_option maxHeartbeats 20000000 in
theorem chk24_21 : chkR 24 2 22 [0, 21] = true := by kernel_rfl
set_option maxHeartbeats 20000000 in
theorem chk24_22 : chkR 24 2 23 [0, 22] = true := by kernel_rfl
set_option maxHeartbeats 20000000 in
theorem chk24_23 : chkR 24 2 24 [0, 23] = true := by kernel_rfl
set_option maxHeartbeats 20000000 in
theorem chk24_s : ([1, 2, 3].all fun s => decide (24 % s ≠ 0) || chkR 24 (s - 1) 1 [0]) = true := by kernel_rfl
theorem chk24_all : chkR 24 3 1 [0] = true := by
  have h : chkR 24 3 1 [0] = (List.range 23).all fun i => chkR 24 2 (1 + i + 1) ([0] ++ [1 + i]) := rfl
  rw [h, List.all_eq_true]
  intro i hi
  rw [List.mem_range] at hi
  match i, hi with
  | 0, _ => exact chk24_1
  | 1, _ => exact chk24_2
  | 2, _ => exact chk24_3
  | 3, _ => exact chk24_4
  | 4, _ => exact chk24_5
  | 5, _ => exact chk24_6
  | 6, _ => exact chk24_7
  | 7, _ => exact chk24_8
  | 8, _ => exact chk24_9
  | 9, _ => exact chk24_10
  | 10, _ => exact chk24_11
  | 11, _ => exact chk24_12
  | 12, _ => exact chk24_13
  | 13, _ => exact chk24_14
  | 14, _ => exact chk24_15
  | 15, _ => exact chk24_16
  | 16, _ => exact chk24_17
  | 17, _ => exact chk24_18
  | 18, _ => exact chk24_19
  | 19, _ => exact chk24_20
  | 20, _ => exact chk24_21
  | 21, _ => exact chk24_22
  | 22, _ => exact chk24_23
  | i + 23, h => exact absurd h (by omega)
theorem chk_24 : chkN 24 = true := by
  have h := chk24_s
  have h4 := chk24_all
  rw [List.all_eq_true] at h
  unfold chkN
  rw [List.all_eq_true]
  intro s hs
  by_cases e : s = 4
  · subst e
    rw [show 4 - 1 = 3 from rfl, h4, Bool.or_true]
  · exact h s (by simp at hs ⊢; omega)
theorem hj_chk_all (n : Nat) (h : n < 25) (h2 : 2 ≤ n) : chkN n = true := by
  match n, h, h2 with
  | 2, _, _ => exact chk_2
  | 3, _, _ => exact chk_3
  | 4, _, _ => exact chk_4
  | 5, _, _ => exact chk_5
  | 6, _, _ => exact chk_6
  | 7, _, _ => exact chk_7
  | 8, _, _ => exact chk_8
  | 9, _, _ => exact chk_9
  | 10, _, _ => exact chk_10
  | 11, _, _ => exact chk_11
  | 12, _, _ => exact chk_12
  | 13, _, _ => exact chk_13
  | 14, _, _ => exact chk_14
  | 15, _, _ => exact chk_15
  | 16, _, _ => exact chk_16
  | 17, _, _ => exact chk_17
  | 18, _, _ => exact chk_18
  | 19, _, _ => exact chk_19
  | 20, _, _ => exact chk_20
  | 21, _, _ => exact chk_21
  | 22, _, _ => exact chk_22
  | 23, _, _ => exact chk_23
  | 24, _, _ => exact chk_24
  | 0, _, h => exact absurd h (by omega)
  | 1, _, h => exact absurd h (by omega)
  | n + 25, h, _ => exact absurd h (by omega)
theorem tiled_symm {n a b : Nat} (ha : a < 2 ^ n) (hb : b < 2 ^ n) (h : Tiled n a b) : Tiled n b a := by
  intro x hx
  have h1 := h x hx
  rw [← h1]
  unfold cv
  have hf : ∀ i, i < n → (x + (n - i)) % n < n := fun i hi => Nat.mod_lt _ (by omega)
  have hff : ∀ i, i < n → (x + (n - (x + (n - i)) % n)) % n = i := fun i hi => sub_mod_two hx hi
  rw [← cnt_perm (f := fun i => (x + (n - i)) % n) hf (fun i hi j hj e => by rw [← hff i hi, ← hff j hj]; exact congrArg (fun z => (x + (n - z)) % n) e) (fun y => b.testBit y && (moveN n a y).testBit x)]
  refine cnt_congr (fun y hy => ?_)
  rw [testBit_moveN hb hy hx, testBit_moveN ha (hf y hy) hx, hff y hy, Bool.and_comm]
theorem foldl_set (l : List Nat) : ∀ s, l.foldl (fun s x => s ||| 2 ^ x) s = orAll s l := fun _ => rfl
theorem setOf_filter {n a : Nat} (ha : a < 2 ^ n) : setOf ((List.range n).filter a.testBit) = a := by
  show orAll 0 _ = a
  refine bits_ext (orAll_lt _ (fun x hx => List.mem_range.1 (List.mem_filter.1 hx).1) 0 (Nat.two_pow_pos n)) ha (fun i hi => ?_)
  rw [testBit_orAll, Nat.zero_testBit, Bool.false_or, Bool.eq_iff_iff, decide_eq_true_iff, List.mem_filter, List.mem_range]
  exact ⟨fun h => h.2, fun h => ⟨hi, h⟩⟩
theorem small_side {n a b : Nat} (hn : 2 ≤ n) (hn2 : n ≤ 24) (ha : a < 2 ^ n) (hb : b < 2 ^ n) (a0 : a.testBit 0 = true) (b0 : b.testBit 0 = true) (h : Tiled n a b) (hs : chSize n a ≤ 4) : perB n a = true ∨ perB n b = true := by
  obtain ⟨al, hal⟩ : ∃ al, al = (List.range n).filter a.testBit := ⟨_, rfl⟩
  have hset : setOf al = a := by rw [hal]; exact setOf_filter ha
  have hlen : al.length = chSize n a := by rw [hal, chSize_cnt, cnt_eq, List.countP_eq_length_filter]
  have hp : al.Pairwise (· < ·) := by rw [hal]; exact List.Pairwise.filter _ List.pairwise_lt_range
  have hm : ∀ x, x ∈ al ↔ x < n ∧ a.testBit x = true := fun x => by rw [hal, List.mem_filter, List.mem_range]
  have hsz := tiled_size ha h
  obtain ⟨y, l, e⟩ : ∃ y l, al = y :: l := by
    cases al with
    | nil => exact absurd ((hm 0).2 ⟨by omega, a0⟩) (by simp)
    | cons y l => exact ⟨y, l, rfl⟩
  rw [e, List.pairwise_cons] at hp
  have hy : y = 0 := by
    have := (hm 0).2 ⟨by omega, a0⟩
    rw [e] at this
    rcases List.mem_cons.1 this with h | h
    · exact h.symm
    · have := hp.1 0 h; omega
  subst hy
  have hc := hj_chk_all n (by omega) hn
  unfold chkN at hc
  rw [List.all_eq_true] at hc
  have hl : l.length + 1 = chSize n a := by rw [← hlen, e]; rfl
  have hmem : chSize n a ∈ [1, 2, 3, 4] := by
    have : chSize n a = 1 ∨ chSize n a = 2 ∨ chSize n a = 3 ∨ chSize n a = 4 := by omega
    simp [this]
  have h1 := hc _ hmem
  have hdiv : n % chSize n a = 0 := Nat.mod_eq_zero_of_dvd ⟨chSize n b, hsz.symm⟩
  rw [decide_eq_false (by simp [hdiv]), Bool.false_or] at h1
  have h2 := chkR_spec (chSize n a - 1) 1 [0] l h1 (by omega) hp.2 (fun x hx => ⟨hp.1 x hx, ((hm x).1 (by rw [e]; simp [hx])).1⟩)
  rw [show [0] ++ l = al by rw [e]; rfl] at h2
  unfold chkA at h2
  simp only [hset, Bool.or_eq_true] at h2
  rcases h2 with h2 | h2
  · exact .inl h2
  · right
    refine visOk_spec (fun x hx hb => (hm x).2 ⟨hx, hb⟩) _ _ _ h2 b ?_
    exact ((partners_spec (by omega) ha a0 (stepOk_A ha)).2 b).2 ⟨hb, h, b0⟩
/-- **of two rhythms that fill the circle one has a period below it** -/
theorem hajos {n a b : Nat} (hn : 2 ≤ n) (hn2 : n ≤ 24) (ha : a < 2 ^ n) (hb : b < 2 ^ n) (a0 : a.testBit 0 = true) (b0 : b.testBit 0 = true) (h : Tiled n a b) : perB n a = true ∨ perB n b = true := by
  have hsz := tiled_size ha h
  by_cases hs : chSize n a ≤ 4
  · exact small_side hn hn2 ha hb a0 b0 h hs
  · have h4 : chSize n b ≤ 4 := by
      rcases Nat.lt_or_ge 4 (chSize n b) with h5 | h5
      · have := Nat.mul_le_mul (show 5 ≤ chSize n a by omega) (show 5 ≤ chSize n b by omega)
        omega
      · exact h5
    exact (small_side hn hn2 hb ha b0 a0 (tiled_symm ha hb h) h4).symm
end Go.Proofs.Ytfpnojcbhbkfaaa.P
namespace Go.Proofs.Ytfpnojcbhbkfaaa.P
/-! Partners of a rhythm with a period, and of a rhythm turned. Plain Lean. -/
theorem back_mod {n d x y : Nat} (hd : 1 ≤ d) (hn : n % d = 0) (hy : y < n) : (x + (n - y)) % n % d = (x % d + (d - y % d)) % d := by
  have hdv : d ∣ n := Nat.dvd_of_mod_eq_zero hn
  rw [Nat.mod_mod_of_dvd _ hdv]
  refine add_mod_inj (e := y) (Nat.mod_lt _ hd) (Nat.mod_lt _ hd) ?_
  rw [Nat.mod_add_mod, Nat.mod_add_mod]
  have h1 : (x + (n - y) + y) % d = x % d := by
    rw [show x + (n - y) + y = x + n by omega, Nat.add_mod, hn, Nat.add_zero, Nat.mod_mod]
  have h2 : (x % d + (d - y % d) + y) % d = x % d := by
    have e1 := Nat.div_add_mod y d
    have e2 := Nat.mod_lt y hd
    rw [show x % d + (d - y % d) + y = x % d + d * (y / d + 1) by rw [Nat.mul_add]; omega, Nat.add_mul_mod_self_left, Nat.mod_mod]
  rw [h1, h2]
theorem per_mod {n a d : Nat} (ha : a < 2 ^ n) (h : IsPer n a d) {x : Nat} (hx : x < n) : a.testBit (x % d) = a.testBit x := by
  have hd := h.1
  have := per_bit ha h (x / d) (x % d) (by have := Nat.mod_add_div x d; rw [Nat.mul_comm] at this; omega)
  rw [← this]
  congr 1
  have := Nat.mod_add_div x d; rw [Nat.mul_comm] at this; omega
theorem move_fold {n a d x y : Nat} (ha : a < 2 ^ n) (h : IsPer n a d) (hx : x < n) (hy : y < n) : (moveN n a y).testBit x = (moveN d (a &&& (2 ^ d - 1)) (y % d)).testBit (x % d) := by
  have hd := h.1
  have hb : a &&& (2 ^ d - 1) < 2 ^ d := by have := Nat.two_pow_pos d; have := @Nat.and_le_right a (2 ^ d - 1); omega
  rw [testBit_moveN ha hy hx, testBit_moveN hb (Nat.mod_lt _ hd) (Nat.mod_lt _ hd), ← back_mod hd h.2.2.1 hy, Nat.testBit_and, Nat.testBit_two_pow_sub_one, per_mod ha h (Nat.mod_lt _ (by omega))]
  have : (x + (n - y)) % n % d < d := Nat.mod_lt _ hd
  simp [this]
def modSet (n d c : Nat) : Nat := orAll 0 (((List.range n).filter c.testBit).map (· % d))
theorem modSet_bit {n d c i : Nat} : (modSet n d c).testBit i = true ↔ ∃ y, y < n ∧ c.testBit y = true ∧ y % d = i := by
  unfold modSet
  rw [testBit_orAll]
  simp only [Nat.zero_testBit, Bool.false_or, decide_eq_true_eq, List.mem_map, List.mem_filter, List.mem_range]
  constructor
  · rintro ⟨y, ⟨h1, h2⟩, h3⟩; exact ⟨y, h1, h2, h3⟩
  · rintro ⟨y, h1, h2, h3⟩; exact ⟨y, ⟨h1, h2⟩, h3⟩
theorem modSet_lt {n d c : Nat} (hd : 1 ≤ d) : modSet n d c < 2 ^ d := by
  unfold modSet
  refine orAll_lt _ (fun x hx => ?_) _ (Nat.two_pow_pos d)
  simp only [List.mem_map] at hx
  obtain ⟨y, _, rfl⟩ := hx
  exact Nat.mod_lt _ hd
theorem fold_partner {n a d : Nat} (ha : a < 2 ^ n) (h : IsPer n a d) : (∃ c, c < 2 ^ n ∧ Tiled n a c ∧ c.testBit 0 = true) ↔ (∃ c, c < 2 ^ d ∧ Tiled d (a &&& (2 ^ d - 1)) c ∧ c.testBit 0 = true) := by
  have hd := h.1
  have hdn := h.2.1
  simp only [tiled_fills]
  constructor
  · rintro ⟨c, hc, ⟨h1, h2⟩, h0⟩
    refine ⟨modSet n d c, modSet_lt hd, ⟨fun x hx => ?_, fun x hx y hy z hz hy1 hz1 hy2 hz2 => ?_⟩, modSet_bit.2 ⟨0, by omega, h0, Nat.zero_mod d⟩⟩
    · obtain ⟨y, hy, hcy, hm⟩ := h1 x (by omega)
      refine ⟨y % d, Nat.mod_lt _ hd, modSet_bit.2 ⟨y, hy, hcy, rfl⟩, ?_⟩
      rw [move_fold ha h (by omega) hy, Nat.mod_eq_of_lt hx] at hm; exact hm
    · obtain ⟨y', hy', hcy, rfl⟩ := modSet_bit.1 hy1
      obtain ⟨z', hz', hcz, rfl⟩ := modSet_bit.1 hz1
      have e1 := move_fold ha h (show x < n by omega) hy'
      have e2 := move_fold ha h (show x < n by omega) hz'
      rw [Nat.mod_eq_of_lt hx] at e1 e2
      rw [h2 x (by omega) y' hy' z' hz' hcy hcz (e1.trans hy2) (e2.trans hz2)]
  · rintro ⟨c, hc, ⟨h1, h2⟩, h0⟩
    have hlt : ∀ y, c.testBit y = true → y < d := fun y hy => by
      rcases Nat.lt_or_ge y d with h | h
      · exact h
      · rw [testBit_big hc h] at hy; cases hy
    refine ⟨c, Nat.lt_of_lt_of_le hc (Nat.pow_le_pow_right (by omega) hdn), ⟨fun x hx => ?_, fun x hx y hy z hz hy1 hz1 hy2 hz2 => ?_⟩, h0⟩
    · obtain ⟨y, hy, hcy, hm⟩ := h1 (x % d) (Nat.mod_lt _ hd)
      refine ⟨y, by omega, hcy, ?_⟩
      rw [move_fold ha h hx (by omega), Nat.mod_eq_of_lt hy]; exact hm
    · have _ := hx
      have hyd := hlt y hy1
      have hzd := hlt z hz1
      rw [move_fold ha h hx hy, Nat.mod_eq_of_lt hyd] at hy2
      rw [move_fold ha h hx hz, Nat.mod_eq_of_lt hzd] at hz2
      exact h2 (x % d) (Nat.mod_lt _ hd) y hyd z hzd hy1 hz1 hy2 hz2
/-- the image of a set -/
def imgSet (n : Nat) (f : Nat → Nat) (c : Nat) : Nat := orAll 0 (((List.range n).filter c.testBit).map f)
theorem imgSet_bit {n : Nat} {f : Nat → Nat} {c i : Nat} : (imgSet n f c).testBit i = true ↔ ∃ y, y < n ∧ c.testBit y = true ∧ f y = i := by
  unfold imgSet
  rw [testBit_orAll]
  simp only [Nat.zero_testBit, Bool.false_or, decide_eq_true_eq, List.mem_map, List.mem_filter, List.mem_range]
  constructor
  · rintro ⟨y, ⟨h1, h2⟩, h3⟩; exact ⟨y, h1, h2, h3⟩
  · rintro ⟨y, h1, h2, h3⟩; exact ⟨y, ⟨h1, h2⟩, h3⟩
theorem imgSet_lt {n : Nat} {f : Nat → Nat} {c : Nat} (hf : ∀ x, x < n → f x < n) : imgSet n f c < 2 ^ n := by
  unfold imgSet
  refine orAll_lt _ (fun x hx => ?_) _ (Nat.two_pow_pos n)
  simp only [List.mem_map, List.mem_filter, List.mem_range] at hx
  obtain ⟨y, ⟨h, _⟩, rfl⟩ := hx
  exact hf y h
def neg1 (n x : Nat) : Nat := (n - x) % n
theorem neg1_lt {n x : Nat} (hn : 1 ≤ n) : neg1 n x < n := Nat.mod_lt _ hn
theorem neg1_eq {n x : Nat} (hx : x < n) : neg1 n x = if x = 0 then 0 else n - x := by
  unfold neg1
  by_cases e : x = 0
  · subst e; simp
  · rw [if_neg e, Nat.mod_eq_of_lt (by omega)]
theorem neg1_neg1 {n x : Nat} (hx : x < n) : neg1 n (neg1 n x) = x := by
  have h1 := neg1_eq hx
  have h2 := neg1_eq (n := n) (x := neg1 n x) (neg1_lt (by omega))
  split at h1 <;> split at h2 <;> omega
def negN (n c : Nat) : Nat := imgSet n (neg1 n) c
theorem negN_lt {n c : Nat} (hn : 1 ≤ n) : negN n c < 2 ^ n := imgSet_lt (fun _ _ => neg1_lt hn)
theorem negN_bit {n c i : Nat} (hi : i < n) : (negN n c).testBit i = c.testBit (neg1 n i) := by
  rw [Bool.eq_iff_iff]
  unfold negN
  rw [imgSet_bit]
  constructor
  · rintro ⟨y, hy, hc, rfl⟩; rw [neg1_neg1 hy]; exact hc
  · intro h; exact ⟨neg1 n i, neg1_lt (by omega), h, neg1_neg1 hi⟩
theorem negN_negN {n c : Nat} (hn : 1 ≤ n) (hc : c < 2 ^ n) : negN n (negN n c) = c :=
  bits_ext (negN_lt hn) hc (fun i hi => by rw [negN_bit hi, negN_bit (neg1_lt hn), neg1_neg1 hi])
theorem move_neg {n a x y : Nat} (ha : a < 2 ^ n) (hx : x < n) (hy : y < n) : (moveN n (negN n a) (neg1 n y)).testBit (neg1 n x) = (moveN n a y).testBit x := by
  have hn : 1 ≤ n := by omega
  rw [testBit_moveN (negN_lt hn) (neg1_lt hn) (neg1_lt hn), testBit_moveN ha hy hx, negN_bit (Nat.mod_lt _ hn)]
  congr 1
  have h1 := neg1_eq hx
  have h2 := neg1_eq hy
  have hm : ∀ u, u < 2 * n → u % n = if u < n then u else u - n := fun u hu => by
    by_cases e : u < n
    · rw [if_pos e, Nat.mod_eq_of_lt e]
    · rw [if_neg e, Nat.mod_eq_sub_mod (by omega), Nat.mod_eq_of_lt (by omega)]
  have e1 : ∀ v, v = (neg1 n x + (n - neg1 n y)) % n → neg1 n v = (x + (n - y)) % n := by
    intro v hv
    by_cases hy0 : y = 0
    · subst hy0
      simp only [if_true] at h2
      rw [h2, Nat.sub_zero, Nat.add_mod_right, Nat.mod_eq_of_lt (neg1_lt hn)] at hv
      subst hv
      rw [neg1_neg1 hx, Nat.sub_zero, Nat.add_mod_right, Nat.mod_eq_of_lt hx]
    · rw [if_neg hy0] at h2
      rw [hm _ (by have := neg1_lt (x := x) hn; omega)] at hv
      have hvn : v < n := by have := neg1_lt (x := x) hn; split at hv <;> omega
      have h3 := neg1_eq hvn
      rw [h3, hm _ (by omega)]
      split at h1 <;> split at hv <;> split <;> split <;> omega
  exact e1 _ rfl
theorem tiled_neg {n a c : Nat} (ha : a < 2 ^ n) (h : Tiled n a c) : Tiled n (negN n a) (negN n c) := by
  rw [tiled_fills] at h ⊢
  obtain ⟨h1, h2⟩ := h
  refine ⟨fun x hx => ?_, fun x hx y hy z hz hy1 hz1 hy2 hz2 => ?_⟩
  · have hn : 1 ≤ n := by omega
    obtain ⟨y, hy, hc, hm⟩ := h1 (neg1 n x) (neg1_lt hn)
    refine ⟨neg1 n y, neg1_lt hn, ?_, ?_⟩
    · rw [negN_bit (neg1_lt hn), neg1_neg1 hy]; exact hc
    · have := move_neg ha (neg1_lt (x := x) hn) hy
      rw [neg1_neg1 hx] at this
      rw [this]; exact hm
  · have hn : 1 ≤ n := by omega
    rw [negN_bit hy] at hy1
    rw [negN_bit hz] at hz1
    have e1 := move_neg ha (neg1_lt (x := x) hn) (neg1_lt (x := y) hn)
    have e2 := move_neg ha (neg1_lt (x := x) hn) (neg1_lt (x := z) hn)
    rw [neg1_neg1 hx, neg1_neg1 hy] at e1
    rw [neg1_neg1 hx, neg1_neg1 hz] at e2
    have := h2 (neg1 n x) (neg1_lt hn) (neg1 n y) (neg1_lt hn) (neg1 n z) (neg1_lt hn) hy1 hz1 (e1.symm.trans hy2) (e2.symm.trans hz2)
    rw [← neg1_neg1 hy, this, neg1_neg1 hz]
end Go.Proofs.Ytfpnojcbhbkfaaa.P
namespace Go.Proofs.Ytfpnojcbhbkfaaa.P
/-! Tijdeman: a tile multiplied by a number without a common factor is a tile with the same partner -/
/-- all that a list moves a function to, summed -/
def sumOp (A : List Int) (f : Int → Int) (x : Int) : Int := (A.map fun a => f (x - a)).sum
def iterOp (A : List Int) : Nat → (Int → Int) → Int → Int
  | 0, f => f
  | k + 1, f => sumOp A (iterOp A k f)
def bin : Nat → Nat → Nat
  | _, 0 => 1
  | 0, _ + 1 => 0
  | n + 1, k + 1 => bin n k + bin n (k + 1)
theorem bin_over : ∀ (n k : Nat), n < k → bin n k = 0
  | 0, k + 1, _ => rfl
  | n + 1, k + 1, h => by simp [bin, bin_over n k (by omega), bin_over n (k + 1) (by omega)]
theorem bin_zero (n : Nat) : bin n 0 = 1 := by cases n <;> rfl
theorem bin_self : ∀ n : Nat, bin n n = 1
  | 0 => rfl
  | n + 1 => by simp [bin, bin_self n, bin_over n (n + 1) (by omega)]
/-- a sum over the numbers below a bound -/
def upto (f : Nat → Int) : Nat → Int
  | 0 => 0
  | n + 1 => upto f n + f n
theorem upto_congr {f g : Nat → Int} : ∀ {n : Nat}, (∀ i, i < n → f i = g i) → upto f n = upto g n
  | 0, _ => rfl
  | n + 1, h => by simp only [upto]; rw [upto_congr (fun i hi => h i (by omega)), h n (by omega)]
theorem upto_add (f g : Nat → Int) : ∀ n : Nat, upto (fun i => f i + g i) n = upto f n + upto g n
  | 0 => rfl
  | n + 1 => by simp only [upto, upto_add f g n]; omega
theorem upto_first (f : Nat → Int) : ∀ n : Nat, upto f (n + 1) = f 0 + upto (fun i => f (i + 1)) n
  | 0 => by simp [upto]
  | n + 1 => by rw [upto, upto_first f n]; simp only [upto]; omega
theorem upto_mul (c : Int) (f : Nat → Int) : ∀ n : Nat, upto (fun i => c * f i) n = c * upto f n
  | 0 => by simp [upto]
  | n + 1 => by simp only [upto, upto_mul c f n, Int.mul_add]
theorem sumOp_upto (A : List Int) (F : Nat → Int → Int) (n : Nat) (x : Int) : sumOp A (fun y => upto (fun i => F i y) n) x = upto (fun i => sumOp A (F i) x) n := by
  induction n with
  | zero => unfold sumOp; simp only [upto]; induction A with
    | nil => rfl
    | cons a A ih => simpa using ih
  | succ n ih =>
    have h2 : ∀ B : List Int, sumOp B (fun y => upto (fun i => F i y) (n + 1)) x = sumOp B (fun y => upto (fun i => F i y) n) x + sumOp B (F n) x := by
      intro B
      unfold sumOp; simp only [upto]
      induction B with
      | nil => rfl
      | cons a B ih2 => simp only [List.map_cons, List.sum_cons] at ih2 ⊢; omega
    rw [h2, ih]; rfl
theorem sumOp_mul (A : List Int) (c : Int) (f : Int → Int) (x : Int) : sumOp A (fun y => c * f y) x = c * sumOp A f x := by
  unfold sumOp
  induction A with
  | nil => simp
  | cons a A ih => simp only [List.map_cons, List.sum_cons, Int.mul_add] at ih ⊢; omega
theorem sumOp_move (A : List Int) (f : Int → Int) (c x : Int) : sumOp A (fun y => f (y - c)) x = sumOp A f (x - c) := by
  unfold sumOp
  congr 1
  apply List.map_congr_left
  intro a _
  show f (x - a - c) = f (x - c - a)
  congr 1; omega
theorem sumOp_cons (a : Int) (A : List Int) (f : Int → Int) (x : Int) : sumOp (a :: A) f x = f (x - a) + sumOp A f x := rfl
/-- the binomial theorem for a step and a sum of steps -/
theorem iter_cons (a : Int) (A : List Int) (f : Int → Int) : ∀ (n : Nat) (x : Int), iterOp (a :: A) n f x = upto (fun k => (bin n k : Int) * iterOp A (n - k) f (x - k * a)) (n + 1)
  | 0, x => by simp [iterOp, upto, bin]
  | n + 1, x => by
    have ih := iter_cons a A f n
    have e1 : iterOp (a :: A) (n + 1) f x = upto (fun k => (bin n k : Int) * iterOp A (n - k) f (x - a - k * a)) (n + 1) + upto (fun k => (bin n k : Int) * iterOp A (n + 1 - k) f (x - k * a)) (n + 1) := by
      show sumOp (a :: A) (iterOp (a :: A) n f) x = _
      rw [sumOp_cons, ih, show iterOp (a :: A) n f = fun y => upto (fun k => (bin n k : Int) * iterOp A (n - k) f (y - k * a)) (n + 1) from funext ih, sumOp_upto]
      congr 1
      apply upto_congr
      intro k hk
      rw [sumOp_mul, sumOp_move A (iterOp A (n - k) f)]
      rw [show n + 1 - k = (n - k) + 1 by omega]; rfl
    rw [e1]
    -- the right side: k = 0 apart, Pascal for the others
    rw [upto_first (fun k => (bin (n + 1) k : Int) * iterOp A (n + 1 - k) f (x - k * a)) (n + 1)]
    have e2 : upto (fun i => (bin (n + 1) (i + 1) : Int) * iterOp A (n + 1 - (i + 1)) f (x - ((i + 1 : Nat) : Int) * a)) (n + 1) =
        upto (fun k => (bin n k : Int) * iterOp A (n - k) f (x - a - k * a)) (n + 1) + upto (fun i => (bin n (i + 1) : Int) * iterOp A (n + 1 - (i + 1)) f (x - ((i + 1 : Nat) : Int) * a)) (n + 1) := by
      rw [← upto_add]
      apply upto_congr
      intro i hi
      have e3 : x - ((i + 1 : Nat) : Int) * a = x - a - i * a := by rw [Int.natCast_add, Int.add_mul]; omega
      rw [e3, show n + 1 - (i + 1) = n - i by omega]
      show ((bin n i + bin n (i + 1) : Nat) : Int) * _ = _
      rw [Int.natCast_add, Int.add_mul]
    rw [e2]
    have e4 : upto (fun k => (bin n k : Int) * iterOp A (n + 1 - k) f (x - k * a)) (n + 1 + 1) = upto (fun k => (bin n k : Int) * iterOp A (n + 1 - k) f (x - k * a)) (n + 1) := by
      rw [upto, bin_over n (n + 1) (by omega)]; simp
    rw [← e4, upto_first (fun k => (bin n k : Int) * iterOp A (n + 1 - k) f (x - k * a)) (n + 1)]
    simp only [bin_zero]
    omega
/-- what Frobenius asks of p -/
def Frob (p : Nat) : Prop := 1 ≤ p ∧ ∀ k, 0 < k → k < p → p ∣ bin p k
theorem iter_frob {p : Nat} (hp : Frob p) (f : Int → Int) : ∀ (A : List Int) (x : Int), (p : Int) ∣ iterOp A p f x - (A.map fun a => f (x - p * a)).sum
  | [], x => by
    have : iterOp [] p f x = 0 := by
      obtain ⟨q, rfl⟩ : ∃ q, p = q + 1 := ⟨p - 1, by have := hp.1; omega⟩
      rfl
    rw [this]; simp
  | a :: A, x => by
    have ih := iter_frob hp f A x
    obtain ⟨q, hq⟩ : ∃ q, p = q + 1 := ⟨p - 1, by have := hp.1; omega⟩
    rw [iter_cons, upto]
    have e1 : upto (fun k => (bin p k : Int) * iterOp A (p - k) f (x - k * a)) p = iterOp A p f x + upto (fun i => (bin p (i + 1) : Int) * iterOp A (p - (i + 1)) f (x - ((i + 1 : Nat) : Int) * a)) q := by
      have := upto_first (fun k => (bin p k : Int) * iterOp A (p - k) f (x - k * a)) q
      rw [← hq] at this
      rw [this]
      simp [bin_zero]
    rw [e1, bin_self, Nat.sub_self]
    have e2 : (p : Int) ∣ upto (fun i => (bin p (i + 1) : Int) * iterOp A (p - (i + 1)) f (x - ((i + 1 : Nat) : Int) * a)) q := by
      have : ∀ m, m ≤ q → (p : Int) ∣ upto (fun i => (bin p (i + 1) : Int) * iterOp A (p - (i + 1)) f (x - ((i + 1 : Nat) : Int) * a)) m := by
        intro m
        induction m with
        | zero => intro _; exact Int.dvd_zero _
        | succ m ihm =>
          intro hm
          exact Int.dvd_add (ihm (by omega)) (Int.dvd_mul_of_dvd_left (Int.natCast_dvd_natCast.2 (hp.2 (m + 1) (by omega) (by omega))))
      exact this q (Nat.le_refl _)
    have e3 := Int.dvd_add ih e2
    simp only [List.map_cons, List.sum_cons, iterOp]
    have e4 : iterOp A p f x + upto (fun i => (bin p (i + 1) : Int) * iterOp A (p - (i + 1)) f (x - ((i + 1 : Nat) : Int) * a)) q + ((1 : Nat) : Int) * f (x - p * a) - (f (x - p * a) + (A.map fun a => f (x - p * a)).sum) = iterOp A p f x - (A.map fun a => f (x - p * a)).sum + upto (fun i => (bin p (i + 1) : Int) * iterOp A (p - (i + 1)) f (x - ((i + 1 : Nat) : Int) * a)) q := by
      generalize upto _ q = u
      generalize (A.map fun a => f (x - p * a)).sum = v
      simp only [Int.natCast_one, Int.one_mul]; omega
    rw [e4]; exact e3
/-- A and b fill the circle: each beat once -/
def TilesF (n : Nat) (A : List Int) (b : Int → Int) : Prop := (∀ x, 0 ≤ b x) ∧ (∀ x, b (x + n) = b x) ∧ (∀ x, sumOp A b x = 1)
theorem iter_tiles {n : Nat} {A : List Int} {b : Int → Int} (h : TilesF n A b) : ∀ (k : Nat) (x : Int), iterOp A (k + 1) b x = (A.length : Int) ^ k
  | 0, x => by simpa [iterOp] using h.2.2 x
  | k + 1, x => by
    show sumOp A (iterOp A (k + 1) b) x = _
    rw [show iterOp A (k + 1) b = fun _ => (A.length : Int) ^ k from funext (iter_tiles h k)]
    unfold sumOp
    rw [Int.pow_succ]
    generalize (A.length : Int) ^ k = c
    induction A with
    | nil => simp
    | cons a A ih =>
      have : ∀ B : List Int, (B.map fun _ => c).sum = c * B.length := by
        intro B; induction B with
        | nil => simp
        | cons b B ih => simp only [List.map_cons, List.sum_cons, ih, List.length_cons, Int.natCast_add, Int.mul_add]; omega
      exact this _
theorem sum_const (c : Int) : ∀ B : List Int, (B.map fun _ => c).sum = c * B.length
  | [] => by simp
  | b :: B => by simp only [List.map_cons, List.sum_cons, sum_const c B, List.length_cons, Int.natCast_add, Int.mul_add]; omega
/-- the sum over one time around does not hang on where it begins -/
theorem upto_turn {n : Nat} (b : Int → Int) (hb : ∀ x, b (x + n) = b x) (c : Int) : upto (fun i => b (i + c)) n = upto (fun i => b i) n := by
  have step : ∀ c : Int, upto (fun i => b (i + (c + 1))) n = upto (fun i => b (i + c)) n := by
    intro c
    have h1 := upto_first (fun i => b (i + c)) n
    have h2 : upto (fun i => b (i + c)) (n + 1) = upto (fun i => b (i + c)) n + b (n + c) := rfl
    have h3 : b (n + c) = b (((0 : Nat) : Int) + c) := by rw [Int.add_comm, hb]; simp
    have h4 : upto (fun i => b (((i + 1 : Nat) : Int) + c)) n = upto (fun i => b (i + (c + 1))) n := upto_congr (fun i _ => by congr 1; omega)
    omega
  have up : ∀ k : Nat, ∀ c : Int, upto (fun i => b (i + (c + k))) n = upto (fun i => b (i + c)) n := by
    intro k
    induction k with
    | zero => intro c; simp
    | succ k ih => intro c; rw [← ih c, ← step (c + k)]; apply upto_congr; intro i _; congr 1; omega
  rcases Int.le_total 0 c with h | h
  · obtain ⟨k, rfl⟩ := Int.eq_ofNat_of_zero_le h
    have := up k 0
    simpa using this
  · obtain ⟨k, hk⟩ := Int.eq_ofNat_of_zero_le (show 0 ≤ -c by omega)
    have := up k c
    rw [← this]; apply upto_congr; intro i _; congr 1; omega
theorem upto_sumOp {n : Nat} (b : Int → Int) (hb : ∀ x, b (x + n) = b x) (A : List Int) : upto (fun i => sumOp A b i) n = upto (fun i => b i) n * A.length := by
  induction A with
  | nil => have : ∀ m, upto (fun i => sumOp [] b i) m = 0 := by
             intro m; induction m with
             | zero => rfl
             | succ m ih => rw [upto, ih]; rfl
           rw [this]; simp
  | cons a A ih =>
    simp only [sumOp_cons]
    rw [upto_add, ih]
    have : upto (fun i => b (i - a)) n = upto (fun i => b i) n := by
      rw [← upto_turn b hb (-a)]; apply upto_congr; intro i _; congr 1
    rw [this, List.length_cons, Int.natCast_add, Int.mul_add]; omega
theorem sumOp_period {n : Nat} (b : Int → Int) (hb : ∀ x, b (x + n) = b x) (A : List Int) (x : Int) : sumOp A b (x + n) = sumOp A b x := by
  unfold sumOp
  congr 1
  apply List.map_congr_left
  intro a _
  rw [show x + n - a = (x - a) + n by omega, hb]
theorem upto_ge {f : Nat → Int} : ∀ {n : Nat}, (∀ i, i < n → 1 ≤ f i) → (n : Int) ≤ upto f n
  | 0, _ => by simp [upto]
  | n + 1, h => by have := upto_ge (f := f) (n := n) (fun i hi => h i (by omega)); have := h n (by omega); simp only [upto]; omega
theorem upto_one {f : Nat → Int} : ∀ {n : Nat}, (∀ i, i < n → 1 ≤ f i) → upto f n = n → ∀ i, i < n → f i = 1
  | 0, _, _, _, h => by omega
  | n + 1, h, e, i, hi => by
    have h1 := upto_ge (f := f) (n := n) (fun i hi => h i (by omega))
    have h2 := h n (by omega)
    simp only [upto] at e
    rcases Nat.lt_or_ge i n with h3 | h3
    · exact upto_one (fun i hi => h i (by omega)) (by omega) i h3
    · obtain rfl : i = n := by omega
      omega
theorem period_mod {n : Nat} (f : Int → Int) (hf : ∀ x, f (x + n) = f x) (x : Int) : f x = f (x % n) := by
  have up : ∀ (k : Nat) (x : Int), f (x + n * k) = f x := by
    intro k
    induction k with
    | zero => intro x; simp
    | succ k ih => intro x; rw [Int.natCast_add, Int.mul_add, ← Int.add_assoc]; simp only [Int.natCast_one, Int.mul_one]; rw [hf, ih]
  have h := Int.mul_ediv_add_emod x n
  rcases Int.le_total 0 (x / n) with h0 | h0
  · obtain ⟨k, hk⟩ := Int.eq_ofNat_of_zero_le h0
    rw [hk] at h
    have := up k (x % n)
    rw [← this]; congr 1; omega
  · obtain ⟨k, hk⟩ := Int.eq_ofNat_of_zero_le (show 0 ≤ -(x / n) by omega)
    have e : (n : Int) * (x / n) = -(n * k) := by rw [← hk, Int.mul_neg]; omega
    have := up k x
    rw [← this]; congr 1; omega
theorem tiles_frob {n p : Nat} (hn : 0 < n) (hp : Frob p) (hp1 : 1 < p) (hc : Nat.Coprime p n) {A : List Int} {b : Int → Int} (h : TilesF n A b) : TilesF n (A.map fun a => p * a) b := by
  refine ⟨h.1, h.2.1, ?_⟩
  have hsum := upto_sumOp b h.2.1 A
  rw [show (fun i : Nat => sumOp A b i) = fun _ => (1 : Int) from funext fun i => h.2.2 _] at hsum
  have hone : ∀ m : Nat, upto (fun _ => (1 : Int)) m = m := by
    intro m; induction m with
    | zero => rfl
    | succ m ih => rw [upto, ih]; omega
  rw [hone] at hsum
  have hdv : A.length ∣ n := by
    have : (A.length : Int) ∣ (n : Int) := ⟨_, by rw [Int.mul_comm]; exact hsum⟩
    exact Int.natCast_dvd_natCast.1 this
  have hcA : Nat.Coprime p A.length := Nat.Coprime.coprime_dvd_right hdv hc
  have e0 : ∀ x, sumOp (A.map fun a => p * a) b x = (A.map fun a => b (x - p * a)).sum := by
    intro x; unfold sumOp; rw [List.map_map]; rfl
  have hge : ∀ x, 1 ≤ sumOp (A.map fun a => p * a) b x := by
    intro x
    have h0 : 0 ≤ sumOp (A.map fun a => p * a) b x := by
      unfold sumOp
      generalize (A.map fun a => (p : Int) * a) = B
      induction B with
      | nil => simp
      | cons c B ih => have := h.1 (x - c); simp only [List.map_cons, List.sum_cons]; omega
    have hne : sumOp (A.map fun a => p * a) b x ≠ 0 := by
      intro e
      have hf := iter_frob hp b A x
      rw [← e0, e, Int.sub_zero, show p = (p - 1) + 1 by omega, iter_tiles h] at hf
      rw [show p - 1 + 1 = p by omega, ← Int.natCast_pow] at hf
      have h3 := Int.natCast_dvd_natCast.1 hf
      have h4 := Nat.Coprime.pow_right (p - 1) hcA
      have h5 : p ∣ 1 := by
        have := Nat.dvd_gcd (Nat.dvd_refl p) h3
        rwa [h4] at this
      have := Nat.le_of_dvd (by omega) h5
      omega
    omega
  have hs2 := upto_sumOp b h.2.1 (A.map fun a => (p : Int) * a)
  rw [List.length_map, ← hsum] at hs2
  have hall := upto_one (f := fun i => sumOp (A.map fun a => p * a) b i) (fun i _ => hge _) hs2
  intro x
  rw [period_mod _ (sumOp_period b h.2.1 _) x]
  have h1 := Int.emod_nonneg x (show (n : Int) ≠ 0 by omega)
  have h2 := Int.emod_lt_of_pos x (show (0 : Int) < n by omega)
  have := hall (x % n).toNat (by omega)
  rwa [Int.toNat_of_nonneg h1] at this
def primes23 : List Nat := [2, 3, 5, 7, 11, 13, 17, 19, 23]
theorem frob_primes : ∀ p ∈ primes23, Frob p ∧ 1 < p := by
  have h : ∀ p ∈ primes23, 1 < p ∧ ∀ k, k < p → 0 < k → p ∣ bin p k := by decide +kernel
  intro p hp
  exact ⟨⟨by have := (h p hp).1; omega, fun k h0 h1 => (h p hp).2 k h1 h0⟩, (h p hp).1⟩
theorem tijdeman {n : Nat} (hn : 0 < n) : ∀ (m : Nat), 1 ≤ m → m ≤ 24 → Nat.Coprime m n → ∀ {A : List Int} {b : Int → Int}, TilesF n A b → TilesF n (A.map fun a => m * a) b := by
  intro m
  induction m using Nat.strongRecOn with
  | ind m ih =>
    intro h1 h24 hc A b h
    rcases Nat.eq_or_lt_of_le h1 with e | hlt
    · subst e
      simpa using h
    · have hd : ∀ m, m < 25 → 2 ≤ m → ∃ p ∈ primes23, p ∣ m := by decide +kernel
      obtain ⟨p, hp, q, rfl⟩ := hd m (by omega) hlt
      obtain ⟨hf, hp1⟩ := frob_primes p hp
      have hq : 1 ≤ q := by rcases Nat.eq_zero_or_pos q with e | e; (subst e; simp at hlt); exact e
      have hqlt : q < p * q := by have := Nat.mul_lt_mul_of_lt_of_le hp1 (Nat.le_refl q) hq; omega
      have t1 := tiles_frob hn hf hp1 (Nat.Coprime.coprime_mul_right hc) h
      have t2 := ih q hqlt hq (by omega) (Nat.Coprime.coprime_mul_left hc) t1
      rw [List.map_map] at t2
      have e : ((fun a : Int => (q : Int) * a) ∘ fun a => (p : Int) * a) = fun a => ((p * q : Nat) : Int) * a := by
        funext a
        simp only [Function.comp, Int.natCast_mul]
        rw [← Int.mul_assoc, Int.mul_comm (q : Int)]
      rwa [e] at t2
end Go.Proofs.Ytfpnojcbhbkfaaa.P
