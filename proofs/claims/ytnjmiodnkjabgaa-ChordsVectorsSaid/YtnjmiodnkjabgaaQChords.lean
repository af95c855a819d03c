/- A part of a proof that a law's Go function returns true for every input, laid by this session's program mp.py (which drives the kit's print). Conditions: as each theorem states them. -/
import Derived.Test.YtnjmiodnkjabgaaGChValid
import Derived.Test.YtnjmiodnkjabgaaMCirc
import Derived.Test.YtnjmiodnkjabgaaP0
import Derived.Test.YtnjmiodnkjabgaaPf16
import Derived.Test.YtnjmiodnkjabgaaPf17
import Derived.Test.YtnjmiodnkjabgaaPf18
import Derived.Test.YtnjmiodnkjabgaaPf19
import Derived.Test.YtnjmiodnkjabgaaPf6
import Derived.Test.YtnjmiodnkjabgaaPf7
import Derived.Test.YtnjmiodnkjabgaaPf8
import Derived.Test.YtnjmiodnkjabgaaPf9
import Derived.Test.YtnjmiodnkjabgaaQBase
import Derived.Test.YtnjmiodnkjabgaaQCount
namespace Go.Proofs.Ytnjmiodnkjabgaa.P
open Go.RowKit Go.Proofs.YtnjmiodnkjabgaaW.PrintWords Go.Proofs.YtnjmiodnkjabgaaW.PrintLast Go.Proofs.YtnjmiodnkjabgaaW.PrintMore
attribute [local go_sem] max2_int min2_int max_two min_two max_three min_three max_four min_four   -- for this text's walks alone
set_option linter.unusedVariables false
set_option linter.unusedSimpArgs false

/-! what the functions on chords come to -/
def ValidC (n c : Int) : Prop := 2 ≤ n ∧ n ≤ 16 ∧ 0 ≤ c ∧ c < 2 ^ n.toNat
instance (n c : Int) : Decidable (ValidC n c) := by unfold ValidC; infer_instance
theorem shl_n {n : Int} (h0 : 0 ≤ n) (h : n ≤ 62) : shl .i64 1 n = 2 ^ n.toNat := by
  obtain ⟨m, rfl⟩ := Int.eq_ofNat_of_zero_le h0
  rw [shl1_i64 (by omega), pow_cast, Int.toNat_natCast]
theorem badChord_iff {n c : Int} (h2 : 2 ≤ n) (h16 : n ≤ 16) : badChord n c = false ↔ ValidC n c := by
  unfold badChord ValidC
  rw [shl_n (by omega) (by omega), Bool.or_eq_false_iff, decide_eq_false_iff_not, decide_eq_false_iff_not]
  omega
theorem valid1_f (n c : Int) : chords_circle_valid.f n [c] = some (decide (ValidC n c)) := by
  unfold chords_circle_valid.f
  by_cases h2 : n ≥ 2
  · by_cases h16 : n ≤ 16
    · rw [if_pos h2, if_pos h16, if_pos (by simp)]
      congr 1
      have := badChord_iff (c := c) h2 h16
      rw [Bool.eq_iff_iff]
      simp only [List.any_cons, List.any_nil, Bool.or_false, Bool.not_eq_true', decide_eq_true_eq]
      exact this
    · rw [if_pos h2, if_neg h16]
      have : ¬ ValidC n c := fun h => h16 h.2.1
      simp [this]
  · rw [if_neg h2]
    have : ¬ ValidC n c := fun h => h2 h.1
    simp [this]
theorem valid2_f (n a b : Int) : chords_circle_valid.f n [a, b] = some (decide (ValidC n a ∧ ValidC n b)) := by
  unfold chords_circle_valid.f
  by_cases h2 : n ≥ 2
  · by_cases h16 : n ≤ 16
    · rw [if_pos h2, if_pos h16, if_pos (by simp)]
      congr 1
      have h1 := badChord_iff (c := a) h2 h16
      have h2 := badChord_iff (c := b) h2 h16
      rw [Bool.eq_iff_iff]
      simp only [List.any_cons, List.any_nil, Bool.or_false, Bool.not_eq_true', decide_eq_true_eq, Bool.or_eq_false_iff]
      rw [h1, h2]
    · rw [if_pos h2, if_neg h16]
      have : ¬ (ValidC n a ∧ ValidC n b) := fun h => h16 h.1.2.1
      simp [this]
  · rw [if_neg h2]
    have : ¬ (ValidC n a ∧ ValidC n b) := fun h => h2 h.1.1
    simp [this]
theorem refValid_f (n c : Int) : sackbutref01_Valid.f n c = some (decide (ValidC n c)) := by
  unfold sackbutref01_Valid.f
  by_cases h2 : n ≥ 2
  · by_cases h16 : n ≤ 16
    · by_cases h0 : c ≥ 0
      · rw [if_pos h2, if_pos h16, if_pos h0, if_pos (by omega), shl_n (by omega) (by omega)]
        congr 1
        rw [decide_eq_decide]
        unfold ValidC
        omega
      · rw [if_pos h2, if_pos h16, if_neg h0]
        have : ¬ ValidC n c := fun h => h0 h.2.2.1
        simp [this]
    · rw [if_pos h2, if_neg h16]
      have : ¬ ValidC n c := fun h => h16 h.2.1
      simp [this]
  · rw [if_neg h2]
    have : ¬ ValidC n c := fun h => h2 h.1
    simp [this]
theorem validC_nat {n c : Int} (h : ValidC n c) : ∃ N C : Nat, n = N ∧ c = C ∧ 2 ≤ N ∧ N ≤ 16 ∧ C < 2 ^ N := by
  obtain ⟨h1, h2, h3, h4⟩ := h
  obtain ⟨N, rfl⟩ := Int.eq_ofNat_of_zero_le (show 0 ≤ n by omega)
  obtain ⟨C, rfl⟩ := Int.eq_ofNat_of_zero_le h3
  rw [Int.toNat_natCast, ← pow_cast] at h4
  exact ⟨N, C, rfl, rfl, by omega, by omega, by omega⟩
theorem pow16 {n : Nat} (h : n ≤ 16) : 2 ^ n ≤ 65536 := by
  have : 2 ^ n ≤ 2 ^ 16 := Nat.pow_le_pow_right (by omega) h
  omega
theorem count_f {n a : Nat} (hn : n ≤ 24) (ha : a < 2 ^ n) : chords_count.f (a : Int) = some (chSize n a : Int) := by
  unfold chords_count.f
  rw [OnesCount_f hn ha]
  rfl
theorem move_f {n c : Nat} (k : Int) (hn : 1 ≤ n) (hn2 : n ≤ 24) (hc : c < 2 ^ n) : chords_circle_move.f (n : Int) (c : Int) k = some (moveN n c (k % n).toNat : Int) := by
  unfold chords_circle_move.f
  rw [if_neg (by omega), tmod_mod (by omega) (by omega)]
  have h0 := Int.emod_nonneg k (show (n : Int) ≠ 0 by omega)
  have h1 := Int.emod_lt_of_pos k (show (0 : Int) < n by omega)
  obtain ⟨j, hj⟩ := Int.eq_ofNat_of_zero_le h0
  rw [hj] at h1 ⊢
  have hjn : j < n := by omega
  have hw : wrap64 ((n : Int) - (j : Int)) = ((n - j : Nat) : Int) := by rw [wrap_id (by omega) (by omega)]; omega
  have hp : 2 ^ n ≤ 2 ^ 24 := Nat.pow_le_pow_right (by omega) hn2
  have hpj : 2 ^ j ≤ 2 ^ 24 := Nat.pow_le_pow_right (by omega) (by omega)
  have h24 : (2 : Nat) ^ 24 = 16777216 := by decide
  have h63 : (2 : Nat) ^ 63 = 9223372036854775808 := by decide
  have hm : c * 2 ^ j < 2 ^ 63 := by
    have : c * 2 ^ j ≤ 16777216 * 16777216 := Nat.mul_le_mul (by omega) (by omega)
    omega
  have hw2 : wrap64 (shl .i64 1 (n : Int) - 1) = ((2 ^ n - 1 : Nat) : Int) := by
    rw [shl1_i64 (by omega), wrap_id (by omega) (by omega)]
    have := Nat.two_pow_pos n
    omega
  have hd : c / 2 ^ (n - j) < 2 ^ 63 := Nat.lt_of_le_of_lt (Nat.div_le_self _ _) (by omega)
  have hor : c * 2 ^ j ||| c / 2 ^ (n - j) < 2 ^ 63 := Nat.or_lt_two_pow hm hd
  rw [hw, if_pos (by omega), if_pos (by omega), if_pos (by omega), hw2, shl_i64 (by omega) hm, shr_i64 _ _ (by omega), or_i64 hm hd, and_i64 hor (by omega), Int.toNat_natCast]
  unfold moveN
  rfl
theorem and_chord {n a b : Nat} (hn : n ≤ 24) (ha : a < 2 ^ n) (hb : b < 2 ^ n) : Go.bits .and .i64 (a : Int) (b : Int) = ((a &&& b : Nat) : Int) := by
  have hp : 2 ^ n ≤ 2 ^ 24 := Nat.pow_le_pow_right (by omega) hn
  have h24 : (2 : Nat) ^ 24 = 16777216 := by decide
  have h63 : (2 : Nat) ^ 63 = 9223372036854775808 := by decide
  exact and_i64 (by omega) (by omega)
theorem common_f {n a b : Nat} {d : Nat} (hn : 1 ≤ n) (hn2 : n ≤ 24) (ha : a < 2 ^ n) (hb : b < 2 ^ n) (hd : d < n) :
    ((chords_circle_move.f (n : Int) (b : Int) (d : Int)).bind fun t => chords_count.f (Go.bits .and .i64 (a : Int) t)) = some (common n a b d : Int) := by
  rw [move_f (d : Int) hn hn2 hb]
  have : ((d : Int) % (n : Int)).toNat = d := by rw [Int.emod_eq_of_lt (by omega) (by omega)]; omega
  rw [this, Option.bind_some, and_chord hn2 ha (moveN_lt n b d), count_f hn2 (Nat.lt_of_le_of_lt Nat.and_le_left ha), chSize_and_move hb hd]
theorem half_f (n : Nat) (hn : n ≤ 24) : wrap64 (Int.tdiv (n : Int) 2) = ((n / 2 : Nat) : Int) := by
  rw [Int.tdiv_eq_ediv_of_nonneg (by omega), wrap_id (by omega) (by omega)]; omega
theorem vector_loop {n c : Nat} (hn : 2 ≤ n) (hn2 : n ≤ 24) (hc : c < 2 ^ n) : ∀ (m d : Nat), d + m = n / 2 →
    Ev (fun k => chords_circle_vector.l0 k (n : Int) (c : Int) ((List.range d).map (fun i => (vecAt n c (i + 1) : Int))) ((d : Int) + 1)) (vecOf n c) := by
  intro m
  induction m with
  | zero =>
    intro d hd
    refine Ev.succ ?_
    simp only [chords_circle_vector.l0, half_f n hn2, if_neg (show ¬ (d : Int) + 1 ≤ ((n / 2 : Nat) : Int) by omega)]
    have : d = n / 2 := by omega
    rw [this]
    rw [vecOf_eq]
    exact Ev.some _
  | succ m ih =>
    intro d hd
    refine Ev.succ ?_
    have hcm := common_f (n := n) (a := c) (b := c) (d := d + 1) (by omega) hn2 hc hc (by omega)
    rw [show ((d + 1 : Nat) : Int) = (d : Int) + 1 by omega] at hcm
    obtain ⟨t, ht, ht2⟩ := Option.bind_eq_some_iff.1 hcm
    have hw : wrap64 (2 * ((d : Int) + 1)) = 2 * ((d : Int) + 1) := wrap_id (by omega) (by omega)
    have hw2 : wrap64 ((d : Int) + 1 + 1) = ((d + 1 : Nat) : Int) + 1 := by rw [wrap_id (by omega) (by omega)]; omega
    have hlen : ((List.range d).map (fun i => (vecAt n c (i + 1) : Int))).length < 17592186044416 := by simp; omega
    have hle := common_le n c c (d + 1)
    have hdiv : wrap64 (Int.tdiv (common n c c (d + 1) : Int) 2) = ((common n c c (d + 1) / 2 : Nat) : Int) := by
      rw [Int.tdiv_eq_ediv_of_nonneg (by omega), wrap_id (by omega) (by omega)]; omega
    simp only [chords_circle_vector.l0, half_f n hn2, if_pos (show (d : Int) + 1 ≤ ((n / 2 : Nat) : Int) by omega)]
    refine Ev.bind_some ht ?_
    refine Ev.bind_some ht2 ?_
    simp only [hw, hw2, if_pos hlen, hdiv]
    have go : ∀ v : Nat, v = vecAt n c (d + 1) → Ev (fun k => chords_circle_vector.l0 k (n : Int) (c : Int) ((List.range d).map (fun i => (vecAt n c (i + 1) : Int)) ++ [(v : Int)]) (((d + 1 : Nat) : Int) + 1)) (vecOf n c) := by
      rintro v rfl
      have := ih (d + 1) (by omega)
      simp only [List.range_succ, List.map_append, List.map_cons, List.map_nil] at this
      exact this
    refine Ev.ite (fun e => go _ ?_) (fun e => go _ ?_)
    · unfold vecAt; rw [if_pos (by omega)]
    · unfold vecAt; rw [if_neg (by omega)]
theorem vector_ev {n c : Nat} (hn : 2 ≤ n) (hn2 : n ≤ 24) (hc : c < 2 ^ n) : Ev (fun k => chords_circle_vector.f k (n : Int) (c : Int)) (vecOf n c) := by
  have := vector_loop hn hn2 hc (n / 2) 0 (by omega)
  simpa [chords_circle_vector.f] using this
theorem Vector_ev (n c : Int) : Ev (fun k => chords_Vector.f k n c) (if ValidC n c then (vecOf n.toNat c.toNat, 0) else ([], 2)) := by
  unfold chords_Vector.f
  refine Ev.bind_some (valid1_f n c) ?_
  by_cases h : ValidC n c
  · simp only [h, decide_true, if_true]
    obtain ⟨N, C, rfl, rfl, h2, h16, hC⟩ := validC_nat h
    simp only [Int.toNat_natCast]
    exact Ev.bind (vector_ev h2 (by omega) hC) (Ev.some _)
  · simp only [h, decide_false, Bool.false_eq_true, if_false]
    exact Ev.some _
theorem Size_loop (n : Nat) (hn : n ≤ 24) : ∀ (m a : Nat), a < 2 ^ n → chSize n a = m → ∀ c : Nat, c + m ≤ 1000 →
    Ev (fun k => sackbutref01_Size.l0 k (a : Int) (c : Int)) ((c + m : Nat) : Int) := by
  intro m
  induction m with
  | zero =>
    intro a ha hm c hc
    have h0 : a = 0 := eq_zero_of_chSize ha hm
    subst h0
    refine Ev.succ ?_
    simp only [sackbutref01_Size.l0, if_neg (show ¬ ((0 : Nat) : Int) > 0 by omega)]
    exact Ev.some _
  | succ m ih =>
    intro a ha hm c hc
    have hpos : 0 < a := by
      rcases Nat.eq_zero_or_pos a with h | h
      · subst h
        have := chSize_zero n
        omega
      · exact h
    have hp : 2 ^ n ≤ 2 ^ 24 := Nat.pow_le_pow_right (by omega) hn
    have h24 : (2 : Nat) ^ 24 = 16777216 := by decide
    have hw : wrap64 ((a : Int) - 1) = ((a - 1 : Nat) : Int) := by rw [wrap_id (by omega) (by omega)]; omega
    have hw2 : wrap64 ((c : Int) + 1) = ((c + 1 : Nat) : Int) := by rw [wrap_id (by omega) (by omega)]; omega
    refine Ev.succ ?_
    simp only [sackbutref01_Size.l0, if_pos (show (a : Int) > 0 by omega), hw, hw2, and_chord hn ha (show a - 1 < 2 ^ n by omega)]
    have := ih (a &&& (a - 1)) (Nat.lt_of_le_of_lt Nat.and_le_left ha) (by have := chSize_drop ha hpos; omega) (c + 1) (by omega)
    rw [show c + (m + 1) = c + 1 + m by omega]
    exact this
theorem Size_ev {n a : Nat} (hn : n ≤ 24) (ha : a < 2 ^ n) : Ev (fun k => sackbutref01_Size.f k (a : Int)) (chSize n a : Int) := by
  have := Size_loop n hn (chSize n a) a ha rfl 0 (by have := chSize_le n a; omega)
  simpa [sackbutref01_Size.f] using this
theorem awake_f : sackbutlaw01_awake.f = some true := by
  unfold sackbutlaw01_awake.f chords_Move.f
  have h : ValidC 4 3 := by decide
  rw [valid1_f]
  simp only [h, decide_true, Option.bind_some, if_true]
  have := move_f (n := 4) (c := 3) 1 (by omega) (by omega) (by decide)
  have e : moveN 4 3 ((1 : Int) % (4 : Nat)).toNat = 6 := by unfold moveN; decide
  rw [e] at this
  rw [show chords_circle_move.f 4 3 1 = some 6 from this]
  rfl

end Go.Proofs.Ytnjmiodnkjabgaa.P
