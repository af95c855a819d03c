/- Proved here: the Go function sackbutlaw01.ChordsPrimes returns true for every input (its printed form comes to true), whatever its arguments. Conditions: none beyond the row's own reach in memory. -/
import Derived.Lib.SlicesCompact
import Derived.LaidMore
import Derived.Stop.Joined
import Derived.ProofKit
import Derived.OpenShut
import Derived.Test.YtnjmiodnkjabgaaDoorRows
import Derived.WalkKit
import Derived.ShutString
import Derived.ChangeOld
import Derived.Below
import Derived.SizedLaws
import Derived.SevenTiedAt
import Derived.Test.YtnjmiodnkjabgaaDoorCards
import Derived.Test.YtnjmiodnkjabgaaDoorTie
import Derived.Test.YtnjmiodnkjabgaaDoorCChordsPrimes1
import Derived.Test.YtnjmiodnkjabgaaDoorCChordsPrimes2
import Derived.Test.YtnjmiodnkjabgaaDoorCChordsPrimes3
import Derived.Test.YtnjmiodnkjabgaaDoorCChordsPrimes4
namespace Go.Proofs.YtnjmiodnkjabgaaDoor.P
open Go.RowKit Go.Proofs.YtnjmiodnkjabgaaDoorW.PrintWords Go.Proofs.YtnjmiodnkjabgaaDoorW.PrintLast Go.Proofs.YtnjmiodnkjabgaaDoorW.PrintMore
attribute [local go_sem] max2_int min2_int max_two min_two max_three min_three max_four min_four   -- for this text's walks alone
set_option linter.unusedVariables false
set_option linter.unusedSimpArgs false

/-! what the functions on chords come to -/
def ValidC (n c : Int) : Prop := 2 ≤ n ∧ n ≤ 16 ∧ 0 ≤ c ∧ c < 2 ^ n.toNat
instance (n c : Int) : Decidable (ValidC n c) := by unfold ValidC; infer_instance
theorem shl_n {n : Int} (h0 : 0 ≤ n) (h : n ≤ 62) : shl .i64 1 n = 2 ^ n.toNat := by
  obtain ⟨m, rfl⟩ := Int.eq_ofNat_of_zero_le h0
  rw [shl1_i64 (by omega), pow_cast, Int.toNat_natCast]
theorem badChord_iff {n c : Int} (h2 : 2 ≤ n) (h16 : n ≤ 16) : badChord n c = false ↔ ValidC n c := by
  unfold badChord ValidC
  rw [shl_n (by omega) (by omega), Bool.or_eq_false_iff, decide_eq_false_iff_not, decide_eq_false_iff_not]
  omega
theorem valid1_f (n c : Int) : chords_circle_valid.f n [c] = some (decide (ValidC n c)) := by
  unfold chords_circle_valid.f
  by_cases h2 : n ≥ 2
  · by_cases h16 : n ≤ 16
    · rw [if_pos h2, if_pos h16, if_pos (by simp)]
      congr 1
      have := badChord_iff (c := c) h2 h16
      rw [Bool.eq_iff_iff]
      simp only [List.any_cons, List.any_nil, Bool.or_false, Bool.not_eq_true', decide_eq_true_eq]
      exact this
    · rw [if_pos h2, if_neg h16]
      have : ¬ ValidC n c := fun h => h16 h.2.1
      simp [this]
  · rw [if_neg h2]
    have : ¬ ValidC n c := fun h => h2 h.1
    simp [this]
theorem valid2_f (n a b : Int) : chords_circle_valid.f n [a, b] = some (decide (ValidC n a ∧ ValidC n b)) := by
  unfold chords_circle_valid.f
  by_cases h2 : n ≥ 2
  · by_cases h16 : n ≤ 16
    · rw [if_pos h2, if_pos h16, if_pos (by simp)]
      congr 1
      have h1 := badChord_iff (c := a) h2 h16
      have h2 := badChord_iff (c := b) h2 h16
      rw [Bool.eq_iff_iff]
      simp only [List.any_cons, List.any_nil, Bool.or_false, Bool.not_eq_true', decide_eq_true_eq, Bool.or_eq_false_iff]
      rw [h1, h2]
    · rw [if_pos h2, if_neg h16]
      have : ¬ (ValidC n a ∧ ValidC n b) := fun h => h16 h.1.2.1
      simp [this]
  · rw [if_neg h2]
    have : ¬ (ValidC n a ∧ ValidC n b) := fun h => h2 h.1.1
    simp [this]
theorem refValid_f (n c : Int) : sackbutref01_Valid.f n c = some (decide (ValidC n c)) := by
  unfold sackbutref01_Valid.f
  by_cases h2 : n ≥ 2
  · by_cases h16 : n ≤ 16
    · by_cases h0 : c ≥ 0
      · rw [if_pos h2, if_pos h16, if_pos h0, if_pos (by omega), shl_n (by omega) (by omega)]
        congr 1
        rw [decide_eq_decide]
        unfold ValidC
        omega
      · rw [if_pos h2, if_pos h16, if_neg h0]
        have : ¬ ValidC n c := fun h => h0 h.2.2.1
        simp [this]
    · rw [if_pos h2, if_neg h16]
      have : ¬ ValidC n c := fun h => h16 h.2.1
      simp [this]
  · rw [if_neg h2]
    have : ¬ ValidC n c := fun h => h2 h.1
    simp [this]
theorem validC_nat {n c : Int} (h : ValidC n c) : ∃ N C : Nat, n = N ∧ c = C ∧ 2 ≤ N ∧ N ≤ 16 ∧ C < 2 ^ N := by
  obtain ⟨h1, h2, h3, h4⟩ := h
  obtain ⟨N, rfl⟩ := Int.eq_ofNat_of_zero_le (show 0 ≤ n by omega)
  obtain ⟨C, rfl⟩ := Int.eq_ofNat_of_zero_le h3
  rw [Int.toNat_natCast, ← pow_cast] at h4
  exact ⟨N, C, rfl, rfl, by omega, by omega, by omega⟩
theorem pow16 {n : Nat} (h : n ≤ 16) : 2 ^ n ≤ 65536 := by
  have : 2 ^ n ≤ 2 ^ 16 := Nat.pow_le_pow_right (by omega) h
  omega
theorem count_f {n a : Nat} (hn : n ≤ 24) (ha : a < 2 ^ n) : chords_count.f (a : Int) = some (chSize n a : Int) := by
  unfold chords_count.f
  rw [OnesCount_f hn ha]
  rfl
theorem move_f {n c : Nat} (k : Int) (hn : 1 ≤ n) (hn2 : n ≤ 24) (hc : c < 2 ^ n) : chords_circle_move.f (n : Int) (c : Int) k = some (moveN n c (k % n).toNat : Int) := by
  unfold chords_circle_move.f
  rw [if_neg (by omega), tmod_mod (by omega) (by omega)]
  have h0 := Int.emod_nonneg k (show (n : Int) ≠ 0 by omega)
  have h1 := Int.emod_lt_of_pos k (show (0 : Int) < n by omega)
  obtain ⟨j, hj⟩ := Int.eq_ofNat_of_zero_le h0
  rw [hj] at h1 ⊢
  have hjn : j < n := by omega
  have hw : wrap64 ((n : Int) - (j : Int)) = ((n - j : Nat) : Int) := by rw [wrap_id (by omega) (by omega)]; omega
  have hp : 2 ^ n ≤ 2 ^ 24 := Nat.pow_le_pow_right (by omega) hn2
  have hpj : 2 ^ j ≤ 2 ^ 24 := Nat.pow_le_pow_right (by omega) (by omega)
  have h24 : (2 : Nat) ^ 24 = 16777216 := by decide
  have h63 : (2 : Nat) ^ 63 = 9223372036854775808 := by decide
  have hm : c * 2 ^ j < 2 ^ 63 := by
    have : c * 2 ^ j ≤ 16777216 * 16777216 := Nat.mul_le_mul (by omega) (by omega)
    omega
  have hw2 : wrap64 (shl .i64 1 (n : Int) - 1) = ((2 ^ n - 1 : Nat) : Int) := by
    rw [shl1_i64 (by omega), wrap_id (by omega) (by omega)]
    have := Nat.two_pow_pos n
    omega
  have hd : c / 2 ^ (n - j) < 2 ^ 63 := Nat.lt_of_le_of_lt (Nat.div_le_self _ _) (by omega)
  have hor : c * 2 ^ j ||| c / 2 ^ (n - j) < 2 ^ 63 := Nat.or_lt_two_pow hm hd
  rw [hw, if_pos (by omega), if_pos (by omega), if_pos (by omega), hw2, shl_i64 (by omega) hm, shr_i64 _ _ (by omega), or_i64 hm hd, and_i64 hor (by omega), Int.toNat_natCast]
  unfold moveN
  rfl
theorem and_chord {n a b : Nat} (hn : n ≤ 24) (ha : a < 2 ^ n) (hb : b < 2 ^ n) : Go.bits .and .i64 (a : Int) (b : Int) = ((a &&& b : Nat) : Int) := by
  have hp : 2 ^ n ≤ 2 ^ 24 := Nat.pow_le_pow_right (by omega) hn
  have h24 : (2 : Nat) ^ 24 = 16777216 := by decide
  have h63 : (2 : Nat) ^ 63 = 9223372036854775808 := by decide
  exact and_i64 (by omega) (by omega)
theorem common_f {n a b : Nat} {d : Nat} (hn : 1 ≤ n) (hn2 : n ≤ 24) (ha : a < 2 ^ n) (hb : b < 2 ^ n) (hd : d < n) :
    ((chords_circle_move.f (n : Int) (b : Int) (d : Int)).bind fun t => chords_count.f (Go.bits .and .i64 (a : Int) t)) = some (common n a b d : Int) := by
  rw [move_f (d : Int) hn hn2 hb]
  have : ((d : Int) % (n : Int)).toNat = d := by rw [Int.emod_eq_of_lt (by omega) (by omega)]; omega
  rw [this, Option.bind_some, and_chord hn2 ha (moveN_lt n b d), count_f hn2 (Nat.lt_of_le_of_lt Nat.and_le_left ha), chSize_and_move hb hd]
theorem half_f (n : Nat) (hn : n ≤ 24) : wrap64 (Int.tdiv (n : Int) 2) = ((n / 2 : Nat) : Int) := by
  rw [Int.tdiv_eq_ediv_of_nonneg (by omega), wrap_id (by omega) (by omega)]; omega
theorem vector_loop {n c : Nat} (hn : 2 ≤ n) (hn2 : n ≤ 24) (hc : c < 2 ^ n) : ∀ (m d : Nat), d + m = n / 2 →
    Ev (fun k => chords_circle_vector.l0 k (n : Int) (c : Int) ((List.range d).map (fun i => (vecAt n c (i + 1) : Int))) ((d : Int) + 1)) (vecOf n c) := by
  intro m
  induction m with
  | zero =>
    intro d hd
    refine Ev.succ ?_
    simp only [chords_circle_vector.l0, half_f n hn2, if_neg (show ¬ (d : Int) + 1 ≤ ((n / 2 : Nat) : Int) by omega)]
    have : d = n / 2 := by omega
    rw [this]
    rw [vecOf_eq]
    exact Ev.some _
  | succ m ih =>
    intro d hd
    refine Ev.succ ?_
    have hcm := common_f (n := n) (a := c) (b := c) (d := d + 1) (by omega) hn2 hc hc (by omega)
    rw [show ((d + 1 : Nat) : Int) = (d : Int) + 1 by omega] at hcm
    obtain ⟨t, ht, ht2⟩ := Option.bind_eq_some_iff.1 hcm
    have hw : wrap64 (2 * ((d : Int) + 1)) = 2 * ((d : Int) + 1) := wrap_id (by omega) (by omega)
    have hw2 : wrap64 ((d : Int) + 1 + 1) = ((d + 1 : Nat) : Int) + 1 := by rw [wrap_id (by omega) (by omega)]; omega
    have hlen : ((List.range d).map (fun i => (vecAt n c (i + 1) : Int))).length < 17592186044416 := by simp; omega
    have hle := common_le n c c (d + 1)
    have hdiv : wrap64 (Int.tdiv (common n c c (d + 1) : Int) 2) = ((common n c c (d + 1) / 2 : Nat) : Int) := by
      rw [Int.tdiv_eq_ediv_of_nonneg (by omega), wrap_id (by omega) (by omega)]; omega
    simp only [chords_circle_vector.l0, half_f n hn2, if_pos (show (d : Int) + 1 ≤ ((n / 2 : Nat) : Int) by omega)]
    refine Ev.bind_some ht ?_
    refine Ev.bind_some ht2 ?_
    simp only [hw, hw2, if_pos hlen, hdiv]
    have go : ∀ v : Nat, v = vecAt n c (d + 1) → Ev (fun k => chords_circle_vector.l0 k (n : Int) (c : Int) ((List.range d).map (fun i => (vecAt n c (i + 1) : Int)) ++ [(v : Int)]) (((d + 1 : Nat) : Int) + 1)) (vecOf n c) := by
      rintro v rfl
      have := ih (d + 1) (by omega)
      simp only [List.range_succ, List.map_append, List.map_cons, List.map_nil] at this
      exact this
    refine Ev.ite (fun e => go _ ?_) (fun e => go _ ?_)
    · unfold vecAt; rw [if_pos (by omega)]
    · unfold vecAt; rw [if_neg (by omega)]
theorem vector_ev {n c : Nat} (hn : 2 ≤ n) (hn2 : n ≤ 24) (hc : c < 2 ^ n) : Ev (fun k => chords_circle_vector.f k (n : Int) (c : Int)) (vecOf n c) := by
  have := vector_loop hn hn2 hc (n / 2) 0 (by omega)
  simpa [chords_circle_vector.f] using this
theorem Vector_ev (n c : Int) : Ev (fun k => chords_Vector.f k n c) (if ValidC n c then (vecOf n.toNat c.toNat, 0) else ([], 2)) := by
  unfold chords_Vector.f
  refine Ev.bind_some (valid1_f n c) ?_
  by_cases h : ValidC n c
  · simp only [h, decide_true, if_true]
    obtain ⟨N, C, rfl, rfl, h2, h16, hC⟩ := validC_nat h
    simp only [Int.toNat_natCast]
    exact Ev.bind (vector_ev h2 (by omega) hC) (Ev.some _)
  · simp only [h, decide_false, Bool.false_eq_true, if_false]
    exact Ev.some _
theorem Size_loop (n : Nat) (hn : n ≤ 24) : ∀ (m a : Nat), a < 2 ^ n → chSize n a = m → ∀ c : Nat, c + m ≤ 1000 →
    Ev (fun k => sackbutref01_Size.l0 k (a : Int) (c : Int)) ((c + m : Nat) : Int) := by
  intro m
  induction m with
  | zero =>
    intro a ha hm c hc
    have h0 : a = 0 := eq_zero_of_chSize ha hm
    subst h0
    refine Ev.succ ?_
    simp only [sackbutref01_Size.l0, if_neg (show ¬ ((0 : Nat) : Int) > 0 by omega)]
    exact Ev.some _
  | succ m ih =>
    intro a ha hm c hc
    have hpos : 0 < a := by
      rcases Nat.eq_zero_or_pos a with h | h
      · subst h
        have := chSize_zero n
        omega
      · exact h
    have hp : 2 ^ n ≤ 2 ^ 24 := Nat.pow_le_pow_right (by omega) hn
    have h24 : (2 : Nat) ^ 24 = 16777216 := by decide
    have hw : wrap64 ((a : Int) - 1) = ((a - 1 : Nat) : Int) := by rw [wrap_id (by omega) (by omega)]; omega
    have hw2 : wrap64 ((c : Int) + 1) = ((c + 1 : Nat) : Int) := by rw [wrap_id (by omega) (by omega)]; omega
    refine Ev.succ ?_
    simp only [sackbutref01_Size.l0, if_pos (show (a : Int) > 0 by omega), hw, hw2, and_chord hn ha (show a - 1 < 2 ^ n by omega)]
    have := ih (a &&& (a - 1)) (Nat.lt_of_le_of_lt Nat.and_le_left ha) (by have := chSize_drop ha hpos; omega) (c + 1) (by omega)
    rw [show c + (m + 1) = c + 1 + m by omega]
    exact this
theorem Size_ev {n a : Nat} (hn : n ≤ 24) (ha : a < 2 ^ n) : Ev (fun k => sackbutref01_Size.f k (a : Int)) (chSize n a : Int) := by
  have := Size_loop n hn (chSize n a) a ha rfl 0 (by have := chSize_le n a; omega)
  simpa [sackbutref01_Size.f] using this
theorem awake_f : sackbutlaw01_awake.f = some true := by
  unfold sackbutlaw01_awake.f chords_Move.f
  have h : ValidC 4 3 := by decide
  rw [valid1_f]
  simp only [h, decide_true, Option.bind_some, if_true]
  have := move_f (n := 4) (c := 3) 1 (by omega) (by omega) (by decide)
  have e : moveN 4 3 ((1 : Int) % (4 : Nat)).toNat = 6 := by unfold moveN; decide
  rw [e] at this
  rw [show chords_circle_move.f 4 3 1 = some 6 from this]
  rfl

end Go.Proofs.YtnjmiodnkjabgaaDoor.P
namespace Go.Proofs.YtnjmiodnkjabgaaDoor.P
open Go.RowKit Go.Proofs.YtnjmiodnkjabgaaDoorW.PrintWords Go.Proofs.YtnjmiodnkjabgaaDoorW.PrintLast Go.Proofs.YtnjmiodnkjabgaaDoorW.PrintMore
attribute [local go_sem] max2_int min2_int max_two min_two max_three min_three max_four min_four   -- for this text's walks alone
set_option linter.unusedVariables false
set_option linter.unusedSimpArgs false

/-! slices.Equal -/
theorem Equal_loop (l0 l1 : List Int) (hlen : l0.length = l1.length) (hb : l0.length < 9223372036854775807) : ∀ (xs ys pre pre1 : List Int), l0 = pre ++ xs → l1 = pre1 ++ ys → pre.length = pre1.length →
    Ev (fun k => slices_Equal_int_int.l0 k l0 l1 (l0.length : Int) (pre.length : Int)) (decide (xs = ys)) := by
  intro xs
  induction xs with
  | nil =>
    intro ys pre pre1 h0 h1 hp
    have hy : ys = [] := by
      have := congrArg List.length h0; have := congrArg List.length h1
      simp at *
      exact List.eq_nil_of_length_eq_zero (by omega)
    subst hy
    refine Ev.succ ?_
    simp only [slices_Equal_int_int.l0, if_neg (mid_end h0)]
    simpa using Ev.some true
  | cons x xs ih =>
    intro ys pre pre1 h0 h1 hp
    cases ys with
    | nil => exfalso; have := congrArg List.length h0; have := congrArg List.length h1; simp at *; omega
    | cons y ys =>
      have r1 : rd l1 (pre.length : Int) = y := by rw [hp]; exact mid_rd h1
      have l1' : (pre.length : Int) < (l1.length : Int) := by rw [hp]; exact mid_lt h1
      refine Ev.succ ?_
      simp only [slices_Equal_int_int.l0, if_pos (mid_lt h0), if_pos (show (0 : Int) ≤ (pre.length : Int) by omega), if_pos l1', mid_rd h0, r1, mid_next h0 hb]
      refine Ev.ite (fun e => ?_) (fun e => ?_)
      · have := ih ys (pre ++ [x]) (pre1 ++ [y]) (mid_mv h0) (mid_mv h1) (by simp [hp])
        simpa [e] using this
      · simpa [e] using Ev.some false
theorem Equal_ev (l0 l1 : List Int) (hb : l0.length < 9223372036854775807) : Ev (fun k => slices_Equal_int_int.f k l0 l1) (decide (l0 = l1)) := by
  unfold slices_Equal_int_int.f
  refine Ev.ite (fun e => ?_) (fun e => ?_)
  · exact Equal_loop l0 l1 (by omega) hb l0 l1 [] [] rfl rfl rfl
  · have : l0 ≠ l1 := fun h => e (by rw [h])
    simpa [this] using Ev.some false


end Go.Proofs.YtnjmiodnkjabgaaDoor.P
namespace Go.Proofs.YtnjmiodnkjabgaaDoor.P
open Go.RowKit Go.Proofs.YtnjmiodnkjabgaaDoorW.PrintWords Go.Proofs.YtnjmiodnkjabgaaDoorW.PrintLast Go.Proofs.YtnjmiodnkjabgaaDoorW.PrintMore
attribute [local go_sem] max2_int min2_int max_two min_two max_three min_three max_four min_four   -- for this text's walks alone
set_option linter.unusedVariables false
set_option linter.unusedSimpArgs false

/-! a chord mapped: what the program and the document say -/
def affN (m t : Int) (n x : Nat) : Nat := ((m * (x : Int) + t) % (n : Int)).toNat
theorem affN_lt {m t : Int} {n : Nat} (hn : 1 ≤ n) (x : Nat) : affN m t n x < n := by
  have h0 := Int.emod_nonneg (m * (x : Int) + t) (show (n : Int) ≠ 0 by omega)
  have h1 := Int.emod_lt_of_pos (m * (x : Int) + t) (show (0 : Int) < n by omega)
  unfold affN; omega
theorem refMod_f {a : Int} {n : Nat} (hn : 1 ≤ n) (hn2 : n ≤ 24) : sackbutref01_mod.f a (n : Int) = some (a % (n : Int)) := by
  unfold sackbutref01_mod.f
  rw [if_neg (by omega), tmod_mod (by omega) (by omega)]
theorem bitC_is {n a x : Nat} (hn : n ≤ 24) (ha : a < 2 ^ n) (hx : x ≤ 64) : (Go.bits .and .i64 (shr .i64 (a : Int) (x : Int)) 1 = 1) ↔ a.testBit x = true := by
  have h24 : (2 : Nat) ^ 24 = 16777216 := by decide
  have h63 : (2 : Nat) ^ 63 = 9223372036854775808 := by decide
  have hp : 2 ^ n ≤ 2 ^ 24 := Nat.pow_le_pow_right (by omega) hn
  exact bit1_i64 (by omega) hx
theorem nextC_w {d : Nat} (h : d ≤ 1000) : wrap64 ((d : Int) + 1) = ((d + 1 : Nat) : Int) := by rw [wrap_id (by omega) (by omega)]; omega
theorem mulC_le {m : Int} {d : Nat} (hm : -24 ≤ m) (hm2 : m ≤ 24) (hd : d ≤ 24) : -576 ≤ m * (d : Int) ∧ m * (d : Int) ≤ 576 := by
  have h1 : m * (d : Int) ≤ 24 * (d : Int) := Int.mul_le_mul_of_nonneg_right hm2 (by omega)
  have h2 : -24 * (d : Int) ≤ m * (d : Int) := Int.mul_le_mul_of_nonneg_right hm (by omega)
  omega
theorem aff_nums {m t : Int} {n d o : Nat} (hn : 1 ≤ n) (hn2 : n ≤ 24) (hd : d ≤ 24) (hm : -24 ≤ m) (hm2 : m ≤ 24) (ht : 0 ≤ t) (ht2 : t ≤ 24) (ho : o < 2 ^ n) :
    wrap64 (wrap64 (m * (d : Int)) + t) = m * (d : Int) + t ∧ (m * (d : Int) + t) % (n : Int) = (affN m t n d : Int) ∧ Go.bits .or .i64 (o : Int) (shl .i64 1 (affN m t n d : Int)) = ((o ||| 2 ^ (affN m t n d) : Nat) : Int) := by
  obtain ⟨h1, h2⟩ := mulC_le hm hm2 hd
  have h0 := Int.emod_nonneg (m * (d : Int) + t) (show (n : Int) ≠ 0 by omega)
  have hl := affN_lt (m := m) (t := t) hn d
  refine ⟨?_, ?_, ?_⟩
  · generalize m * (d : Int) = q at *
    rw [wrap_id (n := q) (by omega) (by omega), wrap_id (by omega) (by omega)]
  · unfold affN; omega
  · rw [shl1_i64 (by omega)]
    have h24 : (2 : Nat) ^ 24 = 16777216 := by decide
    have h63 : (2 : Nat) ^ 63 = 9223372036854775808 := by decide
    have hp : 2 ^ n ≤ 2 ^ 24 := Nat.pow_le_pow_right (by omega) hn2
    have hq : 2 ^ affN m t n d < 2 ^ 24 := Nat.pow_lt_pow_right (by omega) (by omega)
    generalize 2 ^ affN m t n d = p at *
    rw [or_i64 (by omega) (by omega)]
theorem refMapped_loop {n c : Nat} {m t : Int} (hn : 1 ≤ n) (hn2 : n ≤ 24) (hc : c < 2 ^ n) (hm : -24 ≤ m) (hm2 : m ≤ 24) (ht : 0 ≤ t) (ht2 : t ≤ 24) : ∀ (r d : Nat), d + r = n →
    Ev (fun k => sackbutref01_mapped.l0 k (n : Int) (c : Int) m t (accTo (affN m t n) c d : Int) (n : Int) (d : Int)) ((imgN (affN m t n) c : Nat) : Int) := by
  intro r
  induction r with
  | zero =>
    intro d hd
    have hdn : d = n := by omega
    subst hdn
    have p1 : ¬ (d : Int) < (d : Int) := by omega
    refine Ev.succ ?_
    simp only [sackbutref01_mapped.l0, if_neg p1, accTo_all hc]
    exact Ev.some _
  | succ r ih =>
    intro d hd
    have p0 : (0 : Int) ≤ (d : Int) := Int.natCast_nonneg d
    have p1 : (d : Int) < (n : Int) := by omega
    have p2 : (0 : Int) ≤ (affN m t n d : Int) := Int.natCast_nonneg _
    have hbit := bitC_is hn2 hc (show d ≤ 64 by omega)
    have go := ih (d + 1) (by omega)
    obtain ⟨e1, e2, e3⟩ := aff_nums (o := accTo (affN m t n) c d) hn hn2 (show d ≤ 24 by omega) hm hm2 ht ht2 (accTo_lt (fun x => affN_lt hn x) c d)
    have hw := nextC_w (d := d) (by omega)
    refine Ev.succ ?_
    simp only [sackbutref01_mapped.l0, if_pos p1, if_pos p0, hw]
    refine Ev.ite (fun e => ?_) (fun e => ?_)
    · rw [hbit] at e
      rw [e1]
      refine Ev.bind_some (refMod_f hn hn2) ?_
      rw [e2]
      simp only [if_pos p2, e3]
      simp only [accTo, if_pos e] at go
      exact go
    · rw [hbit] at e
      simp only [accTo, if_neg e] at go
      exact go
theorem refMapped_ev {n c : Nat} {m t : Int} (hn : 1 ≤ n) (hn2 : n ≤ 24) (hc : c < 2 ^ n) (hm : -24 ≤ m) (hm2 : m ≤ 24) (ht : 0 ≤ t) (ht2 : t ≤ 24) : Ev (fun k => sackbutref01_mapped.f k (n : Int) (c : Int) m t) ((imgN (affN m t n) c : Nat) : Int) := by
  have := refMapped_loop hn hn2 hc hm hm2 ht ht2 n 0 (by omega)
  simpa [sackbutref01_mapped.f, accTo] using this
/-- moved: the set of all tones k higher -/
theorem img_move {n c j : Nat} (hn : 1 ≤ n) (hj : j < n) (hc : c < 2 ^ n) : imgN (affN 1 (j : Int) n) c = moveN n c j := by
  refine bits_ext (n := n) (imgN_lt hc (fun x => affN_lt hn x)) (moveN_lt n c j) (fun i hi => ?_)
  rw [testBit_moveN hc hj hi, Bool.eq_iff_iff, imgN_bit hc]
  have hv : ∀ x : Nat, affN 1 (j : Int) n x = (x + j) % n := fun x => by
    unfold affN
    rw [Int.one_mul, show (x : Int) + (j : Int) = ((x + j : Nat) : Int) by omega, ← Int.natCast_emod, Int.toNat_natCast]
  simp only [hv]
  constructor
  · rintro ⟨x, hx, he⟩
    have hxn := bit_lt hc hx
    have : (i + (n - j)) % n = x := by
      rw [← he, Nat.mod_add_mod, show x + j + (n - j) = x + n by omega, Nat.add_mod_right, Nat.mod_eq_of_lt hxn]
    rw [this]; exact hx
  · intro h
    refine ⟨_, h, ?_⟩
    rw [Nat.mod_add_mod, show i + (n - j) + j = i + n by omega, Nat.add_mod_right, Nat.mod_eq_of_lt hi]
theorem img_turn {n c : Nat} : imgN (affN (-1) 0 n) c = imgN (toN negTo n) c := by
  have : affN (-1) 0 n = toN negTo n := by
    funext x
    unfold affN toN negTo
    rw [show (-1 : Int) * (x : Int) + 0 = -(x : Int) by omega]
  rw [this]
noncomputable def turnN (n c : Nat) : Nat := imgN (toN negTo n) c
theorem turnN_lt {n c : Nat} (hn : 1 ≤ n) (hc : c < 2 ^ n) : turnN n c < 2 ^ n := imgN_lt hc (fun x => toN_lt hn x)
theorem turn_f {n c : Nat} (hn : 1 ≤ n) (hn2 : n ≤ 24) (hc : c < 2 ^ n) : chords_circle_turn.f (n : Int) (c : Int) = some (turnN n c : Int) := by
  unfold chords_circle_turn.f
  rw [Int.toNat_natCast, Int.toNat_natCast, if_pos ⟨by omega, by omega, by omega, by rw [← pow_cast]; omega⟩, accTo_all hc]
  rfl
theorem refTurn_ev {n c : Nat} (hn : 1 ≤ n) (hn2 : n ≤ 24) (hc : c < 2 ^ n) : Ev (fun k => sackbutref01_Turn.f k (n : Int) (c : Int)) (turnN n c : Int) := by
  have := refMapped_ev (m := -1) (t := 0) hn hn2 hc (by omega) (by omega) (by omega) (by omega)
  rw [img_turn] at this
  unfold sackbutref01_Turn.f
  exact Ev.bind this (Ev.some _)
theorem refMove_ev {n c : Nat} (k : Int) (hn : 1 ≤ n) (hn2 : n ≤ 24) (hc : c < 2 ^ n) : Ev (fun q => sackbutref01_Move.f q (n : Int) (c : Int) k) (moveN n c (k % n).toNat : Int) := by
  have h0 := Int.emod_nonneg k (show (n : Int) ≠ 0 by omega)
  have h1 := Int.emod_lt_of_pos k (show (0 : Int) < n by omega)
  unfold sackbutref01_Move.f
  refine Ev.bind_some (refMod_f hn hn2) ?_
  obtain ⟨j, hj⟩ := Int.eq_ofNat_of_zero_le h0
  rw [hj] at h1 ⊢
  have := refMapped_ev (m := 1) (t := (j : Int)) hn hn2 hc (by omega) (by omega) (by omega) (by omega)
  rw [img_move hn (by omega) hc] at this
  rw [Int.toNat_natCast]
  exact Ev.bind this (Ev.some _)
theorem modC_nat {n d : Nat} (h : d < n) : ((d : Int) % (n : Int)).toNat = d := by rw [Int.emod_eq_of_lt (by omega) (by omega)]; omega

end Go.Proofs.YtnjmiodnkjabgaaDoor.P
namespace Go.Proofs.YtnjmiodnkjabgaaDoor.P
open Go.RowKit Go.Proofs.YtnjmiodnkjabgaaDoorW.PrintWords Go.Proofs.YtnjmiodnkjabgaaDoorW.PrintLast Go.Proofs.YtnjmiodnkjabgaaDoorW.PrintMore
attribute [local go_sem] max2_int min2_int max_two min_two max_three min_three max_four min_four   -- for this text's walks alone
set_option linter.unusedVariables false
set_option linter.unusedSimpArgs false

/-! the images of a chord: a set on which moves and turns act -/
theorem mod2 {n x : Nat} (hx : x < 2 * n) : x % n = if x < n then x else x - n := by
  split
  · rename_i h; exact Nat.mod_eq_of_lt h
  · rename_i h
    rw [Nat.mod_eq_sub_mod (by omega), Nat.mod_eq_of_lt (by omega)]
theorem idx_mm {n i a b : Nat} (hi : i < n) (ha : a < n) (hb : b < n) : ((i + (n - b)) % n + (n - a)) % n = (i + (n - (a + b) % n)) % n := by
  rw [Nat.mod_add_mod, mod2 (x := a + b) (by omega)]
  split
  · rw [show i + (n - b) + (n - a) = i + (n - (a + b)) + n by omega, Nat.add_mod_right]
  · rw [show i + (n - b) + (n - a) = i + (n - (a + b - n)) by omega]
theorem idx_tt {n i : Nat} (hi : i < n) : (n - (n - i) % n) % n = i := by
  rcases Nat.eq_zero_or_pos i with e | e
  · subst e; simp
  · rw [Nat.mod_eq_of_lt (show n - i < n by omega), mod2 (by omega)]; split <;> omega
theorem idx_tm {n i a : Nat} (hi : i < n) (ha : a < n) : ((n - i) % n + (n - a)) % n = (n - (i + (n - (n - a) % n)) % n) % n := by
  rcases Nat.eq_zero_or_pos i with e | e <;> rcases Nat.eq_zero_or_pos a with e2 | e2
  · subst e; subst e2; simp
  · subst e; rw [Nat.sub_zero, Nat.mod_self, Nat.mod_eq_of_lt (show n - a < n by omega)]
    rw [Nat.mod_eq_of_lt (show 0 + (n - a) < n by omega), mod2 (x := 0 + (n - (n - a))) (by omega)]
    split
    · rw [mod2 (by omega)]; split <;> omega
    · omega
  · subst e2; rw [Nat.sub_zero, Nat.mod_self, Nat.mod_eq_of_lt (show n - i < n by omega)]
    rw [mod2 (by omega), mod2 (x := i + (n - 0)) (by omega)]
    split
    · omega
    · split
      · omega
      · rw [mod2 (by omega)]; split <;> omega
  · rw [Nat.mod_eq_of_lt (show n - i < n by omega), Nat.mod_eq_of_lt (show n - a < n by omega)]
    rw [mod2 (x := i + (n - (n - a))) (by omega), mod2 (x := n - i + (n - a)) (by omega)]
    split <;> split
    · rw [mod2 (by omega)]; split <;> omega
    · rw [mod2 (by omega)]; split <;> omega
    · rw [mod2 (by omega)]; split <;> omega
    · rw [mod2 (by omega)]; split <;> omega
theorem toN_neg {n x : Nat} (hx : x < n) : toN negTo n x = (n - x) % n := by
  unfold toN negTo
  rcases Nat.eq_zero_or_pos x with e | e
  · subst e; simp
  · rw [Nat.mod_eq_of_lt (show n - x < n by omega)]
    have : -(x : Int) % (n : Int) = ((n - x : Nat) : Int) := by
      rw [← Int.add_emod_right, Int.emod_eq_of_lt (by omega) (by omega)]; omega
    rw [this, Int.toNat_natCast]
theorem turn_bit {n c i : Nat} (hc : c < 2 ^ n) (hi : i < n) : (turnN n c).testBit i = c.testBit ((n - i) % n) := by
  rw [Bool.eq_iff_iff]
  unfold turnN
  rw [imgN_bit hc]
  constructor
  · rintro ⟨x, hx, he⟩
    have hxn := bit_lt hc hx
    rw [toN_neg hxn] at he
    rw [← he, idx_tt hxn]; exact hx
  · intro h
    refine ⟨_, h, ?_⟩
    rw [toN_neg (Nat.mod_lt _ (by omega)), idx_tt hi]
theorem move_move {n c a b : Nat} (hc : c < 2 ^ n) (ha : a < n) (hb : b < n) : moveN n (moveN n c a) b = moveN n c ((a + b) % n) := by
  refine bits_ext (moveN_lt _ _ _) (moveN_lt _ _ _) (fun i hi => ?_)
  rw [testBit_moveN (moveN_lt _ _ _) hb hi, testBit_moveN hc ha (Nat.mod_lt _ (by omega)), testBit_moveN hc (Nat.mod_lt _ (by omega)) hi, idx_mm hi ha hb]
theorem turn_turn {n c : Nat} (hn : 1 ≤ n) (hc : c < 2 ^ n) : turnN n (turnN n c) = c := by
  refine bits_ext (turnN_lt hn (turnN_lt hn hc)) hc (fun i hi => ?_)
  rw [turn_bit (turnN_lt hn hc) hi, turn_bit hc (Nat.mod_lt _ (by omega)), idx_tt hi]
theorem turn_move {n c a : Nat} (hc : c < 2 ^ n) (ha : a < n) : turnN n (moveN n c a) = moveN n (turnN n c) ((n - a) % n) := by
  have hn : 1 ≤ n := by omega
  refine bits_ext (turnN_lt hn (moveN_lt _ _ _)) (moveN_lt _ _ _) (fun i hi => ?_)
  rw [turn_bit (moveN_lt _ _ _) hi, testBit_moveN hc ha (Nat.mod_lt _ (by omega)), testBit_moveN (turnN_lt hn hc) (Nat.mod_lt _ (by omega)) hi, turn_bit hc (Nat.mod_lt _ (by omega)), idx_tm hi ha]
theorem move_0 {n c : Nat} (hn : 1 ≤ n) (hc : c < 2 ^ n) : moveN n c 0 = c := by
  refine bits_ext (moveN_lt _ _ _) hc (fun i hi => ?_)
  rw [testBit_moveN hc (by omega) hi, Nat.sub_zero, Nat.add_mod_right, Nat.mod_eq_of_lt hi]
theorem move_back {n c a : Nat} (hc : c < 2 ^ n) (ha : a < n) : moveN n (moveN n c a) ((n - a) % n) = c := by
  have hn : 1 ≤ n := by omega
  rw [move_move hc ha (Nat.mod_lt _ hn)]
  have : (a + (n - a) % n) % n = 0 := by
    rcases Nat.eq_zero_or_pos a with e | e
    · subst e; simp
    · rw [Nat.mod_eq_of_lt (show n - a < n by omega), show a + (n - a) = n by omega, Nat.mod_self]
  rw [this, move_0 hn hc]
def IsImg (n c x : Nat) : Prop := ∃ j, j < n ∧ (x = moveN n c j ∨ x = moveN n (turnN n c) j)
theorem IsImg.lt {n c x : Nat} (h : IsImg n c x) : x < 2 ^ n := by
  obtain ⟨j, _, rfl | rfl⟩ := h <;> exact moveN_lt _ _ _
theorem IsImg.refl {n c : Nat} (hn : 1 ≤ n) (hc : c < 2 ^ n) : IsImg n c c := ⟨0, by omega, .inl (move_0 hn hc).symm⟩
theorem IsImg.trans {n c z x : Nat} (hc : c < 2 ^ n) (h : IsImg n c z) (k : IsImg n z x) : IsImg n c x := by
  obtain ⟨j, hj, hz⟩ := h
  obtain ⟨i, hi, hx⟩ := k
  have hn : 1 ≤ n := by omega
  have ht := turnN_lt hn hc
  rcases hz with rfl | rfl <;> rcases hx with rfl | rfl
  · exact ⟨_, Nat.mod_lt _ hn, .inl (move_move hc hj hi)⟩
  · rw [turn_move hc hj, move_move ht (Nat.mod_lt _ hn) hi]; exact ⟨_, Nat.mod_lt _ hn, .inr rfl⟩
  · exact ⟨_, Nat.mod_lt _ hn, .inr (move_move ht hj hi)⟩
  · rw [turn_move ht hj, turn_turn hn hc, move_move hc (Nat.mod_lt _ hn) hi]; exact ⟨_, Nat.mod_lt _ hn, .inl rfl⟩
theorem IsImg.symm {n c z : Nat} (hc : c < 2 ^ n) (h : IsImg n c z) : IsImg n z c := by
  obtain ⟨j, hj, hz⟩ := h
  have hn : 1 ≤ n := by omega
  have ht := turnN_lt hn hc
  rcases hz with rfl | rfl
  · exact ⟨_, Nat.mod_lt _ hn, .inl (move_back hc hj).symm⟩
  · refine ⟨j, hj, .inr ?_⟩
    rw [turn_move ht hj, turn_turn hn hc, move_move hc (Nat.mod_lt _ hn) hj]
    have : ((n - j) % n + j) % n = 0 := by
      rcases Nat.eq_zero_or_pos j with e | e
      · subst e; simp
      · rw [Nat.mod_eq_of_lt (show n - j < n by omega), show n - j + j = n by omega, Nat.mod_self]
    rw [this, move_0 hn hc]
theorem IsImg.iff {n c z x : Nat} (hc : c < 2 ^ n) (h : IsImg n c z) : IsImg n z x ↔ IsImg n c x := ⟨fun k => h.trans hc k, fun k => (h.symm hc).trans h.lt k⟩
/-- how many moves take one chord to another one -/
noncomputable def hits (n a x : Nat) : Nat := cnt n (fun k => decide (moveN n a k = x))
theorem hits_to {n a x j : Nat} (ha : a < 2 ^ n) (hx : x < 2 ^ n) (hj : j < n) : hits n a (moveN n x j) = hits n a x := by
  have hn : 1 ≤ n := by omega
  unfold hits
  rw [← cnt_shift (n - j) (fun k => decide (moveN n a k = x))]
  refine cnt_congr (fun k hk => ?_)
  rw [decide_eq_decide]
  have e : moveN n (moveN n a k) ((n - j) % n) = moveN n a ((k + (n - j)) % n) := by
    rw [move_move ha hk (Nat.mod_lt _ hn), Nat.add_mod_mod]
  constructor
  · intro h; rw [← e, h, move_back hx hj]
  · intro h
    have h2 : moveN n (moveN n (moveN n a k) ((n - j) % n)) j = moveN n x j := by rw [e, h]
    rw [move_move (moveN_lt _ _ _) (Nat.mod_lt _ hn) hj] at h2
    have : ((n - j) % n + j) % n = 0 := by
      rcases Nat.eq_zero_or_pos j with e | e
      · subst e; simp
      · rw [Nat.mod_eq_of_lt (show n - j < n by omega), show n - j + j = n by omega, Nat.mod_self]
    rw [this, move_0 hn (moveN_lt _ _ _)] at h2
    exact h2
theorem hits_from {n a x i : Nat} (ha : a < 2 ^ n) (hi : i < n) : hits n (moveN n a i) x = hits n a x := by
  unfold hits
  rw [← cnt_shift i (fun k => decide (moveN n a k = x))]
  refine cnt_congr (fun k hk => ?_)
  rw [move_move ha hi hk, Nat.add_comm]
theorem cnt_reflect {n : Nat} (p : Nat → Bool) : cnt n (fun k => p ((n - k) % n)) = cnt n p :=
  cnt_perm (f := fun k => (n - k) % n) (fun i hi => Nat.mod_lt _ (by omega)) (fun i hi j hj e => by
    have h1 := congrArg (fun z => (n - z) % n) e
    simp only [idx_tt hi, idx_tt hj] at h1
    exact h1) p
theorem hits_turn {n a x : Nat} (hn : 1 ≤ n) (ha : a < 2 ^ n) (hx : x < 2 ^ n) : hits n (turnN n a) (turnN n x) = hits n a x := by
  unfold hits
  rw [← cnt_reflect (fun k => decide (moveN n (turnN n a) k = turnN n x))]
  refine cnt_congr (fun k hk => ?_)
  rw [decide_eq_decide, ← turn_move ha hk]
  constructor
  · intro h
    have := congrArg (turnN n) h
    rwa [turn_turn hn (moveN_lt _ _ _), turn_turn hn hx] at this
  · intro h; rw [h]
noncomputable def stays (n c : Nat) : Nat := hits n c c
noncomputable def turns (n c : Nat) : Nat := hits n (turnN n c) c
theorem still_img {n c z : Nat} (hc : c < 2 ^ n) (h : IsImg n c z) : stays n z = stays n c ∧ turns n z = turns n c := by
  obtain ⟨j, hj, hz⟩ := h
  have hn : 1 ≤ n := by omega
  have ht := turnN_lt hn hc
  have mv : ∀ a, a < 2 ^ n → stays n (moveN n a j) = stays n a ∧ turns n (moveN n a j) = turns n a := fun a ha => by
    constructor
    · unfold stays; rw [hits_from ha hj, hits_to ha ha hj]
    · unfold turns; rw [turn_move ha hj, hits_from (turnN_lt hn ha) (Nat.mod_lt _ hn), hits_to (turnN_lt hn ha) ha hj]
  have tn : stays n (turnN n c) = stays n c ∧ turns n (turnN n c) = turns n c := by
    constructor
    · unfold stays; exact hits_turn hn hc hc
    · unfold turns
      have := hits_turn hn ht hc
      exact this
  rcases hz with rfl | rfl
  · exact mv c hc
  · exact ⟨(mv _ ht).1.trans tn.1, (mv _ ht).2.trans tn.2⟩
theorem hits_img {n c x : Nat} (hc : c < 2 ^ n) (h : IsImg n c x) : hits n c x + hits n (turnN n c) x = stays n c + turns n c := by
  obtain ⟨j, hj, hz⟩ := h
  have hn : 1 ≤ n := by omega
  have ht := turnN_lt hn hc
  rcases hz with rfl | rfl
  · rw [hits_to hc hc hj, hits_to ht hc hj]; rfl
  · rw [hits_to hc ht hj, hits_to ht ht hj]
    have e1 : hits n c (turnN n c) = turns n c := by
      have := hits_turn hn hc ht
      rw [turn_turn hn hc] at this
      unfold turns; exact this.symm
    have e2 : hits n (turnN n c) (turnN n c) = stays n c := hits_turn hn hc hc
    rw [e1, e2]; omega
theorem cnt_false (n : Nat) : cnt n (fun _ => false) = 0 := by rw [cnt_eq]; simp
theorem cnt_true (n : Nat) : cnt n (fun _ => true) = n := by rw [cnt_eq]; simp
theorem sum_hits {n a : Nat} : ∀ (L : List Nat), L.Nodup → (L.map fun x => hits n a x).sum = cnt n (fun k => decide (moveN n a k ∈ L))
  | [], _ => by simp [cnt_false]
  | x :: L, hd => by
    rw [List.nodup_cons] at hd
    rw [List.map_cons, List.sum_cons, sum_hits L hd.2]
    rw [cnt_split (fun k => decide (moveN n a k ∈ x :: L)) (fun k => decide (moveN n a k = x))]
    unfold hits
    congr 1
    · refine cnt_congr (fun k _ => ?_)
      rw [← Bool.decide_and, decide_eq_decide]
      exact ⟨fun h => ⟨by simp [h], h⟩, fun h => h.2⟩
    · refine cnt_congr (fun k _ => ?_)
      by_cases h : moveN n a k = x
      · have : x ∉ L := hd.1
        simp [h, this]
      · simp [h]
/-- as many images, each as often as what leaves the chord as it is -/
theorem orbit_count {n c : Nat} (hn : 1 ≤ n) (hc : c < 2 ^ n) (L : List Nat) (hd : L.Nodup) (hm : ∀ x, x ∈ L ↔ IsImg n c x) : L.length * (stays n c + turns n c) = 2 * n := by
  have h1 := sum_hits (n := n) (a := c) L hd
  have h2 := sum_hits (n := n) (a := turnN n c) L hd
  have e1 : cnt n (fun k => decide (moveN n c k ∈ L)) = n := by
    have : cnt n (fun k => decide (moveN n c k ∈ L)) = cnt n (fun _ => true) := cnt_congr (fun k hk => decide_eq_true ((hm _).2 ⟨k, hk, .inl rfl⟩))
    rw [this, cnt_true]
  have e2 : cnt n (fun k => decide (moveN n (turnN n c) k ∈ L)) = n := by
    have : cnt n (fun k => decide (moveN n (turnN n c) k ∈ L)) = cnt n (fun _ => true) := cnt_congr (fun k hk => decide_eq_true ((hm _).2 ⟨k, hk, .inr rfl⟩))
    rw [this, cnt_true]
  rw [e1] at h1; rw [e2] at h2
  have h3 : ∀ M : List Nat, (∀ x ∈ M, x ∈ L) → (M.map fun x => hits n c x).sum + (M.map fun x => hits n (turnN n c) x).sum = M.length * (stays n c + turns n c) := by
    intro M
    induction M with
    | nil => intro _; simp
    | cons x M ih =>
      intro hM
      have := ih (fun y hy => hM y (List.mem_cons_of_mem _ hy))
      have hx := hits_img hc ((hm x).1 (hM x (by simp)))
      simp only [List.map_cons, List.sum_cons, List.length_cons, Nat.succ_mul]
      omega
  have := h3 L (fun x hx => hx)
  omega
/-- the vector is the same for all images -/
theorem common_move {n c j d : Nat} (hc : c < 2 ^ n) (hj : j < n) (hd : d < n) : common n (moveN n c j) (moveN n c j) d = common n c c d := by
  rw [common_cnt, common_cnt, ← cnt_shift (n - j) (fun i => c.testBit i && c.testBit ((i + (n - d)) % n))]
  refine cnt_congr (fun i hi => ?_)
  have hn : 1 ≤ n := by omega
  rw [testBit_moveN hc hj hi, testBit_moveN hc hj (Nat.mod_lt _ hn)]
  congr 2
  rw [Nat.mod_add_mod, Nat.mod_add_mod]
  congr 1; omega
theorem common_turn {n c d : Nat} (hn : 1 ≤ n) (hc : c < 2 ^ n) (hd : d < n) : common n (turnN n c) (turnN n c) d = common n c c d := by
  rw [common_cnt, common_cnt]
  have e1 : cnt n (fun i => (turnN n c).testBit i && (turnN n c).testBit ((i + (n - d)) % n)) = cnt n (fun i => (fun k => c.testBit k && c.testBit ((k + d) % n)) ((n - i) % n)) := by
    refine cnt_congr (fun i hi => ?_)
    rw [turn_bit hc hi, turn_bit hc (Nat.mod_lt _ hn)]
    congr 2
    have := idx_tm (n := n) (i := i) (a := (n - d) % n) hi (Nat.mod_lt _ hn)
    rw [idx_tt hd] at this
    rw [← this]
    have e3 : (n - (n - d) % n) = if d = 0 then n else d := by
      rcases Nat.eq_zero_or_pos d with e | e
      · subst e; simp
      · rw [Nat.mod_eq_of_lt (show n - d < n by omega), if_neg (by omega)]; omega
    rw [e3]
    split
    · rename_i e; subst e; rw [Nat.add_mod_right, Nat.add_zero]
    · rfl
  rw [e1, cnt_reflect (fun k => c.testBit k && c.testBit ((k + d) % n)), ← cnt_shift d (fun i => c.testBit i && c.testBit ((i + (n - d)) % n))]
  refine cnt_congr (fun i hi => ?_)
  have e2 : ((i + d) % n + (n - d)) % n = i := by rw [Nat.mod_add_mod, show i + d + (n - d) = i + n by omega, Nat.add_mod_right, Nat.mod_eq_of_lt hi]
  rw [e2, Bool.and_comm]
theorem vec_img {n c z : Nat} (hn : 2 ≤ n) (hc : c < 2 ^ n) (h : IsImg n c z) : vecOf n z = vecOf n c := by
  have hcm : ∀ d, d < n → common n z z d = common n c c d := by
    intro d hd
    obtain ⟨j, hj, hz⟩ := h
    rcases hz with rfl | rfl
    · exact common_move hc hj hd
    · rw [common_move (turnN_lt (by omega) hc) hj hd, common_turn (by omega) hc hd]
  rw [vecOf_eq, vecOf_eq]
  refine List.map_congr_left (fun i hi => ?_)
  have hi' := List.mem_range.1 hi
  unfold vecAt
  rw [hcm (i + 1) (by omega)]

end Go.Proofs.YtnjmiodnkjabgaaDoor.P
namespace Go.Proofs.YtnjmiodnkjabgaaDoor.P
open Go.RowKit Go.Proofs.YtnjmiodnkjabgaaDoorW.PrintWords Go.Proofs.YtnjmiodnkjabgaaDoorW.PrintLast Go.Proofs.YtnjmiodnkjabgaaDoorW.PrintMore
attribute [local go_sem] max2_int min2_int max_two min_two max_three min_three max_four min_four   -- for this text's walks alone
set_option linter.unusedVariables false
set_option linter.unusedSimpArgs false

/-! the images of a chord, as the program and the reference list them -/
noncomputable def clsN (n c : Nat) : List Nat := Seal ((List.range (2 ^ n)).filter fun x => @decide (IsImg n c x) (Classical.propDecidable _))
theorem clsN_mem {n c x : Nat} : x ∈ clsN n c ↔ IsImg n c x := by
  unfold clsN
  rw [Seal_eq, List.mem_filter, List.mem_range, @decide_eq_true_iff _ (Classical.propDecidable _)]
  exact ⟨fun h => h.2, fun h => ⟨h.lt, h⟩⟩
theorem clsN_lt (n c : Nat) : (clsN n c).Pairwise (· < ·) := by
  unfold clsN
  rw [Seal_eq]
  exact List.Pairwise.filter _ List.pairwise_lt_range
theorem nodup_of_lt {l : List Nat} (h : l.Pairwise (· < ·)) : l.Nodup := List.Pairwise.imp (fun h => Nat.ne_of_lt h) h
theorem nodup_of_ltI {l : List Int} (h : l.Pairwise (· < ·)) : l.Nodup := List.Pairwise.imp (fun h => Int.ne_of_lt h) h
noncomputable def clsI (n c : Nat) : List Int := (clsN n c).map Int.ofNat
theorem clsI_lt (n c : Nat) : (clsI n c).Pairwise (· < ·) := List.Pairwise.map _ (fun _ _ h => Int.ofNat_lt.2 h) (clsN_lt n c)
theorem clsI_mem {n c : Nat} {x : Int} : x ∈ clsI n c ↔ ∃ y : Nat, x = y ∧ IsImg n c y := by
  unfold clsI
  rw [List.mem_map]
  constructor
  · rintro ⟨y, hy, rfl⟩; exact ⟨y, rfl, clsN_mem.1 hy⟩
  · rintro ⟨y, rfl, hy⟩; exact ⟨y, clsN_mem.2 hy, rfl⟩
theorem strict_unique {a b : List Int} (ha : a.Pairwise (· < ·)) (hb : b.Pairwise (· < ·)) (h : ∀ x, x ∈ a ↔ x ∈ b) : a = b :=
  List.Perm.eq_of_pairwise (le := (· < ·)) (fun _ _ _ _ h1 h2 => absurd h1 (by omega)) ha hb ((List.perm_ext_iff_of_nodup (nodup_of_ltI ha) (nodup_of_ltI hb)).2 h)
theorem get_bang {zs : List Int} {i : Nat} (h : i < zs.length) : zs.toArray[i]! = zs[i] := by simp [h]
theorem compact_upto {zs : List Int} (hs : zs.Pairwise (· ≤ ·)) : ∀ m, m ≤ zs.length → (Lib.compactUpTo zs.toArray m).Pairwise (· < ·) ∧ ∀ x, x ∈ Lib.compactUpTo zs.toArray m ↔ ∃ j, ∃ h : j < zs.length, j < m ∧ zs[j] = x
  | 0, _ => by simp [Lib.compactUpTo]
  | m + 1, hm => by
    obtain ⟨ih1, ih2⟩ := compact_upto hs m (by omega)
    have hml : m < zs.length := by omega
    rw [Lib.compactUpTo_succ, get_bang hml]
    have hle : ∀ j, ∀ h : j < zs.length, j < m → zs[j] ≤ zs[m] := fun j h hj => List.pairwise_iff_getElem.1 hs j m h hml hj
    by_cases hk : Lib.keeps zs.toArray m = true
    · rw [if_pos hk]
      have hne : m = 0 ∨ zs[m - 1]'(by omega) ≠ zs[m] := by
        rcases Nat.eq_zero_or_pos m with e | e
        · exact .inl e
        · right
          intro he
          have := Lib.keeps_neg (d := zs.toArray) e (by rw [get_bang hml, get_bang (by omega)]; exact he.symm)
          rw [this] at hk; cases hk
      have hlt : ∀ j, ∀ h : j < zs.length, j < m → zs[j] < zs[m] := fun j h hj => by
        rcases hne with e | e
        · omega
        · have h1 : zs[j] ≤ zs[m - 1]'(by omega) := by
            rcases Nat.lt_or_eq_of_le (show j ≤ m - 1 by omega) with h2 | h2
            · exact List.pairwise_iff_getElem.1 hs j (m - 1) h (by omega) h2
            · subst h2; exact Int.le_refl _
          have h2 := hle (m - 1) (by omega) (by omega)
          omega
      refine ⟨?_, fun x => ?_⟩
      · rw [List.pairwise_append]
        refine ⟨ih1, by simp, fun a ha b hb => ?_⟩
        obtain ⟨j, h, hj, rfl⟩ := (ih2 a).1 ha
        rw [List.mem_singleton] at hb; subst hb
        exact hlt j h hj
      · rw [List.mem_append, ih2, List.mem_singleton]
        constructor
        · rintro (⟨j, h, hj, rfl⟩ | rfl)
          · exact ⟨j, h, by omega, rfl⟩
          · exact ⟨m, hml, by omega, rfl⟩
        · rintro ⟨j, h, hj, rfl⟩
          rcases Nat.lt_or_ge j m with h2 | h2
          · exact .inl ⟨j, h, h2, rfl⟩
          · obtain rfl : j = m := by omega
            exact .inr rfl
    · rw [if_neg hk, List.append_nil]
      have hm0 : 0 < m := Nat.pos_of_ne_zero (fun e => hk (by subst e; simp [Lib.keeps]))
      have he : zs[m] = zs[m - 1]'(by omega) := by
        refine Classical.byContradiction fun hne => hk (Lib.keeps_pos ?_)
        rw [get_bang hml, get_bang (by omega)]; exact hne
      refine ⟨ih1, fun x => ?_⟩
      rw [ih2]
      constructor
      · rintro ⟨j, h, hj, rfl⟩; exact ⟨j, h, by omega, rfl⟩
      · rintro ⟨j, h, hj, rfl⟩
        rcases Nat.lt_or_ge j m with h2 | h2
        · exact ⟨j, h, h2, rfl⟩
        · obtain rfl : j = m := by omega
          exact ⟨j - 1, by omega, by omega, he.symm⟩
theorem compact_sorted {zs : List Int} (hs : zs.Pairwise (· ≤ ·)) : (Lib.compact zs).Pairwise (· < ·) ∧ ∀ x, x ∈ Lib.compact zs ↔ x ∈ zs := by
  obtain ⟨h1, h2⟩ := compact_upto hs zs.length (Nat.le_refl _)
  refine ⟨h1, fun x => (h2 x).trans ?_⟩
  rw [List.mem_iff_getElem]
  exact ⟨fun ⟨j, h, _, e⟩ => ⟨j, h, e⟩, fun ⟨j, h, e⟩ => ⟨j, h, h, e⟩⟩
theorem sort_le (l : List Int) : (l.mergeSort fun x y => decide (x ≤ y)).Pairwise (· ≤ ·) := by
  have := List.pairwise_mergeSort (le := fun x y : Int => decide (x ≤ y)) (by intros; simp at *; omega) (by intros; simp; omega) l
  exact List.Pairwise.imp (fun h => by simpa using h) this
/-- sorted, and each one once: just the strictly rising list of the same numbers -/
theorem sort_compact {l m : List Int} (hm : m.Pairwise (· < ·)) (h : ∀ x, x ∈ l ↔ x ∈ m) : Lib.compact (l.mergeSort fun x y => decide (x ≤ y)) = m := by
  obtain ⟨h1, h2⟩ := compact_sorted (sort_le l)
  refine strict_unique h1 hm (fun x => ?_)
  rw [h2, (List.mergeSort_perm l _).mem_iff, h]
def imgPairs (n c t d : Nat) : List Int := (List.range d).flatMap fun k => [(moveN n c k : Int), (moveN n t k : Int)]
theorem imgPairs_succ (n c t d : Nat) : imgPairs n c t (d + 1) = imgPairs n c t d ++ [(moveN n c d : Int), (moveN n t d : Int)] := by unfold imgPairs; rw [List.range_succ]; simp
theorem imgPairs_length (n c t d : Nat) : (imgPairs n c t d).length = 2 * d := by
  induction d with
  | zero => rfl
  | succ d ih => rw [imgPairs_succ, List.length_append, ih]; simp; omega
theorem images_loop {n c : Nat} (hn : 1 ≤ n) (hn2 : n ≤ 24) (hc : c < 2 ^ n) : ∀ (m d : Nat), d + m = n →
    Ev (fun k => chords_circle_images.l0 k (n : Int) (c : Int) (imgPairs n c (turnN n c) d) (n : Int) (d : Int)) (clsI n c) := by
  intro m
  induction m with
  | zero =>
    intro d hd
    have hdn : d = n := by omega
    have p1 : ¬ (d : Int) < (n : Int) := by omega
    have hl := imgPairs_length n c (turnN n c) d
    refine Ev.succ ?_
    simp only [chords_circle_images.l0, if_neg p1]
    have s1 : slices_Sort_int_int.f (imgPairs n c (turnN n c) d) = some ((imgPairs n c (turnN n c) d).mergeSort fun x y => decide (x ≤ y)) := by
      unfold slices_Sort_int_int.f; rw [if_pos (by omega)]
    have s2 : slices_Compact_int_int.f ((imgPairs n c (turnN n c) d).mergeSort fun x y => decide (x ≤ y)) = some (clsI n c) := by
      unfold slices_Compact_int_int.f
      rw [if_pos (by rw [List.length_mergeSort]; omega)]
      congr 1
      refine sort_compact (clsI_lt n c) (fun x => ?_)
      rw [clsI_mem]
      unfold imgPairs
      rw [List.mem_flatMap, hdn]
      constructor
      · rintro ⟨k, hk, hx⟩
        have hk' := List.mem_range.1 hk
        rcases List.mem_cons.1 hx with e | e
        · exact ⟨_, e, k, hk', .inl rfl⟩
        · rw [List.mem_singleton] at e; exact ⟨_, e, k, hk', .inr rfl⟩
      · rintro ⟨y, rfl, k, hk, e | e⟩
        · exact ⟨k, List.mem_range.2 hk, by rw [e]; simp⟩
        · exact ⟨k, List.mem_range.2 hk, by rw [e]; simp⟩
    refine Ev.bind_some s1 ?_
    refine Ev.bind_some s2 ?_
    exact Ev.some _
  | succ m ih =>
    intro d hd
    have hdn : d < n := by omega
    have p1 : (d : Int) < (n : Int) := by omega
    have m1 := move_f (d : Int) hn hn2 hc
    have m2 := move_f (d : Int) hn hn2 (turnN_lt hn hc)
    rw [modC_nat hdn] at m1 m2
    have hw := nextC_w (d := d) (by omega)
    have hl := imgPairs_length n c (turnN n c) d
    have p2 : (imgPairs n c (turnN n c) d).length + [(moveN n c d : Int), (moveN n (turnN n c) d : Int)].length < 17592186044416 := by simp; omega
    refine Ev.succ ?_
    simp only [chords_circle_images.l0, if_pos p1]
    refine Ev.bind_some m1 ?_
    refine Ev.bind_some (turn_f hn hn2 hc) ?_
    refine Ev.bind_some m2 ?_
    simp only [Option.bind_some, if_pos p2, hw]
    rw [← imgPairs_succ]
    exact ih (d + 1) (by omega)
theorem images_ev {n c : Nat} (hn : 1 ≤ n) (hn2 : n ≤ 24) (hc : c < 2 ^ n) : Ev (fun k => chords_circle_images.f k (n : Int) (c : Int)) (clsI n c) := by
  unfold chords_circle_images.f
  exact images_loop hn hn2 hc n 0 (by omega)
/-- the least image -/
noncomputable def priI (n c : Nat) : Int := rd (clsI n c) 0
theorem clsI_pos {n c : Nat} (hn : 1 ≤ n) (hc : c < 2 ^ n) : 0 < (clsI n c).length := by
  have : (c : Int) ∈ clsI n c := clsI_mem.2 ⟨c, rfl, IsImg.refl hn hc⟩
  exact List.length_pos_of_mem this
theorem prime_ev {n c : Nat} (hn : 1 ≤ n) (hn2 : n ≤ 24) (hc : c < 2 ^ n) : Ev (fun k => chords_circle_prime.f k (n : Int) (c : Int)) (priI n c) := by
  have p : (0 : Int) < ((clsI n c).length : Int) := by have := clsI_pos hn hc; omega
  unfold chords_circle_prime.f
  refine Ev.bind (images_ev hn hn2 hc) ?_
  simp only [if_pos p]
  exact Ev.some _
theorem Prime_ev (n c : Int) : Ev (fun k => chords_Prime.f k n c) (if ValidC n c then (priI n.toNat c.toNat, 0) else (0, 2)) := by
  unfold chords_Prime.f
  refine Ev.bind_some (valid1_f n c) ?_
  by_cases h : ValidC n c
  · simp only [h, decide_true, if_true]
    obtain ⟨N, C, rfl, rfl, h2, h16, hC⟩ := validC_nat h
    simp only [Int.toNat_natCast]
    refine Ev.bind (prime_ev (by omega) (by omega) hC) ?_
    exact Ev.some _
  · simp only [h, decide_false, Bool.false_eq_true, if_false]
    exact Ev.some _
theorem Class_ev (n c : Int) : Ev (fun k => chords_Class.f k n c) (if ValidC n c then (clsI n.toNat c.toNat, 0) else ([], 2)) := by
  unfold chords_Class.f
  refine Ev.bind_some (valid1_f n c) ?_
  by_cases h : ValidC n c
  · simp only [h, decide_true, if_true]
    obtain ⟨N, C, rfl, rfl, h2, h16, hC⟩ := validC_nat h
    simp only [Int.toNat_natCast]
    refine Ev.bind (images_ev (by omega) (by omega) hC) ?_
    exact Ev.some _
  · simp only [h, decide_false, Bool.false_eq_true, if_false]
    exact Ev.some _
theorem priI_spec {n c : Nat} (hn : 1 ≤ n) (hc : c < 2 ^ n) : ∃ p : Nat, priI n c = p ∧ IsImg n c p ∧ ∀ x, IsImg n c x → p ≤ x := by
  have hp := clsI_pos hn hc
  have hm : priI n c ∈ clsI n c := by unfold priI; exact rd_mem (i := 0) hp
  obtain ⟨p, e, hi⟩ := clsI_mem.1 hm
  refine ⟨p, e, hi, fun x hx => ?_⟩
  have hxm : (x : Int) ∈ clsI n c := clsI_mem.2 ⟨x, rfl, hx⟩
  obtain ⟨j, hj, ej⟩ := List.mem_iff_getElem.1 hxm
  have e0 : (clsI n c)[0] = (p : Int) := by rw [← e]; unfold priI; exact (rd_get (i := 0) hp).symm
  rcases Nat.eq_zero_or_pos j with h0 | h0
  · subst h0; omega
  · have := List.pairwise_iff_getElem.1 (clsI_lt n c) 0 j hp hj h0
    omega

end Go.Proofs.YtnjmiodnkjabgaaDoor.P
namespace Go.Proofs.YtnjmiodnkjabgaaDoor.P
open Go.RowKit Go.Proofs.YtnjmiodnkjabgaaDoorW.PrintWords Go.Proofs.YtnjmiodnkjabgaaDoorW.PrintLast Go.Proofs.YtnjmiodnkjabgaaDoorW.PrintMore
attribute [local go_sem] max2_int min2_int max_two min_two max_three min_three max_four min_four   -- for this text's walks alone
set_option linter.unusedVariables false
set_option linter.unusedSimpArgs false

theorem refClass_l1 {n c : Nat} (met : List Bool) (hl : met.length = 2 ^ n) (hn2 : n ≤ 16) (hmet : ∀ x, ∀ h : x < met.length, met[x] = true ↔ IsImg n c x) : ∀ (m i : Nat) (out : List Int), i + m = 2 ^ n → out.length ≤ i → out.Pairwise (· < ·) → (∀ x : Int, x ∈ out ↔ ∃ y : Nat, x = y ∧ y < i ∧ IsImg n c y) →
    Ev (fun k => sackbutref01_Class.l1 k met out (met.length : Int) (i : Int)) (clsI n c) := by
  have h16 := pow16 hn2
  intro m
  induction m with
  | zero =>
    intro i out hi hol hs hm
    have p1 : ¬ (i : Int) < (met.length : Int) := by omega
    refine Ev.succ ?_
    simp only [sackbutref01_Class.l1, if_neg p1]
    have : out = clsI n c := strict_unique hs (clsI_lt n c) (fun x => by
      rw [hm, clsI_mem]
      exact ⟨fun ⟨y, e, _, h⟩ => ⟨y, e, h⟩, fun ⟨y, e, h⟩ => ⟨y, e, by have := h.lt; omega, h⟩⟩)
    rw [this]
    exact Ev.some _
  | succ m ih =>
    intro i out hi hol hs hm
    have p1 : (i : Int) < (met.length : Int) := by omega
    have p0 : (0 : Int) ≤ (i : Int) := by omega
    have hil : i < met.length := by omega
    have hrd : rdOf false met (i : Int) = met[i] := by unfold rdOf; rw [Int.toNat_natCast, List.getD_eq_getElem?_getD, List.getElem?_eq_getElem hil]; rfl
    have hw : wrap64 ((i : Int) + 1) = ((i + 1 : Nat) : Int) := by rw [wrap_id (by omega) (by omega)]; omega
    have p3 : out.length < 17592186044416 := by omega
    refine Ev.succ ?_
    simp only [sackbutref01_Class.l1, if_pos p1, if_pos p0, hrd, if_pos p3, hw]
    refine Ev.ite (fun e => ?_) (fun e => ?_)
    · have hI := (hmet i hil).1 e
      refine ih (i + 1) (out ++ [(i : Int)]) (by omega) (by simp; omega) ?_ (fun x => ?_)
      · rw [List.pairwise_append]
        refine ⟨hs, by simp, fun a ha b hb => ?_⟩
        obtain ⟨y, rfl, hy, _⟩ := (hm a).1 ha
        rw [List.mem_singleton] at hb; subst hb; omega
      · rw [List.mem_append, hm, List.mem_singleton]
        constructor
        · rintro (⟨y, e, hy, h⟩ | e)
          · exact ⟨y, e, by omega, h⟩
          · exact ⟨i, e, by omega, hI⟩
        · rintro ⟨y, e9, hy, h⟩
          rcases Nat.lt_or_ge y i with h2 | h2
          · exact .inl ⟨y, e9, h2, h⟩
          · have hyi : y = i := by omega
            exact .inr (by rw [e9, hyi])
    · refine ih (i + 1) out (by omega) (by omega) hs (fun x => ?_)
      rw [hm]
      constructor
      · rintro ⟨y, e, hy, h⟩; exact ⟨y, e, by omega, h⟩
      · rintro ⟨y, e2, hy, h⟩
        rcases Nat.lt_or_ge y i with h2 | h2
        · exact ⟨y, e2, h2, h⟩
        · obtain rfl : y = i := by omega
          exact absurd ((hmet y hil).2 h) e
theorem refClass_l0 {n c : Nat} (hn : 1 ≤ n) (hn2 : n ≤ 16) (hc : c < 2 ^ n) : ∀ (m d : Nat) (met : List Bool), d + m = n → met.length = 2 ^ n → (∀ x, ∀ h : x < met.length, met[x] = true ↔ ∃ j, j < d ∧ (x = moveN n c j ∨ x = moveN n (turnN n c) j)) →
    Ev (fun k => sackbutref01_Class.l0 k (n : Int) (c : Int) met (n : Int) (d : Int)) (clsI n c) := by
  intro m
  induction m with
  | zero =>
    intro d met hd hl hmet
    have hdn : d = n := by omega
    have p1 : ¬ (d : Int) < (n : Int) := by omega
    refine Ev.succ ?_
    simp only [sackbutref01_Class.l0, if_neg p1]
    refine refClass_l1 met hl hn2 (fun x h => by rw [hmet x h, hdn]; rfl) (2 ^ n) 0 [] (by omega) (by simp) (by simp) (by simp)
  | succ m ih =>
    intro d met hd hl hmet
    have hdn : d < n := by omega
    have p1 : (d : Int) < (n : Int) := by omega
    have r1 := refMove_ev (d : Int) hn (by omega) hc
    have r2 := refMove_ev (d : Int) hn (by omega) (turnN_lt hn hc)
    rw [modC_nat hdn] at r1 r2
    have hw := nextC_w (d := d) (by omega)
    have b1 := moveN_lt n c d
    have b2 := moveN_lt n (turnN n c) d
    have q1 : (0 : Int) ≤ (moveN n c d : Int) := by omega
    have q2 : (moveN n c d : Int) < (met.length : Int) := by omega
    have q3 : (0 : Int) ≤ (moveN n (turnN n c) d : Int) := by omega
    have q4 : (moveN n (turnN n c) d : Int) < (met.length : Int) := by omega
    refine Ev.succ ?_
    simp only [sackbutref01_Class.l0, if_pos p1]
    refine Ev.bind r1 ?_
    simp only [if_pos q1, if_pos q2]
    refine Ev.bind (refTurn_ev hn (by omega) hc) ?_
    refine Ev.bind r2 ?_
    simp only [if_pos q3, if_pos q4, hw, Int.toNat_natCast]
    refine ih (d + 1) _ (by omega) (by simp [hl]) (fun x h => ?_)
    have hx : x < met.length := by simpa using h
    rw [List.getElem_set, List.getElem_set]
    by_cases e2 : moveN n (turnN n c) d = x
    · rw [if_pos e2]; exact ⟨fun _ => ⟨d, by omega, .inr e2.symm⟩, fun _ => rfl⟩
    · rw [if_neg e2]
      by_cases e1 : moveN n c d = x
      · rw [if_pos e1]; exact ⟨fun _ => ⟨d, by omega, .inl e1.symm⟩, fun _ => rfl⟩
      · rw [if_neg e1, hmet x hx]
        constructor
        · rintro ⟨j, hj, h⟩; exact ⟨j, by omega, h⟩
        · rintro ⟨j, hj, hh⟩
          rcases Nat.lt_or_ge j d with h2 | h2
          · exact ⟨j, h2, hh⟩
          · have hjd : j = d := by omega
            rw [hjd] at hh
            rcases hh with h9 | h9
            · exact absurd h9.symm e1
            · exact absurd h9.symm e2
theorem refClass_ev {n c : Nat} (hn : 1 ≤ n) (hn2 : n ≤ 16) (hc : c < 2 ^ n) : Ev (fun k => sackbutref01_Class.f k (n : Int) (c : Int)) (clsI n c) := by
  have h16 := pow16 hn2
  have hs := shl1_i64 (x := n) (by omega)
  unfold sackbutref01_Class.f
  have p0 : (0 : Int) ≤ (n : Int) := by omega
  have p1 : (0 : Int) ≤ ((2 ^ n : Nat) : Int) := by omega
  have p2 : 2 ^ n ≤ 281474976710656 := by omega
  simp only [hs, if_pos p0, if_pos p1, Int.toNat_natCast, if_pos p2]
  exact refClass_l0 hn hn2 hc n 0 _ (by omega) (by simp) (fun x h => by simp)
theorem refPrime_loop {n c : Nat} (hn : 1 ≤ n) (hn2 : n ≤ 16) (hc : c < 2 ^ n) : ∀ (m d b : Nat), d + m = n → IsImg n c b → (∀ j, j < d → b ≤ moveN n c j ∧ b ≤ moveN n (turnN n c) j) →
    Ev (fun k => sackbutref01_Prime.l0 k (n : Int) (c : Int) (b : Int) (n : Int) (d : Int)) (priI n c) := by
  intro m
  induction m with
  | zero =>
    intro d b hd hb hm
    have p1 : ¬ (d : Int) < (n : Int) := by omega
    refine Ev.succ ?_
    simp only [sackbutref01_Prime.l0, if_neg p1]
    obtain ⟨p, e, hi, hle⟩ := priI_spec hn hc
    have h1 := hle b hb
    have h2 : b ≤ p := by
      obtain ⟨j, hj, h | h⟩ := hi
      · rw [h]; exact (hm j (by omega)).1
      · rw [h]; exact (hm j (by omega)).2
    have : p = b := by omega
    rw [e, this]
    exact Ev.some _
  | succ m ih =>
    intro d b hd hb hm
    have hdn : d < n := by omega
    have p1 : (d : Int) < (n : Int) := by omega
    have r1 := refMove_ev (d : Int) hn (by omega) hc
    have r2 := refMove_ev (d : Int) hn (by omega) (turnN_lt hn hc)
    rw [modC_nat hdn] at r1 r2
    have hw := nextC_w (d := d) (by omega)
    refine Ev.succ ?_
    simp only [sackbutref01_Prime.l0, if_pos p1]
    refine Ev.bind r1 ?_
    refine Ev.bind (refTurn_ev hn (by omega) hc) ?_
    refine Ev.bind r2 ?_
    have hmn : mn (mn (b : Int) (moveN n c d : Int)) (moveN n (turnN n c) d : Int) = ((min (min b (moveN n c d)) (moveN n (turnN n c) d) : Nat) : Int) := by
      rw [mn_eq, mn_eq]; omega
    rw [hmn, hw]
    refine ih (d + 1) _ (by omega) ?_ (fun j hj => ?_)
    · rcases Nat.le_total b (moveN n c d) with h | h
      · rw [Nat.min_eq_left h]
        rcases Nat.le_total b (moveN n (turnN n c) d) with h2 | h2
        · rw [Nat.min_eq_left h2]; exact hb
        · rw [Nat.min_eq_right h2]; exact ⟨d, hdn, .inr rfl⟩
      · rw [Nat.min_eq_right h]
        rcases Nat.le_total (moveN n c d) (moveN n (turnN n c) d) with h2 | h2
        · rw [Nat.min_eq_left h2]; exact ⟨d, hdn, .inl rfl⟩
        · rw [Nat.min_eq_right h2]; exact ⟨d, hdn, .inr rfl⟩
    · rcases Nat.lt_or_ge j d with h2 | h2
      · have := hm j h2; omega
      · obtain rfl : j = d := by omega
        omega
theorem refPrime_ev {n c : Nat} (hn : 1 ≤ n) (hn2 : n ≤ 16) (hc : c < 2 ^ n) : Ev (fun k => sackbutref01_Prime.f k (n : Int) (c : Int)) (priI n c) := by
  unfold sackbutref01_Prime.f
  exact refPrime_loop hn hn2 hc n 0 c (by omega) (IsImg.refl hn hc) (fun j hj => by omega)
theorem ChordsPrimes : sackbutlaw01_ChordsPrimes.Pure := by
  intro n c _ _
  refine Ev.rounds (g := fun k => sackbutlaw01_ChordsPrimes.f k n c) ?_
  unfold sackbutlaw01_ChordsPrimes.f
  refine Ev.bind (Prime_ev n c) ?_
  refine Ev.bind (Class_ev n c) ?_
  refine Ev.bind_some (refValid_f n c) ?_
  by_cases h : ValidC n c
  · simp only [h, decide_true, if_true]
    obtain ⟨N, C, rfl, rfl, h2, h16, hC⟩ := validC_nat h
    simp only [Int.toNat_natCast]
    refine Ev.bind (refPrime_ev (by omega) h16 hC) ?_
    simp only [if_true]
    refine Ev.bind (refClass_ev (by omega) h16 hC) ?_
    have hl : (clsI N C).length < 9223372036854775807 := by
      unfold clsI clsN
      rw [List.length_map, Seal_eq]
      have h1 := List.length_filter_le (p := fun x => @decide (IsImg N C x) (Classical.propDecidable _)) (List.range (2 ^ N))
      rw [List.length_range] at h1
      have := pow16 h16
      omega
    refine Ev.bind (Equal_ev _ _ hl) ?_
    simp only [decide_true, if_true]
    exact Ev.bind_some awake_f (Ev.some _)
  · simp only [h, decide_false, Bool.false_eq_true, if_false, List.length_nil, Int.natCast_zero, if_true]
    exact Ev.bind_some awake_f (Ev.some _)

end Go.Proofs.YtnjmiodnkjabgaaDoor.P
namespace Go.Proofs.YtnjmiodnkjabgaaDoor.Pure
theorem ChordsPrimes : Go.Proofs.YtnjmiodnkjabgaaDoor.P.sackbutlaw01_ChordsPrimes.Pure := Go.Proofs.YtnjmiodnkjabgaaDoor.P.ChordsPrimes
end Go.Proofs.YtnjmiodnkjabgaaDoor.Pure
namespace Go.Proofs.YtnjmiodnkjabgaaDoor.P
open Go.RowKit Go.Proofs.YtnjmiodnkjabgaaDoorW.PrintWords Go.Proofs.YtnjmiodnkjabgaaDoorW.PrintLast Go.Proofs.YtnjmiodnkjabgaaDoorW.PrintMore
attribute [local go_sem] max2_int min2_int max_two min_two max_three min_three max_four min_four   -- for this text's walks alone
set_option linter.unusedVariables false
set_option linter.unusedSimpArgs false

open Go.ChangeShapes Go.WideShapes Go.ChangeAt Go.WideElems
/-! what the row's listed tables give the walks -/
def doorLaid2 : List (String × DataW Unit) := [("math/bits.deBruijn32tab", Rows.laid_math_bits_deBruijn32tab), ("math/bits.deBruijn64tab", Rows.laid_math_bits_deBruijn64tab)]
theorem door_g64 : Tryd.prog.globalNamed "math/bits.deBruijn64tab" = some 1 := by kernel_rfl
theorem door_t64 : (Tryd.prog.globals[1]?).map (·.type) = some 105 := by kernel_rfl
theorem door_met (os : Os) (args : Array Value) : laidMetH Tryd.prog doorLaid2 ((World.doorLaid Tryd.prog 19 os).forCall (fun _ _ => 0) ⟨#[], args, []⟩).memory :=
  laidMetH_of_parts3 (fuel := 8) (laidMet_of_run' 8 (by kernel_rfl) (by kernel_rfl)) (by kernel_rfl) (by kernel_rfl)
theorem door_tab : (Rows.laid_math_bits_deBruijn64tab : DataW Unit) = .agg (tzTab.map fun (n : Nat) => .lit (.int .u8 (n : Int))) := rfl
theorem door_c8 : Tryd.prog.cellsOf 5 = 1 := by kernel_rfl
theorem tabs_of_laid {W : World} (h : laidMetH Tryd.prog doorLaid2 W) : Tabs W := by
  rw [MakeChecks.laidMetH_plain _ _ _ (by kernel_rfl)] at h
  obtain ⟨ps, ⟨g0, t0, cs0, f0, p0, q0, hg0, ht0, hv0, hd0, ⟨g1, t1, cs1, f1, p1, q1, hg1, ht1, hv1, hd1, _, _⟩, _⟩, _, _⟩ := h
  obtain rfl := Option.some.inj (door_g64.symm.trans hg1)
  obtain rfl := Option.some.inj (door_t64.symm.trans ht1)
  obtain ⟨xs, m1, rfl, hx1, hlen, hn, hel⟩ := DataW.trod_array Tryd.underlying105 hd1
  simp only [Prod.mk.injEq] at hx1
  have hl := hx1.1
  rw [door_tab] at hl
  simp only [DataW.agg.injEq] at hl
  intro i hi
  have h0 := hel i hi
  obtain ⟨x, hx⟩ : ∃ x, xs[i]? = some x := ⟨xs[i], by simp [hn, hi]⟩
  rw [hx] at h0
  obtain ⟨k, e1, e2, _⟩ := DataW.trod_int Tryd.underlying5 h0
  have hk := congrArg (fun l => l[i]?) hl
  simp only [List.getElem?_map, hx, Option.map_some, e2] at hk
  have ht : tzTab[i]? = some (tzTab.getD i 0) := by
    rw [List.getD_eq_getElem?_getD]
    have hlen : tzTab.length = 64 := by decide
    rw [List.getElem?_eq_getElem (by omega)]; rfl
  rw [ht] at hk
  simp only [Option.map_some, Option.some.injEq, DataW.lit.injEq, Lit.int.injEq, true_and] at hk
  rw [door_c8, Nat.mul_one] at e1
  have hc := World.var?_cell hg1 hv1 i
  rw [hc]
  have : cs1.toList[i]? = some (.int .u8 k) := by
    have := congrArg (fun l => l[0]?) e1
    simpa using this
  rw [← Array.getElem?_toList, this, hk]

end Go.Proofs.YtnjmiodnkjabgaaDoor.P
namespace Go.Proofs.YtnjmiodnkjabgaaDoor.chordsPrimes
open Go.ChangeShapes Go.WideShapes Go.ChangeAt Go.RowKit
open Go.ChangeMaps (open_string shut_string)
set_option linter.unusedVariables false
theorem own : ownKnob Tryd.prog.godebug = none := by kernel_rfl
set_option maxRecDepth 100000 in
theorem lifted (os : Os) (started : os.Started) (H : Type) (enc : TypeId × Value → H) :
    ReturnsInHanded {} Tryd.checked os 7 .any (fun w args => (Rows.chordsPrimesSpec.pre enc Tryd.prog Tryd.f7 [] false w args ∧ laidMetH Tryd.prog P.doorLaid2 w) ∧ sizedMet enc Tryd.prog Tryd.f7 (OpenSpec.ofChange Rows.chordsPrimesSpec) false w args) (Rows.chordsPrimesSpec.post enc Tryd.prog Tryd.f7 false true false false) := by
  refine returnsInHanded_of_change_and (C := Tryd.checked) (X := fun w _ => laidMetH Tryd.prog P.doorLaid2 w) (fun _ _ _ hh h => h.of_heap hh) own started (by kernel_rfl) Tryd.func7
    (ChangeSpec.witness_shaped (enc := enc) (C := Tryd.checked) (os := os) (X := fun w _ => laidMetH Tryd.prog P.doorLaid2 w) false (World.doorLaid Tryd.prog 19 os) #[.int .i64 0, .int .i64 0] 8 rfl (World.shaped_of_RefB (by kernel_rfl) (by kernel_rfl)) (by kernel_rfl) (by kernel_rfl) (by kernel_rfl) (P.door_met os _)) ?_
  intro W base args ds gs before hval0 hW hcnd hsz0 hL _
  have hsz : (DataW.weightsEach Tryd.prog (Tryd.f7.params.toList ++ Rows.chordsPrimesSpec.plain.varTypes Tryd.prog) (ds ++ gs)).all (· ≤ reachBytes) = true := hsz0
  have hval : ∀ (j : Nat) t v, Tryd.f7.params[j]? = some t → args[j]? = some v → Value.okWide Tryd.prog W .any base t v := hval0
  have hW' := hW
  obtain ⟨p, q, hA0, hV, rfl, hfz, hnd⟩ := hW
  have hA : DataW.TrodAll enc Tryd.prog W 0 (fun _ => true) true Tryd.f7.params.toList args.toList ds p := hA0
  rw [Tryd.params7] at hA hval hsz
  obtain ⟨v0, vs0, d0, ds0, p0, q0, hargs, rfl, rfl, h0, r0⟩ := trodAll_cons hA
  obtain ⟨v1, vs1, d1, ds1, p1, q1, rfl, rfl, rfl, h1, r1⟩ := trodAll_cons r0
  obtain ⟨rfl, rfl, rfl⟩ := trodAll_nil r1
  obtain rfl : args = #[v0, v1] := by cases args; simp_all
  obtain ⟨rfl, rfl⟩ := trodVars_none hV
  obtain ⟨a0, rfl, rfl, rfl, w0⟩ := open_int Tryd.underlying3 (hval 0 3 v0 rfl rfl) h0
  obtain ⟨a1, rfl, rfl, rfl, w1⟩ := open_int Tryd.underlying3 (hval 1 3 v1 rfl rfl) h1
  clear hA0 hval0 hsz0 hsz
  refine (P.sackbutlaw01_ChordsPrimes.walk Pure.ChordsPrimes a0 a1 W (P.tabs_of_laid hL) w0 w1).mono fun e W' ⟨he, bel⟩ => ?_
  subst he
  exact ⟨_, rfl, _, _, _, [], _, [], hW', trodAll_mk1 (shut_bool Tryd.underlying4 _), (trodAll_cons_mk (shut_int Tryd.underlying3 w0) (trodAll_cons_mk (shut_int Tryd.underlying3 w1) trodAll_mk0)), rfl, bel.frame _, fun h => by cases h⟩
theorem over : Rows.chordsPrimesRow.holds Tryd.pinned (OpenSpec.ofChange Rows.chordsPrimesSpec) :=
  OpenClaim.holds_of_wide 7 Tryd.f7 rfl rfl rfl rfl rfl rfl rfl ⟨rfl, rfl, rfl, rfl, rfl⟩ rfl rfl rfl rfl rfl (by kernel_rfl) Tryd.func7 (by kernel_rfl)
    (of_decide_eq_true (by kernel_rfl)) (by unfold Func.isWrapper; first | (rw [if_pos (by decide +kernel)]; kernel_rfl) | (rw [if_neg (by decide +kernel)]; exact ⟨rfl, rfl⟩))
    (fun os started H enc _ => lifted os started H enc)
theorem proved : Rows.ChordsPrimesSaid := over
#print axioms proved
end Go.Proofs.YtnjmiodnkjabgaaDoor.chordsPrimes
namespace Go.Proofs.YtnjmiodnkjabgaaDoor
theorem chordsPrimes_row : Rows.ChordsPrimesSaid := chordsPrimes.proved
/-- The tied card, for the claim. -/
theorem chordsPrimes_holds : Rows.ChordsPrimesCardSaid :=
  Claim7.holds_tied_plain_at .later [] [.data, .data] true (true, "ac7f7780cdb4c7dbab2161a7813cee9650f1d8372274689d9bbe8f184084de4f") false
    chordsPrimes_row (fun _ h => by cases h) (by kernel_rfl) (fun _ h => by cases h) chordsPrimes_row_tie rfl ⟨rfl, rfl⟩ (by kernel_rfl) rfl
    (fun f fn hf hfn => by
      obtain rfl : f = 7 := Option.some.inj ((show Tryd.prog.funcNamed "sackbut/sackbutlaw01.ChordsPrimes" = some 7 by kernel_rfl).symm.trans hf) |>.symm
      obtain rfl : fn = Tryd.f7 := (Option.some.inj (Tryd.func7.symm.trans hfn)).symm
      exact ⟨by kernel_rfl, fun j t ht => by
        rw [Tryd.params7] at ht
        have hm : t ∈ [3, 3] := by simpa using Array.mem_of_getElem? ht
        have hall : ([3, 3].all fun u => !Tryd.prog.wantsStandIn u) = true := by kernel_rfl
        exact (show Tryd.prog.wantsStandIn t = false by simpa using List.all_eq_true.1 hall t hm)⟩)
    (by kernel_rfl)
end Go.Proofs.YtnjmiodnkjabgaaDoor
