/- Proved here: the Go function sackbuttop.TopHalves returns true for every input (its printed form comes to true), whatever its arguments. Conditions: none beyond the row's own reach in memory. -/
import Derived.LaidMore
import Derived.Stop.Joined
import Derived.ProofKit
import Derived.OpenShut
import Derived.Test.YtfpnojcbhbkfaaaDoorRows
import Derived.WalkKit
import Derived.ShutString
import Derived.ChangeOld
import Derived.Below
import Derived.SizedLaws
import Derived.SevenTiedAt
import Derived.Test.YtfpnojcbhbkfaaaDoorCards
import Derived.Test.YtfpnojcbhbkfaaaDoorTie
import Derived.Test.YtfpnojcbhbkfaaaDoorWSized
import Derived.Test.YtfpnojcbhbkfaaaDoorCTopHalves1
import Derived.Test.YtfpnojcbhbkfaaaDoorCTopHalves2
import Derived.Test.YtfpnojcbhbkfaaaDoorCTopHalves4
import Derived.Test.YtfpnojcbhbkfaaaDoorCTopHalves5
import Derived.Test.YtfpnojcbhbkfaaaDoorCTopHalves6
import Derived.Test.YtfpnojcbhbkfaaaDoorCTopHalves7
namespace Go.Proofs.YtfpnojcbhbkfaaaDoor.P
open Go.RowKit Go.Proofs.YtfpnojcbhbkfaaaDoorW.PrintWords Go.Proofs.YtfpnojcbhbkfaaaDoorW.PrintLast Go.Proofs.YtfpnojcbhbkfaaaDoorW.PrintMore
attribute [local go_sem] max2_int min2_int max_two min_two max_three min_three max_four min_four   -- for this text's walks alone
set_option linter.unusedVariables false
set_option linter.unusedSimpArgs false

/-! what the functions on chords come to -/
def ValidC (n c : Int) : Prop := 2 ≤ n ∧ n ≤ 16 ∧ 0 ≤ c ∧ c < 2 ^ n.toNat
instance (n c : Int) : Decidable (ValidC n c) := by unfold ValidC; infer_instance
theorem shl_n {n : Int} (h0 : 0 ≤ n) (h : n ≤ 62) : shl .i64 1 n = 2 ^ n.toNat := by
  obtain ⟨m, rfl⟩ := Int.eq_ofNat_of_zero_le h0
  rw [shl1_i64 (by omega), pow_cast, Int.toNat_natCast]
theorem badChord_iff {n c : Int} (h2 : 2 ≤ n) (h16 : n ≤ 16) : badChord n c = false ↔ ValidC n c := by
  unfold badChord ValidC
  rw [shl_n (by omega) (by omega), Bool.or_eq_false_iff, decide_eq_false_iff_not, decide_eq_false_iff_not]
  omega
theorem valid1_f (n c : Int) : chords_circle_valid.f n [c] = some (decide (ValidC n c)) := by
  unfold chords_circle_valid.f
  by_cases h2 : n ≥ 2
  · by_cases h16 : n ≤ 16
    · rw [if_pos h2, if_pos h16, if_pos (by simp)]
      congr 1
      have := badChord_iff (c := c) h2 h16
      rw [Bool.eq_iff_iff]
      simp only [List.any_cons, List.any_nil, Bool.or_false, Bool.not_eq_true', decide_eq_true_eq]
      exact this
    · rw [if_pos h2, if_neg h16]
      have : ¬ ValidC n c := fun h => h16 h.2.1
      simp [this]
  · rw [if_neg h2]
    have : ¬ ValidC n c := fun h => h2 h.1
    simp [this]
theorem valid2_f (n a b : Int) : chords_circle_valid.f n [a, b] = some (decide (ValidC n a ∧ ValidC n b)) := by
  unfold chords_circle_valid.f
  by_cases h2 : n ≥ 2
  · by_cases h16 : n ≤ 16
    · rw [if_pos h2, if_pos h16, if_pos (by simp)]
      congr 1
      have h1 := badChord_iff (c := a) h2 h16
      have h2 := badChord_iff (c := b) h2 h16
      rw [Bool.eq_iff_iff]
      simp only [List.any_cons, List.any_nil, Bool.or_false, Bool.not_eq_true', decide_eq_true_eq, Bool.or_eq_false_iff]
      rw [h1, h2]
    · rw [if_pos h2, if_neg h16]
      have : ¬ (ValidC n a ∧ ValidC n b) := fun h => h16 h.1.2.1
      simp [this]
  · rw [if_neg h2]
    have : ¬ (ValidC n a ∧ ValidC n b) := fun h => h2 h.1.1
    simp [this]
theorem validC_nat {n c : Int} (h : ValidC n c) : ∃ N C : Nat, n = N ∧ c = C ∧ 2 ≤ N ∧ N ≤ 16 ∧ C < 2 ^ N := by
  obtain ⟨h1, h2, h3, h4⟩ := h
  obtain ⟨N, rfl⟩ := Int.eq_ofNat_of_zero_le (show 0 ≤ n by omega)
  obtain ⟨C, rfl⟩ := Int.eq_ofNat_of_zero_le h3
  rw [Int.toNat_natCast, ← pow_cast] at h4
  exact ⟨N, C, rfl, rfl, by omega, by omega, by omega⟩
theorem pow16 {n : Nat} (h : n ≤ 16) : 2 ^ n ≤ 65536 := by
  have : 2 ^ n ≤ 2 ^ 16 := Nat.pow_le_pow_right (by omega) h
  omega
theorem count_f {n a : Nat} (hn : n ≤ 24) (ha : a < 2 ^ n) : chords_count.f (a : Int) = some (chSize n a : Int) := by
  unfold chords_count.f
  rw [OnesCount_f hn ha]
  rfl
theorem move_f {n c : Nat} (k : Int) (hn : 1 ≤ n) (hn2 : n ≤ 24) (hc : c < 2 ^ n) : chords_circle_move.f (n : Int) (c : Int) k = some (moveN n c (k % n).toNat : Int) := by
  unfold chords_circle_move.f
  rw [if_neg (by omega), tmod_mod (by omega) (by omega)]
  have h0 := Int.emod_nonneg k (show (n : Int) ≠ 0 by omega)
  have h1 := Int.emod_lt_of_pos k (show (0 : Int) < n by omega)
  obtain ⟨j, hj⟩ := Int.eq_ofNat_of_zero_le h0
  rw [hj] at h1 ⊢
  have hjn : j < n := by omega
  have hw : wrap64 ((n : Int) - (j : Int)) = ((n - j : Nat) : Int) := by rw [wrap_id (by omega) (by omega)]; omega
  have hp : 2 ^ n ≤ 2 ^ 24 := Nat.pow_le_pow_right (by omega) hn2
  have hpj : 2 ^ j ≤ 2 ^ 24 := Nat.pow_le_pow_right (by omega) (by omega)
  have h24 : (2 : Nat) ^ 24 = 16777216 := by decide
  have h63 : (2 : Nat) ^ 63 = 9223372036854775808 := by decide
  have hm : c * 2 ^ j < 2 ^ 63 := by
    have : c * 2 ^ j ≤ 16777216 * 16777216 := Nat.mul_le_mul (by omega) (by omega)
    omega
  have hw2 : wrap64 (shl .i64 1 (n : Int) - 1) = ((2 ^ n - 1 : Nat) : Int) := by
    rw [shl1_i64 (by omega), wrap_id (by omega) (by omega)]
    have := Nat.two_pow_pos n
    omega
  have hd : c / 2 ^ (n - j) < 2 ^ 63 := Nat.lt_of_le_of_lt (Nat.div_le_self _ _) (by omega)
  have hor : c * 2 ^ j ||| c / 2 ^ (n - j) < 2 ^ 63 := Nat.or_lt_two_pow hm hd
  rw [hw, if_pos (by omega), if_pos (by omega), if_pos (by omega), hw2, shl_i64 (by omega) hm, shr_i64 _ _ (by omega), or_i64 hm hd, and_i64 hor (by omega), Int.toNat_natCast]
  unfold moveN
  rfl
theorem and_chord {n a b : Nat} (hn : n ≤ 24) (ha : a < 2 ^ n) (hb : b < 2 ^ n) : Go.bits .and .i64 (a : Int) (b : Int) = ((a &&& b : Nat) : Int) := by
  have hp : 2 ^ n ≤ 2 ^ 24 := Nat.pow_le_pow_right (by omega) hn
  have h24 : (2 : Nat) ^ 24 = 16777216 := by decide
  have h63 : (2 : Nat) ^ 63 = 9223372036854775808 := by decide
  exact and_i64 (by omega) (by omega)
theorem common_f {n a b : Nat} {d : Nat} (hn : 1 ≤ n) (hn2 : n ≤ 24) (ha : a < 2 ^ n) (hb : b < 2 ^ n) (hd : d < n) :
    ((chords_circle_move.f (n : Int) (b : Int) (d : Int)).bind fun t => chords_count.f (Go.bits .and .i64 (a : Int) t)) = some (common n a b d : Int) := by
  rw [move_f (d : Int) hn hn2 hb]
  have : ((d : Int) % (n : Int)).toNat = d := by rw [Int.emod_eq_of_lt (by omega) (by omega)]; omega
  rw [this, Option.bind_some, and_chord hn2 ha (moveN_lt n b d), count_f hn2 (Nat.lt_of_le_of_lt Nat.and_le_left ha), chSize_and_move hb hd]
theorem half_f (n : Nat) (hn : n ≤ 24) : wrap64 (Int.tdiv (n : Int) 2) = ((n / 2 : Nat) : Int) := by
  rw [Int.tdiv_eq_ediv_of_nonneg (by omega), wrap_id (by omega) (by omega)]; omega
theorem vector_loop {n c : Nat} (hn : 2 ≤ n) (hn2 : n ≤ 24) (hc : c < 2 ^ n) : ∀ (m d : Nat), d + m = n / 2 →
    Ev (fun k => chords_circle_vector.l0 k (n : Int) (c : Int) ((List.range d).map (fun i => (vecAt n c (i + 1) : Int))) ((d : Int) + 1)) (vecOf n c) := by
  intro m
  induction m with
  | zero =>
    intro d hd
    refine Ev.succ ?_
    simp only [chords_circle_vector.l0, half_f n hn2, if_neg (show ¬ (d : Int) + 1 ≤ ((n / 2 : Nat) : Int) by omega)]
    have : d = n / 2 := by omega
    rw [this]
    rw [vecOf_eq]
    exact Ev.some _
  | succ m ih =>
    intro d hd
    refine Ev.succ ?_
    have hcm := common_f (n := n) (a := c) (b := c) (d := d + 1) (by omega) hn2 hc hc (by omega)
    rw [show ((d + 1 : Nat) : Int) = (d : Int) + 1 by omega] at hcm
    obtain ⟨t, ht, ht2⟩ := Option.bind_eq_some_iff.1 hcm
    have hw : wrap64 (2 * ((d : Int) + 1)) = 2 * ((d : Int) + 1) := wrap_id (by omega) (by omega)
    have hw2 : wrap64 ((d : Int) + 1 + 1) = ((d + 1 : Nat) : Int) + 1 := by rw [wrap_id (by omega) (by omega)]; omega
    have hlen : ((List.range d).map (fun i => (vecAt n c (i + 1) : Int))).length < 17592186044416 := by simp; omega
    have hle := common_le n c c (d + 1)
    have hdiv : wrap64 (Int.tdiv (common n c c (d + 1) : Int) 2) = ((common n c c (d + 1) / 2 : Nat) : Int) := by
      rw [Int.tdiv_eq_ediv_of_nonneg (by omega), wrap_id (by omega) (by omega)]; omega
    simp only [chords_circle_vector.l0, half_f n hn2, if_pos (show (d : Int) + 1 ≤ ((n / 2 : Nat) : Int) by omega)]
    refine Ev.bind_some ht ?_
    refine Ev.bind_some ht2 ?_
    simp only [hw, hw2, if_pos hlen, hdiv]
    have go : ∀ v : Nat, v = vecAt n c (d + 1) → Ev (fun k => chords_circle_vector.l0 k (n : Int) (c : Int) ((List.range d).map (fun i => (vecAt n c (i + 1) : Int)) ++ [(v : Int)]) (((d + 1 : Nat) : Int) + 1)) (vecOf n c) := by
      rintro v rfl
      have := ih (d + 1) (by omega)
      simp only [List.range_succ, List.map_append, List.map_cons, List.map_nil] at this
      exact this
    refine Ev.ite (fun e => go _ ?_) (fun e => go _ ?_)
    · unfold vecAt; rw [if_pos (by omega)]
    · unfold vecAt; rw [if_neg (by omega)]
theorem vector_ev {n c : Nat} (hn : 2 ≤ n) (hn2 : n ≤ 24) (hc : c < 2 ^ n) : Ev (fun k => chords_circle_vector.f k (n : Int) (c : Int)) (vecOf n c) := by
  have := vector_loop hn hn2 hc (n / 2) 0 (by omega)
  simpa [chords_circle_vector.f] using this
theorem Vector_ev (n c : Int) : Ev (fun k => chords_Vector.f k n c) (if ValidC n c then (vecOf n.toNat c.toNat, 0) else ([], 2)) := by
  unfold chords_Vector.f
  refine Ev.bind_some (valid1_f n c) ?_
  by_cases h : ValidC n c
  · simp only [h, decide_true, if_true]
    obtain ⟨N, C, rfl, rfl, h2, h16, hC⟩ := validC_nat h
    simp only [Int.toNat_natCast]
    exact Ev.bind (vector_ev h2 (by omega) hC) (Ev.some _)
  · simp only [h, decide_false, Bool.false_eq_true, if_false]
    exact Ev.some _

end Go.Proofs.YtfpnojcbhbkfaaaDoor.P
namespace Go.Proofs.YtfpnojcbhbkfaaaDoor.P
open Go.RowKit Go.Proofs.YtfpnojcbhbkfaaaDoorW.PrintWords Go.Proofs.YtfpnojcbhbkfaaaDoorW.PrintLast Go.Proofs.YtfpnojcbhbkfaaaDoorW.PrintMore
attribute [local go_sem] max2_int min2_int max_two min_two max_three min_three max_four min_four   -- for this text's walks alone
set_option linter.unusedVariables false
set_option linter.unusedSimpArgs false

/-! the other tones -/
theorem common_compl {n c d : Nat} (hc : c < 2 ^ n) (hd : d < n) : common n (compl n c) (compl n c) d + 2 * chSize n c = n + common n c c d := by
  have h1 : common n (compl n c) (compl n c) d = cnt n (fun i => !c.testBit i && !c.testBit ((i + (n - d)) % n)) := by
    rw [common_cnt]
    exact cnt_congr (fun i hi => by rw [testBit_compl hc hi, testBit_compl hc (Nat.mod_lt _ (by omega))])
  have h2 := cnt_neither (n := n) c.testBit (fun i => c.testBit ((i + (n - d)) % n))
  have h3 := cnt_shift (n := n) (n - d) c.testBit
  have h4 := chSize_cnt n c
  have h5 := common_cnt n c c d
  omega
theorem vecAt_compl {n c d : Nat} (hc : c < 2 ^ n) (hd : d < n) :
    (vecAt n (compl n c) d : Int) - vecAt n c d = if 2 * (d : Int) = (n : Int) then ((n / 2 : Nat) : Int) - (chSize n c : Int) else (n : Int) - 2 * (chSize n c : Int) := by
  have h := common_compl hc hd
  unfold vecAt
  by_cases e : 2 * d = n
  · rw [if_pos e, if_pos e, if_pos (by omega)]; omega
  · rw [if_neg e, if_neg e, if_neg (by omega)]; omega

end Go.Proofs.YtfpnojcbhbkfaaaDoor.P
namespace Go.Proofs.YtfpnojcbhbkfaaaDoor.P
open Go.RowKit Go.Proofs.YtfpnojcbhbkfaaaDoorW.PrintWords Go.Proofs.YtfpnojcbhbkfaaaDoorW.PrintLast Go.Proofs.YtfpnojcbhbkfaaaDoorW.PrintMore
attribute [local go_sem] max2_int min2_int max_two min_two max_three min_three max_four min_four   -- for this text's walks alone
set_option linter.unusedVariables false
set_option linter.unusedSimpArgs false

/-! slices.Contains at pairs -/
theorem Index37_loop (l : List S38) (a b : Int) (hl : l.length < 1000) : ∀ (m i : Nat), i + m = l.length → ∃ r, Ev (fun k => slices_Index_2_int_2_int.l0 k l (l.length : Int) (i : Int) a b) r ∧ decide (r ≥ 0) = (l.drop i).any fun x => a == x.f0 && b == x.f1 := by
  intro m
  induction m with
  | zero =>
    intro i hi
    refine ⟨-1, Ev.succ ?_, ?_⟩
    · simp only [slices_Index_2_int_2_int.l0, if_neg (show ¬ (i : Int) < (l.length : Int) by omega)]
      exact Ev.some _
    · rw [List.drop_eq_nil_of_le (by omega)]; rfl
  | succ m ih =>
    intro i hi
    have hil : i < l.length := by omega
    have hw : wrap64 ((i : Int) + 1) = ((i + 1 : Nat) : Int) := by rw [wrap_id (by omega) (by omega)]; omega
    have hrd : rd_T38 l (i : Int) = l[i] := by unfold rd_T38; rw [Int.toNat_natCast, List.getD_eq_getElem?_getD, List.getElem?_eq_getElem hil]; rfl
    obtain ⟨r, h1, h2⟩ := ih (i + 1) (by omega)
    rw [List.drop_eq_getElem_cons hil, List.any_cons]
    by_cases he : (a == l[i].f0 && b == l[i].f1) = true
    · refine ⟨(i : Int), Ev.succ ?_, ?_⟩
      · simp only [slices_Index_2_int_2_int.l0, if_pos (show (i : Int) < (l.length : Int) by omega), if_pos (show (0 : Int) ≤ (i : Int) by omega), hrd, he, if_true]
        exact Ev.some _
      · rw [he, Bool.true_or]; exact decide_eq_true (by omega)
    · refine ⟨r, Ev.succ ?_, ?_⟩
      · simp only [slices_Index_2_int_2_int.l0, if_pos (show (i : Int) < (l.length : Int) by omega), if_pos (show (0 : Int) ≤ (i : Int) by omega), hrd, he, Bool.false_eq_true, if_false, hw]
        exact h1
      · rw [h2]
        have : (a == l[i].f0 && b == l[i].f1) = false := by simpa using he
        rw [this, Bool.false_or]
theorem Contains37_ev (l : List S38) (a b : Int) (hl : l.length < 1000) : Ev (fun k => slices_Contains_2_int_2_int.f k l a b) (l.any fun x => a == x.f0 && b == x.f1) := by
  obtain ⟨r, h1, h2⟩ := Index37_loop l a b hl l.length 0 (by omega)
  unfold slices_Contains_2_int_2_int.f
  refine Ev.bind (show Ev (fun k => slices_Index_2_int_2_int.f k l a b) r from h1) ?_
  rw [h2]
  exact Ev.some _
theorem withTo_any (l : List Int) {kind k : Nat} (h4 : kind < 4) (hk : k < l.length) : ((withTo l (formPairs l.length)).any fun x => (kind : Int) == x.f0 && (k : Int) == x.f1) = togB l (kind, k) := by
  obtain ⟨rest, hr⟩ := formPairs_split (n := l.length) h4 hk
  have hm : (kind, k) ∈ formPairs l.length := by rw [hr]; simp
  rw [Bool.eq_iff_iff, List.any_eq_true]
  unfold withTo
  constructor
  · rintro ⟨x, hx, he⟩
    obtain ⟨p, hp, rfl⟩ := List.mem_map.1 hx
    simp only [Bool.and_eq_true, beq_iff_eq] at he
    have e1 : p.1 = kind := by omega
    have e2 : p.2 = k := by omega
    have := (List.mem_filter.1 hp).2
    rw [← e1, ← e2]; exact this
  · intro ht
    exact ⟨⟨(kind : Int), (k : Int)⟩, List.mem_map.2 ⟨(kind, k), List.mem_filter.2 ⟨hm, ht⟩, rfl⟩, by simp⟩

end Go.Proofs.YtfpnojcbhbkfaaaDoor.P
namespace Go.Proofs.YtfpnojcbhbkfaaaDoor.P
open Go.RowKit Go.Proofs.YtfpnojcbhbkfaaaDoorW.PrintWords Go.Proofs.YtfpnojcbhbkfaaaDoorW.PrintLast Go.Proofs.YtfpnojcbhbkfaaaDoorW.PrintMore
attribute [local go_sem] max2_int min2_int max_two min_two max_three min_three max_four min_four   -- for this text's walks alone
set_option linter.unusedVariables false
set_option linter.unusedSimpArgs false

/-! slices.Equal -/
theorem Equal_loop (l0 l1 : List Int) (hlen : l0.length = l1.length) (hb : l0.length < 9223372036854775807) : ∀ (xs ys pre pre1 : List Int), l0 = pre ++ xs → l1 = pre1 ++ ys → pre.length = pre1.length →
    Ev (fun k => slices_Equal_int_int.l0 k l0 l1 (l0.length : Int) (pre.length : Int)) (decide (xs = ys)) := by
  intro xs
  induction xs with
  | nil =>
    intro ys pre pre1 h0 h1 hp
    have hy : ys = [] := by
      have := congrArg List.length h0; have := congrArg List.length h1
      simp at *
      exact List.eq_nil_of_length_eq_zero (by omega)
    subst hy
    refine Ev.succ ?_
    simp only [slices_Equal_int_int.l0, if_neg (mid_end h0)]
    simpa using Ev.some true
  | cons x xs ih =>
    intro ys pre pre1 h0 h1 hp
    cases ys with
    | nil => exfalso; have := congrArg List.length h0; have := congrArg List.length h1; simp at *; omega
    | cons y ys =>
      have r1 : rd l1 (pre.length : Int) = y := by rw [hp]; exact mid_rd h1
      have l1' : (pre.length : Int) < (l1.length : Int) := by rw [hp]; exact mid_lt h1
      refine Ev.succ ?_
      simp only [slices_Equal_int_int.l0, if_pos (mid_lt h0), if_pos (show (0 : Int) ≤ (pre.length : Int) by omega), if_pos l1', mid_rd h0, r1, mid_next h0 hb]
      refine Ev.ite (fun e => ?_) (fun e => ?_)
      · have := ih ys (pre ++ [x]) (pre1 ++ [y]) (mid_mv h0) (mid_mv h1) (by simp [hp])
        simpa [e] using this
      · simpa [e] using Ev.some false
theorem Equal_ev (l0 l1 : List Int) (hb : l0.length < 9223372036854775807) : Ev (fun k => slices_Equal_int_int.f k l0 l1) (decide (l0 = l1)) := by
  unfold slices_Equal_int_int.f
  refine Ev.ite (fun e => ?_) (fun e => ?_)
  · exact Equal_loop l0 l1 (by omega) hb l0 l1 [] [] rfl rfl rfl
  · have : l0 ≠ l1 := fun h => e (by rw [h])
    simpa [this] using Ev.some false


end Go.Proofs.YtfpnojcbhbkfaaaDoor.P
namespace Go.Proofs.YtfpnojcbhbkfaaaDoor.P
open Go.RowKit Go.Proofs.YtfpnojcbhbkfaaaDoorW.PrintWords Go.Proofs.YtfpnojcbhbkfaaaDoorW.PrintLast Go.Proofs.YtfpnojcbhbkfaaaDoorW.PrintMore
attribute [local go_sem] max2_int min2_int max_two min_two max_three min_three max_four min_four   -- for this text's walks alone
set_option linter.unusedVariables false
set_option linter.unusedSimpArgs false

/-! small numbers -/
theorem clone_small {x : List Int} (hx : x.length < 100) : slices_Clone_int_int.f x = some x := by
  unfold slices_Clone_int_int.f; rw [if_pos (by omega)]
theorem umod_nat (a : Int) (n : Nat) (hn : 1 ≤ n) (hn2 : n ≤ 1000) : ∃ k : Nat, wrap64 (Int.tmod (IntKind.u64.wrap a) (n : Int)) = (k : Int) ∧ k < n := by
  have g0 : 0 ≤ IntKind.u64.wrap a := by rw [IntKind.wrap_u64]; omega
  rw [Int.tmod_eq_emod_of_nonneg g0]
  have g1 := Int.emod_nonneg (IntKind.u64.wrap a) (show (n : Int) ≠ 0 by omega)
  have g2 := Int.emod_lt_of_pos (IntKind.u64.wrap a) (show (0 : Int) < n by omega)
  generalize IntKind.u64.wrap a % (n : Int) = z at g1 g2
  refine ⟨z.toNat, ?_, by omega⟩
  rw [wrap_id (by omega) (by omega)]; omega
theorem u64_small {n : Nat} (h : n ≤ 1000) : IntKind.u64.wrap (n : Int) = (n : Int) := by rw [IntKind.wrap_u64]; omega

end Go.Proofs.YtfpnojcbhbkfaaaDoor.P
namespace Go.Proofs.YtfpnojcbhbkfaaaDoor.P
open Go.RowKit Go.Proofs.YtfpnojcbhbkfaaaDoorW.PrintWords Go.Proofs.YtfpnojcbhbkfaaaDoorW.PrintLast Go.Proofs.YtfpnojcbhbkfaaaDoorW.PrintMore
attribute [local go_sem] max2_int min2_int max_two min_two max_three min_three max_four min_four   -- for this text's walks alone
set_option linter.unusedVariables false
set_option linter.unusedSimpArgs false

/-! steps -/
def stepsOf (n : Int) : List Int → List Int
  | x :: y :: r => (y - x) % n :: stepsOf n (y :: r)
  | _ => []
theorem row_bounds {l : List Int} (h : IsRow l) : ∀ x ∈ l, 0 ≤ x ∧ x < 4611686018427387904 := fun x hx => by have := h.2.2.1 x hx; have := h.2.1; omega
theorem steps_loop (l : List Int) (n : Nat) (hn : n = l.length) (h1 : 1 ≤ n) (hb : n ≤ 62) (hr : ∀ x ∈ l, 0 ≤ x ∧ x < 4611686018427387904) : ∀ (xs pre : List Int) (p : Int) (acc : List Int), l = pre ++ p :: xs → acc.length = pre.length →
    Ev (fun k => rows_row_steps.l0 k l acc ((pre.length : Int) + 1)) (acc ++ stepsOf n (p :: xs)) := by
  intro xs
  induction xs with
  | nil =>
    intro pre p acc h0 ha
    refine Ev.succ ?_
    have : ¬ ((pre.length : Int) + 1 < (l.length : Int)) := by subst h0; simp
    simp only [rows_row_steps.l0, if_neg this, stepsOf, List.append_nil]
    exact Ev.some _
  | cons x xs ih =>
    intro pre p acc h0 ha
    have hm : l = (pre ++ [p]) ++ x :: xs := mid_mv h0
    have hi : ((pre.length : Int) + 1) = ((pre ++ [p]).length : Int) := by simp
    have hlen : pre.length + 1 < l.length := by rw [h0]; simp
    have hw : wrap64 ((pre.length : Int) + 1 - 1) = (pre.length : Int) := by rw [wrap_id (by omega) (by omega)]; omega
    have hx := hr x (by rw [hm]; simp)
    have hp := hr p (by rw [h0]; simp)
    have hs : wrap64 (x - p) = x - p := wrap_id (by omega) (by omega)
    have hlt : ((pre.length : Int) + 1 < (l.length : Int)) := by omega
    refine Ev.succ ?_
    simp only [rows_row_steps.l0, if_pos hlt, if_pos (show (0 : Int) ≤ (pre.length : Int) + 1 by omega), hw, if_pos (show (0 : Int) ≤ (pre.length : Int) by omega), if_pos (mid_lt h0), mid_rd h0]
    rw [hi]
    simp only [mid_rd hm, hs, rows_mod_f (show (0 : Int) < (l.length : Int) by omega) (show (l.length : Int) < 4611686018427387904 by omega), Option.bind_some, if_pos (show acc.length < 17592186044416 by omega), mid_next hm (by omega)]
    have := ih (pre ++ [p]) x (acc ++ [(x - p) % (l.length : Int)]) hm (by simp [ha])
    have e : ((pre ++ [p] ++ [x]).length : Int) = ((pre ++ [p]).length : Int) + 1 := by simp; omega
    rw [e]
    simpa [stepsOf, hn] using this
theorem steps_ev (l : List Int) (h1 : 1 ≤ l.length) (hb : l.length ≤ 62) (hr : ∀ x ∈ l, 0 ≤ x ∧ x < 4611686018427387904) : Ev (fun k => rows_row_steps.f k l) (stepsOf l.length l) := by
  cases l with
  | nil => simp at h1
  | cons p xs => exact steps_loop (p :: xs) _ rfl h1 hb hr xs [] p [] rfl rfl
theorem Steps_ev (l : List Int) : Ev (fun k => rows_Steps.f k l) (if IsRow l then (stepsOf l.length l, 0) else ([], 2)) := by
  unfold rows_Steps.f
  refine Ev.bind (valid_ev l) ?_
  by_cases h : IsRow l
  · simp only [h, decide_true, if_true]
    have h1 := h.1; have h2 := h.2.1
    exact Ev.bind (steps_ev l (by omega) (by omega) (row_bounds h)) (Ev.some _)
  · simp only [h, decide_false, if_false]
    exact Ev.some _

end Go.Proofs.YtfpnojcbhbkfaaaDoor.P
namespace Go.Proofs.YtfpnojcbhbkfaaaDoor.P
open Go.RowKit Go.Proofs.YtfpnojcbhbkfaaaDoorW.PrintWords Go.Proofs.YtfpnojcbhbkfaaaDoorW.PrintLast Go.Proofs.YtfpnojcbhbkfaaaDoorW.PrintMore
attribute [local go_sem] max2_int min2_int max_two min_two max_three min_three max_four min_four   -- for this text's walks alone
set_option linter.unusedVariables false
set_option linter.unusedSimpArgs false

/-! lengths of what goes with a row -/
theorem withTo_length (l : List Int) (ps : List (Nat × Nat)) : (withTo l ps).length ≤ ps.length := by unfold withTo; rw [List.length_map]; exact List.length_filter_le _ _
theorem pairsTo_length (n kind k : Nat) : (pairsTo n kind k).length = kind * n + k := by
  unfold pairsTo
  rw [List.length_append, List.length_map, List.length_range]
  congr 1
  induction kind with
  | zero => simp
  | succ q ih => rw [List.range_succ, List.flatMap_append, List.length_append, ih]; simp [Nat.succ_mul]
theorem withTo_small {l : List Int} (h : l.length ≤ 10) {kind k : Nat} (hk : kind ≤ 4) (hk2 : k ≤ l.length) : (withTo l (pairsTo l.length kind k)).length < 1000 := by
  have hpl := pairsTo_length l.length kind k
  have hwl := withTo_length l (pairsTo l.length kind k)
  have hkl : kind * l.length ≤ 4 * 10 := Nat.mul_le_mul hk h
  omega
theorem with_f (l : List Int) : rows_With.f l = some (if IsRow l ∧ l.length % 2 = 0 then (withTo l (formPairs l.length), 0) else ([], 2)) := by
  unfold rows_With.f; split <;> rfl

end Go.Proofs.YtfpnojcbhbkfaaaDoor.P
namespace Go.Proofs.YtfpnojcbhbkfaaaDoor.P
open Go.RowKit Go.Proofs.YtfpnojcbhbkfaaaDoorW.PrintWords Go.Proofs.YtfpnojcbhbkfaaaDoorW.PrintLast Go.Proofs.YtfpnojcbhbkfaaaDoorW.PrintMore
attribute [local go_sem] max2_int min2_int max_two min_two max_three min_three max_four min_four   -- for this text's walks alone
set_option linter.unusedVariables false
set_option linter.unusedSimpArgs false

theorem rowed_ev : Ev (fun k => sackbuttop_rowed.f k) true := by
  unfold sackbuttop_rowed.f
  have hs : stepsOf ([0, 1, 3, 2] : List Int).length [0, 1, 3, 2] = [1, 2, 3] := by decide
  have hr : IsRow [0, 1, 3, 2] := by decide
  have := Steps_ev [0, 1, 3, 2]
  rw [if_pos hr, hs] at this
  refine Ev.bind this ?_
  simp only [if_true]
  refine Ev.bind (Equal_ev _ _ (by decide)) ?_
  simp only [decide_true]
  exact Ev.some _
/-- the set of the first half, as the law reckons it -/
theorem first_loop (l row : List Int) (n : Nat) (hn : n ≤ 62) (k nn : Int) (hl : l.length < 1000) (hr : ∀ x ∈ l, 0 ≤ x ∧ x < n) (r : Bool) : ∀ (xs pre : List Int) (s : Nat), l = pre ++ xs → s < 2 ^ n →
    (∀ t : Nat, t = orAll s (xs.map Int.toNat) → Ev (fun q => sackbuttop_TopHalves.l0 q row k nn (t : Int) l (l.length : Int) (l.length : Int)) r) →
    Ev (fun q => sackbuttop_TopHalves.l0 q row k nn (s : Int) l (l.length : Int) (pre.length : Int)) r := by
  intro xs
  induction xs with
  | nil =>
    intro pre s h0 hs hend
    have e : pre = l := by rw [h0]; simp
    rw [e]
    exact hend s rfl
  | cons x xs ih =>
    intro pre s h0 hs hend
    have hx := hr x (by rw [h0]; simp)
    obtain ⟨m, rfl⟩ := Int.eq_ofNat_of_zero_le hx.1
    have hp2 := two_pow_lt63 (x := n) hn
    have hm2 : 2 ^ m < 2 ^ n := Nat.pow_lt_pow_right (by omega) (by omega)
    have hs2 : s ||| 2 ^ m < 2 ^ n := Nat.or_lt_two_pow hs hm2
    have hsh := shl1_i64 (x := m) (by omega)
    have hor := or_i64 (a := s) (b := 2 ^ m) (Nat.lt_trans hs hp2) (Nat.lt_trans hm2 hp2)
    have hc0 : (0 : Int) ≤ (pre.length : Int) := by omega
    have hc1 : (0 : Int) ≤ (m : Int) := by omega
    have hgo := ih (pre ++ [(m : Int)]) (s ||| 2 ^ m) (mid_mv h0) hs2 (fun t ht => hend t (by rw [ht, List.map_cons, Int.toNat_natCast, orAll_cons]))
    refine Ev.succ ?_
    simp only [sackbuttop_TopHalves.l0, if_pos (mid_lt h0), if_pos hc0, mid_rd h0, mid_next h0 (by omega), if_pos hc1, hsh, hor]
    exact hgo
theorem half5_bit {l : List Int} {i : Nat} (hr : ∀ x ∈ l, 0 ≤ x) : (half5 l).testBit i = true ↔ (i : Int) ∈ l.take (l.length / 2) := by
  unfold half5
  rw [testBit_orAll]
  simp only [Nat.zero_testBit, Bool.false_or, decide_eq_true_eq, List.mem_map]
  constructor
  · rintro ⟨y, hy, rfl⟩
    have := hr y (List.mem_of_mem_take hy)
    rwa [Int.toNat_of_nonneg this]
  · intro h; exact ⟨_, h, by simp⟩
/-- the first half of a form that is not backward is the first half, moved (and turned) -/
theorem half_form0 {l : List Int} (hr : IsRow l) {k : Nat} (hk : k < l.length) : half5 (formOf l.length 0 k l) = moveN l.length (half5 l) k := by
  have h1 := hr.1
  have hlt := half5_lt hr.2.2.1
  have hfr := formOf_range (n := l.length) (by omega) 0 k l
  refine bits_ext (half5_lt hfr) (moveN_lt _ _ _) (fun i hi => ?_)
  rw [testBit_moveN hlt hk hi, Bool.eq_iff_iff, half5_bit (fun x hx => (hfr x hx).1), half5_bit (fun x hx => (hr.2.2.1 x hx).1)]
  have hf : formOf l.length 0 k l = l.map (toneOf l.length 0 k) := by unfold formOf; rw [if_neg (by decide)]
  rw [formOf_length, hf, ← List.map_take, List.mem_map]
  have tone : ∀ x : Int, 0 ≤ x → x < l.length → toneOf l.length 0 k x = (x + k) % l.length := fun x _ _ => by
    unfold toneOf; rw [if_neg (by decide), Int.add_emod_emod]
  constructor
  · rintro ⟨x, hx, e⟩
    have hxr := hr.2.2.1 x (List.mem_of_mem_take hx)
    rw [tone x hxr.1 hxr.2] at e
    have : (((i + (l.length - k)) % l.length : Nat) : Int) = x := by
      rw [Int.natCast_emod, Int.natCast_add, Int.natCast_sub (by omega), ← e, Int.emod_add_emod]
      rw [show x + (k : Int) + ((l.length : Int) - k) = x + l.length by omega, Int.add_emod_right, Int.emod_eq_of_lt hxr.1 hxr.2]
    rw [this]; exact hx
  · intro h
    have hm : (i + (l.length - k)) % l.length < l.length := Nat.mod_lt _ (by omega)
    refine ⟨_, h, ?_⟩
    rw [tone _ (by omega) (by omega), Int.natCast_emod, Int.emod_add_emod, Int.natCast_add, Int.natCast_sub (by omega)]
    rw [show (i : Int) + ((l.length : Int) - k) + k = i + l.length by omega, Int.add_emod_right, Int.emod_eq_of_lt (by omega) (by omega)]
theorem half_form1 {l : List Int} (hr : IsRow l) {k : Nat} (hk : k < l.length) : half5 (formOf l.length 1 k l) = moveN l.length (turnN l.length (half5 l)) k := by
  have h1 := hr.1
  have hlt := half5_lt hr.2.2.1
  have htl := turnN_lt (n := l.length) (by omega) hlt
  have hfr := formOf_range (n := l.length) (by omega) 1 k l
  refine bits_ext (half5_lt hfr) (moveN_lt _ _ _) (fun i hi => ?_)
  have hm : (i + (l.length - k)) % l.length < l.length := Nat.mod_lt _ (by omega)
  rw [testBit_moveN htl hk hi, turn_bit hlt hm, Bool.eq_iff_iff, half5_bit (fun x hx => (hfr x hx).1), half5_bit (fun x hx => (hr.2.2.1 x hx).1)]
  have hf : formOf l.length 1 k l = l.map (toneOf l.length 1 k) := by unfold formOf; rw [if_neg (by decide)]
  rw [formOf_length, hf, ← List.map_take, List.mem_map]
  have tone : ∀ x : Int, toneOf l.length 1 k x = (-x + k) % l.length := fun x => by
    unfold toneOf; rw [if_pos (by decide), Int.add_emod_emod]
  -- the tone from which i comes
  have key : (((l.length - (i + (l.length - k)) % l.length) % l.length : Nat) : Int) = ((k : Int) - i) % l.length := by
    rw [mod2 (x := i + (l.length - k)) (by omega)]
    split
    · rename_i h
      rw [Nat.mod_eq_of_lt (by omega), Int.emod_eq_of_lt (by omega) (by omega)]; omega
    · rename_i h
      rcases Nat.eq_or_lt_of_le (show k ≤ i by omega) with e | e
      · subst e
        rw [show l.length - (k + (l.length - k) - l.length) = l.length by omega, Nat.mod_self, Int.sub_self]; rfl
      · rw [Nat.mod_eq_of_lt (by omega), ← Int.add_emod_right, Int.emod_eq_of_lt (by omega) (by omega)]; omega
  rw [key]
  constructor
  · rintro ⟨x, hx, e⟩
    have hxr := hr.2.2.1 x (List.mem_of_mem_take hx)
    rw [tone x] at e
    have : ((k : Int) - i) % l.length = x := by
      rw [← e, Int.sub_emod_emod]
      rw [show (k : Int) - (-x + k) = x by omega, Int.emod_eq_of_lt hxr.1 hxr.2]
    rw [this]; exact hx
  · intro h
    refine ⟨_, h, ?_⟩
    rw [tone]
    have : (-(((k : Int) - i) % l.length) + k) % (l.length : Int) = (k - ((k : Int) - i)) % l.length := by
      rw [show -(((k : Int) - i) % l.length) + (k : Int) = k - ((k : Int) - i) % l.length by omega, Int.sub_emod_emod]
    rw [this, show (k : Int) - ((k : Int) - i) = i by omega, Int.emod_eq_of_lt (by omega) (by omega)]
/-- a set that has as many elements as the other tones is those exactly if both together are all -/
theorem is_compl {n a f : Nat} (ha : a < 2 ^ n) (hf : f < 2 ^ n) (hs : chSize n a + chSize n f = n) : a ||| f = 2 ^ n - 1 ↔ a = compl n f := by
  rw [fillsAll_iff (Nat.or_lt_two_pow ha hf)]
  constructor
  · intro h
    have h1 := cnt_neither (n := n) a.testBit f.testBit
    have h2 : cnt n (fun i => !a.testBit i && !f.testBit i) = 0 := by
      rw [cnt_eq, List.countP_eq_zero]
      intro i hi
      have := h i (List.mem_range.1 hi)
      rw [Nat.testBit_or] at this
      cases ha2 : a.testBit i <;> cases hf2 : f.testBit i <;> simp_all
    have h3 := chSize_cnt n a
    have h4 := chSize_cnt n f
    have h5 : cnt n (fun i => a.testBit i && f.testBit i) = 0 := by omega
    rw [cnt_eq, List.countP_eq_zero] at h5
    refine bits_ext ha (compl_lt n f) (fun i hi => ?_)
    rw [testBit_compl hf hi]
    have e1 := h i hi
    rw [Nat.testBit_or] at e1
    have e2 := h5 i (List.mem_range.2 hi)
    cases ha2 : a.testBit i <;> cases hf2 : f.testBit i <;> simp_all
  · rintro rfl i hi
    rw [Nat.testBit_or, testBit_compl hf hi]
    cases f.testBit i <;> rfl
theorem cnt_mem {n : Nat} : ∀ (xs : List Nat), xs.Nodup → (∀ x ∈ xs, x < n) → cnt n (fun i => decide (i ∈ xs)) = xs.length
  | [], _, _ => by simp [cnt_false]
  | x :: xs, hd, hl => by
    rw [List.nodup_cons] at hd
    rw [cnt_split (fun i => decide (i ∈ x :: xs)) (fun i => decide (i = x))]
    have e1 : cnt n (fun i => decide (i ∈ x :: xs) && decide (i = x)) = 1 := by
      have h0 : cnt n (fun i => decide (i ∈ x :: xs) && decide (i = x)) = cnt n (fun i => decide (i = x)) := cnt_congr (fun i _ => by
        rw [← Bool.decide_and, decide_eq_decide]
        exact ⟨fun h => h.2, fun h => ⟨by simp [h], h⟩⟩)
      rw [h0, cnt_eq]
      have h1 : (List.range n).countP (fun i => decide (i = x)) = (List.range n).count x := by
        rw [List.count_eq_countP]
        exact List.countP_congr (fun i _ => by simp)
      rw [h1, (List.nodup_range (n := n)).count, if_pos (List.mem_range.2 (hl x (by simp)))]
    have e2 : cnt n (fun i => decide (i ∈ x :: xs) && !decide (i = x)) = xs.length := by
      rw [← cnt_mem xs hd.2 (fun y hy => hl y (List.mem_cons_of_mem _ hy))]
      refine cnt_congr (fun i _ => ?_)
      by_cases h : i = x
      · have : x ∉ xs := hd.1
        simp [h, this]
      · simp [h]
    rw [e1, e2, List.length_cons]; omega
theorem size_move {n c j : Nat} (hc : c < 2 ^ n) (hj : j < n) : chSize n (moveN n c j) = chSize n c := by
  rw [chSize_cnt, chSize_cnt, ← cnt_shift (n - j) c.testBit]
  exact cnt_congr (fun i hi => testBit_moveN hc hj hi)
theorem size_turn {n c : Nat} (hc : c < 2 ^ n) : chSize n (turnN n c) = chSize n c := by
  rw [chSize_cnt, chSize_cnt, ← cnt_reflect c.testBit]
  exact cnt_congr (fun i hi => turn_bit hc hi)
theorem size_half {l : List Int} (hr : IsRow l) : chSize l.length (half5 l) = l.length / 2 := by
  have h1 := hr.1
  have e : chSize l.length (half5 l) = cnt l.length (fun i => decide (i ∈ (l.take (l.length / 2)).map Int.toNat)) := by
    rw [chSize_cnt]
    refine cnt_congr (fun i _ => ?_)
    unfold half5
    rw [testBit_orAll]; simp
  have hnn : ((l.take (l.length / 2)).map Int.toNat).Nodup := by
    have hs : (l.take (l.length / 2)).Nodup := hr.2.2.2.sublist (List.take_sublist _ _)
    have hp : ∀ x ∈ l.take (l.length / 2), 0 ≤ x := fun x hx => (hr.2.2.1 x (List.mem_of_mem_take hx)).1
    exact (nodup_toNat hp).2 hs
  rw [e, cnt_mem _ hnn (fun x hx => by
    obtain ⟨y, hy, rfl⟩ := List.mem_map.1 hx
    have := hr.2.2.1 y (List.mem_of_mem_take hy); omega)]
  rw [List.length_map, List.length_take]; omega
theorem vec_compl {n c : Nat} (hn : 2 ≤ n) (hc : c < 2 ^ n) (he : n % 2 = 0) (hs : chSize n c = n / 2) : vecOf n (compl n c) = vecOf n c := by
  rw [vecOf_eq, vecOf_eq]
  refine List.map_congr_left (fun i hi => ?_)
  have hi' := List.mem_range.1 hi
  have h := vecAt_compl (d := i + 1) hc (by omega)
  rw [hs] at h
  split at h <;> omega
theorem compl_w {n c : Nat} (hn : n ≤ 62) (hc : c < 2 ^ n) : wrap64 (wrap64 (shl .i64 1 (n : Int) - 1) - (c : Int)) = (compl n c : Int) := by
  have hp2 := two_pow_lt63 (x := n) hn
  have h63 : (2 : Nat) ^ 63 = 9223372036854775808 := by decide
  rw [shl1_i64 hn]
  unfold compl
  generalize 2 ^ n = P at *
  rw [wrap_id (n := (P : Int) - 1) (by omega) (by omega), wrap_id (by omega) (by omega)]; omega
theorem validC_of {n c : Nat} (hn : 2 ≤ n) (hn2 : n ≤ 16) (hc : c < 2 ^ n) : ValidC (n : Int) (c : Int) := ⟨by omega, by omega, by omega, by rw [Int.toNat_natCast, ← pow_cast]; omega⟩
theorem Move_of {n c k : Nat} (hn : 2 ≤ n) (hn2 : n ≤ 16) (hc : c < 2 ^ n) (hk : k < n) : chords_Move.f (n : Int) (c : Int) (k : Int) = some ((moveN n c k : Int), 0) := by
  have hm := move_f (k : Int) (by omega) (by omega) hc
  rw [modC_nat hk] at hm
  unfold chords_Move.f
  rw [valid1_f]
  simp only [Option.bind_some, validC_of hn hn2 hc, decide_true, if_true]
  rw [hm]; rfl
theorem Turn_of {n c : Nat} (hn : 2 ≤ n) (hn2 : n ≤ 16) (hc : c < 2 ^ n) : chords_Turn.f (n : Int) (c : Int) = some ((turnN n c : Int), 0) := by
  unfold chords_Turn.f
  rw [valid1_f]
  simp only [Option.bind_some, validC_of hn hn2 hc, decide_true, if_true]
  rw [turn_f (by omega) (by omega) hc]; rfl
theorem beq_nat (a b : Nat) : ((a : Int) == (b : Int)) = decide (a = b) := by
  by_cases h : a = b
  · subst h; simp
  · simp only [h, decide_false, beq_eq_false_iff_ne]; omega
theorem half_nn {n : Nat} (h : n ≤ 1000) : wrap64 ((n : Int) / 2) = ((n / 2 : Nat) : Int) ∧ (0 : Int) ≤ ((n / 2 : Nat) : Int) ∧ ((n / 2 : Nat) : Int) ≤ (n : Int) := by
  refine ⟨by rw [wrap_id (by omega) (by omega)]; omega, by omega, by omega⟩
theorem halves_j2 {l : List Int} (hr : IsRow l) (hev : l.length % 2 = 0) {k : Nat} (hk : k < l.length) : Ev (fun q => sackbuttop_TopHalves.j2 q (k : Int) (l.length : Int) (half5 l : Int) (compl l.length (half5 l) : Int) (withTo l (formPairs l.length)) false) true := by
  have h1 := hr.1; have h2 := hr.2.1
  have hlt := half5_lt hr.2.2.1
  have htl := turnN_lt (n := l.length) (by omega) hlt
  have hsz := size_half hr
  have hsm := withTo_small h2 (kind := 4) (k := 0) (Nat.le_refl _) (Nat.zero_le _)
  have e0 : togB l (0, k) = decide (moveN l.length (half5 l) k = compl l.length (half5 l)) := by
    unfold togB
    rw [decide_eq_decide, show ((0 : Nat) : Int) = 0 from rfl, half_form0 hr hk]
    exact is_compl (moveN_lt _ _ _) hlt (by rw [size_move hlt hk, hsz]; omega)
  have e1 : togB l (1, k) = decide (moveN l.length (turnN l.length (half5 l)) k = compl l.length (half5 l)) := by
    unfold togB
    rw [decide_eq_decide, show ((1 : Nat) : Int) = 1 from rfl, half_form1 hr hk]
    exact is_compl (moveN_lt _ _ _) hlt (by rw [size_move htl hk, size_turn hlt, hsz]; omega)
  have w0 := withTo_any l (kind := 0) (k := k) (by decide) hk
  have w1 := withTo_any l (kind := 1) (k := k) (by decide) hk
  rw [e0, ← beq_nat] at w0
  rw [e1, ← beq_nat] at w1
  rw [show ((0 : Nat) : Int) = 0 from rfl] at w0
  rw [show ((1 : Nat) : Int) = 1 from rfl] at w1
  refine Ev.succ ?_
  simp only [sackbuttop_TopHalves.j2, Bool.false_eq_true, if_false]
  refine Ev.bind_some (Move_of h1 (by omega) hlt hk) ?_
  refine Ev.bind_some (Turn_of h1 (by omega) hlt) ?_
  refine Ev.bind_some (Move_of h1 (by omega) htl hk) ?_
  simp only [if_true]
  refine Ev.bind (Contains37_ev _ 0 k hsm) ?_
  simp only [w0, beq_self_eq_true, if_true]
  refine Ev.bind (Contains37_ev _ 1 k hsm) ?_
  simp only [w1, beq_self_eq_true, if_true]
  exact Ev.bind rowed_ev (Ev.some _)
theorem TopHalves : sackbuttop_TopHalves.Pure := by
  intro l k0 _ _ _ _
  refine Ev.rounds (g := fun q => sackbuttop_TopHalves.f q l k0) ?_
  unfold sackbuttop_TopHalves.f
  refine Ev.bind (Row_ev l) ?_
  have bad : ∀ b : Bool, b = true → ¬ (IsRow l ∧ l.length % 2 = 0) → Ev (fun q => sackbuttop_TopHalves.j0 q l k0 b) true := by
    rintro b rfl hno
    have hmn : mn (l.length : Int) 13 = ((min l.length 13 : Nat) : Int) := by rw [mn_eq]; omega
    have hc0 : (0 : Int) ≤ ((min l.length 13 : Nat) : Int) := by omega
    have hc1 : ((min l.length 13 : Nat) : Int) ≤ (l.length : Int) := by omega
    have hcl : slices_Clone_int_int.f (l.take (min l.length 13)) = some (l.take (min l.length 13)) := clone_small (by rw [List.length_take]; omega)
    have hno2 : ¬ (IsRow (l.take (min l.length 13)) ∧ (l.take (min l.length 13)).length % 2 = 0) := by
      rintro ⟨ha, hb⟩
      have h10 := ha.2.1
      rw [List.length_take] at h10
      have he : l.take (min l.length 13) = l := List.take_of_length_le (by omega)
      rw [he] at ha hb
      exact hno ⟨ha, hb⟩
    refine Ev.succ ?_
    simp only [sackbuttop_TopHalves.j0, if_true, hmn, if_pos hc0, if_pos hc1, Int.toNat_natCast]
    refine Ev.bind_some hcl ?_
    refine Ev.bind_some (with_f _) ?_
    simp only [hno2, if_false, if_true]
    exact Ev.bind rowed_ev (Ev.some _)
  by_cases hr : IsRow l
  · simp only [hr, decide_true, if_true]
    by_cases hev : l.length % 2 = 0
    · have h1 := hr.1; have h2 := hr.2.1
      have hne : ((l.length : Int) % 2 == 1) = false := beq_eq_false_iff_ne.2 (by omega)
      rw [hne]
      have hlt := half5_lt hr.2.2.1
      have hn0 : ¬ (l.length : Int) = 0 := by omega
      obtain ⟨hw, hc1, hc2⟩ := half_nn (n := l.length) (by omega)
      obtain ⟨k, hkw, hkl⟩ := umod_nat k0 l.length (by omega) (by omega)
      refine Ev.succ ?_
      simp only [sackbuttop_TopHalves.j0, Bool.false_eq_true, if_false, u64_small (show l.length ≤ 1000 by omega), if_neg hn0, hw, if_pos hc1, if_pos hc2, Int.toNat_natCast, Option.bind_some, hkw]
      refine first_loop (l.take (l.length / 2)) l l.length (by omega) k (l.length : Int) (by rw [List.length_take]; omega) (fun x hx => hr.2.2.1 x (List.mem_of_mem_take hx)) true _ [] 0 rfl (Nat.two_pow_pos _) (fun t ht => ?_)
      have htt : t = half5 l := ht
      subst htt
      have hcw := compl_w (n := l.length) (by omega) hlt
      have hnn : (0 : Int) ≤ (l.length : Int) := by omega
      have hirr : ¬ (((l.take (l.length / 2)).length : Nat) : Int) < (((l.take (l.length / 2)).length : Nat) : Int) := by omega
      have V : ∀ a : Nat, a < 2 ^ l.length → Ev (fun q => chords_Vector.f q (l.length : Int) (a : Int)) (vecOf l.length a, 0) := fun a ha => by
        have := Vector_ev (l.length : Int) (a : Int)
        rw [if_pos (validC_of h1 (by omega) ha)] at this
        simpa using this
      have hvc := vec_compl h1 hlt hev (size_half hr)
      have hvl : (vecOf l.length (half5 l)).length < 9223372036854775807 := by rw [vecOf_length]; omega
      refine Ev.succ ?_
      simp only [sackbuttop_TopHalves.l0, if_neg hirr, if_pos hnn, hcw]
      refine Ev.bind (V _ hlt) ?_
      refine Ev.bind (V _ (compl_lt _ _)) ?_
      refine Ev.bind_some (clone_small (show l.length < 100 by omega)) ?_
      refine Ev.bind_some (with_f l) ?_
      simp only [hr, hev, and_self, if_true, hvc]
      refine Ev.bind (Equal_ev _ _ hvl) ?_
      simp only [decide_true, Bool.not_true]
      exact halves_j2 hr hev hkl
    · have hne : ((l.length : Int) % 2 == 1) = true := beq_iff_eq.2 (by omega)
      exact bad _ hne (fun h => hev h.2)
  · simp only [hr, decide_false, Bool.false_eq_true, if_false]
    exact bad _ rfl (fun h => hr h.1)

end Go.Proofs.YtfpnojcbhbkfaaaDoor.P
namespace Go.Proofs.YtfpnojcbhbkfaaaDoor.Pure
theorem TopHalves : Go.Proofs.YtfpnojcbhbkfaaaDoor.P.sackbuttop_TopHalves.Pure := Go.Proofs.YtfpnojcbhbkfaaaDoor.P.TopHalves
end Go.Proofs.YtfpnojcbhbkfaaaDoor.Pure
namespace Go.Proofs.YtfpnojcbhbkfaaaDoor.P
open Go.RowKit Go.Proofs.YtfpnojcbhbkfaaaDoorW.PrintWords Go.Proofs.YtfpnojcbhbkfaaaDoorW.PrintLast Go.Proofs.YtfpnojcbhbkfaaaDoorW.PrintMore
attribute [local go_sem] max2_int min2_int max_two min_two max_three min_three max_four min_four   -- for this text's walks alone
set_option linter.unusedVariables false
set_option linter.unusedSimpArgs false

open Go.ChangeShapes Go.WideShapes Go.ChangeAt Go.WideElems
/-! what the row's listed tables give the walks -/
def doorLaid2 : List (String × DataW Unit) := [("math/bits.deBruijn32tab", Rows.laid_math_bits_deBruijn32tab), ("math/bits.deBruijn64tab", Rows.laid_math_bits_deBruijn64tab)]
theorem door_g64 : Tryd.prog.globalNamed "math/bits.deBruijn64tab" = some 1 := by kernel_rfl
theorem door_t64 : (Tryd.prog.globals[1]?).map (·.type) = some 135 := by kernel_rfl
theorem door_met (os : Os) (args : Array Value) : laidMetH Tryd.prog doorLaid2 ((World.doorLaid Tryd.prog 19 os).forCall (fun _ _ => 0) ⟨#[], args, []⟩).memory :=
  laidMetH_of_parts3 (fuel := 8) (laidMet_of_run' 8 (by kernel_rfl) (by kernel_rfl)) (by kernel_rfl) (by kernel_rfl)
theorem door_tab : (Rows.laid_math_bits_deBruijn64tab : DataW Unit) = .agg (tzTab.map fun (n : Nat) => .lit (.int .u8 (n : Int))) := rfl
theorem door_c8 : Tryd.prog.cellsOf 5 = 1 := by kernel_rfl
theorem tabs_of_laid {W : World} (h : laidMetH Tryd.prog doorLaid2 W) : Tabs W := by
  rw [MakeChecks.laidMetH_plain _ _ _ (by kernel_rfl)] at h
  obtain ⟨ps, ⟨g0, t0, cs0, f0, p0, q0, hg0, ht0, hv0, hd0, ⟨g1, t1, cs1, f1, p1, q1, hg1, ht1, hv1, hd1, _, _⟩, _⟩, _, _⟩ := h
  obtain rfl := Option.some.inj (door_g64.symm.trans hg1)
  obtain rfl := Option.some.inj (door_t64.symm.trans ht1)
  obtain ⟨xs, m1, rfl, hx1, hlen, hn, hel⟩ := DataW.trod_array Tryd.underlying135 hd1
  simp only [Prod.mk.injEq] at hx1
  have hl := hx1.1
  rw [door_tab] at hl
  simp only [DataW.agg.injEq] at hl
  intro i hi
  have h0 := hel i hi
  obtain ⟨x, hx⟩ : ∃ x, xs[i]? = some x := ⟨xs[i], by simp [hn, hi]⟩
  rw [hx] at h0
  obtain ⟨k, e1, e2, _⟩ := DataW.trod_int Tryd.underlying5 h0
  have hk := congrArg (fun l => l[i]?) hl
  simp only [List.getElem?_map, hx, Option.map_some, e2] at hk
  have ht : tzTab[i]? = some (tzTab.getD i 0) := by
    rw [List.getD_eq_getElem?_getD]
    have hlen : tzTab.length = 64 := by decide
    rw [List.getElem?_eq_getElem (by omega)]; rfl
  rw [ht] at hk
  simp only [Option.map_some, Option.some.injEq, DataW.lit.injEq, Lit.int.injEq, true_and] at hk
  rw [door_c8, Nat.mul_one] at e1
  have hc := World.var?_cell hg1 hv1 i
  rw [hc]
  have : cs1.toList[i]? = some (.int .u8 k) := by
    have := congrArg (fun l => l[0]?) e1
    simpa using this
  rw [← Array.getElem?_toList, this, hk]

end Go.Proofs.YtfpnojcbhbkfaaaDoor.P
namespace Go.Proofs.YtfpnojcbhbkfaaaDoor.topHalves
open Go.ChangeShapes Go.WideShapes Go.ChangeAt Go.RowKit
open Go.ChangeMaps (open_string shut_string)
set_option linter.unusedVariables false
theorem own : ownKnob Tryd.prog.godebug = none := by kernel_rfl
theorem laidOut : laidOutB Tryd.prog = true := by kernel_rfl
def IsRow (k : IntKind) (w : World) (a : Option Addr) (len cap : Nat) (zs : List Int) : Prop :=
  (a = none ∧ len = 0 ∧ cap = 0 ∧ zs = []) ∨
  ∃ x, a = some x ∧ len ≤ cap ∧ cap ≤ maxLen ∧ zs.length = cap ∧ (∀ i, i < zs.length → w.cell? (x.add i) = some (.int k (zs.getD i 0))) ∧ ∀ n ∈ zs, (Lit.int k n).wf = true
set_option maxRecDepth 100000 in
theorem lifted (os : Os) (started : os.Started) (H : Type) (enc : TypeId × Value → H) :
    ReturnsInHanded {} Tryd.checked os 3 .any (fun w args => (Rows.topHalvesSpec.pre enc Tryd.prog Tryd.f3 [] false w args ∧ laidMetH Tryd.prog P.doorLaid2 w) ∧ sizedMet enc Tryd.prog Tryd.f3 (OpenSpec.ofChange Rows.topHalvesSpec) false w args) (Rows.topHalvesSpec.post enc Tryd.prog Tryd.f3 false true false false) := by
  refine returnsInHanded_of_change_and (C := Tryd.checked) (X := fun w _ => laidMetH Tryd.prog P.doorLaid2 w) (fun _ _ _ hh h => h.of_heap hh) own started (by kernel_rfl) Tryd.func3
    (ChangeSpec.witness_shaped (enc := enc) (C := Tryd.checked) (os := os) (X := fun w _ => laidMetH Tryd.prog P.doorLaid2 w) false (World.doorLaid Tryd.prog 19 os) #[.slice none 0 0, .int .i64 0] 8 rfl (World.shaped_of_RefB (by kernel_rfl) (by kernel_rfl)) (by kernel_rfl) (by kernel_rfl) (by kernel_rfl) (P.door_met os _)) ?_
  intro W base args ds gs before hval0 hW hcnd hsz0 hL _
  have hsz : (DataW.weightsEach Tryd.prog (Tryd.f3.params.toList ++ Rows.topHalvesSpec.plain.varTypes Tryd.prog) (ds ++ gs)).all (· ≤ reachBytes) = true := hsz0
  have hval : ∀ (j : Nat) t v, Tryd.f3.params[j]? = some t → args[j]? = some v → Value.okWide Tryd.prog W .any base t v := hval0
  have hW' := hW
  obtain ⟨p, q, hA0, hV, rfl, hfz, hnd⟩ := hW
  have hA : DataW.TrodAll enc Tryd.prog W 0 (fun _ => true) true Tryd.f3.params.toList args.toList ds p := hA0
  rw [Tryd.params3] at hA hval hsz
  obtain ⟨v0, vs0, d0, ds0, p0, q0, hargs, rfl, rfl, h0, r0⟩ := trodAll_cons hA
  obtain ⟨v1, vs1, d1, ds1, p1, q1, rfl, rfl, rfl, h1, r1⟩ := trodAll_cons r0
  obtain ⟨rfl, rfl, rfl⟩ := trodAll_nil r1
  obtain rfl : args = #[v0, v1] := by cases args; simp_all
  obtain ⟨rfl, rfl⟩ := trodVars_none hV
  obtain ⟨a0, len0, cap0, rfl⟩ := okWide_slice Tryd.underlying22 (hval 0 22 v0 rfl rfl)
  have k0 := h0
  have lt0 : ∀ x ∈ p0, x.block < W.heap.size := by obtain ⟨m, hm⟩ := k0; exact DataW.trod_lt m _ _ _ hm
  obtain ⟨z0, w0⟩ : ∃ zs, IsRow .i64 W a0 len0 cap0 zs := by
    obtain ⟨fuel, hf⟩ := h0
    rcases open_ints Tryd.underlying22 Tryd.underlying3 (by kernel_rfl) hf with ⟨hcs, _⟩ | ⟨x, l, c, zs, hcs, _, hl, hm, hz, _, hcell, hwz⟩
    · simp [Value.cells] at hcs
      obtain ⟨rfl, rfl, rfl⟩ := hcs
      exact ⟨[], .inl ⟨rfl, rfl, rfl, rfl⟩⟩
    · simp [Value.cells] at hcs
      obtain ⟨rfl, rfl, rfl⟩ := hcs
      exact ⟨zs, .inr ⟨_, rfl, hl, hm, by simpa using hz, hcell, hwz⟩⟩
  have y0 : len0 * 8 ≤ 140737488351232 := Go.Proofs.YtfpnojcbhbkfaaaDoorW.PrintWords.sized_ints hsz (j := 0) (t := 22) rfl rfl Tryd.underlying22 Tryd.underlying3 (by kernel_rfl) (by kernel_rfl) h0
  obtain ⟨a1, rfl, rfl, rfl, w1⟩ := open_int Tryd.underlying3 (hval 1 3 v1 rfl rfl) h1
  clear hA0 hval0 hsz0 hsz
  refine (P.sackbuttop_TopHalves.walk Pure.TopHalves a0 len0 cap0 z0 a1 W (P.tabs_of_laid hL) w0 y0 w1).mono fun e W' ⟨he, bel⟩ => ?_
  subst he
  exact ⟨_, rfl, _, _, _, [], _, [], hW', trodAll_mk1 (shut_bool Tryd.underlying4 _), (trodAll_cons_mk (Below.trod laidOut (by kernel_rfl) (of_decide_eq_true (by kernel_rfl)) k0 bel lt0) (trodAll_cons_mk (shut_int Tryd.underlying3 w1) trodAll_mk0)), rfl, bel.frame _, fun h => by cases h⟩
theorem over : Rows.topHalvesRow.holds Tryd.pinned (OpenSpec.ofChange Rows.topHalvesSpec) :=
  OpenClaim.holds_of_wide 3 Tryd.f3 rfl rfl rfl rfl rfl rfl rfl ⟨rfl, rfl, rfl, rfl, rfl⟩ rfl rfl rfl rfl rfl (by kernel_rfl) Tryd.func3 (by kernel_rfl)
    (of_decide_eq_true (by kernel_rfl)) (by unfold Func.isWrapper; first | (rw [if_pos (by decide +kernel)]; kernel_rfl) | (rw [if_neg (by decide +kernel)]; exact ⟨rfl, rfl⟩))
    (fun os started H enc _ => lifted os started H enc)
theorem proved : Rows.TopHalvesSaid := over
#print axioms proved
end Go.Proofs.YtfpnojcbhbkfaaaDoor.topHalves
namespace Go.Proofs.YtfpnojcbhbkfaaaDoor
theorem topHalves_row : Rows.TopHalvesSaid := topHalves.proved
/-- The tied card, for the claim. -/
theorem topHalves_holds : Rows.TopHalvesCardSaid :=
  Claim7.holds_tied_plain_at .later [] [.data, .data] true (true, "497fa162678a0729af37f63795fa21e285c2430cc1eb41f0044b46e86bdcb108") false
    topHalves_row (fun _ h => by cases h) (by kernel_rfl) (fun _ h => by cases h) topHalves_row_tie rfl ⟨rfl, rfl⟩ (by kernel_rfl) rfl
    (fun f fn hf hfn => by
      obtain rfl : f = 3 := Option.some.inj ((show Tryd.prog.funcNamed "sackbut/sackbuttop.TopHalves" = some 3 by kernel_rfl).symm.trans hf) |>.symm
      obtain rfl : fn = Tryd.f3 := (Option.some.inj (Tryd.func3.symm.trans hfn)).symm
      exact ⟨by kernel_rfl, fun j t ht => by
        rw [Tryd.params3] at ht
        have hm : t ∈ [22, 3] := by simpa using Array.mem_of_getElem? ht
        have hall : ([22, 3].all fun u => !Tryd.prog.wantsStandIn u) = true := by kernel_rfl
        exact (show Tryd.prog.wantsStandIn t = false by simpa using List.all_eq_true.1 hall t hm)⟩)
    (by kernel_rfl)
end Go.Proofs.YtfpnojcbhbkfaaaDoor
