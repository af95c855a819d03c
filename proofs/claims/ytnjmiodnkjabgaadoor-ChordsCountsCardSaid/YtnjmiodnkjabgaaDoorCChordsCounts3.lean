/- A part of a proof that a law's Go function returns true for every input, laid by this session's program mp.py (which drives the kit's print). Conditions: as each theorem states them. -/
import Derived.Lib.SlicesCompact
import Derived.StillTailTactics
import Derived.Deep.QuietTactic
import Derived.BigQuiet
import Derived.Laws.EntriesVeiled
import Derived.Shelf.Abstract
import Derived.Test.YtnjmiodnkjabgaaDoorCChordsCounts1
import Derived.Test.YtnjmiodnkjabgaaDoorCChordsCounts2
namespace Go.Proofs.YtnjmiodnkjabgaaDoor.P
open Go.RowKit Go.Proofs.YtnjmiodnkjabgaaDoorW.PrintWords Go.Proofs.YtnjmiodnkjabgaaDoorW.PrintLast Go.Proofs.YtnjmiodnkjabgaaDoorW.PrintMore
attribute [local go_sem] max2_int min2_int max_two min_two max_three min_three max_four min_four   -- for this text's walks alone
set_option linter.unusedVariables false
set_option linter.unusedSimpArgs false

/-! what the functions on chords come to -/
def ValidC (n c : Int) : Prop := 2 ≤ n ∧ n ≤ 16 ∧ 0 ≤ c ∧ c < 2 ^ n.toNat
instance (n c : Int) : Decidable (ValidC n c) := by unfold ValidC; infer_instance
theorem shl_n {n : Int} (h0 : 0 ≤ n) (h : n ≤ 62) : shl .i64 1 n = 2 ^ n.toNat := by
  obtain ⟨m, rfl⟩ := Int.eq_ofNat_of_zero_le h0
  rw [shl1_i64 (by omega), pow_cast, Int.toNat_natCast]
theorem badChord_iff {n c : Int} (h2 : 2 ≤ n) (h16 : n ≤ 16) : badChord n c = false ↔ ValidC n c := by
  unfold badChord ValidC
  rw [shl_n (by omega) (by omega), Bool.or_eq_false_iff, decide_eq_false_iff_not, decide_eq_false_iff_not]
  omega
theorem valid1_f (n c : Int) : chords_circle_valid.f n [c] = some (decide (ValidC n c)) := by
  unfold chords_circle_valid.f
  by_cases h2 : n ≥ 2
  · by_cases h16 : n ≤ 16
    · rw [if_pos h2, if_pos h16, if_pos (by simp)]
      congr 1
      have := badChord_iff (c := c) h2 h16
      rw [Bool.eq_iff_iff]
      simp only [List.any_cons, List.any_nil, Bool.or_false, Bool.not_eq_true', decide_eq_true_eq]
      exact this
    · rw [if_pos h2, if_neg h16]
      have : ¬ ValidC n c := fun h => h16 h.2.1
      simp [this]
  · rw [if_neg h2]
    have : ¬ ValidC n c := fun h => h2 h.1
    simp [this]
theorem valid2_f (n a b : Int) : chords_circle_valid.f n [a, b] = some (decide (ValidC n a ∧ ValidC n b)) := by
  unfold chords_circle_valid.f
  by_cases h2 : n ≥ 2
  · by_cases h16 : n ≤ 16
    · rw [if_pos h2, if_pos h16, if_pos (by simp)]
      congr 1
      have h1 := badChord_iff (c := a) h2 h16
      have h2 := badChord_iff (c := b) h2 h16
      rw [Bool.eq_iff_iff]
      simp only [List.any_cons, List.any_nil, Bool.or_false, Bool.not_eq_true', decide_eq_true_eq, Bool.or_eq_false_iff]
      rw [h1, h2]
    · rw [if_pos h2, if_neg h16]
      have : ¬ (ValidC n a ∧ ValidC n b) := fun h => h16 h.1.2.1
      simp [this]
  · rw [if_neg h2]
    have : ¬ (ValidC n a ∧ ValidC n b) := fun h => h2 h.1.1
    simp [this]
theorem validC_nat {n c : Int} (h : ValidC n c) : ∃ N C : Nat, n = N ∧ c = C ∧ 2 ≤ N ∧ N ≤ 16 ∧ C < 2 ^ N := by
  obtain ⟨h1, h2, h3, h4⟩ := h
  obtain ⟨N, rfl⟩ := Int.eq_ofNat_of_zero_le (show 0 ≤ n by omega)
  obtain ⟨C, rfl⟩ := Int.eq_ofNat_of_zero_le h3
  rw [Int.toNat_natCast, ← pow_cast] at h4
  exact ⟨N, C, rfl, rfl, by omega, by omega, by omega⟩
theorem pow16 {n : Nat} (h : n ≤ 16) : 2 ^ n ≤ 65536 := by
  have : 2 ^ n ≤ 2 ^ 16 := Nat.pow_le_pow_right (by omega) h
  omega
theorem count_f {n a : Nat} (hn : n ≤ 24) (ha : a < 2 ^ n) : chords_count.f (a : Int) = some (chSize n a : Int) := by
  unfold chords_count.f
  rw [OnesCount_f hn ha]
  rfl
theorem move_f {n c : Nat} (k : Int) (hn : 1 ≤ n) (hn2 : n ≤ 24) (hc : c < 2 ^ n) : chords_circle_move.f (n : Int) (c : Int) k = some (moveN n c (k % n).toNat : Int) := by
  unfold chords_circle_move.f
  rw [if_neg (by omega), tmod_mod (by omega) (by omega)]
  have h0 := Int.emod_nonneg k (show (n : Int) ≠ 0 by omega)
  have h1 := Int.emod_lt_of_pos k (show (0 : Int) < n by omega)
  obtain ⟨j, hj⟩ := Int.eq_ofNat_of_zero_le h0
  rw [hj] at h1 ⊢
  have hjn : j < n := by omega
  have hw : wrap64 ((n : Int) - (j : Int)) = ((n - j : Nat) : Int) := by rw [wrap_id (by omega) (by omega)]; omega
  have hp : 2 ^ n ≤ 2 ^ 24 := Nat.pow_le_pow_right (by omega) hn2
  have hpj : 2 ^ j ≤ 2 ^ 24 := Nat.pow_le_pow_right (by omega) (by omega)
  have h24 : (2 : Nat) ^ 24 = 16777216 := by decide
  have h63 : (2 : Nat) ^ 63 = 9223372036854775808 := by decide
  have hm : c * 2 ^ j < 2 ^ 63 := by
    have : c * 2 ^ j ≤ 16777216 * 16777216 := Nat.mul_le_mul (by omega) (by omega)
    omega
  have hw2 : wrap64 (shl .i64 1 (n : Int) - 1) = ((2 ^ n - 1 : Nat) : Int) := by
    rw [shl1_i64 (by omega), wrap_id (by omega) (by omega)]
    have := Nat.two_pow_pos n
    omega
  have hd : c / 2 ^ (n - j) < 2 ^ 63 := Nat.lt_of_le_of_lt (Nat.div_le_self _ _) (by omega)
  have hor : c * 2 ^ j ||| c / 2 ^ (n - j) < 2 ^ 63 := Nat.or_lt_two_pow hm hd
  rw [hw, if_pos (by omega), if_pos (by omega), if_pos (by omega), hw2, shl_i64 (by omega) hm, shr_i64 _ _ (by omega), or_i64 hm hd, and_i64 hor (by omega), Int.toNat_natCast]
  unfold moveN
  rfl
theorem and_chord {n a b : Nat} (hn : n ≤ 24) (ha : a < 2 ^ n) (hb : b < 2 ^ n) : Go.bits .and .i64 (a : Int) (b : Int) = ((a &&& b : Nat) : Int) := by
  have hp : 2 ^ n ≤ 2 ^ 24 := Nat.pow_le_pow_right (by omega) hn
  have h24 : (2 : Nat) ^ 24 = 16777216 := by decide
  have h63 : (2 : Nat) ^ 63 = 9223372036854775808 := by decide
  exact and_i64 (by omega) (by omega)
theorem common_f {n a b : Nat} {d : Nat} (hn : 1 ≤ n) (hn2 : n ≤ 24) (ha : a < 2 ^ n) (hb : b < 2 ^ n) (hd : d < n) :
    ((chords_circle_move.f (n : Int) (b : Int) (d : Int)).bind fun t => chords_count.f (Go.bits .and .i64 (a : Int) t)) = some (common n a b d : Int) := by
  rw [move_f (d : Int) hn hn2 hb]
  have : ((d : Int) % (n : Int)).toNat = d := by rw [Int.emod_eq_of_lt (by omega) (by omega)]; omega
  rw [this, Option.bind_some, and_chord hn2 ha (moveN_lt n b d), count_f hn2 (Nat.lt_of_le_of_lt Nat.and_le_left ha), chSize_and_move hb hd]
theorem half_f (n : Nat) (hn : n ≤ 24) : wrap64 (Int.tdiv (n : Int) 2) = ((n / 2 : Nat) : Int) := by
  rw [Int.tdiv_eq_ediv_of_nonneg (by omega), wrap_id (by omega) (by omega)]; omega
theorem vector_loop {n c : Nat} (hn : 2 ≤ n) (hn2 : n ≤ 24) (hc : c < 2 ^ n) : ∀ (m d : Nat), d + m = n / 2 →
    Ev (fun k => chords_circle_vector.l0 k (n : Int) (c : Int) ((List.range d).map (fun i => (vecAt n c (i + 1) : Int))) ((d : Int) + 1)) (vecOf n c) := by
  intro m
  induction m with
  | zero =>
    intro d hd
    refine Ev.succ ?_
    simp only [chords_circle_vector.l0, half_f n hn2, if_neg (show ¬ (d : Int) + 1 ≤ ((n / 2 : Nat) : Int) by omega)]
    have : d = n / 2 := by omega
    rw [this]
    rw [vecOf_eq]
    exact Ev.some _
  | succ m ih =>
    intro d hd
    refine Ev.succ ?_
    have hcm := common_f (n := n) (a := c) (b := c) (d := d + 1) (by omega) hn2 hc hc (by omega)
    rw [show ((d + 1 : Nat) : Int) = (d : Int) + 1 by omega] at hcm
    obtain ⟨t, ht, ht2⟩ := Option.bind_eq_some_iff.1 hcm
    have hw : wrap64 (2 * ((d : Int) + 1)) = 2 * ((d : Int) + 1) := wrap_id (by omega) (by omega)
    have hw2 : wrap64 ((d : Int) + 1 + 1) = ((d + 1 : Nat) : Int) + 1 := by rw [wrap_id (by omega) (by omega)]; omega
    have hlen : ((List.range d).map (fun i => (vecAt n c (i + 1) : Int))).length < 17592186044416 := by simp; omega
    have hle := common_le n c c (d + 1)
    have hdiv : wrap64 (Int.tdiv (common n c c (d + 1) : Int) 2) = ((common n c c (d + 1) / 2 : Nat) : Int) := by
      rw [Int.tdiv_eq_ediv_of_nonneg (by omega), wrap_id (by omega) (by omega)]; omega
    simp only [chords_circle_vector.l0, half_f n hn2, if_pos (show (d : Int) + 1 ≤ ((n / 2 : Nat) : Int) by omega)]
    refine Ev.bind_some ht ?_
    refine Ev.bind_some ht2 ?_
    simp only [hw, hw2, if_pos hlen, hdiv]
    have go : ∀ v : Nat, v = vecAt n c (d + 1) → Ev (fun k => chords_circle_vector.l0 k (n : Int) (c : Int) ((List.range d).map (fun i => (vecAt n c (i + 1) : Int)) ++ [(v : Int)]) (((d + 1 : Nat) : Int) + 1)) (vecOf n c) := by
      rintro v rfl
      have := ih (d + 1) (by omega)
      simp only [List.range_succ, List.map_append, List.map_cons, List.map_nil] at this
      exact this
    refine Ev.ite (fun e => go _ ?_) (fun e => go _ ?_)
    · unfold vecAt; rw [if_pos (by omega)]
    · unfold vecAt; rw [if_neg (by omega)]
theorem vector_ev {n c : Nat} (hn : 2 ≤ n) (hn2 : n ≤ 24) (hc : c < 2 ^ n) : Ev (fun k => chords_circle_vector.f k (n : Int) (c : Int)) (vecOf n c) := by
  have := vector_loop hn hn2 hc (n / 2) 0 (by omega)
  simpa [chords_circle_vector.f] using this
theorem Vector_ev (n c : Int) : Ev (fun k => chords_Vector.f k n c) (if ValidC n c then (vecOf n.toNat c.toNat, 0) else ([], 2)) := by
  unfold chords_Vector.f
  refine Ev.bind_some (valid1_f n c) ?_
  by_cases h : ValidC n c
  · simp only [h, decide_true, if_true]
    obtain ⟨N, C, rfl, rfl, h2, h16, hC⟩ := validC_nat h
    simp only [Int.toNat_natCast]
    exact Ev.bind (vector_ev h2 (by omega) hC) (Ev.some _)
  · simp only [h, decide_false, Bool.false_eq_true, if_false]
    exact Ev.some _

end Go.Proofs.YtnjmiodnkjabgaaDoor.P
namespace Go.Proofs.YtnjmiodnkjabgaaDoor.P
open Go.RowKit Go.Proofs.YtnjmiodnkjabgaaDoorW.PrintWords Go.Proofs.YtnjmiodnkjabgaaDoorW.PrintLast Go.Proofs.YtnjmiodnkjabgaaDoorW.PrintMore
attribute [local go_sem] max2_int min2_int max_two min_two max_three min_three max_four min_four   -- for this text's walks alone
set_option linter.unusedVariables false
set_option linter.unusedSimpArgs false

/-! ### chords_Prime: function 29 -/
def chords_Prime.f (k : Nat) (a0 : Int) (a1 : Int) : Option (Int × Int) := (chords_circle_valid.f a0 (([a1] : List Int))).bind fun t1004 => (if t1004 = true then ((chords_circle_prime.f k a0 a1).bind fun t1005 => (some (t1005, 0))) else (some (0, 2)))
theorem chords_Prime.mono : ∀ a0 a1 k, LeO (chords_Prime.f k a0 a1) (chords_Prime.f (k + 1) a0 a1) := by
  intro a0 a1 k
  unfold chords_Prime.f
  repeat' first
      | (with_reducible exact chords_circle_prime.mono _ _ _)
      | (with_reducible exact LeO.refl _)
      | (with_reducible exact LeO.none _)
      | (with_reducible refine LeO.ite ?_ ?_)
      | (with_reducible refine LeO.bind ?_ (fun _ => ?_))
      | exact chords_circle_prime.mono _ _ _
      | exact LeO.none _
      | refine LeO.ite ?_ ?_
      | refine LeO.bind ?_ (fun _ => ?_)
set_option maxHeartbeats 8000000 in
set_option maxRecDepth 100000 in
theorem chords_Prime.calls (k : Nat) (a0 : Int) (a1 : Int) (r1 : Int) (r2 : Int) (w : World) (hT : Tabs w) (h : chords_Prime.f k a0 a1 = some (r1, r2)) :
    Calls Tryd.prog 29 #[.int .i64 a0, .int .i64 a1] w fun e w' => e = .returned (.tuple #[.int .i64 r1, .int .i64 r2]) ∧ Below w.heap.size w w' := by
  have HB := Aside0.mk (Below.refl w.heap.size w)
  have HT0 := Aside0.mk hT
  clear hT
  have H : ((chords_circle_valid.f a0 (([a1] : List Int))).bind fun t1004 => (if t1004 = true then ((chords_circle_prime.f k a0 a1).bind fun t1005 => (some (t1005, 0))) else (some (0, 2)))) = some (r1, r2) := h
  clear h
  obtain ⟨y1001, hy1001⟩ : ∃ y_ : List Int, y_ = (([a1] : List Int)) := ⟨_, rfl⟩
  replace H : ((chords_circle_valid.f a0 y1001).bind fun t1004 => (if t1004 = true then ((chords_circle_prime.f k a0 a1).bind fun t1005 => (some (t1005, 0))) else (some (0, 2)))) = some (r1, r2) := by first | (rw [hy1001]; with_reducible exact H) | (have H2_ := (Option.bind_some _ _).symm.trans H; rw [hy1001]; with_reducible exact H2_) | (have H2_ := (Option.bind_some _ _).symm.trans H; with_reducible exact H2_) | with_reducible exact H | (rw [hy1001]; exact H) | exact H
  have Ny1001 := Aside0.mk hy1001
  clear hy1001
  replace H := Option.bind_eq_some_iff.mp H
  obtain ⟨t1004, A30, H⟩ := H
  replace H : (if t1004 = true then ((chords_circle_prime.f k a0 a1).bind fun t1005 => (some (t1005, 0))) else (some (0, 2))) = some (r1, r2) := H
  have A3 := Aside0.mk A30
  clear A30
  by_cases c4 : t1004 = true
  · subst c4
    have H1 : ((chords_circle_prime.f k a0 a1).bind fun t1005 => (some (t1005, 0))) = some (r1, r2) := by rw [if_pos rfl] at H; exact H
    clear H
    have H := H1
    clear H1
    replace H := Option.bind_eq_some_iff.mp H
    obtain ⟨t1005, A50, H⟩ := H
    replace H : (some (t1005, 0)) = some (r1, r2) := H
    have A5 := Aside0.mk A50
    clear A50
    simp only [Option.some.injEq, Prod.mk.injEq] at H
    obtain ⟨rfl, rfl⟩ := H
    go_enter Tryd.func29, Tryd.ntmps29
    go_wp2_with (first | ((with_reducible refine gate_dst (N := 8) rfl ?_); refine Kd.R_lit (Kd.int .i64) _ 3 ?hg (N := 8) ?hd (xs := ([a1] : List Int)) (inner := [.int .i64 a1]) (ok := fun _ => True) (okp := fun _ => True) ?hr ?hp (fun _ hk => hk) trivial (Below.refl _ _) (Nat.le_refl _) (by simp) ?_; (case hd => rfl); (case hg => rfl); (case hr => first | (go_simp; done) | (go_simp; rfl)); (case hp => exact (Reps.one (show Kd.M (Kd.int .i64) _ _ _ a1 [.int .i64 a1] from rfl) (Reps.none _ _))); intro v1002 w6 ho7 hb hg_ hnew_; clear hg_ hnew_; (first | rw [← Ny1001.out] at ho7 | (simp only [Int.reduceToNat] at ho7; rw [← Ny1001.out] at ho7)); have n0_ := Aside0.mk (Kd.R_lower ho7 (below_size (by repeat (first | (with_reducible first | exact HB.out | apply below_alloc | apply pw_below_drewN | apply below_drew1) | exact HB.out)))); have n1_ := Aside0.mk (below_step (by repeat (first | (with_reducible first | exact HB.out | apply below_alloc | apply pw_below_drewN | apply below_drew1) | exact HB.out)) hb); clear HB; have HO1003 := n0_; have HB := n1_; clear n0_ n1_; clear hb ho7; obtain ⟨Ao8, co8, eo8⟩ := Kd.R_slice HO1003.out; subst eo8) | ((with_reducible refine gate_callee (f := 41) rfl ?_); refine goesL_ (some 9) rfl rfl Tryd.func41 (by kernel_rfl) rfl #[.int .i64 a0, .slice Ao8 y1001.length co8] rfl (by (try simp only [List.map_toArray, List.map_cons, List.map_nil]); first | done | rfl | (simp only [List.length_drop, List.length_take]; rfl)) ?_; (with_reducible refine (chords_circle_valid.calls a0 _ _ y1001 true _ ?side1 ?side2 A3.out).mono ?_); (case side1 => repeat (first | exact (Kd.R_reads' HO1003.out).2.2 | (with_reducible refine Kd.C_alloc ?_ _) | (with_reducible refine Kd.C_drewN ?_ _) | (with_reducible refine Kd.C_drew ?_))); (case side2 => exact (Kd.R_reads' HO1003.out).2.1); rintro e w9 ⟨rfl, hb⟩; refine ⟨_, rfl, ?_⟩; have n0_ := Aside0.mk (Kd.R_below (by (with_reducible repeat (first | apply Kd.R_alloc | apply Kd.R_drewN | apply Kd.R_drew)); exact HO1003.out) hb); have n1_ := Aside0.mk (below_step (by repeat (first | (with_reducible first | exact HB.out | apply below_alloc | apply pw_below_drewN | apply below_drew1) | exact HB.out)) hb); clear HO1003; clear HB; have HO1003 := n0_; have HB := n1_; clear n0_ n1_; (try clear hb); (try clear hb2); (try clear hk); (try clear hi)) | ((with_reducible refine gate_callee (f := 51) rfl ?_); refine goesL_ (some 13) rfl rfl Tryd.func51 (by kernel_rfl) rfl #[.int .i64 a0, .int .i64 a1] rfl (by (try simp only [List.map_toArray, List.map_cons, List.map_nil]); first | done | rfl | (simp only [List.length_drop, List.length_take]; rfl)) ?_; (with_reducible refine (chords_circle_prime.calls k a0 a1 t1005 _ ?side1 A5.out).mono ?_); (case side1 => exact Tabs.below HT0.out (by repeat (first | (with_reducible first | exact HB.out | apply below_alloc | apply pw_below_drewN | apply below_drew1) | exact HB.out))); rintro e w10 ⟨rfl, hb⟩; refine ⟨_, rfl, ?_⟩; have n0_ := Aside0.mk (Kd.R_below (by (with_reducible repeat (first | apply Kd.R_alloc | apply Kd.R_drewN | apply Kd.R_drew)); exact HO1003.out) hb); have n1_ := Aside0.mk (below_step (by repeat (first | (with_reducible first | exact HB.out | apply below_alloc | apply pw_below_drewN | apply below_drew1) | exact HB.out)) hb); clear HO1003; clear HB; have HO1003 := n0_; have HB := n1_; clear n0_ n1_; (try clear hb); (try clear hb2); (try clear hk); (try clear hi)))
    go_ret2
    exact ⟨by first | rfl | (simp [errW_none, errW_some] <;> rfl) | (simp [*, errW_none, errW_some] <;> rfl), by repeat (first | (with_reducible first | exact HB.out | apply below_alloc | apply pw_below_drewN | apply below_drew1) | exact HB.out)⟩
  · replace c4 := Bool.eq_false_iff.mpr c4
    subst c4
    have H1 : (some (0, 2)) = some (r1, r2) := by rw [if_neg (show ¬ (false = true) by decide)] at H; exact H
    clear H
    have H := H1
    clear H1
    simp only [Option.some.injEq, Prod.mk.injEq] at H
    obtain ⟨rfl, rfl⟩ := H
    go_enter Tryd.func29, Tryd.ntmps29
    go_wp2_with (first | ((with_reducible refine gate_dst (N := 8) rfl ?_); refine Kd.R_lit (Kd.int .i64) _ 3 ?hg (N := 8) ?hd (xs := ([a1] : List Int)) (inner := [.int .i64 a1]) (ok := fun _ => True) (okp := fun _ => True) ?hr ?hp (fun _ hk => hk) trivial (Below.refl _ _) (Nat.le_refl _) (by simp) ?_; (case hd => rfl); (case hg => rfl); (case hr => first | (go_simp; done) | (go_simp; rfl)); (case hp => exact (Reps.one (show Kd.M (Kd.int .i64) _ _ _ a1 [.int .i64 a1] from rfl) (Reps.none _ _))); intro v1002 w11 ho12 hb hg_ hnew_; clear hg_ hnew_; (first | rw [← Ny1001.out] at ho12 | (simp only [Int.reduceToNat] at ho12; rw [← Ny1001.out] at ho12)); have n0_ := Aside0.mk (Kd.R_lower ho12 (below_size (by repeat (first | (with_reducible first | exact HB.out | apply below_alloc | apply pw_below_drewN | apply below_drew1) | exact HB.out)))); have n1_ := Aside0.mk (below_step (by repeat (first | (with_reducible first | exact HB.out | apply below_alloc | apply pw_below_drewN | apply below_drew1) | exact HB.out)) hb); clear HB; have HO1003 := n0_; have HB := n1_; clear n0_ n1_; clear hb ho12; obtain ⟨Ao13, co13, eo13⟩ := Kd.R_slice HO1003.out; subst eo13) | ((with_reducible refine gate_callee (f := 41) rfl ?_); refine goesL_ (some 9) rfl rfl Tryd.func41 (by kernel_rfl) rfl #[.int .i64 a0, .slice Ao13 y1001.length co13] rfl (by (try simp only [List.map_toArray, List.map_cons, List.map_nil]); first | done | rfl | (simp only [List.length_drop, List.length_take]; rfl)) ?_; (with_reducible refine (chords_circle_valid.calls a0 _ _ y1001 false _ ?side1 ?side2 A3.out).mono ?_); (case side1 => repeat (first | exact (Kd.R_reads' HO1003.out).2.2 | (with_reducible refine Kd.C_alloc ?_ _) | (with_reducible refine Kd.C_drewN ?_ _) | (with_reducible refine Kd.C_drew ?_))); (case side2 => exact (Kd.R_reads' HO1003.out).2.1); rintro e w14 ⟨rfl, hb⟩; refine ⟨_, rfl, ?_⟩; have n0_ := Aside0.mk (Kd.R_below (by (with_reducible repeat (first | apply Kd.R_alloc | apply Kd.R_drewN | apply Kd.R_drew)); exact HO1003.out) hb); have n1_ := Aside0.mk (below_step (by repeat (first | (with_reducible first | exact HB.out | apply below_alloc | apply pw_below_drewN | apply below_drew1) | exact HB.out)) hb); clear HO1003; clear HB; have HO1003 := n0_; have HB := n1_; clear n0_ n1_; (try clear hb); (try clear hb2); (try clear hk); (try clear hi)))
    go_ret2
    exact ⟨by first | rfl | (simp [errW_none, errW_some] <;> rfl) | (simp [*, errW_none, errW_some] <;> rfl), by repeat (first | (with_reducible first | exact HB.out | apply below_alloc | apply pw_below_drewN | apply below_drew1) | exact HB.out)⟩

end Go.Proofs.YtnjmiodnkjabgaaDoor.P
namespace Go.Proofs.YtnjmiodnkjabgaaDoor.P
open Go.RowKit Go.Proofs.YtnjmiodnkjabgaaDoorW.PrintWords Go.Proofs.YtnjmiodnkjabgaaDoorW.PrintLast Go.Proofs.YtnjmiodnkjabgaaDoorW.PrintMore
attribute [local go_sem] max2_int min2_int max_two min_two max_three min_three max_four min_four   -- for this text's walks alone
set_option linter.unusedVariables false
set_option linter.unusedSimpArgs false

/-! turned chords -/
theorem nextC_w {d : Nat} (h : d ≤ 1000) : wrap64 ((d : Int) + 1) = ((d + 1 : Nat) : Int) := by rw [wrap_id (by omega) (by omega)]; omega
theorem modC_nat {n d : Nat} (h : d < n) : ((d : Int) % (n : Int)).toNat = d := by rw [Int.emod_eq_of_lt (by omega) (by omega)]; omega
noncomputable def turnN (n c : Nat) : Nat := imgN (toN negTo n) c
theorem turnN_lt {n c : Nat} (hn : 1 ≤ n) (hc : c < 2 ^ n) : turnN n c < 2 ^ n := imgN_lt hc (fun x => toN_lt hn x)
theorem turn_f {n c : Nat} (hn : 1 ≤ n) (hn2 : n ≤ 24) (hc : c < 2 ^ n) : chords_circle_turn.f (n : Int) (c : Int) = some (turnN n c : Int) := by
  unfold chords_circle_turn.f
  rw [Int.toNat_natCast, Int.toNat_natCast, if_pos ⟨by omega, by omega, by omega, by rw [← pow_cast]; omega⟩, accTo_all hc]
  rfl

end Go.Proofs.YtnjmiodnkjabgaaDoor.P
namespace Go.Proofs.YtnjmiodnkjabgaaDoor.P
open Go.RowKit Go.Proofs.YtnjmiodnkjabgaaDoorW.PrintWords Go.Proofs.YtnjmiodnkjabgaaDoorW.PrintLast Go.Proofs.YtnjmiodnkjabgaaDoorW.PrintMore
attribute [local go_sem] max2_int min2_int max_two min_two max_three min_three max_four min_four   -- for this text's walks alone
set_option linter.unusedVariables false
set_option linter.unusedSimpArgs false

/-! the images of a chord: a set on which moves and turns act -/
theorem mod2 {n x : Nat} (hx : x < 2 * n) : x % n = if x < n then x else x - n := by
  split
  · rename_i h; exact Nat.mod_eq_of_lt h
  · rename_i h
    rw [Nat.mod_eq_sub_mod (by omega), Nat.mod_eq_of_lt (by omega)]
theorem idx_mm {n i a b : Nat} (hi : i < n) (ha : a < n) (hb : b < n) : ((i + (n - b)) % n + (n - a)) % n = (i + (n - (a + b) % n)) % n := by
  rw [Nat.mod_add_mod, mod2 (x := a + b) (by omega)]
  split
  · rw [show i + (n - b) + (n - a) = i + (n - (a + b)) + n by omega, Nat.add_mod_right]
  · rw [show i + (n - b) + (n - a) = i + (n - (a + b - n)) by omega]
theorem idx_tt {n i : Nat} (hi : i < n) : (n - (n - i) % n) % n = i := by
  rcases Nat.eq_zero_or_pos i with e | e
  · subst e; simp
  · rw [Nat.mod_eq_of_lt (show n - i < n by omega), mod2 (by omega)]; split <;> omega
theorem idx_tm {n i a : Nat} (hi : i < n) (ha : a < n) : ((n - i) % n + (n - a)) % n = (n - (i + (n - (n - a) % n)) % n) % n := by
  rcases Nat.eq_zero_or_pos i with e | e <;> rcases Nat.eq_zero_or_pos a with e2 | e2
  · subst e; subst e2; simp
  · subst e; rw [Nat.sub_zero, Nat.mod_self, Nat.mod_eq_of_lt (show n - a < n by omega)]
    rw [Nat.mod_eq_of_lt (show 0 + (n - a) < n by omega), mod2 (x := 0 + (n - (n - a))) (by omega)]
    split
    · rw [mod2 (by omega)]; split <;> omega
    · omega
  · subst e2; rw [Nat.sub_zero, Nat.mod_self, Nat.mod_eq_of_lt (show n - i < n by omega)]
    rw [mod2 (by omega), mod2 (x := i + (n - 0)) (by omega)]
    split
    · omega
    · split
      · omega
      · rw [mod2 (by omega)]; split <;> omega
  · rw [Nat.mod_eq_of_lt (show n - i < n by omega), Nat.mod_eq_of_lt (show n - a < n by omega)]
    rw [mod2 (x := i + (n - (n - a))) (by omega), mod2 (x := n - i + (n - a)) (by omega)]
    split <;> split
    · rw [mod2 (by omega)]; split <;> omega
    · rw [mod2 (by omega)]; split <;> omega
    · rw [mod2 (by omega)]; split <;> omega
    · rw [mod2 (by omega)]; split <;> omega
theorem toN_neg {n x : Nat} (hx : x < n) : toN negTo n x = (n - x) % n := by
  unfold toN negTo
  rcases Nat.eq_zero_or_pos x with e | e
  · subst e; simp
  · rw [Nat.mod_eq_of_lt (show n - x < n by omega)]
    have : -(x : Int) % (n : Int) = ((n - x : Nat) : Int) := by
      rw [← Int.add_emod_right, Int.emod_eq_of_lt (by omega) (by omega)]; omega
    rw [this, Int.toNat_natCast]
theorem turn_bit {n c i : Nat} (hc : c < 2 ^ n) (hi : i < n) : (turnN n c).testBit i = c.testBit ((n - i) % n) := by
  rw [Bool.eq_iff_iff]
  unfold turnN
  rw [imgN_bit hc]
  constructor
  · rintro ⟨x, hx, he⟩
    have hxn := bit_lt hc hx
    rw [toN_neg hxn] at he
    rw [← he, idx_tt hxn]; exact hx
  · intro h
    refine ⟨_, h, ?_⟩
    rw [toN_neg (Nat.mod_lt _ (by omega)), idx_tt hi]
theorem move_move {n c a b : Nat} (hc : c < 2 ^ n) (ha : a < n) (hb : b < n) : moveN n (moveN n c a) b = moveN n c ((a + b) % n) := by
  refine bits_ext (moveN_lt _ _ _) (moveN_lt _ _ _) (fun i hi => ?_)
  rw [testBit_moveN (moveN_lt _ _ _) hb hi, testBit_moveN hc ha (Nat.mod_lt _ (by omega)), testBit_moveN hc (Nat.mod_lt _ (by omega)) hi, idx_mm hi ha hb]
theorem turn_turn {n c : Nat} (hn : 1 ≤ n) (hc : c < 2 ^ n) : turnN n (turnN n c) = c := by
  refine bits_ext (turnN_lt hn (turnN_lt hn hc)) hc (fun i hi => ?_)
  rw [turn_bit (turnN_lt hn hc) hi, turn_bit hc (Nat.mod_lt _ (by omega)), idx_tt hi]
theorem turn_move {n c a : Nat} (hc : c < 2 ^ n) (ha : a < n) : turnN n (moveN n c a) = moveN n (turnN n c) ((n - a) % n) := by
  have hn : 1 ≤ n := by omega
  refine bits_ext (turnN_lt hn (moveN_lt _ _ _)) (moveN_lt _ _ _) (fun i hi => ?_)
  rw [turn_bit (moveN_lt _ _ _) hi, testBit_moveN hc ha (Nat.mod_lt _ (by omega)), testBit_moveN (turnN_lt hn hc) (Nat.mod_lt _ (by omega)) hi, turn_bit hc (Nat.mod_lt _ (by omega)), idx_tm hi ha]
theorem move_0 {n c : Nat} (hn : 1 ≤ n) (hc : c < 2 ^ n) : moveN n c 0 = c := by
  refine bits_ext (moveN_lt _ _ _) hc (fun i hi => ?_)
  rw [testBit_moveN hc (by omega) hi, Nat.sub_zero, Nat.add_mod_right, Nat.mod_eq_of_lt hi]
theorem move_back {n c a : Nat} (hc : c < 2 ^ n) (ha : a < n) : moveN n (moveN n c a) ((n - a) % n) = c := by
  have hn : 1 ≤ n := by omega
  rw [move_move hc ha (Nat.mod_lt _ hn)]
  have : (a + (n - a) % n) % n = 0 := by
    rcases Nat.eq_zero_or_pos a with e | e
    · subst e; simp
    · rw [Nat.mod_eq_of_lt (show n - a < n by omega), show a + (n - a) = n by omega, Nat.mod_self]
  rw [this, move_0 hn hc]
def IsImg (n c x : Nat) : Prop := ∃ j, j < n ∧ (x = moveN n c j ∨ x = moveN n (turnN n c) j)
theorem IsImg.lt {n c x : Nat} (h : IsImg n c x) : x < 2 ^ n := by
  obtain ⟨j, _, rfl | rfl⟩ := h <;> exact moveN_lt _ _ _
theorem IsImg.refl {n c : Nat} (hn : 1 ≤ n) (hc : c < 2 ^ n) : IsImg n c c := ⟨0, by omega, .inl (move_0 hn hc).symm⟩
theorem IsImg.trans {n c z x : Nat} (hc : c < 2 ^ n) (h : IsImg n c z) (k : IsImg n z x) : IsImg n c x := by
  obtain ⟨j, hj, hz⟩ := h
  obtain ⟨i, hi, hx⟩ := k
  have hn : 1 ≤ n := by omega
  have ht := turnN_lt hn hc
  rcases hz with rfl | rfl <;> rcases hx with rfl | rfl
  · exact ⟨_, Nat.mod_lt _ hn, .inl (move_move hc hj hi)⟩
  · rw [turn_move hc hj, move_move ht (Nat.mod_lt _ hn) hi]; exact ⟨_, Nat.mod_lt _ hn, .inr rfl⟩
  · exact ⟨_, Nat.mod_lt _ hn, .inr (move_move ht hj hi)⟩
  · rw [turn_move ht hj, turn_turn hn hc, move_move hc (Nat.mod_lt _ hn) hi]; exact ⟨_, Nat.mod_lt _ hn, .inl rfl⟩
theorem IsImg.symm {n c z : Nat} (hc : c < 2 ^ n) (h : IsImg n c z) : IsImg n z c := by
  obtain ⟨j, hj, hz⟩ := h
  have hn : 1 ≤ n := by omega
  have ht := turnN_lt hn hc
  rcases hz with rfl | rfl
  · exact ⟨_, Nat.mod_lt _ hn, .inl (move_back hc hj).symm⟩
  · refine ⟨j, hj, .inr ?_⟩
    rw [turn_move ht hj, turn_turn hn hc, move_move hc (Nat.mod_lt _ hn) hj]
    have : ((n - j) % n + j) % n = 0 := by
      rcases Nat.eq_zero_or_pos j with e | e
      · subst e; simp
      · rw [Nat.mod_eq_of_lt (show n - j < n by omega), show n - j + j = n by omega, Nat.mod_self]
    rw [this, move_0 hn hc]
theorem IsImg.iff {n c z x : Nat} (hc : c < 2 ^ n) (h : IsImg n c z) : IsImg n z x ↔ IsImg n c x := ⟨fun k => h.trans hc k, fun k => (h.symm hc).trans h.lt k⟩
/-- how many moves take one chord to another one -/
noncomputable def hits (n a x : Nat) : Nat := cnt n (fun k => decide (moveN n a k = x))
theorem hits_to {n a x j : Nat} (ha : a < 2 ^ n) (hx : x < 2 ^ n) (hj : j < n) : hits n a (moveN n x j) = hits n a x := by
  have hn : 1 ≤ n := by omega
  unfold hits
  rw [← cnt_shift (n - j) (fun k => decide (moveN n a k = x))]
  refine cnt_congr (fun k hk => ?_)
  rw [decide_eq_decide]
  have e : moveN n (moveN n a k) ((n - j) % n) = moveN n a ((k + (n - j)) % n) := by
    rw [move_move ha hk (Nat.mod_lt _ hn), Nat.add_mod_mod]
  constructor
  · intro h; rw [← e, h, move_back hx hj]
  · intro h
    have h2 : moveN n (moveN n (moveN n a k) ((n - j) % n)) j = moveN n x j := by rw [e, h]
    rw [move_move (moveN_lt _ _ _) (Nat.mod_lt _ hn) hj] at h2
    have : ((n - j) % n + j) % n = 0 := by
      rcases Nat.eq_zero_or_pos j with e | e
      · subst e; simp
      · rw [Nat.mod_eq_of_lt (show n - j < n by omega), show n - j + j = n by omega, Nat.mod_self]
    rw [this, move_0 hn (moveN_lt _ _ _)] at h2
    exact h2
theorem hits_from {n a x i : Nat} (ha : a < 2 ^ n) (hi : i < n) : hits n (moveN n a i) x = hits n a x := by
  unfold hits
  rw [← cnt_shift i (fun k => decide (moveN n a k = x))]
  refine cnt_congr (fun k hk => ?_)
  rw [move_move ha hi hk, Nat.add_comm]
theorem cnt_reflect {n : Nat} (p : Nat → Bool) : cnt n (fun k => p ((n - k) % n)) = cnt n p :=
  cnt_perm (f := fun k => (n - k) % n) (fun i hi => Nat.mod_lt _ (by omega)) (fun i hi j hj e => by
    have h1 := congrArg (fun z => (n - z) % n) e
    simp only [idx_tt hi, idx_tt hj] at h1
    exact h1) p
theorem hits_turn {n a x : Nat} (hn : 1 ≤ n) (ha : a < 2 ^ n) (hx : x < 2 ^ n) : hits n (turnN n a) (turnN n x) = hits n a x := by
  unfold hits
  rw [← cnt_reflect (fun k => decide (moveN n (turnN n a) k = turnN n x))]
  refine cnt_congr (fun k hk => ?_)
  rw [decide_eq_decide, ← turn_move ha hk]
  constructor
  · intro h
    have := congrArg (turnN n) h
    rwa [turn_turn hn (moveN_lt _ _ _), turn_turn hn hx] at this
  · intro h; rw [h]
noncomputable def stays (n c : Nat) : Nat := hits n c c
noncomputable def turns (n c : Nat) : Nat := hits n (turnN n c) c
theorem still_img {n c z : Nat} (hc : c < 2 ^ n) (h : IsImg n c z) : stays n z = stays n c ∧ turns n z = turns n c := by
  obtain ⟨j, hj, hz⟩ := h
  have hn : 1 ≤ n := by omega
  have ht := turnN_lt hn hc
  have mv : ∀ a, a < 2 ^ n → stays n (moveN n a j) = stays n a ∧ turns n (moveN n a j) = turns n a := fun a ha => by
    constructor
    · unfold stays; rw [hits_from ha hj, hits_to ha ha hj]
    · unfold turns; rw [turn_move ha hj, hits_from (turnN_lt hn ha) (Nat.mod_lt _ hn), hits_to (turnN_lt hn ha) ha hj]
  have tn : stays n (turnN n c) = stays n c ∧ turns n (turnN n c) = turns n c := by
    constructor
    · unfold stays; exact hits_turn hn hc hc
    · unfold turns
      have := hits_turn hn ht hc
      exact this
  rcases hz with rfl | rfl
  · exact mv c hc
  · exact ⟨(mv _ ht).1.trans tn.1, (mv _ ht).2.trans tn.2⟩
theorem hits_img {n c x : Nat} (hc : c < 2 ^ n) (h : IsImg n c x) : hits n c x + hits n (turnN n c) x = stays n c + turns n c := by
  obtain ⟨j, hj, hz⟩ := h
  have hn : 1 ≤ n := by omega
  have ht := turnN_lt hn hc
  rcases hz with rfl | rfl
  · rw [hits_to hc hc hj, hits_to ht hc hj]; rfl
  · rw [hits_to hc ht hj, hits_to ht ht hj]
    have e1 : hits n c (turnN n c) = turns n c := by
      have := hits_turn hn hc ht
      rw [turn_turn hn hc] at this
      unfold turns; exact this.symm
    have e2 : hits n (turnN n c) (turnN n c) = stays n c := hits_turn hn hc hc
    rw [e1, e2]; omega
theorem cnt_false (n : Nat) : cnt n (fun _ => false) = 0 := by rw [cnt_eq]; simp
theorem cnt_true (n : Nat) : cnt n (fun _ => true) = n := by rw [cnt_eq]; simp
theorem sum_hits {n a : Nat} : ∀ (L : List Nat), L.Nodup → (L.map fun x => hits n a x).sum = cnt n (fun k => decide (moveN n a k ∈ L))
  | [], _ => by simp [cnt_false]
  | x :: L, hd => by
    rw [List.nodup_cons] at hd
    rw [List.map_cons, List.sum_cons, sum_hits L hd.2]
    rw [cnt_split (fun k => decide (moveN n a k ∈ x :: L)) (fun k => decide (moveN n a k = x))]
    unfold hits
    congr 1
    · refine cnt_congr (fun k _ => ?_)
      rw [← Bool.decide_and, decide_eq_decide]
      exact ⟨fun h => ⟨by simp [h], h⟩, fun h => h.2⟩
    · refine cnt_congr (fun k _ => ?_)
      by_cases h : moveN n a k = x
      · have : x ∉ L := hd.1
        simp [h, this]
      · simp [h]
/-- as many images, each as often as what leaves the chord as it is -/
theorem orbit_count {n c : Nat} (hn : 1 ≤ n) (hc : c < 2 ^ n) (L : List Nat) (hd : L.Nodup) (hm : ∀ x, x ∈ L ↔ IsImg n c x) : L.length * (stays n c + turns n c) = 2 * n := by
  have h1 := sum_hits (n := n) (a := c) L hd
  have h2 := sum_hits (n := n) (a := turnN n c) L hd
  have e1 : cnt n (fun k => decide (moveN n c k ∈ L)) = n := by
    have : cnt n (fun k => decide (moveN n c k ∈ L)) = cnt n (fun _ => true) := cnt_congr (fun k hk => decide_eq_true ((hm _).2 ⟨k, hk, .inl rfl⟩))
    rw [this, cnt_true]
  have e2 : cnt n (fun k => decide (moveN n (turnN n c) k ∈ L)) = n := by
    have : cnt n (fun k => decide (moveN n (turnN n c) k ∈ L)) = cnt n (fun _ => true) := cnt_congr (fun k hk => decide_eq_true ((hm _).2 ⟨k, hk, .inr rfl⟩))
    rw [this, cnt_true]
  rw [e1] at h1; rw [e2] at h2
  have h3 : ∀ M : List Nat, (∀ x ∈ M, x ∈ L) → (M.map fun x => hits n c x).sum + (M.map fun x => hits n (turnN n c) x).sum = M.length * (stays n c + turns n c) := by
    intro M
    induction M with
    | nil => intro _; simp
    | cons x M ih =>
      intro hM
      have := ih (fun y hy => hM y (List.mem_cons_of_mem _ hy))
      have hx := hits_img hc ((hm x).1 (hM x (by simp)))
      simp only [List.map_cons, List.sum_cons, List.length_cons, Nat.succ_mul]
      omega
  have := h3 L (fun x hx => hx)
  omega
/-- the vector is the same for all images -/
theorem common_move {n c j d : Nat} (hc : c < 2 ^ n) (hj : j < n) (hd : d < n) : common n (moveN n c j) (moveN n c j) d = common n c c d := by
  rw [common_cnt, common_cnt, ← cnt_shift (n - j) (fun i => c.testBit i && c.testBit ((i + (n - d)) % n))]
  refine cnt_congr (fun i hi => ?_)
  have hn : 1 ≤ n := by omega
  rw [testBit_moveN hc hj hi, testBit_moveN hc hj (Nat.mod_lt _ hn)]
  congr 2
  rw [Nat.mod_add_mod, Nat.mod_add_mod]
  congr 1; omega
theorem common_turn {n c d : Nat} (hn : 1 ≤ n) (hc : c < 2 ^ n) (hd : d < n) : common n (turnN n c) (turnN n c) d = common n c c d := by
  rw [common_cnt, common_cnt]
  have e1 : cnt n (fun i => (turnN n c).testBit i && (turnN n c).testBit ((i + (n - d)) % n)) = cnt n (fun i => (fun k => c.testBit k && c.testBit ((k + d) % n)) ((n - i) % n)) := by
    refine cnt_congr (fun i hi => ?_)
    rw [turn_bit hc hi, turn_bit hc (Nat.mod_lt _ hn)]
    congr 2
    have := idx_tm (n := n) (i := i) (a := (n - d) % n) hi (Nat.mod_lt _ hn)
    rw [idx_tt hd] at this
    rw [← this]
    have e3 : (n - (n - d) % n) = if d = 0 then n else d := by
      rcases Nat.eq_zero_or_pos d with e | e
      · subst e; simp
      · rw [Nat.mod_eq_of_lt (show n - d < n by omega), if_neg (by omega)]; omega
    rw [e3]
    split
    · rename_i e; subst e; rw [Nat.add_mod_right, Nat.add_zero]
    · rfl
  rw [e1, cnt_reflect (fun k => c.testBit k && c.testBit ((k + d) % n)), ← cnt_shift d (fun i => c.testBit i && c.testBit ((i + (n - d)) % n))]
  refine cnt_congr (fun i hi => ?_)
  have e2 : ((i + d) % n + (n - d)) % n = i := by rw [Nat.mod_add_mod, show i + d + (n - d) = i + n by omega, Nat.add_mod_right, Nat.mod_eq_of_lt hi]
  rw [e2, Bool.and_comm]
theorem vec_img {n c z : Nat} (hn : 2 ≤ n) (hc : c < 2 ^ n) (h : IsImg n c z) : vecOf n z = vecOf n c := by
  have hcm : ∀ d, d < n → common n z z d = common n c c d := by
    intro d hd
    obtain ⟨j, hj, hz⟩ := h
    rcases hz with rfl | rfl
    · exact common_move hc hj hd
    · rw [common_move (turnN_lt (by omega) hc) hj hd, common_turn (by omega) hc hd]
  rw [vecOf_eq, vecOf_eq]
  refine List.map_congr_left (fun i hi => ?_)
  have hi' := List.mem_range.1 hi
  unfold vecAt
  rw [hcm (i + 1) (by omega)]

end Go.Proofs.YtnjmiodnkjabgaaDoor.P
namespace Go.Proofs.YtnjmiodnkjabgaaDoor.P
open Go.RowKit Go.Proofs.YtnjmiodnkjabgaaDoorW.PrintWords Go.Proofs.YtnjmiodnkjabgaaDoorW.PrintLast Go.Proofs.YtnjmiodnkjabgaaDoorW.PrintMore
attribute [local go_sem] max2_int min2_int max_two min_two max_three min_three max_four min_four   -- for this text's walks alone
set_option linter.unusedVariables false
set_option linter.unusedSimpArgs false

/-! the images of a chord, as the program and the reference list them -/
noncomputable def clsN (n c : Nat) : List Nat := Seal ((List.range (2 ^ n)).filter fun x => @decide (IsImg n c x) (Classical.propDecidable _))
theorem clsN_mem {n c x : Nat} : x ∈ clsN n c ↔ IsImg n c x := by
  unfold clsN
  rw [Seal_eq, List.mem_filter, List.mem_range, @decide_eq_true_iff _ (Classical.propDecidable _)]
  exact ⟨fun h => h.2, fun h => ⟨h.lt, h⟩⟩
theorem clsN_lt (n c : Nat) : (clsN n c).Pairwise (· < ·) := by
  unfold clsN
  rw [Seal_eq]
  exact List.Pairwise.filter _ List.pairwise_lt_range
theorem nodup_of_lt {l : List Nat} (h : l.Pairwise (· < ·)) : l.Nodup := List.Pairwise.imp (fun h => Nat.ne_of_lt h) h
theorem nodup_of_ltI {l : List Int} (h : l.Pairwise (· < ·)) : l.Nodup := List.Pairwise.imp (fun h => Int.ne_of_lt h) h
noncomputable def clsI (n c : Nat) : List Int := (clsN n c).map Int.ofNat
theorem clsI_lt (n c : Nat) : (clsI n c).Pairwise (· < ·) := List.Pairwise.map _ (fun _ _ h => Int.ofNat_lt.2 h) (clsN_lt n c)
theorem clsI_mem {n c : Nat} {x : Int} : x ∈ clsI n c ↔ ∃ y : Nat, x = y ∧ IsImg n c y := by
  unfold clsI
  rw [List.mem_map]
  constructor
  · rintro ⟨y, hy, rfl⟩; exact ⟨y, rfl, clsN_mem.1 hy⟩
  · rintro ⟨y, rfl, hy⟩; exact ⟨y, clsN_mem.2 hy, rfl⟩
theorem strict_unique {a b : List Int} (ha : a.Pairwise (· < ·)) (hb : b.Pairwise (· < ·)) (h : ∀ x, x ∈ a ↔ x ∈ b) : a = b :=
  List.Perm.eq_of_pairwise (le := (· < ·)) (fun _ _ _ _ h1 h2 => absurd h1 (by omega)) ha hb ((List.perm_ext_iff_of_nodup (nodup_of_ltI ha) (nodup_of_ltI hb)).2 h)
theorem get_bang {zs : List Int} {i : Nat} (h : i < zs.length) : zs.toArray[i]! = zs[i] := by simp [h]
theorem compact_upto {zs : List Int} (hs : zs.Pairwise (· ≤ ·)) : ∀ m, m ≤ zs.length → (Lib.compactUpTo zs.toArray m).Pairwise (· < ·) ∧ ∀ x, x ∈ Lib.compactUpTo zs.toArray m ↔ ∃ j, ∃ h : j < zs.length, j < m ∧ zs[j] = x
  | 0, _ => by simp [Lib.compactUpTo]
  | m + 1, hm => by
    obtain ⟨ih1, ih2⟩ := compact_upto hs m (by omega)
    have hml : m < zs.length := by omega
    rw [Lib.compactUpTo_succ, get_bang hml]
    have hle : ∀ j, ∀ h : j < zs.length, j < m → zs[j] ≤ zs[m] := fun j h hj => List.pairwise_iff_getElem.1 hs j m h hml hj
    by_cases hk : Lib.keeps zs.toArray m = true
    · rw [if_pos hk]
      have hne : m = 0 ∨ zs[m - 1]'(by omega) ≠ zs[m] := by
        rcases Nat.eq_zero_or_pos m with e | e
        · exact .inl e
        · right
          intro he
          have := Lib.keeps_neg (d := zs.toArray) e (by rw [get_bang hml, get_bang (by omega)]; exact he.symm)
          rw [this] at hk; cases hk
      have hlt : ∀ j, ∀ h : j < zs.length, j < m → zs[j] < zs[m] := fun j h hj => by
        rcases hne with e | e
        · omega
        · have h1 : zs[j] ≤ zs[m - 1]'(by omega) := by
            rcases Nat.lt_or_eq_of_le (show j ≤ m - 1 by omega) with h2 | h2
            · exact List.pairwise_iff_getElem.1 hs j (m - 1) h (by omega) h2
            · subst h2; exact Int.le_refl _
          have h2 := hle (m - 1) (by omega) (by omega)
          omega
      refine ⟨?_, fun x => ?_⟩
      · rw [List.pairwise_append]
        refine ⟨ih1, by simp, fun a ha b hb => ?_⟩
        obtain ⟨j, h, hj, rfl⟩ := (ih2 a).1 ha
        rw [List.mem_singleton] at hb; subst hb
        exact hlt j h hj
      · rw [List.mem_append, ih2, List.mem_singleton]
        constructor
        · rintro (⟨j, h, hj, rfl⟩ | rfl)
          · exact ⟨j, h, by omega, rfl⟩
          · exact ⟨m, hml, by omega, rfl⟩
        · rintro ⟨j, h, hj, rfl⟩
          rcases Nat.lt_or_ge j m with h2 | h2
          · exact .inl ⟨j, h, h2, rfl⟩
          · obtain rfl : j = m := by omega
            exact .inr rfl
    · rw [if_neg hk, List.append_nil]
      have hm0 : 0 < m := Nat.pos_of_ne_zero (fun e => hk (by subst e; simp [Lib.keeps]))
      have he : zs[m] = zs[m - 1]'(by omega) := by
        refine Classical.byContradiction fun hne => hk (Lib.keeps_pos ?_)
        rw [get_bang hml, get_bang (by omega)]; exact hne
      refine ⟨ih1, fun x => ?_⟩
      rw [ih2]
      constructor
      · rintro ⟨j, h, hj, rfl⟩; exact ⟨j, h, by omega, rfl⟩
      · rintro ⟨j, h, hj, rfl⟩
        rcases Nat.lt_or_ge j m with h2 | h2
        · exact ⟨j, h, h2, rfl⟩
        · obtain rfl : j = m := by omega
          exact ⟨j - 1, by omega, by omega, he.symm⟩
theorem compact_sorted {zs : List Int} (hs : zs.Pairwise (· ≤ ·)) : (Lib.compact zs).Pairwise (· < ·) ∧ ∀ x, x ∈ Lib.compact zs ↔ x ∈ zs := by
  obtain ⟨h1, h2⟩ := compact_upto hs zs.length (Nat.le_refl _)
  refine ⟨h1, fun x => (h2 x).trans ?_⟩
  rw [List.mem_iff_getElem]
  exact ⟨fun ⟨j, h, _, e⟩ => ⟨j, h, e⟩, fun ⟨j, h, e⟩ => ⟨j, h, h, e⟩⟩
theorem sort_le (l : List Int) : (l.mergeSort fun x y => decide (x ≤ y)).Pairwise (· ≤ ·) := by
  have := List.pairwise_mergeSort (le := fun x y : Int => decide (x ≤ y)) (by intros; simp at *; omega) (by intros; simp; omega) l
  exact List.Pairwise.imp (fun h => by simpa using h) this
/-- sorted, and each one once: just the strictly rising list of the same numbers -/
theorem sort_compact {l m : List Int} (hm : m.Pairwise (· < ·)) (h : ∀ x, x ∈ l ↔ x ∈ m) : Lib.compact (l.mergeSort fun x y => decide (x ≤ y)) = m := by
  obtain ⟨h1, h2⟩ := compact_sorted (sort_le l)
  refine strict_unique h1 hm (fun x => ?_)
  rw [h2, (List.mergeSort_perm l _).mem_iff, h]
def imgPairs (n c t d : Nat) : List Int := (List.range d).flatMap fun k => [(moveN n c k : Int), (moveN n t k : Int)]
theorem imgPairs_succ (n c t d : Nat) : imgPairs n c t (d + 1) = imgPairs n c t d ++ [(moveN n c d : Int), (moveN n t d : Int)] := by unfold imgPairs; rw [List.range_succ]; simp
theorem imgPairs_length (n c t d : Nat) : (imgPairs n c t d).length = 2 * d := by
  induction d with
  | zero => rfl
  | succ d ih => rw [imgPairs_succ, List.length_append, ih]; simp; omega
theorem images_loop {n c : Nat} (hn : 1 ≤ n) (hn2 : n ≤ 24) (hc : c < 2 ^ n) : ∀ (m d : Nat), d + m = n →
    Ev (fun k => chords_circle_images.l0 k (n : Int) (c : Int) (imgPairs n c (turnN n c) d) (n : Int) (d : Int)) (clsI n c) := by
  intro m
  induction m with
  | zero =>
    intro d hd
    have hdn : d = n := by omega
    have p1 : ¬ (d : Int) < (n : Int) := by omega
    have hl := imgPairs_length n c (turnN n c) d
    refine Ev.succ ?_
    simp only [chords_circle_images.l0, if_neg p1]
    have s1 : slices_Sort_int_int.f (imgPairs n c (turnN n c) d) = some ((imgPairs n c (turnN n c) d).mergeSort fun x y => decide (x ≤ y)) := by
      unfold slices_Sort_int_int.f; rw [if_pos (by omega)]
    have s2 : slices_Compact_int_int.f ((imgPairs n c (turnN n c) d).mergeSort fun x y => decide (x ≤ y)) = some (clsI n c) := by
      unfold slices_Compact_int_int.f
      rw [if_pos (by rw [List.length_mergeSort]; omega)]
      congr 1
      refine sort_compact (clsI_lt n c) (fun x => ?_)
      rw [clsI_mem]
      unfold imgPairs
      rw [List.mem_flatMap, hdn]
      constructor
      · rintro ⟨k, hk, hx⟩
        have hk' := List.mem_range.1 hk
        rcases List.mem_cons.1 hx with e | e
        · exact ⟨_, e, k, hk', .inl rfl⟩
        · rw [List.mem_singleton] at e; exact ⟨_, e, k, hk', .inr rfl⟩
      · rintro ⟨y, rfl, k, hk, e | e⟩
        · exact ⟨k, List.mem_range.2 hk, by rw [e]; simp⟩
        · exact ⟨k, List.mem_range.2 hk, by rw [e]; simp⟩
    refine Ev.bind_some s1 ?_
    refine Ev.bind_some s2 ?_
    exact Ev.some _
  | succ m ih =>
    intro d hd
    have hdn : d < n := by omega
    have p1 : (d : Int) < (n : Int) := by omega
    have m1 := move_f (d : Int) hn hn2 hc
    have m2 := move_f (d : Int) hn hn2 (turnN_lt hn hc)
    rw [modC_nat hdn] at m1 m2
    have hw := nextC_w (d := d) (by omega)
    have hl := imgPairs_length n c (turnN n c) d
    have p2 : (imgPairs n c (turnN n c) d).length + [(moveN n c d : Int), (moveN n (turnN n c) d : Int)].length < 17592186044416 := by simp; omega
    refine Ev.succ ?_
    simp only [chords_circle_images.l0, if_pos p1]
    refine Ev.bind_some m1 ?_
    refine Ev.bind_some (turn_f hn hn2 hc) ?_
    refine Ev.bind_some m2 ?_
    simp only [Option.bind_some, if_pos p2, hw]
    rw [← imgPairs_succ]
    exact ih (d + 1) (by omega)
theorem images_ev {n c : Nat} (hn : 1 ≤ n) (hn2 : n ≤ 24) (hc : c < 2 ^ n) : Ev (fun k => chords_circle_images.f k (n : Int) (c : Int)) (clsI n c) := by
  unfold chords_circle_images.f
  exact images_loop hn hn2 hc n 0 (by omega)
/-- the least image -/
noncomputable def priI (n c : Nat) : Int := rd (clsI n c) 0
theorem clsI_pos {n c : Nat} (hn : 1 ≤ n) (hc : c < 2 ^ n) : 0 < (clsI n c).length := by
  have : (c : Int) ∈ clsI n c := clsI_mem.2 ⟨c, rfl, IsImg.refl hn hc⟩
  exact List.length_pos_of_mem this
theorem prime_ev {n c : Nat} (hn : 1 ≤ n) (hn2 : n ≤ 24) (hc : c < 2 ^ n) : Ev (fun k => chords_circle_prime.f k (n : Int) (c : Int)) (priI n c) := by
  have p : (0 : Int) < ((clsI n c).length : Int) := by have := clsI_pos hn hc; omega
  unfold chords_circle_prime.f
  refine Ev.bind (images_ev hn hn2 hc) ?_
  simp only [if_pos p]
  exact Ev.some _
theorem Prime_ev (n c : Int) : Ev (fun k => chords_Prime.f k n c) (if ValidC n c then (priI n.toNat c.toNat, 0) else (0, 2)) := by
  unfold chords_Prime.f
  refine Ev.bind_some (valid1_f n c) ?_
  by_cases h : ValidC n c
  · simp only [h, decide_true, if_true]
    obtain ⟨N, C, rfl, rfl, h2, h16, hC⟩ := validC_nat h
    simp only [Int.toNat_natCast]
    refine Ev.bind (prime_ev (by omega) (by omega) hC) ?_
    exact Ev.some _
  · simp only [h, decide_false, Bool.false_eq_true, if_false]
    exact Ev.some _
theorem priI_spec {n c : Nat} (hn : 1 ≤ n) (hc : c < 2 ^ n) : ∃ p : Nat, priI n c = p ∧ IsImg n c p ∧ ∀ x, IsImg n c x → p ≤ x := by
  have hp := clsI_pos hn hc
  have hm : priI n c ∈ clsI n c := by unfold priI; exact rd_mem (i := 0) hp
  obtain ⟨p, e, hi⟩ := clsI_mem.1 hm
  refine ⟨p, e, hi, fun x hx => ?_⟩
  have hxm : (x : Int) ∈ clsI n c := clsI_mem.2 ⟨x, rfl, hx⟩
  obtain ⟨j, hj, ej⟩ := List.mem_iff_getElem.1 hxm
  have e0 : (clsI n c)[0] = (p : Int) := by rw [← e]; unfold priI; exact (rd_get (i := 0) hp).symm
  rcases Nat.eq_zero_or_pos j with h0 | h0
  · subst h0; omega
  · have := List.pairwise_iff_getElem.1 (clsI_lt n c) 0 j hp hj h0
    omega

end Go.Proofs.YtnjmiodnkjabgaaDoor.P
namespace Go.Proofs.YtnjmiodnkjabgaaDoor.P
open Go.RowKit Go.Proofs.YtnjmiodnkjabgaaDoorW.PrintWords Go.Proofs.YtnjmiodnkjabgaaDoorW.PrintLast Go.Proofs.YtnjmiodnkjabgaaDoorW.PrintMore
attribute [local go_sem] max2_int min2_int max_two min_two max_three min_three max_four min_four   -- for this text's walks alone
set_option linter.unusedVariables false
set_option linter.unusedSimpArgs false

/-! the prime forms of a size: as many as of the size of the others; their images are all chords of the size -/
def turnC (n c : Nat) : Nat := orAll 0 ((List.range n).filter fun i => c.testBit ((n - i) % n))
theorem turnC_eq {n c : Nat} (hn : 1 ≤ n) (hc : c < 2 ^ n) : turnC n c = turnN n c := by
  refine bits_ext (n := n) ?_ (turnN_lt hn hc) (fun i hi => ?_)
  · exact orAll_lt _ (fun x hx => List.mem_range.1 (List.mem_filter.1 hx).1) 0 (Nat.two_pow_pos n)
  · unfold turnC
    rw [testBit_orAll, turn_bit hc hi, Nat.zero_testBit, Bool.false_or, Bool.eq_iff_iff, decide_eq_true_iff, List.mem_filter, List.mem_range]
    exact ⟨fun h => h.2, fun h => ⟨hi, h⟩⟩
def isPri (n c : Nat) : Bool := (List.range n).all fun k => decide (c ≤ moveN n c k) && decide (c ≤ moveN n (turnC n c) k)
theorem isPri_least {n c : Nat} (hn : 1 ≤ n) (hc : c < 2 ^ n) : isPri n c = true ↔ ∀ x, IsImg n c x → c ≤ x := by
  unfold isPri
  rw [turnC_eq hn hc, List.all_eq_true]
  constructor
  · rintro h x ⟨j, hj, hx⟩
    have := h j (List.mem_range.2 hj)
    rw [Bool.and_eq_true, decide_eq_true_iff, decide_eq_true_iff] at this
    rcases hx with rfl | rfl
    · exact this.1
    · exact this.2
  · intro h k hk
    rw [Bool.and_eq_true, decide_eq_true_iff, decide_eq_true_iff]
    exact ⟨h _ ⟨k, List.mem_range.1 hk, .inl rfl⟩, h _ ⟨k, List.mem_range.1 hk, .inr rfl⟩⟩
theorem isPri_iff {n c : Nat} (hn : 1 ≤ n) (hc : c < 2 ^ n) : isPri n c = true ↔ priI n c = (c : Int) := by
  obtain ⟨p, hp, hi, hl⟩ := priI_spec hn hc
  rw [isPri_least hn hc, hp]
  constructor
  · intro h
    have h1 := h p hi
    have h2 := hl c (IsImg.refl hn hc)
    omega
  · intro h x hx
    have h1 := hl x hx
    omega
def prims (n s : Nat) : List Nat := (List.range (2 ^ n)).filter fun c => decide (cntBits n c = s) && isPri n c
theorem mem_prims {n s c : Nat} (hn : 1 ≤ n) : c ∈ prims n s ↔ c < 2 ^ n ∧ cntBits n c = s ∧ ∀ x, IsImg n c x → c ≤ x := by
  unfold prims
  rw [List.mem_filter, List.mem_range, Bool.and_eq_true, decide_eq_true_iff]
  constructor
  · rintro ⟨h1, h2, h3⟩; exact ⟨h1, h2, (isPri_least hn h1).1 h3⟩
  · rintro ⟨h1, h2, h3⟩; exact ⟨h1, h2, (isPri_least hn h1).2 h3⟩
theorem prims_nodup (n s : Nat) : (prims n s).Nodup := nodup_of_lt (List.Pairwise.filter _ List.pairwise_lt_range)
theorem compl_compl {n c : Nat} (hc : c < 2 ^ n) : compl n (compl n c) = c := by
  unfold compl
  generalize 2 ^ n = P at hc ⊢
  omega
theorem compl_inj {n a b : Nat} (ha : a < 2 ^ n) (hb : b < 2 ^ n) (h : compl n a = compl n b) : a = b := by
  have := congrArg (compl n) h
  rwa [compl_compl ha, compl_compl hb] at this
theorem move_compl {n c j : Nat} (hc : c < 2 ^ n) (hj : j < n) : moveN n (compl n c) j = compl n (moveN n c j) := by
  refine bits_ext (moveN_lt _ _ _) (compl_lt _ _) (fun i hi => ?_)
  rw [testBit_moveN (compl_lt _ _) hj hi, testBit_compl hc (Nat.mod_lt _ (by omega)), testBit_compl (moveN_lt _ _ _) hi, testBit_moveN hc hj hi]
theorem turn_compl {n c : Nat} (hn : 1 ≤ n) (hc : c < 2 ^ n) : turnN n (compl n c) = compl n (turnN n c) := by
  refine bits_ext (turnN_lt hn (compl_lt _ _)) (compl_lt _ _) (fun i hi => ?_)
  rw [turn_bit (compl_lt _ _) hi, testBit_compl hc (Nat.mod_lt _ (by omega)), testBit_compl (turnN_lt hn hc) hi, turn_bit hc hi]
theorem img_compl {n c x : Nat} (hn : 1 ≤ n) (hc : c < 2 ^ n) (h : IsImg n c x) : IsImg n (compl n c) (compl n x) := by
  obtain ⟨j, hj, h⟩ := h
  refine ⟨j, hj, ?_⟩
  rcases h with rfl | rfl
  · exact .inl (move_compl hc hj).symm
  · right; rw [turn_compl hn hc, move_compl (turnN_lt hn hc) hj]
theorem cnt_bit (n c : Nat) : cntBits n c = cnt n c.testBit := (chSize_bits n c).trans (chSize_cnt n c)
theorem size_move {n c j : Nat} (hc : c < 2 ^ n) (hj : j < n) : cntBits n (moveN n c j) = cntBits n c := by
  rw [cnt_bit, cnt_bit, ← cnt_shift (n - j) c.testBit]
  exact cnt_congr (fun i hi => testBit_moveN hc hj hi)
theorem size_turn {n c : Nat} (hc : c < 2 ^ n) : cntBits n (turnN n c) = cntBits n c := by
  rw [cnt_bit, cnt_bit, ← cnt_reflect c.testBit]
  exact cnt_congr (fun i hi => turn_bit hc hi)
theorem size_img {n c x : Nat} (hn : 1 ≤ n) (hc : c < 2 ^ n) (h : IsImg n c x) : cntBits n x = cntBits n c := by
  obtain ⟨j, hj, rfl | rfl⟩ := h
  · exact size_move hc hj
  · rw [size_move (turnN_lt hn hc) hj, size_turn hc]
theorem size_compl {n c : Nat} (hc : c < 2 ^ n) : cntBits n (compl n c) = n - cntBits n c := by
  rw [cnt_bit, cnt_bit, ← cnt_not]
  exact cnt_congr (fun i hi => testBit_compl hc hi)
theorem size_le (n c : Nat) : cntBits n c ≤ n := by rw [cnt_bit]; exact cnt_le _ _
noncomputable def pnN (n c : Nat) : Nat := (priI n c).toNat
theorem pnN_spec {n c : Nat} (hn : 1 ≤ n) (hc : c < 2 ^ n) : priI n c = (pnN n c : Int) ∧ IsImg n c (pnN n c) ∧ ∀ x, IsImg n c x → pnN n c ≤ x := by
  obtain ⟨p, h, hi, hl⟩ := priI_spec hn hc
  have e : pnN n c = p := by unfold pnN; rw [h, Int.toNat_natCast]
  rw [e]; exact ⟨h, hi, hl⟩
theorem pn_prims {n s c : Nat} (hn : 1 ≤ n) (hc : c < 2 ^ n) (hs : cntBits n c = s) : pnN n c ∈ prims n s := by
  obtain ⟨-, hi, hl⟩ := pnN_spec hn hc
  rw [mem_prims hn]
  exact ⟨hi.lt, by rw [size_img hn hc hi, hs], fun x hx => hl x (hi.trans hc hx)⟩
theorem sub_len : ∀ (l l' : List Nat), l.Nodup → (∀ c, c ∈ l → c ∈ l') → l.length ≤ l'.length
  | [], _, _, _ => Nat.zero_le _
  | c :: l, l', hd, hs => by
    have h1 := hs c (by simp)
    have hd' := List.nodup_cons.1 hd
    have := sub_len l (l'.erase c) hd'.2 (fun x hx => by
      have hx' := hs x (by simp [hx])
      have hne : x ≠ c := fun e => hd'.1 (e ▸ hx)
      exact (List.mem_erase_of_ne hne).2 hx')
    rw [List.length_erase_of_mem h1] at this
    have hp : 0 < l'.length := List.length_pos_of_mem h1
    simp only [List.length_cons]; omega
theorem inj_nodup {f : Nat → Nat} : ∀ (l : List Nat), l.Nodup → (∀ x ∈ l, ∀ y ∈ l, f x = f y → x = y) → (l.map f).Nodup
  | [], _, _ => List.nodup_nil
  | a :: l, hd, hi => by
    have hd' := List.nodup_cons.1 hd
    rw [List.map_cons, List.nodup_cons]
    refine ⟨fun h => ?_, inj_nodup l hd'.2 (fun x hx y hy => hi x (by simp [hx]) y (by simp [hy]))⟩
    obtain ⟨x, hx, e⟩ := List.mem_map.1 h
    have := hi x (by simp [hx]) a (by simp) e
    exact hd'.1 (this ▸ hx)
/-- two prime forms with one image in common are one -/
theorem prims_one {n s t a b x : Nat} (hn : 1 ≤ n) (ha : a ∈ prims n s) (hb : b ∈ prims n t) (h1 : IsImg n a x) (h2 : IsImg n b x) : a = b := by
  obtain ⟨a1, _, a3⟩ := (mem_prims hn).1 ha
  obtain ⟨b1, _, b3⟩ := (mem_prims hn).1 hb
  have hab : IsImg n a b := h1.trans a1 (h2.symm b1)
  have h3 := a3 b hab
  have h4 := b3 a (hab.symm a1)
  omega
theorem prims_le {n s : Nat} (hn : 1 ≤ n) (hs : s ≤ n) : (prims n s).length ≤ (prims n (n - s)).length := by
  rw [← List.length_map (f := fun c => pnN n (compl n c))]
  refine sub_len _ _ (inj_nodup _ (prims_nodup n s) (fun x hx y hy e => ?_)) (fun c hc => ?_)
  · obtain ⟨x1, _, _⟩ := (mem_prims hn).1 hx
    obtain ⟨y1, _, _⟩ := (mem_prims hn).1 hy
    have hx2 := (pnN_spec hn (compl_lt n x)).2.1
    have hy2 := (pnN_spec hn (compl_lt n y)).2.1
    have e' : pnN n (compl n x) = pnN n (compl n y) := e
    rw [← e'] at hy2
    have h3 := img_compl hn (compl_lt n x) hx2
    have h4 := img_compl hn (compl_lt n y) hy2
    rw [compl_compl x1] at h3
    rw [compl_compl y1] at h4
    exact prims_one hn hx hy h3 h4
  · obtain ⟨x, hx, rfl⟩ := List.mem_map.1 hc
    obtain ⟨x1, x2, _⟩ := (mem_prims hn).1 hx
    exact pn_prims hn (compl_lt n x) (by rw [size_compl x1, x2])
theorem prims_compl {n s : Nat} (hn : 1 ≤ n) (hs : s ≤ n) : (prims n s).length = (prims n (n - s)).length := by
  have h1 := prims_le hn hs
  have h2 := prims_le hn (Nat.sub_le n s)
  rw [show n - (n - s) = s by omega] at h2
  omega
/-- the chords of a size -/
def allOf (n s : Nat) : List Nat := (List.range (2 ^ n)).filter fun c => decide (cntBits n c = s)
theorem cls_sum {n s : Nat} (hn : 1 ≤ n) : ∀ (L : List Nat), L.Nodup → (∀ p ∈ L, p ∈ prims n s) → ∃ M : List Nat, M.Nodup ∧ M.length = (L.map fun p => (clsI n p).length).sum ∧ ∀ x, x ∈ M ↔ ∃ p ∈ L, IsImg n p x
  | [], _, _ => ⟨[], List.nodup_nil, rfl, fun x => by simp⟩
  | p :: L, hd, hL => by
    have hd' := List.nodup_cons.1 hd
    obtain ⟨M, h1, h2, h3⟩ := cls_sum hn L hd'.2 (fun q hq => hL q (by simp [hq]))
    refine ⟨clsN n p ++ M, ?_, ?_, fun x => ?_⟩
    · rw [List.nodup_append]
      refine ⟨nodup_of_lt (clsN_lt n p), h1, fun a ha b hb e => ?_⟩
      subst e
      obtain ⟨q, hq, hi⟩ := (h3 a).1 hb
      have := prims_one hn (hL p (by simp)) (hL q (by simp [hq])) (clsN_mem.1 ha) hi
      exact hd'.1 (this ▸ hq)
    · rw [List.length_append, h2, List.map_cons, List.sum_cons]
      unfold clsI
      rw [List.length_map]
    · rw [List.mem_append, clsN_mem, h3]
      constructor
      · rintro (h | ⟨q, hq, hi⟩)
        · exact ⟨p, by simp, h⟩
        · exact ⟨q, by simp [hq], hi⟩
      · rintro ⟨q, hq, hi⟩
        rcases List.mem_cons.1 hq with rfl | hq
        · exact .inl hi
        · exact .inr ⟨q, hq, hi⟩
theorem prims_sum {n s : Nat} (hn : 1 ≤ n) : ((prims n s).map fun p => (clsI n p).length).sum = (allOf n s).length := by
  obtain ⟨M, h1, h2, h3⟩ := cls_sum (s := s) hn (prims n s) (prims_nodup n s) (fun p h => h)
  have hm : ∀ x, x ∈ M ↔ x ∈ allOf n s := fun x => by
    rw [h3, allOf, List.mem_filter, List.mem_range, decide_eq_true_iff]
    constructor
    · rintro ⟨p, hp, hi⟩
      obtain ⟨p1, p2, _⟩ := (mem_prims hn).1 hp
      exact ⟨hi.lt, by rw [size_img hn p1 hi, p2]⟩
    · rintro ⟨hx, hs⟩
      exact ⟨pnN n x, pn_prims hn hx hs, (pnN_spec hn hx).2.1.symm hx⟩
  rw [← h2]
  have a1 := sub_len M (allOf n s) h1 (fun c h => (hm c).1 h)
  have a2 := sub_len (allOf n s) M (nodup_of_lt (List.Pairwise.filter _ List.pairwise_lt_range)) (fun c h => (hm c).2 h)
  omega
def pasc : Nat → Nat → Nat
  | 0, 0 => 1
  | 0, _ + 1 => 0
  | n + 1, 0 => pasc n 0
  | n + 1, s + 1 => pasc n (s + 1) + pasc n s
theorem cntBits_hi {n x : Nat} (hx : x < 2 ^ n) : cntBits (n + 1) (2 ^ n + x) = cntBits n x + 1 := by
  unfold cntBits
  rw [List.range_succ, List.countP_append, List.countP_cons, List.countP_nil]
  have h1 : (2 ^ n + x).testBit n = true := by rw [Nat.testBit_two_pow_add_eq, Nat.testBit_lt_two_pow hx]; rfl
  rw [if_pos h1]
  congr 1
  exact List.countP_congr (fun i hi => by rw [Nat.testBit_two_pow_add_gt (List.mem_range.1 hi)])
theorem allOf_len : ∀ (n s : Nat), (allOf n s).length = pasc n s
  | 0, 0 => by decide
  | 0, s + 1 => by unfold allOf pasc; rw [List.length_eq_zero_iff, List.filter_eq_nil_iff]; intro c _; simp [cntBits]
  | n + 1, s => by
    have e : List.range (2 ^ (n + 1)) = List.range (2 ^ n) ++ (List.range (2 ^ n)).map (2 ^ n + ·) := by rw [← List.range_add, Nat.pow_succ, Nat.mul_two]
    have h1 : ((List.range (2 ^ n)).filter fun c => decide (cntBits (n + 1) c = s)) = allOf n s := by
      unfold allOf
      refine List.filter_congr (fun x hx => ?_)
      rw [cntBits_more (List.mem_range.1 hx) (Nat.le_succ n)]
    unfold allOf
    rw [e, List.filter_append, List.length_append, h1, allOf_len n s, List.filter_map, List.length_map]
    cases s with
    | zero =>
      have h2 : ((List.range (2 ^ n)).filter ((fun c => decide (cntBits (n + 1) c = 0)) ∘ (2 ^ n + ·))) = [] := by
        rw [List.filter_eq_nil_iff]
        intro x hx
        simp only [Function.comp, cntBits_hi (List.mem_range.1 hx)]
        simp
      rw [h2]; rfl
    | succ s =>
      have h2 : ((List.range (2 ^ n)).filter ((fun c => decide (cntBits (n + 1) c = s + 1)) ∘ (2 ^ n + ·))) = allOf n s := by
        unfold allOf
        refine List.filter_congr (fun x hx => ?_)
        simp only [Function.comp, cntBits_hi (List.mem_range.1 hx), Nat.add_right_cancel_iff]
      rw [h2, allOf_len n s]; rfl
def wantN (n s : Nat) : Nat := (List.range s).foldl (fun w i => w * (n - i) / (i + 1)) 1
theorem wantN_succ (n s : Nat) : wantN n (s + 1) = wantN n s * (n - s) / (s + 1) := by unfold wantN; rw [List.range_succ, List.foldl_append]; rfl
theorem want_pasc : ∀ n, n < 13 → ∀ s, s < 13 → s ≤ n → wantN n s = pasc n s := by decide +kernel
theorem want_small : ∀ n, n < 13 → ∀ s, s < 14 → wantN n s ≤ 1000 := by decide +kernel

end Go.Proofs.YtnjmiodnkjabgaaDoor.P
namespace Go.Proofs.YtnjmiodnkjabgaaDoor.P
open Go.RowKit Go.Proofs.YtnjmiodnkjabgaaDoorW.PrintWords Go.Proofs.YtnjmiodnkjabgaaDoorW.PrintLast Go.Proofs.YtnjmiodnkjabgaaDoorW.PrintMore
attribute [local go_sem] max2_int min2_int max_two min_two max_three min_three max_four min_four   -- for this text's walks alone
set_option linter.unusedVariables false
set_option linter.unusedSimpArgs false

/-! chords.primes with an abstract test, and chords.Primes -/
def primI (n : Nat) (p : Nat → Bool) (m : Nat) : List Int := ((List.range m).filter fun c => p c && isPri n c).map Int.ofNat
theorem primI_succ (n : Nat) (p : Nat → Bool) (m : Nat) : primI n p (m + 1) = primI n p m ++ (if p m && isPri n m then [(m : Int)] else []) := by
  unfold primI
  rw [List.range_succ, List.filter_append, List.map_append]
  cases h : (p m && isPri n m) <;> simp [h]
theorem primI_len (n : Nat) (p : Nat → Bool) (m : Nat) : (primI n p m).length ≤ m := by
  unfold primI
  rw [List.length_map]
  exact Nat.le_trans (List.length_filter_le _ _) (by rw [List.length_range]; exact Nat.le_refl _)
/-- what the test that is handed over answers -/
def IsCalls (w : World) (n : Nat) (p : Nat → Bool) (gis : Nat) (lbis : Array Value) : Prop := ∀ (c : Nat) (W : World), c < 2 ^ n → Below w.heap.size w W → Calls Tryd.prog gis (#[.int .i64 (c : Int)] ++ lbis) W fun e W' => e = .returned (.bool (p c)) ∧ Below W.heap.size W W'
theorem pow12 {n : Nat} (h : n ≤ 12) : 2 ^ n ≤ 4096 := Nat.pow_le_pow_right (n := 2) (by omega) h
set_option maxHeartbeats 4000000 in
set_option maxRecDepth 100000 in
theorem primes_calls {n : Nat} (hn : 2 ≤ n) (hn2 : n ≤ 12) {p : Nat → Bool} {gis : Nat} {lbis : Array Value} (eg : ∀ args w, (callFunc gis args).run Tryd.prog w = .ok (.enter gis args) w) (w : World) (hT : Tabs w) (hI : IsCalls w n p gis lbis) :
    Calls Tryd.prog 53 #[.int .i64 (n : Int), .func (.func gis) #[] lbis] w fun e w' => ∃ v0_ : Value, e = .returned v0_ ∧ Kd.R (Kd.int .i64) 3 w' w.heap.size (fun _ => True) v0_ (primI n p (2 ^ n)) ∧ Below w.heap.size w w' := by
  have HB := Aside0.mk (Below.refl w.heap.size w)
  have HI := Aside0.mk hI
  have HPR := Aside0.mk (show ∀ (c : Nat) (W : World), c < 2 ^ n → Below w.heap.size w W → ∃ z : Int, ((z == (c : Int)) = isPri n c) ∧ Calls Tryd.prog 51 #[.int .i64 (n : Int), .int .i64 (c : Int)] W fun e W' => e = .returned (.int .i64 z) ∧ Below W.heap.size W W' from fun c W hc hb => by
    obtain ⟨k, hk⟩ := Ev.rounds (g := fun k => chords_circle_prime.f k (n : Int) (c : Int)) (prime_ev (by omega) (by omega) hc)
    refine ⟨priI n c, ?_, chords_circle_prime.calls k (n : Int) (c : Int) _ W (hT.below hb) hk⟩
    have := isPri_iff (n := n) (c := c) (by omega) hc
    cases h : isPri n c with
    | true => exact beq_iff_eq.2 (this.1 h)
    | false => exact beq_eq_false_iff_ne.2 (fun e => by rw [this.2 e] at h; cases h))
  obtain ⟨N, hN⟩ : ∃ N, N = 2 ^ n := ⟨_, rfl⟩
  have hN2 : N ≤ 4096 := by rw [hN]; exact pow12 hn2
  have r1 : IntKind.i64.wrap ((2 : Int) ^ n) = (N : Int) := by
    rw [← pow_cast, ← hN, i64_id (by omega) (by omega)]
  have r2 : wrap64 ((2 : Int) ^ n) = (N : Int) := by
    rw [← pow_cast, ← hN, wrap_id (by omega) (by omega)]
  rw [← hN]
  have HN := Aside0.mk hN
  clear hN hI hT
  go_enter Tryd.func53, Tryd.ntmps53
  go_wp2
  go_loopg [5, 9] N (fun gg s5 s9 wr => ∃ x : Nat, s9 = .int .i64 x ∧ Aside0 (x + gg = N) ∧ Aside0 (Kd.R (Kd.int .i64) 3 wr w.heap.size (fun _ => True) s5 (primI n p x)) ∧ Aside0 (Below w.heap.size w wr))
  case atStart => exact ⟨0, rfl, ⟨by omega⟩, ⟨Kd.R_nil _ _ _ _ _⟩, HB⟩
  case round =>
    clear HB r1 r2
    obtain ⟨x, rfl, HX, HO, HB⟩ := hrel
    by_cases hlt : x < N
    · have hltz : (x : Int) < (N : Int) := by omega
      have hc : x < 2 ^ n := by rw [← HN.out]; exact hlt
      have HIS := Aside0.mk (HI.out x wr hc HB.out)
      have HPX := Aside0.mk (fun W hb => HPR.out x W hc hb)
      have HS := Aside0.mk (primI_succ n p x)
      have HLN := Aside0.mk (primI_len n p x)
      clear hc
      cases hp : p x with
      | false =>
        rw [hp] at HIS
        rw [hp, Bool.false_and, if_neg (by decide), List.append_nil] at HS
        clear hp
        go_wp2_with ((with_reducible refine HIS.out.mono ?_); rintro e w2 ⟨rfl, hb⟩; have n0_ := Aside0.mk (below_step HB.out hb); have n1_ := Aside0.mk (Kd.R_below HO.out hb); clear HB HO; have HB := n0_; have HO := n1_; clear n0_ n1_ hb)
        go_roundg (gk - 1)
        case measure => have := HX.out; omega
        case rel => exact ⟨x + 1, by go_num, ⟨by have := HX.out; omega⟩, ⟨by rw [HS.out]; exact HO.out⟩, HB⟩
      | true =>
        rw [hp] at HIS
        rw [hp, Bool.true_and] at HS
        clear hp
        go_wp2_with fail
        refine HIS.out.mono ?_
        rintro e w2 ⟨rfl, hb⟩
        have n0_ := Aside0.mk (below_step HB.out hb)
        have n1_ := Aside0.mk (Kd.R_below HO.out hb)
        clear HB HO
        have HB := n0_
        have HO := n1_
        clear n0_ n1_ hb
        obtain ⟨z, hz, hrun⟩ := HPX.out w2 HB.out
        have HRUN := Aside0.mk hrun
        clear hrun
        cases hq : isPri n x with
        | false =>
          rw [hq] at hz
          rw [hq, if_neg (by decide), List.append_nil] at HS
          clear hq
          go_wp2_with ((with_reducible refine HRUN.out.mono ?_); rintro e w3 ⟨rfl, hb⟩; have n0_ := Aside0.mk (below_step HB.out hb); have n1_ := Aside0.mk (Kd.R_below HO.out hb); clear HB HO; have HB := n0_; have HO := n1_; clear n0_ n1_ hb)
          go_roundg (gk - 1)
          case measure => have := HX.out; omega
          case rel => exact ⟨x + 1, by go_num, ⟨by have := HX.out; omega⟩, ⟨by rw [HS.out]; exact HO.out⟩, HB⟩
        | true =>
          rw [hq] at hz
          rw [hq, if_pos rfl] at HS
          clear hq
          go_wp2_with (first | ((with_reducible refine HRUN.out.mono ?_); rintro e w3 ⟨rfl, hb⟩; have n0_ := Aside0.mk (below_step HB.out hb); have n1_ := Aside0.mk (Kd.R_below HO.out hb); clear HB HO; have HB := n0_; have HO := n1_; clear n0_ n1_ hb) | ((with_reducible refine gate_builtin (b := .append) (xs := #[.tmp 22, .tmp 24]) rfl ?_); at_builtin; refine Kd.R_append (Kd.int .i64) (w0 := w) w.heap.size rfl (.tmp 22) (.tmp 24) 35 3 (.int .i64 0) 8 rfl Tryd.underlying35 info3 rfl (by decide) (by omega) u5 (primI n p x) (x : Int) [.int .i64 (x : Int)] (fun _ => True) (fun _ => False) rfl rfl ?aP (fun _ hk => hk.elim) ?aF ?aO ?aB ?aS ?aL ?_; (case aP => exact rfl); (case aB => exact (by repeat (first | (with_reducible first | exact HB.out | apply below_alloc | apply pw_below_drewN | apply below_drew1) | exact HB.out))); (case aF => exact (fun _ _ => trivial)); (case aO => exact (by (with_reducible repeat (first | apply Kd.R_alloc | apply Kd.R_drewN | apply Kd.R_drew)); exact HO.out)); (case aS => exact (below_size (by repeat (first | (with_reducible first | exact HB.out | apply below_alloc | apply pw_below_drewN | apply below_drew1) | exact HB.out)))); (case aL => have := HLN.out; omega); intro v1007 w10 ho hb hg hat; have n0_ := Aside0.mk (hb); have n1_ := Aside0.mk (ho); clear HB; clear HO; have HB := n0_; have HO := n1_; clear n0_ n1_; clear ho hb hg hat))
          go_roundg (gk - 1)
          case measure => have := HX.out; omega
          case rel => exact ⟨x + 1, by go_num, ⟨by have := HX.out; omega⟩, ⟨by rw [HS.out]; exact HO.out⟩, HB⟩
    · have hxk : x = N := by have := HX.out; omega
      have HXK := Aside0.mk hxk
      clear hxk
      have hltz : ¬ (x : Int) < (N : Int) := by omega
      go_wp2
      go_ret
      have ho := HO.out
      rw [HXK.out] at ho
      exact ⟨_, rfl, ho, HB.out⟩
/-- the test of Primes -/
theorem primes_is {n s : Nat} (hn2 : n ≤ 12) (c : Nat) (hc : c < 2 ^ n) (S : Nat) (W : World) (hcell : W.cell? ⟨S, 0, none⟩ = some (.int .i64 (s : Int))) :
    Calls Tryd.prog 54 #[.int .i64 (c : Int), .pointer (some ⟨S, 0, none⟩)] W fun e W' => e = .returned (.bool (decide (cntBits n c = s))) ∧ Below W.heap.size W W' := by
  obtain ⟨m, hm⟩ : ∃ m, m = cntBits n c := ⟨_, rfl⟩
  have HC := Aside0.mk (fun W' => (chords_count.calls (c : Int) (m : Int) W' (by rw [count_f (n := n) (by omega) hc, ← chSize_bits, hm])).mono (fun e w' h => (show e = .returned (.int .i64 (m : Int)) ∧ ∃ q, w' = W'.drewN q from ⟨h.1, by obtain ⟨q, hq⟩ := h.2; exact ⟨q, hq⟩⟩)))
  rw [← hm]
  clear hm
  by_cases e : m = s
  · have e1 : ((m : Int) == (s : Int)) = true := beq_iff_eq.2 (by omega)
    rw [decide_eq_true e]
    clear e
    go_enter Tryd.func54, Tryd.ntmps54
    go_wp2
    go_quiet ((go_at_call 50; exact Calls.quiet_of (HC.out _)))
    go_wp2
    go_ret
    exact ⟨rfl, pw_below_drewN (Below.refl _ _) _⟩
  · have e1 : ((m : Int) == (s : Int)) = false := beq_eq_false_iff_ne.2 (by omega)
    rw [decide_eq_false e]
    clear e
    go_enter Tryd.func54, Tryd.ntmps54
    go_wp2
    go_quiet ((go_at_call 50; exact Calls.quiet_of (HC.out _)))
    go_wp2
    go_ret
    exact ⟨rfl, pw_below_drewN (Below.refl _ _) _⟩
theorem valid0_f (n : Int) : chords_circle_valid.f n [] = some (decide (2 ≤ n ∧ n ≤ 16)) := by
  unfold chords_circle_valid.f
  by_cases h2 : n ≥ 2
  · by_cases h16 : n ≤ 16
    · rw [if_pos h2, if_pos h16, if_pos (by simp)]
      simp [h2, h16]
    · rw [if_pos h2, if_neg h16]
      simp [h16]
  · rw [if_neg h2]
    simp [h2]
theorem nil_C (W : World) : Kd.C (Kd.int .i64) W none ([] : List Int).length [] := (Kd.R_reads' (Kd.R_nil (Kd.int .i64) 3 W 0 (fun _ => True))).2.2
def chords_Primes.f (a0 a1 : Int) : Option (List Int × Int) := if 2 ≤ a0 ∧ a0 ≤ 12 ∧ 0 ≤ a1 ∧ a1 ≤ a0 then some (primI a0.toNat (fun c => decide (cntBits a0.toNat c = a1.toNat)) (2 ^ a0.toNat), 0) else some ([], 2)
set_option maxHeartbeats 4000000 in
set_option maxRecDepth 100000 in
theorem chords_Primes.calls (a0 a1 : Int) (r1 : List Int) (r2 : Int) (w : World) (hT : Tabs w) (h : chords_Primes.f a0 a1 = some (r1, r2)) :
    Calls Tryd.prog 33 #[.int .i64 a0, .int .i64 a1] w fun e w' => ∃ v0_ : Value, e = .returned (.tuple #[v0_, .int .i64 r2]) ∧ Kd.R (Kd.int .i64) 3 w' w.heap.size (fun _ => True) v0_ r1 ∧ Below w.heap.size w w' := by
  unfold chords_Primes.f at h
  have HV := Aside0.mk (fun (W : World) (b : Bool) (hb : decide (2 ≤ a0 ∧ a0 ≤ 16) = b) => chords_circle_valid.calls a0 none 0 [] b W (nil_C W) (Nat.le_refl 0) (by rw [valid0_f, hb]))
  have hmf : ∀ (fn : Fn) (first cap : Array Value) (w : World), (Instr.makeFunc fn first cap).run Tryd.prog w = .ok (.func fn first cap) w := fun _ _ _ _ => rfl
  have hnew := new_cell w (.int .i64 a1) 3
  have hbw : Below w.heap.size w (w.alloc (.cells #[.int .i64 a1] 3)) := below_alloc (Below.refl _ _) _
  have hsz : (w.alloc (.cells #[.int .i64 a1] 3)).heap.size = w.heap.size + 1 := by simp [World.size_alloc]
  obtain ⟨W0, hW0⟩ : ∃ W0, W0 = w.alloc (.cells #[.int .i64 a1] 3) := ⟨_, rfl⟩
  rw [← hW0] at hnew hbw hsz
  by_cases hok : 2 ≤ a0 ∧ a0 ≤ 12 ∧ 0 ≤ a1 ∧ a1 ≤ a0
  · rw [if_pos hok] at h
    injection h with h
    injection h with h1 h2
    subst h1 h2
    obtain ⟨n, rfl⟩ : ∃ n : Nat, a0 = (n : Int) := ⟨a0.toNat, by omega⟩
    obtain ⟨s, rfl⟩ : ∃ s : Nat, a1 = (s : Int) := ⟨a1.toNat, by omega⟩
    simp only [Int.toNat_natCast]
    have HV2 := Aside0.mk (fun W => HV.out W true (decide_eq_true (by omega)))
    have hn12 : ¬ (n : Int) > 12 := by omega
    have hs0 : ¬ (s : Int) < 0 := by omega
    have hsn : ¬ (s : Int) > (n : Int) := by omega
    have HN := Aside0.mk (show 2 ≤ n ∧ n ≤ 12 by omega)
    have HS := Aside0.mk hsz
    have HBW := Aside0.mk hbw
    have HT0 := Aside0.mk hT
    have hc0 := hnew.1
    have HC0 := Aside0.mk hnew.1
    clear hok HV hsz hbw hT hnew
    go_enter Tryd.func33, Tryd.ntmps33
    go_wp2_with fail
    rw [← hW0]
    clear hW0
    refine (HV2.out W0).mono ?_
    rintro e w2 ⟨rfl, hb⟩
    have hc2 : w2.cell? ⟨w.heap.size, 0, none⟩ = some (.int .i64 (s : Int)) := (hb.cell (p := ⟨w.heap.size, 0, none⟩) (by rw [HS.out]; exact Nat.lt_succ_self _)).trans hc0
    have HB2 := Aside0.mk hb
    have hbw2 : Below w.heap.size w w2 := below_step HBW.out hb
    have HRUN := Aside0.mk (primes_calls HN.out.1 HN.out.2 (p := fun c => decide (cntBits n c = s)) (gis := 54) (lbis := #[.pointer (some ⟨w.heap.size, 0, none⟩)]) (enters_of Tryd.func54 (by kernel_rfl) rfl) w2 (Tabs.below HT0.out hbw2) (fun c W hc hW => primes_is HN.out.2 c hc w.heap.size W ((hW.cell (p := ⟨w.heap.size, 0, none⟩) (by have := hb.size; rw [HS.out] at this; simp only; omega)).trans hc2)))
    have HBW2 := Aside0.mk hbw2
    clear hbw2 hb hc0
    go_wp2_with fail
    refine HRUN.out.mono ?_
    rintro e w3 ⟨v, rfl, hr, hb3⟩
    have HR := Aside0.mk hr
    have HB3 := Aside0.mk hb3
    clear hr hb3 hc2
    go_wp2
    go_ret2
    exact ⟨_, rfl, Kd.R_lower HR.out HBW2.out.size, below_step HBW2.out HB3.out⟩
  · rw [if_neg hok] at h
    injection h with h
    injection h with h1 h2
    subst h1 h2
    have HBW := Aside0.mk hbw
    have hc0 := hnew.1
    have HS := Aside0.mk hsz
    by_cases hv : 2 ≤ a0 ∧ a0 ≤ 16
    · have HV2 := Aside0.mk (fun W => HV.out W true (decide_eq_true hv))
      by_cases hn12 : a0 > 12
      · clear hok HV hsz hbw hnew hv
        go_enter Tryd.func33, Tryd.ntmps33
        go_wp2_with fail
        rw [← hW0]
        clear hW0
        refine (HV2.out W0).mono ?_
        rintro e w2 ⟨rfl, hb⟩
        have HB2 := Aside0.mk hb
        clear hb
        go_wp2
        go_ret2
        exact ⟨_, rfl, Kd.R_nil _ _ _ _ _, below_step HBW.out HB2.out⟩
      · have hbad : a1 < 0 ∨ ¬ a1 < 0 ∧ a1 > a0 := by omega
        clear hok HV hsz hbw hnew hv
        rcases hbad with hbad | ⟨hs0, hbad⟩
        · go_enter Tryd.func33, Tryd.ntmps33
          go_wp2_with fail
          rw [← hW0]
          clear hW0
          refine (HV2.out W0).mono ?_
          rintro e w2 ⟨rfl, hb⟩
          have hc2 : w2.cell? ⟨w.heap.size, 0, none⟩ = some (.int .i64 a1) := (hb.cell (p := ⟨w.heap.size, 0, none⟩) (by rw [HS.out]; exact Nat.lt_succ_self _)).trans hc0
          have HB2 := Aside0.mk hb
          clear hb hc0
          go_wp2
          go_ret2
          exact ⟨_, rfl, Kd.R_nil _ _ _ _ _, below_step HBW.out HB2.out⟩
        · go_enter Tryd.func33, Tryd.ntmps33
          go_wp2_with fail
          rw [← hW0]
          clear hW0
          refine (HV2.out W0).mono ?_
          rintro e w2 ⟨rfl, hb⟩
          have hc2 : w2.cell? ⟨w.heap.size, 0, none⟩ = some (.int .i64 a1) := (hb.cell (p := ⟨w.heap.size, 0, none⟩) (by rw [HS.out]; exact Nat.lt_succ_self _)).trans hc0
          have HB2 := Aside0.mk hb
          clear hb hc0
          go_wp2
          go_ret2
          exact ⟨_, rfl, Kd.R_nil _ _ _ _ _, below_step HBW.out HB2.out⟩
    · have HV2 := Aside0.mk (fun W => HV.out W false (decide_eq_false hv))
      clear hok HV hsz hbw hnew hv
      go_enter Tryd.func33, Tryd.ntmps33
      go_wp2_with fail
      rw [← hW0]
      clear hW0
      refine (HV2.out W0).mono ?_
      rintro e w2 ⟨rfl, hb⟩
      have HB2 := Aside0.mk hb
      clear hb
      go_wp2
      go_ret2
      exact ⟨_, rfl, Kd.R_nil _ _ _ _ _, below_step HBW.out HB2.out⟩

end Go.Proofs.YtnjmiodnkjabgaaDoor.P
namespace Go.Proofs.YtnjmiodnkjabgaaDoor.P
open Go.RowKit Go.Proofs.YtnjmiodnkjabgaaDoorW.PrintWords Go.Proofs.YtnjmiodnkjabgaaDoorW.PrintLast Go.Proofs.YtnjmiodnkjabgaaDoorW.PrintMore
attribute [local go_sem] max2_int min2_int max_two min_two max_three min_three max_four min_four   -- for this text's walks alone
set_option linter.unusedVariables false
set_option linter.unusedSimpArgs false

/-! ### chords_Move: function 16 -/
def chords_Move.f (a0 : Int) (a1 : Int) (a2 : Int) : Option (Int × Int) := (chords_circle_valid.f a0 (([a1] : List Int))).bind fun t1004 => (if t1004 = true then ((chords_circle_move.f a0 a1 a2).bind fun t1005 => (some (t1005, 0))) else (some (0, 2)))
set_option maxHeartbeats 8000000 in
set_option maxRecDepth 100000 in
theorem chords_Move.calls (a0 : Int) (a1 : Int) (a2 : Int) (r1 : Int) (r2 : Int) (w : World) (h : chords_Move.f a0 a1 a2 = some (r1, r2)) :
    Calls Tryd.prog 16 #[.int .i64 a0, .int .i64 a1, .int .i64 a2] w fun e w' => e = .returned (.tuple #[.int .i64 r1, .int .i64 r2]) ∧ Below w.heap.size w w' := by
  have HB := Aside0.mk (Below.refl w.heap.size w)
  have H : ((chords_circle_valid.f a0 (([a1] : List Int))).bind fun t1004 => (if t1004 = true then ((chords_circle_move.f a0 a1 a2).bind fun t1005 => (some (t1005, 0))) else (some (0, 2)))) = some (r1, r2) := h
  clear h
  obtain ⟨y1001, hy1001⟩ : ∃ y_ : List Int, y_ = (([a1] : List Int)) := ⟨_, rfl⟩
  replace H : ((chords_circle_valid.f a0 y1001).bind fun t1004 => (if t1004 = true then ((chords_circle_move.f a0 a1 a2).bind fun t1005 => (some (t1005, 0))) else (some (0, 2)))) = some (r1, r2) := by first | (rw [hy1001]; with_reducible exact H) | (have H2_ := (Option.bind_some _ _).symm.trans H; rw [hy1001]; with_reducible exact H2_) | (have H2_ := (Option.bind_some _ _).symm.trans H; with_reducible exact H2_) | with_reducible exact H | (rw [hy1001]; exact H) | exact H
  have Ny1001 := Aside0.mk hy1001
  clear hy1001
  replace H := Option.bind_eq_some_iff.mp H
  obtain ⟨t1004, A40, H⟩ := H
  replace H : (if t1004 = true then ((chords_circle_move.f a0 a1 a2).bind fun t1005 => (some (t1005, 0))) else (some (0, 2))) = some (r1, r2) := H
  have A4 := Aside0.mk A40
  clear A40
  by_cases c5 : t1004 = true
  · subst c5
    have H1 : ((chords_circle_move.f a0 a1 a2).bind fun t1005 => (some (t1005, 0))) = some (r1, r2) := by rw [if_pos rfl] at H; exact H
    clear H
    have H := H1
    clear H1
    replace H := Option.bind_eq_some_iff.mp H
    obtain ⟨t1005, A60, H⟩ := H
    replace H : (some (t1005, 0)) = some (r1, r2) := H
    have A6 := Aside0.mk A60
    clear A60
    simp only [Option.some.injEq, Prod.mk.injEq] at H
    obtain ⟨rfl, rfl⟩ := H
    go_enter Tryd.func16, Tryd.ntmps16
    go_wp2_with (first | ((with_reducible refine gate_dst (N := 10) rfl ?_); refine Kd.R_lit (Kd.int .i64) _ 3 ?hg (N := 10) ?hd (xs := ([a1] : List Int)) (inner := [.int .i64 a1]) (ok := fun _ => True) (okp := fun _ => True) ?hr ?hp (fun _ hk => hk) trivial (Below.refl _ _) (Nat.le_refl _) (by simp) ?_; (case hd => rfl); (case hg => rfl); (case hr => first | (go_simp; done) | (go_simp; rfl)); (case hp => exact (Reps.one (show Kd.M (Kd.int .i64) _ _ _ a1 [.int .i64 a1] from rfl) (Reps.none _ _))); intro v1002 w7 ho8 hb hg_ hnew_; clear hg_ hnew_; (first | rw [← Ny1001.out] at ho8 | (simp only [Int.reduceToNat] at ho8; rw [← Ny1001.out] at ho8)); have n0_ := Aside0.mk (Kd.R_lower ho8 (below_size (by repeat (first | (with_reducible first | exact HB.out | apply below_alloc | apply pw_below_drewN | apply below_drew1) | exact HB.out)))); have n1_ := Aside0.mk (below_step (by repeat (first | (with_reducible first | exact HB.out | apply below_alloc | apply pw_below_drewN | apply below_drew1) | exact HB.out)) hb); clear HB; have HO1003 := n0_; have HB := n1_; clear n0_ n1_; clear hb ho8; obtain ⟨Ao9, co9, eo9⟩ := Kd.R_slice HO1003.out; subst eo9) | ((with_reducible refine gate_callee (f := 41) rfl ?_); refine goesL_ (some 11) rfl rfl Tryd.func41 (by kernel_rfl) rfl #[.int .i64 a0, .slice Ao9 y1001.length co9] rfl (by (try simp only [List.map_toArray, List.map_cons, List.map_nil]); first | done | rfl | (simp only [List.length_drop, List.length_take]; rfl)) ?_; (with_reducible refine (chords_circle_valid.calls a0 _ _ y1001 true _ ?side1 ?side2 A4.out).mono ?_); (case side1 => repeat (first | exact (Kd.R_reads' HO1003.out).2.2 | (with_reducible refine Kd.C_alloc ?_ _) | (with_reducible refine Kd.C_drewN ?_ _) | (with_reducible refine Kd.C_drew ?_))); (case side2 => exact (Kd.R_reads' HO1003.out).2.1); rintro e w10 ⟨rfl, hb⟩; refine ⟨_, rfl, ?_⟩; have n0_ := Aside0.mk (Kd.R_below (by (with_reducible repeat (first | apply Kd.R_alloc | apply Kd.R_drewN | apply Kd.R_drew)); exact HO1003.out) hb); have n1_ := Aside0.mk (below_step (by repeat (first | (with_reducible first | exact HB.out | apply below_alloc | apply pw_below_drewN | apply below_drew1) | exact HB.out)) hb); clear HO1003; clear HB; have HO1003 := n0_; have HB := n1_; clear n0_ n1_; (try clear hb); (try clear hb2); (try clear hk); (try clear hi)) | ((with_reducible refine gate_callee (f := 42) rfl ?_); refine goesL_ (some 16) rfl rfl Tryd.func42 (by kernel_rfl) rfl #[.int .i64 a0, .int .i64 a1, .int .i64 a2] rfl (by (try simp only [List.map_toArray, List.map_cons, List.map_nil]); first | done | rfl | (simp only [List.length_drop, List.length_take]; rfl)) ?_; (with_reducible refine (chords_circle_move.calls a0 a1 a2 t1005 _ A6.out).mono ?_); rintro e w' ⟨rfl, ⟨nd, rfl⟩⟩; refine ⟨_, rfl, ?_⟩))
    go_ret2
    exact ⟨by first | rfl | (simp [errW_none, errW_some] <;> rfl) | (simp [*, errW_none, errW_some] <;> rfl), by repeat (first | (with_reducible first | exact HB.out | apply below_alloc | apply pw_below_drewN | apply below_drew1) | exact HB.out)⟩
  · replace c5 := Bool.eq_false_iff.mpr c5
    subst c5
    have H1 : (some (0, 2)) = some (r1, r2) := by rw [if_neg (show ¬ (false = true) by decide)] at H; exact H
    clear H
    have H := H1
    clear H1
    simp only [Option.some.injEq, Prod.mk.injEq] at H
    obtain ⟨rfl, rfl⟩ := H
    go_enter Tryd.func16, Tryd.ntmps16
    go_wp2_with (first | ((with_reducible refine gate_dst (N := 10) rfl ?_); refine Kd.R_lit (Kd.int .i64) _ 3 ?hg (N := 10) ?hd (xs := ([a1] : List Int)) (inner := [.int .i64 a1]) (ok := fun _ => True) (okp := fun _ => True) ?hr ?hp (fun _ hk => hk) trivial (Below.refl _ _) (Nat.le_refl _) (by simp) ?_; (case hd => rfl); (case hg => rfl); (case hr => first | (go_simp; done) | (go_simp; rfl)); (case hp => exact (Reps.one (show Kd.M (Kd.int .i64) _ _ _ a1 [.int .i64 a1] from rfl) (Reps.none _ _))); intro v1002 w11 ho12 hb hg_ hnew_; clear hg_ hnew_; (first | rw [← Ny1001.out] at ho12 | (simp only [Int.reduceToNat] at ho12; rw [← Ny1001.out] at ho12)); have n0_ := Aside0.mk (Kd.R_lower ho12 (below_size (by repeat (first | (with_reducible first | exact HB.out | apply below_alloc | apply pw_below_drewN | apply below_drew1) | exact HB.out)))); have n1_ := Aside0.mk (below_step (by repeat (first | (with_reducible first | exact HB.out | apply below_alloc | apply pw_below_drewN | apply below_drew1) | exact HB.out)) hb); clear HB; have HO1003 := n0_; have HB := n1_; clear n0_ n1_; clear hb ho12; obtain ⟨Ao13, co13, eo13⟩ := Kd.R_slice HO1003.out; subst eo13) | ((with_reducible refine gate_callee (f := 41) rfl ?_); refine goesL_ (some 11) rfl rfl Tryd.func41 (by kernel_rfl) rfl #[.int .i64 a0, .slice Ao13 y1001.length co13] rfl (by (try simp only [List.map_toArray, List.map_cons, List.map_nil]); first | done | rfl | (simp only [List.length_drop, List.length_take]; rfl)) ?_; (with_reducible refine (chords_circle_valid.calls a0 _ _ y1001 false _ ?side1 ?side2 A4.out).mono ?_); (case side1 => repeat (first | exact (Kd.R_reads' HO1003.out).2.2 | (with_reducible refine Kd.C_alloc ?_ _) | (with_reducible refine Kd.C_drewN ?_ _) | (with_reducible refine Kd.C_drew ?_))); (case side2 => exact (Kd.R_reads' HO1003.out).2.1); rintro e w14 ⟨rfl, hb⟩; refine ⟨_, rfl, ?_⟩; have n0_ := Aside0.mk (Kd.R_below (by (with_reducible repeat (first | apply Kd.R_alloc | apply Kd.R_drewN | apply Kd.R_drew)); exact HO1003.out) hb); have n1_ := Aside0.mk (below_step (by repeat (first | (with_reducible first | exact HB.out | apply below_alloc | apply pw_below_drewN | apply below_drew1) | exact HB.out)) hb); clear HO1003; clear HB; have HO1003 := n0_; have HB := n1_; clear n0_ n1_; (try clear hb); (try clear hb2); (try clear hk); (try clear hi)))
    go_ret2
    exact ⟨by first | rfl | (simp [errW_none, errW_some] <;> rfl) | (simp [*, errW_none, errW_some] <;> rfl), by repeat (first | (with_reducible first | exact HB.out | apply below_alloc | apply pw_below_drewN | apply below_drew1) | exact HB.out)⟩

end Go.Proofs.YtnjmiodnkjabgaaDoor.P
namespace Go.Proofs.YtnjmiodnkjabgaaDoor.P
open Go.RowKit Go.Proofs.YtnjmiodnkjabgaaDoorW.PrintWords Go.Proofs.YtnjmiodnkjabgaaDoorW.PrintLast Go.Proofs.YtnjmiodnkjabgaaDoorW.PrintMore
attribute [local go_sem] max2_int min2_int max_two min_two max_three min_three max_four min_four   -- for this text's walks alone
set_option linter.unusedVariables false
set_option linter.unusedSimpArgs false

/-! ### sackbutlaw01_awake: function 14 -/
def sackbutlaw01_awake.f  : Option (Bool) := (chords_Move.f 4 3 1).bind fun bt1001 => (if bt1001.1 = 6 then (some (bt1001.2 == 0)) else (some false))
set_option maxHeartbeats 8000000 in
set_option maxRecDepth 100000 in
theorem sackbutlaw01_awake.calls  (r : Bool) (w : World) (h : sackbutlaw01_awake.f  = some r) :
    Calls Tryd.prog 14 #[] w fun e w' => e = .returned (.bool r) ∧ Below w.heap.size w w' := by
  have HB := Aside0.mk (Below.refl w.heap.size w)
  have H : ((chords_Move.f 4 3 1).bind fun bt1001 => (if bt1001.1 = 6 then (some (bt1001.2 == 0)) else (some false))) = some r := h
  clear h
  replace H := Option.bind_eq_some_iff.mp H
  obtain ⟨⟨t1001, t1002⟩, A10, H⟩ := H
  replace H : (if t1001 = 6 then (some (t1002 == 0)) else (some false)) = some r := H
  have A1 := Aside0.mk A10
  clear A10
  by_cases c2 : t1001 = 6
  · rw [if_pos c2] at H
    have c2b0 : (t1001 == 6) = true := beq_iff_eq.mpr c2
    have c2b1 : (t1001 != 6) = false := bne_eq_false_iff_eq.mpr c2
    clear c2
    obtain rfl := Option.some.inj H
    go_enter Tryd.func14, Tryd.ntmps14
    go_wp2_with (first | ((with_reducible refine gate_callee (f := 16) rfl ?_); refine goesL_ (some 4) rfl rfl Tryd.func16 (by kernel_rfl) rfl #[.int .i64 4, .int .i64 3, .int .i64 1] rfl (by (try simp only [List.map_toArray, List.map_cons, List.map_nil]); first | done | rfl | (simp only [List.length_drop, List.length_take]; rfl)) ?_; (with_reducible refine (chords_Move.calls 4 3 1 t1001 t1002 _ A1.out).mono ?_); rintro e w3 ⟨rfl, hb⟩; refine ⟨_, rfl, ?_⟩; have n0_ := Aside0.mk (below_step (by repeat (first | (with_reducible first | exact HB.out | apply below_alloc | apply pw_below_drewN | apply below_drew1) | exact HB.out)) hb); clear HB; have HB := n0_; clear n0_; (try clear hb); (try clear hb2); (try clear hk); (try clear hi)))
    go_ret
    exact ⟨by first | rfl | (simp [errW_none, errW_some] <;> rfl) | (simp [*, errW_none, errW_some] <;> rfl), by repeat (first | (with_reducible first | exact HB.out | apply below_alloc | apply pw_below_drewN | apply below_drew1) | exact HB.out)⟩
  · rw [if_neg c2] at H
    have c2b0 : (t1001 == 6) = false := beq_eq_false_iff_ne.mpr c2
    have c2b1 : (t1001 != 6) = true := bne_iff_ne.mpr c2
    obtain rfl := Option.some.inj H
    go_enter Tryd.func14, Tryd.ntmps14
    go_wp2_with (first | ((with_reducible refine gate_callee (f := 16) rfl ?_); refine goesL_ (some 4) rfl rfl Tryd.func16 (by kernel_rfl) rfl #[.int .i64 4, .int .i64 3, .int .i64 1] rfl (by (try simp only [List.map_toArray, List.map_cons, List.map_nil]); first | done | rfl | (simp only [List.length_drop, List.length_take]; rfl)) ?_; (with_reducible refine (chords_Move.calls 4 3 1 t1001 t1002 _ A1.out).mono ?_); rintro e w4 ⟨rfl, hb⟩; refine ⟨_, rfl, ?_⟩; have n0_ := Aside0.mk (below_step (by repeat (first | (with_reducible first | exact HB.out | apply below_alloc | apply pw_below_drewN | apply below_drew1) | exact HB.out)) hb); clear HB; have HB := n0_; clear n0_; (try clear hb); (try clear hb2); (try clear hk); (try clear hi)))
    go_ret
    exact ⟨by first | rfl | (simp [errW_none, errW_some] <;> rfl) | (simp [*, errW_none, errW_some] <;> rfl), by repeat (first | (with_reducible first | exact HB.out | apply below_alloc | apply pw_below_drewN | apply below_drew1) | exact HB.out)⟩

end Go.Proofs.YtnjmiodnkjabgaaDoor.P
namespace Go.Proofs.YtnjmiodnkjabgaaDoor.P
open Go.RowKit Go.Proofs.YtnjmiodnkjabgaaDoorW.PrintWords Go.Proofs.YtnjmiodnkjabgaaDoorW.PrintLast Go.Proofs.YtnjmiodnkjabgaaDoorW.PrintMore
attribute [local go_sem] max2_int min2_int max_two min_two max_three min_three max_four min_four   -- for this text's walks alone
set_option linter.unusedVariables false
set_option linter.unusedSimpArgs false

/-! ### chords_Class: function 30 -/
def chords_Class.f (k : Nat) (a0 : Int) (a1 : Int) : Option (List Int × Int) := (chords_circle_valid.f a0 (([a1] : List Int))).bind fun t1004 => (if t1004 = true then ((chords_circle_images.f k a0 a1).bind fun t1005 => (some (t1005, 0))) else (some (([] : List Int), 2)))
theorem chords_Class.mono : ∀ a0 a1 k, LeO (chords_Class.f k a0 a1) (chords_Class.f (k + 1) a0 a1) := by
  intro a0 a1 k
  unfold chords_Class.f
  repeat' first
      | (with_reducible exact chords_circle_images.mono _ _ _)
      | (with_reducible exact LeO.refl _)
      | (with_reducible exact LeO.none _)
      | (with_reducible refine LeO.ite ?_ ?_)
      | (with_reducible refine LeO.bind ?_ (fun _ => ?_))
      | exact chords_circle_images.mono _ _ _
      | exact LeO.none _
      | refine LeO.ite ?_ ?_
      | refine LeO.bind ?_ (fun _ => ?_)
set_option maxHeartbeats 8000000 in
set_option maxRecDepth 100000 in
theorem chords_Class.calls (k : Nat) (a0 : Int) (a1 : Int) (r1 : List Int) (r2 : Int) (w : World) (hT : Tabs w) (h : chords_Class.f k a0 a1 = some (r1, r2)) :
    Calls Tryd.prog 30 #[.int .i64 a0, .int .i64 a1] w fun e w' => ∃ v0_ : Value, e = .returned (.tuple #[v0_, .int .i64 r2]) ∧ Kd.R (Kd.int .i64) 3 w' w.heap.size (fun _ => True) v0_ r1 ∧ Below w.heap.size w w' := by
  have HB := Aside0.mk (Below.refl w.heap.size w)
  have HT0 := Aside0.mk hT
  clear hT
  have H : ((chords_circle_valid.f a0 (([a1] : List Int))).bind fun t1004 => (if t1004 = true then ((chords_circle_images.f k a0 a1).bind fun t1005 => (some (t1005, 0))) else (some (([] : List Int), 2)))) = some (r1, r2) := h
  clear h
  obtain ⟨y1001, hy1001⟩ : ∃ y_ : List Int, y_ = (([a1] : List Int)) := ⟨_, rfl⟩
  replace H : ((chords_circle_valid.f a0 y1001).bind fun t1004 => (if t1004 = true then ((chords_circle_images.f k a0 a1).bind fun t1005 => (some (t1005, 0))) else (some (([] : List Int), 2)))) = some (r1, r2) := by first | (rw [hy1001]; with_reducible exact H) | (have H2_ := (Option.bind_some _ _).symm.trans H; rw [hy1001]; with_reducible exact H2_) | (have H2_ := (Option.bind_some _ _).symm.trans H; with_reducible exact H2_) | with_reducible exact H | (rw [hy1001]; exact H) | exact H
  have Ny1001 := Aside0.mk hy1001
  clear hy1001
  replace H := Option.bind_eq_some_iff.mp H
  obtain ⟨t1004, A30, H⟩ := H
  replace H : (if t1004 = true then ((chords_circle_images.f k a0 a1).bind fun t1005 => (some (t1005, 0))) else (some (([] : List Int), 2))) = some (r1, r2) := H
  have A3 := Aside0.mk A30
  clear A30
  by_cases c4 : t1004 = true
  · subst c4
    have H1 : ((chords_circle_images.f k a0 a1).bind fun t1005 => (some (t1005, 0))) = some (r1, r2) := by rw [if_pos rfl] at H; exact H
    clear H
    have H := H1
    clear H1
    replace H := Option.bind_eq_some_iff.mp H
    obtain ⟨t1005, A50, H⟩ := H
    replace H : (some (t1005, 0)) = some (r1, r2) := H
    have A5 := Aside0.mk A50
    clear A50
    simp only [Option.some.injEq, Prod.mk.injEq] at H
    obtain ⟨rfl, rfl⟩ := H
    go_enter Tryd.func30, Tryd.ntmps30
    go_wp2_with (first | ((with_reducible refine gate_dst (N := 8) rfl ?_); refine Kd.R_lit (Kd.int .i64) _ 3 ?hg (N := 8) ?hd (xs := ([a1] : List Int)) (inner := [.int .i64 a1]) (ok := fun _ => True) (okp := fun _ => True) ?hr ?hp (fun _ hk => hk) trivial (Below.refl _ _) (Nat.le_refl _) (by simp) ?_; (case hd => rfl); (case hg => rfl); (case hr => first | (go_simp; done) | (go_simp; rfl)); (case hp => exact (Reps.one (show Kd.M (Kd.int .i64) _ _ _ a1 [.int .i64 a1] from rfl) (Reps.none _ _))); intro v1002 w6 ho7 hb hg_ hnew_; clear hg_ hnew_; (first | rw [← Ny1001.out] at ho7 | (simp only [Int.reduceToNat] at ho7; rw [← Ny1001.out] at ho7)); have n0_ := Aside0.mk (Kd.R_lower ho7 (below_size (by repeat (first | (with_reducible first | exact HB.out | apply below_alloc | apply pw_below_drewN | apply below_drew1) | exact HB.out)))); have n1_ := Aside0.mk (below_step (by repeat (first | (with_reducible first | exact HB.out | apply below_alloc | apply pw_below_drewN | apply below_drew1) | exact HB.out)) hb); clear HB; have HO1003 := n0_; have HB := n1_; clear n0_ n1_; clear hb ho7; obtain ⟨Ao8, co8, eo8⟩ := Kd.R_slice HO1003.out; subst eo8) | ((with_reducible refine gate_callee (f := 41) rfl ?_); refine goesL_ (some 9) rfl rfl Tryd.func41 (by kernel_rfl) rfl #[.int .i64 a0, .slice Ao8 y1001.length co8] rfl (by (try simp only [List.map_toArray, List.map_cons, List.map_nil]); first | done | rfl | (simp only [List.length_drop, List.length_take]; rfl)) ?_; (with_reducible refine (chords_circle_valid.calls a0 _ _ y1001 true _ ?side1 ?side2 A3.out).mono ?_); (case side1 => repeat (first | exact (Kd.R_reads' HO1003.out).2.2 | (with_reducible refine Kd.C_alloc ?_ _) | (with_reducible refine Kd.C_drewN ?_ _) | (with_reducible refine Kd.C_drew ?_))); (case side2 => exact (Kd.R_reads' HO1003.out).2.1); rintro e w9 ⟨rfl, hb⟩; refine ⟨_, rfl, ?_⟩; have n0_ := Aside0.mk (Kd.R_below (by (with_reducible repeat (first | apply Kd.R_alloc | apply Kd.R_drewN | apply Kd.R_drew)); exact HO1003.out) hb); have n1_ := Aside0.mk (below_step (by repeat (first | (with_reducible first | exact HB.out | apply below_alloc | apply pw_below_drewN | apply below_drew1) | exact HB.out)) hb); clear HO1003; clear HB; have HO1003 := n0_; have HB := n1_; clear n0_ n1_; (try clear hb); (try clear hb2); (try clear hk); (try clear hi)) | ((with_reducible refine gate_callee (f := 52) rfl ?_); refine goesL_ (some 13) rfl rfl Tryd.func52 (by kernel_rfl) rfl #[.int .i64 a0, .int .i64 a1] rfl (by (try simp only [List.map_toArray, List.map_cons, List.map_nil]); first | done | rfl | (simp only [List.length_drop, List.length_take]; rfl)) ?_; (with_reducible refine (chords_circle_images.calls k a0 a1 t1005 _ ?side1 A5.out).mono ?_); (case side1 => exact Tabs.below HT0.out (by repeat (first | (with_reducible first | exact HB.out | apply below_alloc | apply pw_below_drewN | apply below_drew1) | exact HB.out))); rintro e w10 ⟨v1006, rfl, ho0, hb⟩; refine ⟨_, rfl, ?_⟩; have n0_ := Aside0.mk (Kd.R_elder' (by (with_reducible repeat (first | apply Kd.R_alloc | apply Kd.R_drewN | apply Kd.R_drew)); exact HO1003.out) (Kd.R_base ho0) hb); have n1_ := Aside0.mk (Kd.R_lower (Kd.R_new' ho0 (Kd.R_lt (by (with_reducible repeat (first | apply Kd.R_alloc | apply Kd.R_drewN | apply Kd.R_drew)); exact HO1003.out))) (below_size (by repeat (first | (with_reducible first | exact HB.out | apply below_alloc | apply pw_below_drewN | apply below_drew1) | exact HB.out)))); have n2_ := Aside0.mk (below_step (by repeat (first | (with_reducible first | exact HB.out | apply below_alloc | apply pw_below_drewN | apply below_drew1) | exact HB.out)) hb); clear HO1003; clear HB; have HO1003 := n0_; have HO1007 := n1_; have HB := n2_; clear n0_ n1_ n2_; (try clear hb); (try clear hb2); (try clear hk); (try clear hi); (try clear ho0)))
    go_ret2
    exact ⟨_, by first | rfl | (simp [errW_none, errW_some] <;> rfl) | (simp [*, errW_none, errW_some] <;> rfl), by (with_reducible repeat (first | apply Kd.R_alloc | apply Kd.R_drewN | apply Kd.R_drew)); exact Kd.R_mono HO1007.out (fun _ hk => trivial), by repeat (first | (with_reducible first | exact HB.out | apply below_alloc | apply pw_below_drewN | apply below_drew1) | exact HB.out)⟩
  · replace c4 := Bool.eq_false_iff.mpr c4
    subst c4
    have H1 : (some (([] : List Int), 2)) = some (r1, r2) := by rw [if_neg (show ¬ (false = true) by decide)] at H; exact H
    clear H
    have H := H1
    clear H1
    simp only [Option.some.injEq, Prod.mk.injEq] at H
    obtain ⟨rfl, rfl⟩ := H
    go_enter Tryd.func30, Tryd.ntmps30
    go_wp2_with (first | ((with_reducible refine gate_dst (N := 8) rfl ?_); refine Kd.R_lit (Kd.int .i64) _ 3 ?hg (N := 8) ?hd (xs := ([a1] : List Int)) (inner := [.int .i64 a1]) (ok := fun _ => True) (okp := fun _ => True) ?hr ?hp (fun _ hk => hk) trivial (Below.refl _ _) (Nat.le_refl _) (by simp) ?_; (case hd => rfl); (case hg => rfl); (case hr => first | (go_simp; done) | (go_simp; rfl)); (case hp => exact (Reps.one (show Kd.M (Kd.int .i64) _ _ _ a1 [.int .i64 a1] from rfl) (Reps.none _ _))); intro v1002 w11 ho12 hb hg_ hnew_; clear hg_ hnew_; (first | rw [← Ny1001.out] at ho12 | (simp only [Int.reduceToNat] at ho12; rw [← Ny1001.out] at ho12)); have n0_ := Aside0.mk (Kd.R_lower ho12 (below_size (by repeat (first | (with_reducible first | exact HB.out | apply below_alloc | apply pw_below_drewN | apply below_drew1) | exact HB.out)))); have n1_ := Aside0.mk (below_step (by repeat (first | (with_reducible first | exact HB.out | apply below_alloc | apply pw_below_drewN | apply below_drew1) | exact HB.out)) hb); clear HB; have HO1003 := n0_; have HB := n1_; clear n0_ n1_; clear hb ho12; obtain ⟨Ao13, co13, eo13⟩ := Kd.R_slice HO1003.out; subst eo13) | ((with_reducible refine gate_callee (f := 41) rfl ?_); refine goesL_ (some 9) rfl rfl Tryd.func41 (by kernel_rfl) rfl #[.int .i64 a0, .slice Ao13 y1001.length co13] rfl (by (try simp only [List.map_toArray, List.map_cons, List.map_nil]); first | done | rfl | (simp only [List.length_drop, List.length_take]; rfl)) ?_; (with_reducible refine (chords_circle_valid.calls a0 _ _ y1001 false _ ?side1 ?side2 A3.out).mono ?_); (case side1 => repeat (first | exact (Kd.R_reads' HO1003.out).2.2 | (with_reducible refine Kd.C_alloc ?_ _) | (with_reducible refine Kd.C_drewN ?_ _) | (with_reducible refine Kd.C_drew ?_))); (case side2 => exact (Kd.R_reads' HO1003.out).2.1); rintro e w14 ⟨rfl, hb⟩; refine ⟨_, rfl, ?_⟩; have n0_ := Aside0.mk (Kd.R_below (by (with_reducible repeat (first | apply Kd.R_alloc | apply Kd.R_drewN | apply Kd.R_drew)); exact HO1003.out) hb); have n1_ := Aside0.mk (below_step (by repeat (first | (with_reducible first | exact HB.out | apply below_alloc | apply pw_below_drewN | apply below_drew1) | exact HB.out)) hb); clear HO1003; clear HB; have HO1003 := n0_; have HB := n1_; clear n0_ n1_; (try clear hb); (try clear hb2); (try clear hk); (try clear hi)))
    go_ret2
    exact ⟨_, by first | rfl | (simp [errW_none, errW_some] <;> rfl) | (simp [*, errW_none, errW_some] <;> rfl), by first | exact Kd.R_nil _ _ _ _ _ | exact Kd.N_nil _ _ _ _ _ | exact Kd.V_nil _ _ _ _ _ | exact Kd.Q_nil _ _ _ _ _ | exact Kd.S_nil _ _ _ _ _, by repeat (first | (with_reducible first | exact HB.out | apply below_alloc | apply pw_below_drewN | apply below_drew1) | exact HB.out)⟩

end Go.Proofs.YtnjmiodnkjabgaaDoor.P
