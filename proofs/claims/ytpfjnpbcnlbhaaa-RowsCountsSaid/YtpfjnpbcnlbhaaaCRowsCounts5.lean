/- A part of a proof that a law's Go function returns true for every input, laid by this session's program mp.py (which drives the kit's print). Conditions: as each theorem states them. -/
import Derived.ArgAppend
import Derived.StillTailTactics
import Derived.Laws.EntriesVeiled
import Derived.Shelf.Abstract
import Derived.Test.YtpfjnpbcnlbhaaaCRowsCounts1
import Derived.Test.YtpfjnpbcnlbhaaaCRowsCounts2
import Derived.Test.YtpfjnpbcnlbhaaaCRowsCounts3
import Derived.Test.YtpfjnpbcnlbhaaaCRowsCounts4
namespace Go.Proofs.Ytpfjnpbcnlbhaaa.P
open Go.RowKit Go.Proofs.YtpfjnpbcnlbhaaaW.PrintWords Go.Proofs.YtpfjnpbcnlbhaaaW.PrintLast Go.Proofs.YtpfjnpbcnlbhaaaW.PrintMore
attribute [local go_sem] max2_int min2_int max_two min_two max_three min_three max_four min_four   -- for this text's walks alone
set_option linter.unusedVariables false
set_option linter.unusedSimpArgs false

/-! list -/
theorem list_f (l : List Int) : sackbutlaw05_list.f l = some (l.take 13) := by
  unfold sackbutlaw05_list.f
  rw [mn_eq, if_pos (by omega), if_pos (by omega)]
  have e : (min (l.length : Int) 13).toNat = min l.length 13 := by omega
  have e2 : l.take (min l.length 13) = l.take 13 := by
    rw [Nat.min_comm]; exact (List.take_eq_take_min ..).symm
  rw [e, e2]
  unfold slices_Clone_int_int.f
  rw [if_pos (by rw [List.length_take]; omega)]
  rfl
theorem isRow_take (l : List Int) : IsRow (l.take 13) ↔ IsRow l := by
  rcases Nat.lt_or_ge 13 l.length with h | h
  · constructor
    · intro hr; have := hr.2.1; rw [List.length_take] at this; omega
    · intro hr; have := hr.2.1; omega
  · rw [List.take_of_length_le h]
theorem row_take {l : List Int} (h : IsRow l) : l.take 13 = l := List.take_of_length_le (by have := h.2.1; omega)

/-! steps -/
theorem refSteps_loop (l : List Int) (n : Nat) (h1 : 1 ≤ n) (hb : n ≤ 62) (hlb : l.length < 17592186044416) (hr : ∀ x ∈ l, 0 ≤ x ∧ x < 4611686018427387904) : ∀ (xs pre : List Int) (p : Int) (acc : List Int), l = pre ++ p :: xs → acc.length = pre.length →
    Ev (fun k => sackbutref05_Steps.l0 k l (n : Int) acc ((pre.length : Int) + 1)) (acc ++ stepsOf n (p :: xs)) := by
  intro xs
  induction xs with
  | nil =>
    intro pre p acc h0 ha
    refine Ev.succ ?_
    have : ¬ ((pre.length : Int) + 1 < (l.length : Int)) := by subst h0; simp
    simp only [sackbutref05_Steps.l0, if_neg this, stepsOf, List.append_nil]
    exact Ev.some _
  | cons x xs ih =>
    intro pre p acc h0 ha
    have hm : l = (pre ++ [p]) ++ x :: xs := mid_mv h0
    have hi : ((pre.length : Int) + 1) = ((pre ++ [p]).length : Int) := by simp
    have hlen : pre.length + 1 < l.length := by rw [h0]; simp
    have hw : wrap64 ((pre.length : Int) + 1 - 1) = (pre.length : Int) := by rw [wrap_id (by omega) (by omega)]; omega
    have hx := hr x (by rw [hm]; simp)
    have hp := hr p (by rw [h0]; simp)
    have hs : wrap64 (x - p) = x - p := wrap_id (by omega) (by omega)
    have hlt : ((pre.length : Int) + 1 < (l.length : Int)) := by omega
    have hmod : sackbutref05_mod.f (x - p) (n : Int) = some ((x - p) % (n : Int)) := by
      unfold sackbutref05_mod.f
      rw [if_neg (by omega), tmod_mod (by omega) (by omega)]
    refine Ev.succ ?_
    simp only [sackbutref05_Steps.l0, if_pos hlt, if_pos (show (0 : Int) ≤ (pre.length : Int) + 1 by omega), hw, if_pos (show (0 : Int) ≤ (pre.length : Int) by omega), if_pos (mid_lt h0), mid_rd h0]
    rw [hi]
    simp only [mid_rd hm, hs, hmod, Option.bind_some, if_pos (show acc.length < 17592186044416 by omega), mid_next hm (by omega)]
    have := ih (pre ++ [p]) x (acc ++ [(x - p) % (n : Int)]) hm (by simp [ha])
    have e : ((pre ++ [p] ++ [x]).length : Int) = ((pre ++ [p]).length : Int) + 1 := by simp; omega
    rw [e]
    simpa [stepsOf] using this
theorem refSteps_ev (l : List Int) (n : Nat) (h1 : 1 ≤ n) (hb : n ≤ 62) (hlb : l.length < 17592186044416) (hr : ∀ x ∈ l, 0 ≤ x ∧ x < 4611686018427387904) : Ev (fun k => sackbutref05_Steps.f k l (n : Int)) (stepsOf n l) := by
  cases l with
  | nil =>
    unfold sackbutref05_Steps.f
    refine Ev.succ ?_
    simp only [sackbutref05_Steps.l0]
    simpa [stepsOf] using Ev.some _
  | cons p xs => exact refSteps_loop (p :: xs) n h1 hb hlb hr xs [] p [] rfl rfl

theorem stepsOf_range {n : Int} (hn : 0 < n) : ∀ (l : List Int), ∀ s ∈ stepsOf n l, 0 ≤ s ∧ s < n
  | x :: y :: r => by
    intro s hs
    rcases List.mem_cons.1 hs with rfl | hs
    · exact ⟨Int.emod_nonneg _ (by omega), Int.emod_lt_of_pos _ hn⟩
    · exact stepsOf_range hn (y :: r) s hs
  | [] => by simp [stepsOf]
  | [x] => by simp [stepsOf]
theorem stepsOf_length (n : Int) : ∀ (l : List Int), (stepsOf n l).length = l.length - 1
  | x :: y :: r => by have := stepsOf_length n (y :: r); simp [stepsOf] at *; omega
  | [] => by simp [stepsOf]
  | [x] => by simp [stepsOf]
/-- the steps of different tones are none of them 0 -/
theorem stepsOf_pos {n : Int} (hn : 0 < n) : ∀ (l : List Int), (∀ x ∈ l, 0 ≤ x ∧ x < n) → l.Nodup → ∀ s ∈ stepsOf n l, 1 ≤ s
  | x :: y :: r => by
    intro hr hd s hs
    rcases List.mem_cons.1 hs with rfl | hs
    · have hx := hr x (by simp); have hy := hr y (by simp)
      have hne : x ≠ y := fun e => by subst e; simp at hd
      have h0 := Int.emod_nonneg (y - x) (show n ≠ 0 by omega)
      rcases Int.lt_or_eq_of_le h0 with h | h
      · omega
      · exfalso
        have := Int.emod_add_mul_ediv (y - x) n
        rw [← h] at this
        have hq : -1 < (y - x) / n ∨ (y - x) / n ≤ -1 := by omega
        have hq2 : (y - x) / n = 0 ∨ 1 ≤ (y - x) / n ∨ (y - x) / n ≤ -1 := by omega
        rcases hq2 with h2 | h2 | h2
        · rw [h2] at this; omega
        · have : n * 1 ≤ n * ((y - x) / n) := Int.mul_le_mul_of_nonneg_left h2 (by omega)
          omega
        · have : n * ((y - x) / n) ≤ n * (-1) := Int.mul_le_mul_of_nonneg_left h2 (by omega)
          omega
    · exact stepsOf_pos hn (y :: r) (fun z hz => hr z (List.mem_cons_of_mem _ hz)) (List.nodup_cons.1 hd).2 s hs
  | [] => by simp [stepsOf]
  | [x] => by simp [stepsOf]

/-! every -/
theorem every_loop (l0 l : List Int) (hl0 : 1 ≤ l0.length ∧ l0.length ≤ 62) (hl : l.length < 9223372036854775807) (hr : ∀ x ∈ l, 0 ≤ x ∧ x < l0.length) : ∀ (xs pre : List Int) (s : Nat), l = pre ++ xs → s < 2 ^ l0.length →
    Ev (fun k => rows_row_every.l0 k l0 (s : Int) l (l.length : Int) (pre.length : Int)) (decide (orAll s (xs.map Int.toNat) = 2 ^ l0.length - 2)) := by
  intro xs
  induction xs with
  | nil =>
    intro pre s h0 hs
    refine Ev.succ ?_
    have hsh := shl1_i64 (x := l0.length) (by omega)
    have hp : 2 ≤ 2 ^ l0.length := Nat.pow_le_pow_right (show 0 < 2 by omega) hl0.1
    have hp2 := two_pow_lt63 (x := l0.length) (by omega)
    have hw : wrap64 (shl .i64 1 (l0.length : Int) - 2) = ((2 ^ l0.length - 2 : Nat) : Int) := by
      rw [hsh, wrap_id (by omega) (by have : (2 : Nat) ^ 63 = 9223372036854775808 := by decide
                                      omega)]
      omega
    simp only [rows_row_every.l0, if_neg (mid_end h0), hw, List.map_nil, orAll_nil]
    have e : ((s : Int) == ((2 ^ l0.length - 2 : Nat) : Int)) = decide (s = 2 ^ l0.length - 2) := by
      by_cases h : s = 2 ^ l0.length - 2
      · simp only [← h]; simp
      · simp only [h, decide_false, beq_eq_false_iff_ne]; omega
    rw [e]
    exact Ev.some _
  | cons x xs ih =>
    intro pre s h0 hs
    refine Ev.succ ?_
    have hx := hr x (by rw [h0]; simp)
    obtain ⟨m, rfl⟩ := Int.eq_ofNat_of_zero_le (show 0 ≤ x by omega)
    have hp2 := two_pow_lt63 (x := l0.length) (by omega)
    have hm2 : 2 ^ m < 2 ^ l0.length := Nat.pow_lt_pow_right (by omega) (by omega)
    have hs2 : s ||| 2 ^ m < 2 ^ l0.length := Nat.or_lt_two_pow hs hm2
    simp only [rows_row_every.l0, if_pos (mid_lt h0), if_pos (show (0 : Int) ≤ (pre.length : Int) by omega), mid_rd h0, mid_next h0 hl, if_pos (show (0 : Int) ≤ (m : Int) by omega), shl1_i64 (x := m) (by omega), or_i64 (a := s) (b := 2 ^ m) (by omega) (by omega), List.map_cons, orAll_cons, Int.toNat_natCast]
    exact ih (pre ++ [(m : Int)]) (s ||| 2 ^ m) (mid_mv h0) hs2
/-- every step comes: all are different -/
theorem every_iff {l : List Int} (h : IsRow l) : orAll 0 ((stepsOf l.length l).map Int.toNat) = 2 ^ l.length - 2 ↔ (stepsOf l.length l).Nodup := by
  have hn : 0 < (l.length : Int) := by have := h.1; omega
  have h1 := stepsOf_range hn l
  have h2 := stepsOf_pos hn l h.2.2.1 h.2.2.2
  have hr : ∀ x ∈ (stepsOf l.length l).map Int.toNat, 1 ≤ x ∧ x < l.length := by
    intro x hx
    obtain ⟨y, hy, rfl⟩ := List.mem_map.1 hx
    have := h1 y hy; have := h2 y hy
    omega
  rw [orAll_full2 (by have := h.1; omega) _ hr, ← nodup_toNat (fun x hx => (h1 x hx).1)]
  have hl : ((stepsOf l.length l).map Int.toNat).length = l.length - 1 := by rw [List.length_map, stepsOf_length]
  generalize (stepsOf l.length l).map Int.toNat = ys at hl hr ⊢
  -- with 0 before them they are a whole row
  have hy : ∀ i, i < l.length → (i ∈ 0 :: ys ↔ i = 0 ∨ i ∈ ys) := fun i _ => List.mem_cons
  constructor
  · intro hf
    have hd : (0 :: ys).Nodup := nodup_of_full (n := l.length) (by simp [hl]; have := h.1; omega) (fun i hi => by
      rcases Nat.eq_zero_or_pos i with e | e
      · simp [e]
      · exact List.mem_cons_of_mem _ (hf i e hi))
    exact (List.nodup_cons.1 hd).2
  · intro hd i hi1 hi2
    have hd0 : (0 :: ys).Nodup := List.nodup_cons.2 ⟨fun h0 => by have := (hr 0 h0).1; omega, hd⟩
    have := full_of_nodup (n := l.length) (by simp [hl]; have := h.1; omega) (fun x hx => by
      rcases List.mem_cons.1 hx with e | e
      · have := h.1; omega
      · exact (hr x e).2) hd0 i hi2
    rcases List.mem_cons.1 this with e | e
    · omega
    · exact e
theorem every_ev {l : List Int} (h : IsRow l) : Ev (fun k => rows_row_every.f k l) (decide (stepsOf l.length l).Nodup) := by
  unfold rows_row_every.f
  have h1 := h.1; have h2 := h.2.1
  refine Ev.bind (steps_ev l (by omega) (by omega) (row_bounds h)) ?_
  have := every_loop l (stepsOf l.length l) ⟨by omega, by omega⟩ (by rw [stepsOf_length]; omega) (stepsOf_range (by omega) l) (stepsOf l.length l) [] 0 rfl (Nat.two_pow_pos _)
  have e : decide (orAll 0 ((stepsOf l.length l).map Int.toNat) = 2 ^ l.length - 2) = decide (stepsOf l.length l).Nodup := by congr 1; rw [eq_iff_iff]; exact every_iff h
  rw [e] at this
  exact this

/-! the reference's Every: of different tones modulo n -/
def seenRun : Nat → List Int → Bool
  | _, [] => true
  | s, x :: xs => if s.testBit x.toNat then false else seenRun (s ||| 2 ^ x.toNat) xs
theorem refEvery_loop (l : List Int) (n : Nat) (hn : n ≤ 62) (hl : l.length < 9223372036854775807) (hr : ∀ x ∈ l, 0 ≤ x ∧ x < n) : ∀ (xs pre : List Int) (s : Nat), l = pre ++ xs → s < 2 ^ n →
    Ev (fun k => sackbutref05_Every.l0 k (s : Int) l (l.length : Int) (pre.length : Int)) (seenRun s xs) := by
  intro xs
  induction xs with
  | nil =>
    intro pre s h0 hs
    refine Ev.succ ?_
    simp only [sackbutref05_Every.l0, if_neg (mid_end h0)]
    exact Ev.some _
  | cons x xs ih =>
    intro pre s h0 hs
    refine Ev.succ ?_
    have hx := hr x (by rw [h0]; simp)
    obtain ⟨m, rfl⟩ := Int.eq_ofNat_of_zero_le (show 0 ≤ x by omega)
    have hp2 := two_pow_lt63 (x := n) (by omega)
    have hm2 : 2 ^ m < 2 ^ n := Nat.pow_lt_pow_right (by omega) (by omega)
    have hs2 : s ||| 2 ^ m < 2 ^ n := Nat.or_lt_two_pow hs hm2
    simp only [sackbutref05_Every.l0, if_pos (mid_lt h0), if_pos (show (0 : Int) ≤ (pre.length : Int) by omega), mid_rd h0, mid_next h0 hl, if_pos (show (0 : Int) ≤ (m : Int) by omega), bit1_i64 (a := s) (x := m) (by omega) (by omega), shl1_i64 (x := m) (by omega), or_i64 (a := s) (b := 2 ^ m) (by omega) (by omega), seenRun, Int.toNat_natCast]
    refine Ev.ite (fun e3 => by simpa [e3] using Ev.some false) (fun e3 => ?_)
    simpa [e3] using ih (pre ++ [(m : Int)]) (s ||| 2 ^ m) (mid_mv h0) hs2
theorem seenRun_iff : ∀ (xs : List Int) (s : Nat), (∀ x ∈ xs, 0 ≤ x) → seenRun s xs = decide ((∀ x ∈ xs, s.testBit x.toNat = false) ∧ xs.Nodup) := by
  intro xs
  induction xs with
  | nil => intro s _; simp [seenRun]
  | cons x xs ih =>
    intro s h
    have hx := h x (by simp)
    have h' : ∀ y ∈ xs, 0 ≤ y := fun y hy => h y (List.mem_cons_of_mem _ hy)
    simp only [seenRun, ih _ h', List.forall_mem_cons, List.nodup_cons]
    by_cases h3 : s.testBit x.toNat = true
    · simp [h3]
    · rw [if_neg h3, decide_eq_decide]
      simp only [testBit_or_two_pow, Bool.or_eq_false_iff, decide_eq_false_iff_not]
      constructor
      · rintro ⟨a, b⟩
        exact ⟨⟨by simpa using h3, fun y hy => (a y hy).1⟩, fun hx => (a x hx).2 rfl, b⟩
      · rintro ⟨⟨_, a⟩, b, c⟩
        refine ⟨fun y hy => ⟨a y hy, fun e => b ?_⟩, c⟩
        have := h' y hy
        obtain rfl : x = y := by omega
        exact hy
theorem refEvery_ev (l : List Int) (n : Nat) (h1 : 1 ≤ n) (hb : n ≤ 62) (hlb : l.length < 17592186044416) (hr : ∀ x ∈ l, 0 ≤ x ∧ x < 4611686018427387904) : Ev (fun k => sackbutref05_Every.f k l (n : Int)) (decide (stepsOf n l).Nodup) := by
  unfold sackbutref05_Every.f
  refine Ev.bind (refSteps_ev l n h1 hb hlb hr) ?_
  have hs := stepsOf_range (n := (n : Int)) (by omega) l
  have := refEvery_loop (stepsOf n l) n hb (by rw [stepsOf_length]; omega) hs (stepsOf n l) [] 0 rfl (Nat.two_pow_pos _)
  rw [seenRun_iff _ _ (fun x hx => (hs x hx).1)] at this
  simpa using this

theorem Every_ev (l : List Int) : Ev (fun k => rows_Every.f k l) (if IsRow l then (decide (stepsOf l.length l).Nodup, 0) else (false, 2)) := by
  unfold rows_Every.f
  refine Ev.bind (valid_ev l) ?_
  by_cases h : IsRow l
  · simp only [h, decide_true, if_true]
    exact Ev.bind (every_ev h) (Ev.some _)
  · simp only [h, decide_false, if_false]
    exact Ev.some _
theorem awake_ev : Ev (fun k => sackbutlaw05_awake.f k) true := by
  unfold sackbutlaw05_awake.f
  refine Ev.bind (Steps_ev [0, 1, 3, 2]) ?_
  have h : IsRow [0, 1, 3, 2] := by decide
  have e : stepsOf ([0, 1, 3, 2] : List Int).length [0, 1, 3, 2] = [1, 2, 3] := by decide
  simp only [h, if_true, e]
  exact Ev.bind (Equal_ev [1, 2, 3] [1, 2, 3] (by decide)) (Ev.some _)

end Go.Proofs.Ytpfjnpbcnlbhaaa.P
namespace Go.Proofs.Ytpfjnpbcnlbhaaa.P
open Go.RowKit Go.Proofs.YtpfjnpbcnlbhaaaW.PrintWords Go.Proofs.YtpfjnpbcnlbhaaaW.PrintLast Go.Proofs.YtpfjnpbcnlbhaaaW.PrintMore
attribute [local go_sem] max2_int min2_int max_two min_two max_three min_three max_four min_four   -- for this text's walks alone
set_option linter.unusedVariables false
set_option linter.unusedSimpArgs false

/-! the document's search, for the first row -/
def wholeF (n : Nat) : Nat → List Nat → Option (List Nat)
  | r, cur => if (stepsOf n (nums cur)).Nodup then (match r with
    | 0 => some cur
    | r + 1 => (List.range n).findSome? fun x => if x ∈ cur then none else wholeF n r (cur ++ [x])) else none
/-- what the pointer's box holds -/
def BoxF (B base : Nat) (o : Option (List Nat)) (W : World) : Prop := W.frozen? ⟨B, 0, none⟩ = false ∧ match o with
  | none => W.cell? ⟨B, 0, none⟩ = some (.slice none 0 0)
  | some l => ∃ g c rv, W.cell? ⟨B, 0, none⟩ = some (.slice (some ⟨g, 0, none⟩) 1 c) ∧ base ≤ g ∧ W.cell? ⟨g, 0, none⟩ = some rv ∧ Kd.R (Kd.int .i64) 3 W base (fun _ => True) rv (nums l)
def WholePost (B : Nat) (W : World) (o : Option (List Nat)) (e : Ending) (W' : World) : Prop := e = .returned (.int .i64 (if o = none then 0 else 1)) ∧ BoxF B W.heap.size o W' ∧ Fr (fun i => i ≠ B ∧ i < W.heap.size) W W'
theorem every_bool {n : Nat} {cur : List Nat} (hn : 1 ≤ n) (hn2 : n ≤ 40) (hl : cur.length ≤ 1000) (hcur : ∀ y ∈ cur, y < n) : ∃ k, sackbutref05_Every.f k (nums cur) (n : Int) = some (decide (stepsOf n (nums cur)).Nodup) :=
  Ev.rounds (g := fun k => sackbutref05_Every.f k (nums cur) (n : Int)) (refEvery_ev (nums cur) n hn (by omega) (by rw [nums_length]; omega) (fun x hx => by
    unfold nums at hx
    obtain ⟨y, hy, rfl⟩ := List.mem_map.1 hx
    have := hcur y hy
    show (0 : Int) ≤ (y : Int) ∧ (y : Int) < _
    omega))
theorem box_below {B base base' : Nat} {W W' : World} (h : BoxF B base none W) (hb : Below W.heap.size W W') : BoxF B base' none W' := by
  obtain ⟨hf, hc⟩ := h
  have hl : B < W.heap.size := World.block_lt_of_cell? W _ hc
  exact ⟨(hb.frozen (p := ⟨B, 0, none⟩) hl).trans hf, (hb.cell (p := ⟨B, 0, none⟩) hl).trans hc⟩
set_option maxHeartbeats 8000000 in
set_option maxRecDepth 100000 in
theorem whole_not {n B : Nat} {cur : List Nat} {A : Option Addr} {c : Nat} {W : World} (hn : 1 ≤ n) (hn2 : n ≤ 40) (hl : cur.length ≤ 1000) (hcur : ∀ y ∈ cur, y < n) (hC : Kd.C (Kd.int .i64) W A (nums cur).length (nums cur)) (hcap : (nums cur).length ≤ c) (hB : BoxF B W.heap.size none W) (hno : ¬ (stepsOf n (nums cur)).Nodup) :
    Calls Try.prog 63 #[.slice A (nums cur).length c, .int .i64 (n : Int), .int .i64 1, .pointer (some ⟨B, 0, none⟩)] W (WholePost B W none) := by
  obtain ⟨k, hk⟩ := every_bool (cur := cur) hn hn2 hl hcur
  rw [decide_eq_false hno] at hk
  have hcall := sackbutref05_Every.calls k A c (nums cur) (n : Int) false W hC hcap hk
  obtain ⟨L, hL⟩ : ∃ L, (nums cur).length = L := ⟨_, rfl⟩
  rw [hL] at hcall ⊢
  have HCALL := Aside0.mk hcall
  have HB := Aside0.mk hB
  clear hcall hk hC hcap hB hno hL
  go_enter Try.func63, Try.ntmps63
  go_wp2_with fail
  refine HCALL.out.mono ?_
  rintro e w1 ⟨rfl, hb⟩
  have HB1 := Aside0.mk hb
  clear hb
  go_wp2
  go_ret
  exact ⟨rfl, box_below HB.out HB1.out, Fr.of_below HB1.out (fun k hk => hk.2)⟩
theorem C_fr2 {w w' : World} {K : Nat → Prop} {A : Option Addr} {m : Nat} {xs : List Int} (h : Kd.C (Kd.int .i64) w A m xs) (hA : ∀ b, A = some b → 0 < xs.length → K b.block) (hf : Fr K w w') : Kd.C (Kd.int .i64) w' A m xs := by
  obtain ⟨h1, h2, h3⟩ := h
  refine ⟨h1, h2, fun hn => ?_⟩
  obtain ⟨ad, e, hc⟩ := h3 hn
  refine ⟨ad, e, fun j p hp => ?_⟩
  obtain ⟨c, hcl, hR, hcc⟩ := hc j p hp
  refine ⟨c, hcl, hR, fun i u hu => ?_⟩
  have h4 := hcc i u hu
  rw [World.cell?_of_block (hf.block _ (by rw [add_block_]; exact hA ad e (by omega)))]
  exact h4
theorem infoS9 : (Try.prog.info? 22).map (fun i => (i.zero, i.size, i.bytes)) = some (some (.slice none 0 0), 1, 24) := by kernel_rfl
theorem own_one {w : World} {base : Nat} {e : TypeId} {v u : Value} (h : w.ownsRow base e 1 v 1 [u]) : ∃ g c, v = .slice (some ⟨g, 0, none⟩) 1 c ∧ w.cell? ⟨g, 0, none⟩ = some u ∧ base ≤ g ∧ g < w.heap.size := by
  have hc : ∀ g, v.ownBlock = some g → ∀ j u', [u][j]? = some u' → w.cell? ((⟨g, 0, none⟩ : Addr).add j) = some u' := fun g hg => h.cells hg
  have hbs : ∀ g, v.ownBlock = some g → base ≤ g := fun g hg => own_base h g hg
  obtain ⟨_, h2⟩ := h
  rcases h2 with ⟨_, h0⟩ | ⟨g, cap, cur, e1, h3⟩
  · omega
  · have := hc g (by rw [e1]; rfl) 0 u rfl
    exact ⟨g, cap, e1, this, hbs g (by rw [e1]; rfl), World.block_lt_of_cell? w _ this⟩
theorem val_ {ops : Array Oper} {Q : Exit → Act → World → Prop} {oi : Oper} {N : Option Tmp} {a : Act} {w w1 : World} {K : Act → World → Prop} {v : Value} (hw : Region.wanted oi (yielded ops a.tmps) = true) (hN : oi.dst = N) (hrun : (execOp a.eval oi).run Try.prog w = .ok (.value v) w1) (h : K (a.put N v) w1) : if Region.wanted oi (yielded ops a.tmps) = true then Oper.wp Try.prog oi a w K Q else K (a.put N undef) w := by
  rw [if_pos hw]
  unfold Oper.wp
  rw [hrun]
  show K (a.put oi.dst v) w1
  rw [hN]
  exact h
set_option maxHeartbeats 8000000 in
set_option maxRecDepth 100000 in
theorem whole_end {n B : Nat} {cur : List Nat} {A : Option Addr} {c : Nat} {W : World} (hn : 1 ≤ n) (hn2 : n ≤ 40) (hl : cur.length = n) (hcur : ∀ y ∈ cur, y < n) (hC : Kd.C (Kd.int .i64) W A (nums cur).length (nums cur)) (hcap : (nums cur).length ≤ c) (hB : BoxF B W.heap.size none W) (hyes : (stepsOf n (nums cur)).Nodup) :
    Calls Try.prog 63 #[.slice A (nums cur).length c, .int .i64 (n : Int), .int .i64 1, .pointer (some ⟨B, 0, none⟩)] W (WholePost B W (some cur)) := by
  obtain ⟨k, hk⟩ := every_bool (cur := cur) hn hn2 (by omega) hcur
  rw [decide_eq_true hyes] at hk
  have hcall := sackbutref05_Every.calls k A c (nums cur) (n : Int) true W hC hcap hk
  have hlen : (nums cur).length = n := by rw [nums_length, hl]
  have HLEN := Aside0.mk hlen
  have HC := Aside0.mk hC
  rw [hlen] at hcall ⊢
  have HCALL := Aside0.mk hcall
  have HB := Aside0.mk hB
  clear hcall hk hC hcap hB hyes hlen
  go_enter Try.func63, Try.ntmps63
  go_wp2_with fail
  refine HCALL.out.mono ?_
  rintro e w1 ⟨rfl, hb⟩
  have HB1 := Aside0.mk hb
  have hbx := box_below (base' := W.heap.size) HB.out hb
  have hBf := hbx.1
  have hBc := hbx.2
  simp only at hBc
  have HCW := Aside0.mk (Kd.C_below HC.out hb)
  have HCN := Aside0.mk (show Kd.C (Kd.int .i64) w1 A n (nums cur) from by have h := HCW.out; rw [HLEN.out] at h; exact h)
  clear hb hbx
  go_wp2
  refine start_ (n := 11) (S := fun w' => w'.cell? ⟨B, 0, none⟩ = some (.slice none 0 0)) (ds := [10]) #[false, false, false, false, false, false, false, false, false, false, false] (by kernel_rfl) rfl rfl hBc (fun _ => ?_)
  refine pure_ (i := 0) (N := some 26) (v := ?_) (a' := ?_) #[true, false, false, false, false, false, false, false, false, false, false] rfl rfl (by kernel_rfl) (fun _ _ _ h => h) (Or.inl ⟨by rfl, ?_⟩) ?_ ?_
  rotate_left
  · intro w'
    go_simp
    with_reducible rfl
  rotate_left
  · simp only [Act.put, List.setIfInBounds_toArray, List.set_cons_zero, List.set_cons_succ, i64_w, i32_w]
    rfl
  refine pure_ (i := 1) (N := some 27) (v := ?_) (a' := ?_) #[true, true, false, false, false, false, false, false, false, false, false] rfl rfl (by kernel_rfl) (fun _ _ _ h => h) (Or.inl ⟨by rfl, ?_⟩) ?_ ?_
  rotate_left
  · intro w'
    go_simp
    with_reducible rfl
  rotate_left
  · simp only [Act.put, List.setIfInBounds_toArray, List.set_cons_zero, List.set_cons_succ, i64_w, i32_w]
    rfl
  refine pure_ (i := 2) (N := some 28) (v := ?_) (a' := ?_) #[true, true, true, false, false, false, false, false, false, false, false] rfl rfl (by kernel_rfl) (fun _ _ _ h => h) (Or.inl ⟨by rfl, ?_⟩) ?_ ?_
  rotate_left
  · intro w'
    go_simp
    with_reducible rfl
  rotate_left
  · simp only [Act.put, List.setIfInBounds_toArray, List.set_cons_zero, List.set_cons_succ, i64_w, i32_w]
    rfl
  refine take_ (i := 3) (N := some 29) (v := ?_) (a' := ?_) #[true, true, true, true, false, false, false, false, false, false, false] rfl rfl (by kernel_rfl) (fun _ _ _ h => h) (Or.inl ⟨by rfl, ?_⟩) hBc ?_ ?_
  rotate_left
  · intro w' hw'
    go_simp
    with_reducible rfl
  rotate_left
  · simp only [Act.put, List.setIfInBounds_toArray, List.set_cons_zero, List.set_cons_succ, i64_w, i32_w]
    rfl
  refine pure_ (i := 5) (N := some 31) (v := ?_) (a' := ?_) #[true, true, true, true, false, true, false, false, false, false, false] rfl rfl (by kernel_rfl) (fun _ _ _ h => h) (Or.inl ⟨by rfl, ?_⟩) ?_ ?_
  rotate_left
  · intro w'
    go_simp
    with_reducible rfl
  rotate_left
  · simp only [Act.put, List.setIfInBounds_toArray, List.set_cons_zero, List.set_cons_succ, i64_w, i32_w]
    rfl
  refine one_ (i := 4) (N := some 30) #[true, true, true, true, true, true, false, false, false, false, false] rfl rfl (by kernel_rfl) (by decide) (fun K hK => ?_)
  have hbz : Below w1.heap.size w1 w1.drew := below_drew1 (Below.refl _ _)
  have hBl : B < w1.heap.size := World.block_lt_of_cell? w1 _ hBc
  refine Kd.R_lit_step (Kd.int .i64) (w0 := w1) w1.heap.size 3 (by rfl) (N := 30) rfl (xs := []) (inner := []) (ok := fun _ => True) (okp := fun _ => False) ?hr (Reps.none _ _) (fun _ h => h.elim) trivial hbz (below_size hbz) (by simp) ?_
  case hr => first | (go_simp; done) | (go_simp; rfl)
  rintro v30 w2 ho30 hb30 hg30 -
  refine hK.out _ _ ((hb30.cell (p := ⟨B, 0, none⟩) hBl).trans hBc) (fun _ => ?_)
  clear hK K
  refine norm_ (a' := ?_) ?_ ?_
  rotate_left
  · show Act.put _ (some 30) _ = _
    simp only [Act.put, List.setIfInBounds_toArray, List.set_cons_zero, List.set_cons_succ, i64_w, i32_w]
    rfl
  refine one_ (i := 6) (N := some 32) #[true, true, true, true, true, true, true, false, false, false, false] rfl rfl (by kernel_rfl) (by decide) (fun K hK => ?_)
  refine Kd.R_append_rows_step (Kd.int .i64) (w0 := w1) w1.heap.size (by rfl) (.tmp 30) (.tmp 31) 22 3 (.int .i64 0) 8 rfl Try.underlying22 info3 rfl (by decide) (by omega) v30 [] (nums cur) A n c (fun _ => True) (fun _ => False) rfl rfl ho30 (Kd.C_below HCN.out hb30) (fun _ _ h => h) (fun _ h => h.elim) (fun _ _ => trivial) hb30 (below_size hb30) (by simp; omega) ?_
  rintro v32 w3 ho32 hb32 hg32 -
  refine hK.out _ _ ((hb32.cell (p := ⟨B, 0, none⟩) hBl).trans hBc) (fun _ => ?_)
  clear hK K
  refine norm_ (a' := ?_) ?_ ?_
  rotate_left
  · show Act.put _ (some 32) _ = _
    simp only [Act.put, List.setIfInBounds_toArray, List.set_cons_zero, List.set_cons_succ, i64_w, i32_w]
    rfl
  obtain ⟨A32, c32, e32⟩ := Kd.R_slice ho32
  subst e32
  simp only [List.nil_append] at ho32 ⊢
  obtain ⟨L32, hL32⟩ : ∃ L32, (nums cur).length = L32 := ⟨_, rfl⟩
  rw [hL32] at ho32 ⊢
  refine one_ (i := 7) (N := some 33) #[true, true, true, true, true, true, true, true, false, false, false] rfl rfl (by kernel_rfl) (by decide) (fun K hK => ?_)
  refine val_ (v := .slice (some ⟨w3.heap.size, 0, none⟩) 1 1) (w1 := w3.alloc (.cells #[.slice A32 L32 c32] 22)) (by rfl) rfl ?hr7 ?_
  case hr7 => first | (go_simp; done) | (go_simp; rfl)
  have hb7 : Below w1.heap.size w1 (w3.alloc (.cells #[.slice A32 L32 c32] 22)) := below_alloc hb32 _
  have hn7 := (new_cell w3 (.slice A32 L32 c32) 22).1
  have hz7 : (w3.alloc (.cells #[.slice A32 L32 c32] 22)).heap.size = w3.heap.size + 1 := World.size_alloc _ _
  have hR7 := Kd.R_below ho32 (below_alloc (Below.refl w3.heap.size w3) (.cells #[.slice A32 L32 c32] 22))
  refine hK.out _ _ ((hb7.cell (p := ⟨B, 0, none⟩) hBl).trans hBc) (fun _ => ?_)
  clear hK K
  refine norm_ (a' := ?_) ?_ ?_
  rotate_left
  · show Act.put _ (some 33) _ = _
    simp only [Act.put, List.setIfInBounds_toArray, List.set_cons_zero, List.set_cons_succ, i64_w, i32_w]
    rfl
  generalize w3.alloc (.cells #[.slice A32 L32 c32] 22) = w4 at hb7 hn7 hz7 hR7 ⊢
  obtain ⟨i1, hi1, hy0, hy1, hy2⟩ := info_parts infoS9
  refine one_ (i := 8) (N := some 34) #[true, true, true, true, true, true, true, true, true, false, false] rfl rfl (by kernel_rfl) (by decide) (fun K hK => ?_)
  rw [if_pos (by rfl)]
  refine wp_append_own _ (.tmp 29) (.tmp 33) 53 rfl w1.heap.size 22 i1 (.slice none 0 0) 1 24 Try.underlying53 hi1 hy0 hy1 hy2 rfl (by decide) (.slice none 0 0) 0 [] rfl (World.ownsRow_nil _ _ _ _) ⟨w3.heap.size, 0, none⟩ 1 1 [.slice A32 L32 c32] rfl rfl ?hnews (fun u hu => by rw [List.mem_singleton] at hu; subst hu; rfl) (by simp only [maxLen]; omega) (by omega) hb7.size ?_
  case hnews =>
    intro j u hu
    cases j with
    | zero => simp only [List.getElem?_cons_zero, Option.some.injEq] at hu; subst hu; exact hn7
    | succ j => simp at hu
  intro v34 w5 ho34 hg34 _
  simp only [List.nil_append, Nat.zero_add] at ho34
  have hb8 : Below w1.heap.size w1 w5 := hb7.grown hg34 hb7.size (fun k e => by cases e)
  have hR8 : Kd.R (Kd.int .i64) 3 w5 w1.heap.size (fun _ => True) (.slice A32 L32 c32) (nums cur) := Kd.R_below hR7 (Below.grown (Below.refl w4.heap.size w4) hg34 (Nat.le_refl _) (fun k e => by cases e))
  refine hK.out _ _ ((hb8.cell (p := ⟨B, 0, none⟩) hBl).trans hBc) (fun _ => ?_)
  clear hK K
  refine norm_ (a' := ?_) ?_ ?_
  rotate_left
  · show Act.put _ (some 34) _ = _
    simp only [Act.put, List.setIfInBounds_toArray, List.set_cons_zero, List.set_cons_succ, i64_w, i32_w]
    rfl
  obtain ⟨g34, c34, e34, hc34⟩ := own_one ho34
  subst e34
  refine pure_ (i := 9) (N := some 35) (v := ?_) (a' := ?_) #[true, true, true, true, true, true, true, true, true, true, false] rfl rfl (by kernel_rfl) (fun _ _ _ h => h) (Or.inl ⟨by rfl, ?_⟩) ?_ ?_
  rotate_left
  · intro w'
    go_simp
    with_reducible rfl
  rotate_left
  · simp only [Act.put, List.setIfInBounds_toArray, List.set_cons_zero, List.set_cons_succ, i64_w, i32_w]
    rfl
  refine last_ (i := 10) (N := none) #[true, true, true, true, true, true, true, true, true, true, true] rfl rfl (by kernel_rfl) (by decide) (fun K hK => ?_)
  have k0 := (hb8.cell (p := ⟨B, 0, none⟩) hBl).trans hBc
  have z0 := (hb8.frozen (p := ⟨B, 0, none⟩) hBl).trans hBf
  refine skip_ (w1 := w5.setCell ⟨B, 0, none⟩ (.slice (some ⟨g34, 0, none⟩) 1 c34)) (by rfl) rfl ?hr10 ?_
  case hr10 => first | (go_simp; done) | (go_simp; rfl)
  refine hK.out _ _ ?_
  clear hK K
  refine done_ (by kernel_rfl) ?_
  have HR8 := Aside0.mk hR8
  have HB8 := Aside0.mk hb8
  have HC34 := Aside0.mk hc34
  have K0 := Aside0.mk k0
  have Z0 := Aside0.mk z0
  have HBL := Aside0.mk hBl
  clear hR8 hb8 hc34 k0 z0 hBl ho34 hg34 hb7 hn7 hz7 hR7 ho32 hb32 hg32 ho30 hb30 hg30 hbz hy0 hy1 hy2 hi1
  go_wp2
  go_ret
  refine ⟨by simp, ⟨by rw [World.frozen?_setCell]; exact Z0.out, g34, c34, .slice A32 L32 c32, World.cell?_setCell_same' _ _ _ (by rw [K0.out]; rfl), Nat.le_trans HB1.out.size HC34.out.2.1, (World.cell?_setCell_far _ _ _ _ (by simp only [ne_eq]; have := HBL.out; have := HC34.out.2.1; omega)).trans HC34.out.1, ?_⟩, ((Fr.of_below HB1.out (fun k hk => hk.2)).trans ((Fr.of_below HB8.out (fun k hk => Nat.lt_of_lt_of_le hk.2 HB1.out.size)))).trans (Fr.setCell _ _ (fun h => h.1 rfl))⟩
  exact Kd.R_lower (Kd.R_mono (Kd.R_move (Kd.R_bound HR8.out) (fun i hi => Below.heap_setCell _ _ _ _ (by simp only [ne_eq]; have := hi.2.1; have := HBL.out; omega))) (fun _ _ => trivial)) HB1.out.size
theorem findSome_upto {α : Type} (f : Nat → Option α) {n x : Nat} {l : α} (hx : x < n) (h0 : (List.range x).findSome? f = none) (h1 : f x = some l) : (List.range n).findSome? f = some l := by
  obtain ⟨d, rfl⟩ : ∃ d, n = x + 1 + d := ⟨n - (x + 1), by omega⟩
  rw [List.range_add, List.findSome?_append, List.range_succ, List.findSome?_append, h0]
  simp [h1]
theorem wholeF_next {n r : Nat} {cur : List Nat} {x : Nat} (h0 : ((List.range x).findSome? fun x => if x ∈ cur then none else wholeF n r (cur ++ [x])) = none) (h1 : (if x ∈ cur then none else wholeF n r (cur ++ [x])) = none) : ((List.range (x + 1)).findSome? fun x => if x ∈ cur then none else wholeF n r (cur ++ [x])) = none := by
  rw [List.range_succ, List.findSome?_append, h0]
  simp [h1]
theorem part_snoc {n : Nat} {cur : List Nat} {x : Nat} (hx : x < n) (hp : PartOf n (nums cur)) : PartOf n (nums (cur ++ [x])) ↔ x ∉ cur := by
  unfold PartOf at hp ⊢
  rw [nums_snoc]
  constructor
  · rintro ⟨_, h⟩ hm
    rw [List.nodup_append] at h
    exact h.2.2 (x : Int) (List.mem_map.2 ⟨x, hm, rfl⟩) (x : Int) (by simp) rfl
  · intro h
    refine ⟨fun y hy => ?_, ?_⟩
    · rcases List.mem_append.1 hy with h | h
      · exact hp.1 y h
      · rw [List.mem_singleton] at h; subst h; omega
    · rw [List.nodup_append]
      refine ⟨hp.2, by simp, fun a ha b hb e => ?_⟩
      rw [List.mem_singleton] at hb
      obtain ⟨z, hz, rfl⟩ := List.mem_map.1 ha
      have : z = x := by
        have h5 : ((z : Nat) : Int) = (x : Int) := e.trans hb
        omega
      exact h (this ▸ hz)
set_option maxHeartbeats 8000000 in
set_option maxRecDepth 100000 in
theorem whole_more {n B : Nat} (r : Nat) {cur : List Nat} {A : Option Addr} {c : Nat} {W : World} (hn : 1 ≤ n) (hn2 : n ≤ 40) (hl : cur.length + (r + 1) = n) (hcur : ∀ y ∈ cur, y < n) (hpart : PartOf n (nums cur)) (hC : Kd.C (Kd.int .i64) W A (nums cur).length (nums cur)) (hcap : (nums cur).length ≤ c) (hA : ∀ b, A = some b → 0 < cur.length → b.block ≠ B ∧ b.block < W.heap.size) (hB : BoxF B W.heap.size none W) (hyes : (stepsOf n (nums cur)).Nodup)
    (ih : ∀ (x : Nat) (A : Option Addr) (c : Nat) (W : World), x < n → x ∉ cur → Kd.C (Kd.int .i64) W A (nums (cur ++ [x])).length (nums (cur ++ [x])) → (nums (cur ++ [x])).length ≤ c → (∀ b, A = some b → 0 < (cur ++ [x]).length → b.block ≠ B ∧ b.block < W.heap.size) → BoxF B W.heap.size none W →
      Calls Try.prog 63 #[.slice A (nums (cur ++ [x])).length c, .int .i64 (n : Int), .int .i64 1, .pointer (some ⟨B, 0, none⟩)] W (WholePost B W (wholeF n r (cur ++ [x])))) :
    Calls Try.prog 63 #[.slice A (nums cur).length c, .int .i64 (n : Int), .int .i64 1, .pointer (some ⟨B, 0, none⟩)] W (WholePost B W ((List.range n).findSome? fun x => if x ∈ cur then none else wholeF n r (cur ++ [x]))) := by
  obtain ⟨k, hk⟩ := every_bool (cur := cur) hn hn2 (by omega) hcur
  rw [decide_eq_true hyes] at hk
  have hcall := sackbutref05_Every.calls k A c (nums cur) (n : Int) true W hC hcap hk
  obtain ⟨L, hlen⟩ : ∃ L, (nums cur).length = L := ⟨_, rfl⟩
  have HL := Aside0.mk hlen
  have HC := Aside0.mk hC
  have hLn : L < n := by rw [← hlen, nums_length]; omega
  have hne : ((L : Int) == (n : Int)) = false := beq_eq_false_iff_ne.2 (by omega)
  rw [hlen] at hcall hcap ⊢
  have HCALL := Aside0.mk hcall
  have HB := Aside0.mk hB
  have HA := Aside0.mk hA
  have HIH := Aside0.mk ih
  have HP := Aside0.mk hpart
  have HLC : (L : Int) ≤ (c : Int) := by omega
  obtain ⟨i0, hi, hz0, hz1, hz2⟩ := info_parts info3
  have HI0 := Aside0.mk hi
  have HZ := Aside0.mk (show i0.zero = some (.int .i64 0) ∧ i0.size = 1 ∧ i0.bytes = 8 from ⟨hz0, hz1, hz2⟩)
  have HNL := Aside0.mk (show ((nums cur).map (Value.int .i64)).length = L * 1 by rw [List.length_map, hlen, Nat.mul_one])
  have HNONE := Aside0.mk (show A = none → L = 0 ∧ L = 0 from fun e => by
    rcases Nat.eq_zero_or_pos L with h | h
    · exact ⟨h, h⟩
    · obtain ⟨ad, e2, _⟩ := Kd.at_int hC 0 (by omega) (by omega)
      rw [e] at e2; cases e2)
  clear hcall hk hC hB hyes hlen hA ih hpart hi hz0 hz1 hz2 hcur hcap
  go_enter Try.func63, Try.ntmps63
  go_wp2_with fail
  refine HCALL.out.mono ?_
  rintro e w1 ⟨rfl, hb⟩
  have HB1 := Aside0.mk hb
  have HBX := Aside0.mk (box_below (base' := W.heap.size) HB.out hb)
  clear hb
  have hBl : B < W.heap.size := World.block_lt_of_cell? W _ HB.out.2
  have HBL := Aside0.mk hBl
  have HFR1 := Aside0.mk (Fr.of_below (P := fun i => i ≠ B ∧ i < W.heap.size) HB1.out (fun k hk => hk.2))
  clear hBl
  go_wp2
  go_loopg [9, 37] n (fun gg s9 s37 wr => ∃ x : Nat, s37 = .int .i64 x ∧ s9 = .int .i64 0 ∧ Aside0 (x + gg = n) ∧ Aside0 (BoxF B W.heap.size none wr) ∧ Aside0 (Fr (fun i => i ≠ B ∧ i < W.heap.size) W wr) ∧ Aside0 (((List.range x).findSome? fun x => if x ∈ cur then none else wholeF n r (cur ++ [x])) = none))
  case atStart => exact ⟨0, rfl, rfl, ⟨by omega⟩, HBX, HFR1, ⟨rfl⟩⟩
  case round =>
    obtain ⟨x, rfl, rfl, HX, HBo, HFo, HF0⟩ := hrel
    obtain ⟨wo, hwo⟩ : ∃ wo : World, wo = wr := ⟨wr, rfl⟩
    subst hwo
    by_cases hx : x < n
    · have hxz : (x : Int) < (n : Int) := by omega
      have HCo := Aside0.mk (C_fr2 HC.out (fun b hb h0 => HA.out b hb (by rw [nums_length] at h0; exact h0)) HFo.out)
      have HCB := Aside0.mk (nums_cells (W := wo.alloc (.cells #[.int .i64 (x : Int)] 3)) (A := A) (cur := cur) (Kd.C_alloc HCo.out _))
      have HNC := Aside0.mk (new_cell wo (.int .i64 (x : Int)) 3)
      go_wp2_with (((with_reducible refine gate_builtin (b := .append) (xs := #[.tmp 45, .tmp 47]) rfl ?_); at_builtin; refine wpList_append_grows _ rfl _ _ 22 rfl 3 i0 (.int .i64 0) 1 8 Try.underlying22 HI0.out HZ.out.1 HZ.out.2.1 HZ.out.2.2 rfl (by decide) A L L ((nums cur).map (Value.int .i64)) rfl HNONE.out HNL.out HCB.out ⟨wo.heap.size, 0, none⟩ 1 1 [.int .i64 (x : Int)] rfl rfl ?c1 ?c2 (by omega) ?c3 ?c4 ?_; (case c1 => intro j u hu; cases j with
        | zero => simp only [List.getElem?_cons_zero, Option.some.injEq] at hu; subst hu; exact HNC.out.1
        | succ j => simp at hu); (case c2 => intro u hu; rw [List.mem_singleton] at hu; subst hu; rfl); (case c3 => simp only [maxLen]; omega); (case c4 => omega); intro v5 w5 ho5 hg5))
      have hrow : (((nums cur).map (Value.int .i64)) ++ [Value.int .i64 (x : Int)]) = (nums (cur ++ [x])).map (Value.int .i64) := by rw [nums_snoc]; simp
      have hlen2 : L + 1 = (nums (cur ++ [x])).length := by rw [nums_snoc, List.length_append, HL.out]; rfl
      rw [hrow] at ho5
      have ho6 := ho5
      rw [hlen2] at ho6
      have hR5 := R_fresh ho6
      obtain ⟨A5, c5, e5⟩ := Kd.R_slice hR5
      subst e5
      have hb5 : Below wo.heap.size wo w5 := ((below_alloc (Below.refl wo.heap.size wo) _).grown hg5 (by simp) (fun k e => by cases e))
      have HB5 := Aside0.mk hb5
      have HR5 := Aside0.mk hR5
      have HLN2 := Aside0.mk hlen2
      have HBo5 := Aside0.mk (box_below (base' := w5.heap.size) HBo.out hb5)
      have hBlo : B < wo.heap.size := Nat.lt_of_lt_of_le HBL.out HFo.out.size
      have HA5 := Aside0.mk (show ∀ b, A5 = some b → b.block ≠ B ∧ b.block < w5.heap.size from fun b hb => by
        have h1 := Kd.R_base hR5 b.block (by rw [hb]; rfl)
        have h2 := Kd.R_lt hR5 b.block (by rw [hb]; rfl)
        rw [World.size_alloc] at h1
        exact ⟨by omega, h2⟩)
      obtain ⟨kp, hkp⟩ := Ev.rounds (g := fun k => sackbutref05_Part.f k (nums (cur ++ [x])) (n : Int)) (Part_ev (nums (cur ++ [x])) n (by omega) (by rw [← hlen2]; omega))
      have hpc := sackbutref05_Part.calls kp A5 c5 (nums (cur ++ [x])) (n : Int) _ w5 (Kd.R_reads' hR5).2.2 (Kd.R_reads' hR5).2.1 hkp
      have HPS := Aside0.mk (part_snoc hx HP.out)
      rw [← hlen2] at hpc ⊢
      clear ho5 ho6 hR5 hb5 hg5 hrow hlen2 hkp hBlo
      by_cases hm : x ∈ cur
      · rw [decide_eq_false (fun h => HPS.out.1 h hm)] at hpc
        have HPC := Aside0.mk hpc
        have HF1 := Aside0.mk (wholeF_next HF0.out (show (if x ∈ cur then none else wholeF n r (cur ++ [x])) = none from if_pos hm))
        clear hpc hm
        go_wp2_with fail
        refine HPC.out.mono ?_
        rintro e w6 ⟨rfl, hd⟩
        obtain ⟨qd, rfl⟩ := hd
        go_wp2
        have hbq : Below wo.heap.size wo (w5.drewN qd) := pw_below_drewN HB5.out qd
        go_roundg (gk - 1)
        case measure => have := HX.out; omega
        case rel => exact ⟨x + 1, by first | go_num | (rw [wrap_id (by omega) (by omega)]; rfl), rfl, ⟨by have := HX.out; omega⟩, ⟨box_below HBo.out hbq⟩, ⟨HFo.out.trans (Fr.of_below hbq (fun i hi => Nat.lt_of_lt_of_le hi.2 HFo.out.size))⟩, HF1⟩
      · rw [decide_eq_true (HPS.out.2 hm)] at hpc
        have HPC := Aside0.mk hpc
        have HFX := Aside0.mk (fun (o : Option (List Nat)) (h : wholeF n r (cur ++ [x]) = o) => (if_neg hm : (if x ∈ cur then none else wholeF n r (cur ++ [x])) = wholeF n r (cur ++ [x])).trans h)
        have HM := Aside0.mk hm
        clear hpc hm
        go_wp2_with fail
        refine HPC.out.mono ?_
        rintro e w6 ⟨rfl, hd⟩
        have hb6 : Below w5.heap.size w5 w6 := by obtain ⟨qd, rfl⟩ := hd; exact pw_below_drewN (Below.refl _ _) qd
        have hrun := HIH.out x A5 c5 w6 hx HM.out (Kd.C_below (Kd.R_reads' HR5.out).2.2 hb6) (Kd.R_reads' HR5.out).2.1 (fun b hb _ => ⟨(HA5.out b hb).1, Nat.lt_of_lt_of_le (HA5.out b hb).2 hb6.size⟩) (box_below HBo5.out hb6)
        rw [← HLN2.out] at hrun
        have HB6 := Aside0.mk (HB5.out.trans (hb6.mono HB5.out.size))
        generalize ho : wholeF n r (cur ++ [x]) = o at hrun
        have HRUN := Aside0.mk hrun
        have HOO := Aside0.mk ho
        clear hd hb6 hrun ho
        cases o with
        | none =>
          have HF1 := Aside0.mk (wholeF_next HF0.out (HFX.out _ HOO.out))
          go_wp2_with fail
          refine HRUN.out.mono ?_
          rintro e w7 ⟨rfl, hbx, hf7⟩
          rw [if_pos rfl]
          have hc7 := hbx.2
          simp only at hc7
          have HBX7 := Aside0.mk (show BoxF B W.heap.size none w7 from hbx)
          have HF7 := Aside0.mk hf7
          clear hbx hf7
          go_wp2
          go_roundg (gk - 1)
          case measure => have := HX.out; omega
          case rel => exact ⟨x + 1, by first | go_num | (rw [wrap_id (by omega) (by omega)]; rfl), by first | rfl | go_num, ⟨by have := HX.out; omega⟩, HBX7, ⟨HFo.out.trans ((Fr.of_below HB6.out (fun i hi => Nat.lt_of_lt_of_le hi.2 HFo.out.size)).trans (HF7.out.mono (fun i hi => ⟨hi.1, Nat.lt_of_lt_of_le hi.2 (Nat.le_trans HFo.out.size HB6.out.size)⟩)))⟩, HF1⟩
        | some l =>
          have HF1 := Aside0.mk (findSome_upto (fun x => if x ∈ cur then none else wholeF n r (cur ++ [x])) hx HF0.out (HFX.out _ HOO.out))
          go_wp2_with fail
          refine HRUN.out.mono ?_
          rintro e w7 ⟨rfl, hbx, hf7⟩
          rw [if_neg (by simp)]
          obtain ⟨hz7, g7, c7, rv7, hc7, hg7, hcr7, hR7⟩ := hbx
          have HZ7 := Aside0.mk hz7
          have HC7 := Aside0.mk hc7
          have HG7 := Aside0.mk hg7
          have HCR7 := Aside0.mk hcr7
          have HR7 := Aside0.mk hR7
          have HF7 := Aside0.mk hf7
          clear hz7 hg7 hcr7 hR7 hf7
          go_wp2
          go_ret
          have hs6 : W.heap.size ≤ w6.heap.size := Nat.le_trans HFo.out.size HB6.out.size
          rw [HF1.out]
          exact ⟨by simp, ⟨HZ7.out, g7, c7, rv7, HC7.out, Nat.le_trans hs6 HG7.out, HCR7.out, Kd.R_lower HR7.out hs6⟩, HFo.out.trans ((Fr.of_below HB6.out (fun i hi => Nat.lt_of_lt_of_le hi.2 HFo.out.size)).trans (HF7.out.mono (fun i hi => ⟨hi.1, Nat.lt_of_lt_of_le hi.2 hs6⟩)))⟩
    · have hxn : x = n := by have := HX.out; omega
      have hxz : ¬ (x : Int) < (n : Int) := by omega
      have HF9 := Aside0.mk (show ((List.range n).findSome? fun x => if x ∈ cur then none else wholeF n r (cur ++ [x])) = none from by have h := HF0.out; rw [hxn] at h; exact h)
      clear hxn
      go_wp2
      go_ret
      rw [HF9.out]
      exact ⟨by simp, HBo.out, HFo.out⟩
theorem wholeF_eq (n r : Nat) (cur : List Nat) : wholeF n (r + 1) cur = if (stepsOf n (nums cur)).Nodup then ((List.range n).findSome? fun x => if x ∈ cur then none else wholeF n r (cur ++ [x])) else none := by rw [wholeF]
theorem wholeF_zero (n : Nat) (cur : List Nat) : wholeF n 0 cur = if (stepsOf n (nums cur)).Nodup then some cur else none := by rw [wholeF]
theorem wholeR_calls {n B : Nat} (hn : 1 ≤ n) (hn2 : n ≤ 40) : ∀ (r : Nat) {cur : List Nat} {A : Option Addr} {c : Nat} {W : World}, cur.length + r = n → (∀ y ∈ cur, y < n) → PartOf n (nums cur) → Kd.C (Kd.int .i64) W A (nums cur).length (nums cur) → (nums cur).length ≤ c → (∀ b, A = some b → 0 < cur.length → b.block ≠ B ∧ b.block < W.heap.size) → BoxF B W.heap.size none W →
    Calls Try.prog 63 #[.slice A (nums cur).length c, .int .i64 (n : Int), .int .i64 1, .pointer (some ⟨B, 0, none⟩)] W (WholePost B W (wholeF n r cur)) := by
  intro r
  induction r with
  | zero =>
    intro cur A c W hl hcur hp hC hcap hA hB
    rw [wholeF_zero]
    by_cases h : (stepsOf n (nums cur)).Nodup
    · rw [if_pos h]; exact whole_end hn hn2 (by omega) hcur hC hcap hB h
    · rw [if_neg h]; exact whole_not hn hn2 (by omega) hcur hC hcap hB h
  | succ r ih =>
    intro cur A c W hl hcur hp hC hcap hA hB
    rw [wholeF_eq]
    by_cases h : (stepsOf n (nums cur)).Nodup
    · rw [if_pos h]
      exact whole_more r hn hn2 hl hcur hp hC hcap hA hB h (fun x A c W hx hm hC hcap hA hB => ih (by rw [List.length_append, List.length_singleton]; omega) (fun y hy => by
        rcases List.mem_append.1 hy with h | h
        · exact hcur y h
        · rw [List.mem_singleton] at h; omega) ((part_snoc hx hp).2 hm) hC hcap hA hB)
    · rw [if_neg h]; exact whole_not hn hn2 (by omega) hcur hC hcap hB h

end Go.Proofs.Ytpfjnpbcnlbhaaa.P
namespace Go.Proofs.Ytpfjnpbcnlbhaaa.P
open Go.RowKit Go.Proofs.YtpfjnpbcnlbhaaaW.PrintWords Go.Proofs.YtpfjnpbcnlbhaaaW.PrintLast Go.Proofs.YtpfjnpbcnlbhaaaW.PrintMore
attribute [local go_sem] max2_int min2_int max_two min_two max_three min_three max_four min_four   -- for this text's walks alone
set_option linter.unusedVariables false
set_option linter.unusedSimpArgs false

/-! the document's search, for all rows -/
def wholeA (n : Nat) : Nat → List Nat → List (List Nat)
  | r, cur => if (stepsOf n (nums cur)).Nodup then (match r with
    | 0 => [cur]
    | r + 1 => (List.range n).flatMap fun x => if x ∈ cur then [] else wholeA n r (cur ++ [x])) else []
theorem wholeA_zero (n : Nat) (cur : List Nat) : wholeA n 0 cur = if (stepsOf n (nums cur)).Nodup then [cur] else [] := by rw [wholeA]
theorem wholeA_eq (n r : Nat) (cur : List Nat) : wholeA n (r + 1) cur = if (stepsOf n (nums cur)).Nodup then ((List.range n).flatMap fun x => if x ∈ cur then [] else wholeA n r (cur ++ [x])) else [] := by rw [wholeA]
def addL (most : Nat) (L M : List (List Nat)) : List (List Nat) := L ++ M.take (most - L.length)
theorem addL_nil (most : Nat) (L : List (List Nat)) : addL most L [] = L := by unfold addL; simp
theorem addL_add (most : Nat) (L M N : List (List Nat)) (h : L.length ≤ most) : addL most (addL most L M) N = addL most L (M ++ N) := by
  unfold addL
  rw [List.append_assoc, List.take_append, List.length_append, List.length_take]
  congr 3
  omega
theorem addL_len (most : Nat) (L M : List (List Nat)) (h : L.length ≤ most) : (addL most L M).length ≤ most := by
  unfold addL
  rw [List.length_append, List.length_take]; omega
def WPost (B base most : Nat) (W : World) (L M : List (List Nat)) (e : Ending) (W' : World) : Prop := e = .returned (.int .i64 (wrap64 (M.length : Int))) ∧ LstJ B base (addL most L M) W' ∧ Fr (fun i => ¬ LstP B W i ∧ i < W.heap.size) W W' ∧ ∀ i, LstP B W' i → LstP B W i ∨ W.heap.size ≤ i
theorem wrap_none9 : wrap64 (([] : List (List Nat)).length : Int) = 0 := wrap_id (by simp) (by simp)
theorem wrap_one9 (x : List Nat) : wrap64 (([x] : List (List Nat)).length : Int) = 1 := wrap_id (by simp) (by simp)
theorem WPost.zero {B base most : Nat} {W W' : World} {L : List (List Nat)} (hJ : LstJ B base L W) (hb : Below W.heap.size W W') : WPost B base most W L [] (.returned (.int .i64 0)) W' := by
  have hk := (lst_inter B base).keep L W W' hJ hb
  exact ⟨by rw [wrap_none9], by rw [addL_nil]; exact hk.1, Fr.of_below hb (fun k hk => hk.2), fun i hi => .inl ((hk.2 i).1 hi)⟩
set_option maxHeartbeats 8000000 in
set_option maxRecDepth 100000 in
theorem wholeA_not {n B base most : Nat} {cur : List Nat} {A : Option Addr} {c : Nat} {W : World} {L : List (List Nat)} (hn : 1 ≤ n) (hn2 : n ≤ 40) (hl : cur.length ≤ 1000) (hcur : ∀ y ∈ cur, y < n) (hC : Kd.C (Kd.int .i64) W A (nums cur).length (nums cur)) (hcap : (nums cur).length ≤ c) (hB : LstJ B base L W) (hno : ¬ (stepsOf n (nums cur)).Nodup) :
    Calls Try.prog 63 #[.slice A (nums cur).length c, .int .i64 (n : Int), .int .i64 (most : Int), .pointer (some ⟨B, 0, none⟩)] W (WPost B base most W L []) := by
  obtain ⟨k, hk⟩ := every_bool (cur := cur) hn hn2 hl hcur
  rw [decide_eq_false hno] at hk
  have hcall := sackbutref05_Every.calls k A c (nums cur) (n : Int) false W hC hcap hk
  obtain ⟨L5, hL5⟩ : ∃ L5, (nums cur).length = L5 := ⟨_, rfl⟩
  rw [hL5] at hcall ⊢
  have HCALL := Aside0.mk hcall
  have HB := Aside0.mk hB
  clear hcall hk hC hcap hB hno hL5
  go_enter Try.func63, Try.ntmps63
  go_wp2_with fail
  refine HCALL.out.mono ?_
  rintro e w1 ⟨rfl, hb⟩
  have HB1 := Aside0.mk hb
  clear hb
  go_wp2
  go_ret
  exact WPost.zero HB.out HB1.out
set_option maxHeartbeats 8000000 in
set_option maxRecDepth 100000 in
theorem wholeA_end {n B base most : Nat} {cur : List Nat} {A : Option Addr} {c : Nat} {W : World} {q : List (List Nat)} (hn : 1 ≤ n) (hn2 : n ≤ 40) (hm : most ≤ 1000) (hl : cur.length = n) (hcur : ∀ y ∈ cur, y < n) (hC : Kd.C (Kd.int .i64) W A (nums cur).length (nums cur)) (hcap : (nums cur).length ≤ c) (hB : LstJ B base q W) (hyes : (stepsOf n (nums cur)).Nodup) :
    Calls Try.prog 63 #[.slice A (nums cur).length c, .int .i64 (n : Int), .int .i64 (most : Int), .pointer (some ⟨B, 0, none⟩)] W (WPost B base most W q [cur]) := by
  obtain ⟨k, hk⟩ := every_bool (cur := cur) hn hn2 (by omega) hcur
  rw [decide_eq_true hyes] at hk
  have hcall := sackbutref05_Every.calls k A c (nums cur) (n : Int) true W hC hcap hk
  have hlen : (nums cur).length = n := by rw [nums_length, hl]
  have HLEN := Aside0.mk hlen
  have HC := Aside0.mk hC
  rw [hlen] at hcall ⊢
  have HCALL := Aside0.mk hcall
  have HB := Aside0.mk hB
  have HM := Aside0.mk hm
  clear hcall hk hC hcap hB hyes hlen hm
  go_enter Try.func63, Try.ntmps63
  go_wp2_with fail
  refine HCALL.out.mono ?_
  rintro e w1 ⟨rfl, hb⟩
  have HB1 := Aside0.mk hb
  have hk := (lst_inter B base).keep q W w1 HB.out hb
  have HKP := Aside0.mk hk.2
  obtain ⟨⟨A0, n0, c0, hBc, hR⟩, hBf, hs, hbs⟩ := hk.1
  have hn0 : n0 = q.length := by
    obtain ⟨A', c', e'⟩ := Kd.S_slice hR
    injection e' with _ e2 _
    rw [e2, rowsOf, List.length_map]
  have HRW := Aside0.mk hR
  have HF := Aside0.mk hBf
  have HS := Aside0.mk hs
  have HBS := Aside0.mk hbs
  have HN0 := Aside0.mk hn0
  have HC1 := Aside0.mk hBc
  have HCW := Aside0.mk (Kd.C_below HC.out hb)
  have HCN := Aside0.mk (show Kd.C (Kd.int .i64) w1 A n (nums cur) from by have h := HCW.out; rw [HLEN.out] at h; exact h)
  clear hb hk hR hs hbs
  by_cases hlt : n0 < most
  · have hltz : (n0 : Int) < (most : Int) := by omega
    have HQL := Aside0.mk (show q.length < 1000 by have := HM.out; have := HN0.out; omega)
    have HADD := Aside0.mk (show addL most q [cur] = q ++ [cur] by
      unfold addL
      rw [List.take_of_length_le (by have := HN0.out; simp only [List.length_singleton]; omega)])
    clear hn0 hlt
    go_wp2
    refine start_ (n := 11) (S := fun w' => w'.cell? ⟨B, 0, none⟩ = some (.slice A0 n0 c0)) (ds := [10]) #[false, false, false, false, false, false, false, false, false, false, false] (by kernel_rfl) rfl rfl hBc (fun _ => ?_)
    refine pure_ (i := 0) (N := some 26) (v := ?_) (a' := ?_) #[true, false, false, false, false, false, false, false, false, false, false] rfl rfl (by kernel_rfl) (fun _ _ _ h => h) (Or.inl ⟨by rfl, ?_⟩) ?_ ?_
    rotate_left
    · intro w'
      go_simp
      with_reducible rfl
    rotate_left
    · simp only [Act.put, List.setIfInBounds_toArray, List.set_cons_zero, List.set_cons_succ, i64_w, i32_w]
      rfl
    refine pure_ (i := 1) (N := some 27) (v := ?_) (a' := ?_) #[true, true, false, false, false, false, false, false, false, false, false] rfl rfl (by kernel_rfl) (fun _ _ _ h => h) (Or.inl ⟨by rfl, ?_⟩) ?_ ?_
    rotate_left
    · intro w'
      go_simp
      with_reducible rfl
    rotate_left
    · simp only [Act.put, List.setIfInBounds_toArray, List.set_cons_zero, List.set_cons_succ, i64_w, i32_w]
      rfl
    refine pure_ (i := 2) (N := some 28) (v := ?_) (a' := ?_) #[true, true, true, false, false, false, false, false, false, false, false] rfl rfl (by kernel_rfl) (fun _ _ _ h => h) (Or.inl ⟨by rfl, ?_⟩) ?_ ?_
    rotate_left
    · intro w'
      go_simp
      with_reducible rfl
    rotate_left
    · simp only [Act.put, List.setIfInBounds_toArray, List.set_cons_zero, List.set_cons_succ, i64_w, i32_w]
      rfl
    refine take_ (i := 3) (N := some 29) (v := ?_) (a' := ?_) #[true, true, true, true, false, false, false, false, false, false, false] rfl rfl (by kernel_rfl) (fun _ _ _ h => h) (Or.inl ⟨by rfl, ?_⟩) hBc ?_ ?_
    rotate_left
    · intro w' hw'
      go_simp
      with_reducible rfl
    rotate_left
    · simp only [Act.put, List.setIfInBounds_toArray, List.set_cons_zero, List.set_cons_succ, i64_w, i32_w]
      rfl
    refine pure_ (i := 5) (N := some 31) (v := ?_) (a' := ?_) #[true, true, true, true, false, true, false, false, false, false, false] rfl rfl (by kernel_rfl) (fun _ _ _ h => h) (Or.inl ⟨by rfl, ?_⟩) ?_ ?_
    rotate_left
    · intro w'
      go_simp
      with_reducible rfl
    rotate_left
    · simp only [Act.put, List.setIfInBounds_toArray, List.set_cons_zero, List.set_cons_succ, i64_w, i32_w]
      rfl
    refine one_ (i := 4) (N := some 30) #[true, true, true, true, true, true, false, false, false, false, false] rfl rfl (by kernel_rfl) (by decide) (fun K hK => ?_)
    have hbz : Below w1.heap.size w1 w1.drew := below_drew1 (Below.refl _ _)
    have hBl : B < w1.heap.size := World.block_lt_of_cell? w1 _ hBc
    refine Kd.R_lit_step (Kd.int .i64) (w0 := w1) w1.heap.size 3 (by rfl) (N := 30) rfl (xs := []) (inner := []) (ok := fun _ => True) (okp := fun _ => False) ?hr (Reps.none _ _) (fun _ h => h.elim) trivial hbz (below_size hbz) (by simp) ?_
    case hr => first | (go_simp; done) | (go_simp; rfl)
    rintro v30 w2 ho30 hb30 hg30 -
    refine hK.out _ _ ((hb30.cell (p := ⟨B, 0, none⟩) hBl).trans hBc) (fun _ => ?_)
    clear hK K
    refine norm_ (a' := ?_) ?_ ?_
    rotate_left
    · show Act.put _ (some 30) _ = _
      simp only [Act.put, List.setIfInBounds_toArray, List.set_cons_zero, List.set_cons_succ, i64_w, i32_w]
      rfl
    refine one_ (i := 6) (N := some 32) #[true, true, true, true, true, true, true, false, false, false, false] rfl rfl (by kernel_rfl) (by decide) (fun K hK => ?_)
    refine Kd.R_append_rows_step (Kd.int .i64) (w0 := w1) w1.heap.size (by rfl) (.tmp 30) (.tmp 31) 22 3 (.int .i64 0) 8 rfl Try.underlying22 info3 rfl (by decide) (by omega) v30 [] (nums cur) A n c (fun _ => True) (fun _ => False) rfl rfl ho30 (Kd.C_below HCN.out hb30) (fun _ _ h => h) (fun _ h => h.elim) (fun _ _ => trivial) hb30 (below_size hb30) (by simp; omega) ?_
    rintro v32 w3 ho32 hb32 hg32 -
    refine hK.out _ _ ((hb32.cell (p := ⟨B, 0, none⟩) hBl).trans hBc) (fun _ => ?_)
    clear hK K
    refine norm_ (a' := ?_) ?_ ?_
    rotate_left
    · show Act.put _ (some 32) _ = _
      simp only [Act.put, List.setIfInBounds_toArray, List.set_cons_zero, List.set_cons_succ, i64_w, i32_w]
      rfl
    obtain ⟨A32, c32, e32⟩ := Kd.R_slice ho32
    subst e32
    simp only [List.nil_append] at ho32 ⊢
    obtain ⟨L32, hL32⟩ : ∃ L32, (nums cur).length = L32 := ⟨_, rfl⟩
    rw [hL32] at ho32 ⊢
    refine one_ (i := 7) (N := some 33) #[true, true, true, true, true, true, true, true, false, false, false] rfl rfl (by kernel_rfl) (by decide) (fun K hK => ?_)
    refine value_ (v := .slice (some ⟨w3.heap.size, 0, none⟩) 1 1) (w1 := w3.alloc (.cells #[.slice A32 L32 c32] 22)) (by rfl) rfl ?hr7 ?_
    case hr7 => first | (go_simp; done) | (go_simp; rfl)
    have hb7 : Below w1.heap.size w1 (w3.alloc (.cells #[.slice A32 L32 c32] 22)) := below_alloc hb32 _
    refine hK.out _ _ ((hb7.cell (p := ⟨B, 0, none⟩) hBl).trans hBc) (fun _ => ?_)
    clear hK K
    refine norm_ (a' := ?_) ?_ ?_
    rotate_left
    · show Act.put _ (some 33) _ = _
      simp only [Act.put, List.setIfInBounds_toArray, List.set_cons_zero, List.set_cons_succ, i64_w, i32_w]
      rfl
    refine one_ (i := 8) (N := some 34) #[true, true, true, true, true, true, true, true, true, false, false] rfl rfl (by kernel_rfl) (by decide) (fun K hK => ?_)
    refine Kd.S_append_step (Kd.slice 3 (Kd.int .i64)) (w0 := w3) base (by rfl) (.tmp 29) (.tmp 33) 53 22 (.slice none 0 0) 24 rfl Try.underlying53 infoS9 rfl (by decide) (by omega) (.slice A0 n0 c0) (rowsOf q) (nums cur) [.slice A32 L32 c32] (fun _ => True) (fun k => w1.heap.size ≤ k) rfl rfl ⟨_, rfl, Kd.R_lower (Kd.R_mono (Kd.R_bound ho32) (fun k hk => hk.2.1)) HBS.out⟩ (fun k hk => ⟨trivial, fun e => by have := Kd.S_lt HRW.out k e.symm; omega⟩) (fun _ _ => trivial) (Kd.S_below (Kd.S_mono (Kd.S_bound HRW.out) (fun k hk => ⟨trivial, by have := hk.2.2.1; omega⟩)) hb32) (Below.refl _ _) (Nat.le_trans HBS.out hb32.size) (by rw [rowsOf, List.length_map]; have := HQL.out; omega) ?_
    intro v8 w8 hR8 hB8 hg8 hat8
    have k3 := (hb32.cell (p := ⟨B, 0, none⟩) hBl).trans hBc
    have hc8 : w8.cell? ⟨B, 0, none⟩ = some (.slice A0 n0 c0) := (hB8.cell (p := ⟨B, 0, none⟩) HS.out).trans k3
    have hf8 : w8.frozen? ⟨B, 0, none⟩ = false := (hB8.frozen (p := ⟨B, 0, none⟩) HS.out).trans ((hb32.frozen (p := ⟨B, 0, none⟩) hBl).trans HF.out)
    obtain ⟨A8, c8, e8⟩ := Kd.S_slice hR8
    subst e8
    refine hK.out _ _ hc8 (fun _ => ?_)
    clear hK K
    refine norm_ (a' := ?_) ?_ ?_
    rotate_left
    · show Act.put _ (some 34) _ = _
      simp only [Act.put, List.setIfInBounds_toArray, List.set_cons_zero, List.set_cons_succ, i64_w, i32_w]
      rfl
    refine pure_ (i := 9) (N := some 35) (v := ?_) (a' := ?_) #[true, true, true, true, true, true, true, true, true, true, false] rfl rfl (by kernel_rfl) (fun _ _ _ h => h) (Or.inl ⟨by rfl, ?_⟩) ?_ ?_
    rotate_left
    · intro w'
      go_simp
      with_reducible rfl
    rotate_left
    · simp only [Act.put, List.setIfInBounds_toArray, List.set_cons_zero, List.set_cons_succ, i64_w, i32_w]
      rfl
    refine last_ (i := 10) (N := none) #[true, true, true, true, true, true, true, true, true, true, true] rfl rfl (by kernel_rfl) (by decide) (fun K hK => ?_)
    refine skip_ (w1 := w8.setCell ⟨B, 0, none⟩ (.slice A8 (rowsOf q ++ [nums cur]).length c8)) (by rfl) rfl ?hr10 ?_
    case hr10 => first | (go_simp; done) | (go_simp; rfl)
    refine hK.out _ _ ?_
    clear hK K
    refine done_ (by kernel_rfl) ?_
    have HC8 := Aside0.mk hc8
    have HF8 := Aside0.mk hf8
    have HR8 := Aside0.mk hR8
    have HG8 := Aside0.mk hg8
    have HAT8 := Aside0.mk hat8
    have HB32 := Aside0.mk hb32
    clear hc8 hf8 hR8 hB8 hg8 hat8 hb7 ho32 hb32 hg32 ho30 hb30 hg30 hbz hL32 k3
    generalize hl8 : (rowsOf q ++ [nums cur]).length = l8 at HR8 HAT8 ⊢
    clear hl8
    go_wp2
    go_ret
    have hbr := Kd.S_bound HR8.out
    have hs32 := HB32.out.size
    have hown8 : ∀ i, (Value.slice A8 l8 c8).ownBlock = some i → LstP B W i ∨ W.heap.size ≤ i := fun i hi => by
      rcases HAT8.out with h | ⟨b, h, hle⟩
      · exact .inl ((HKP.out i).1 (.inr ⟨_, HC1.out, h ▸ hi⟩))
      · rw [h] at hi; injection hi with hi; subst hi
        exact .inr (Nat.le_trans HB1.out.size (Nat.le_trans hs32 hle))
    refine ⟨by rw [wrap_one9]; rfl, ⟨⟨A8, l8, c8, World.cell?_setCell_same' _ _ _ (by rw [HC8.out]; rfl), ?_⟩, by rw [World.frozen?_setCell]; exact HF8.out, HS.out, ?_⟩, ?_, ?_⟩
    · have e : rowsOf (addL most q [cur]) = rowsOf q ++ [nums cur] := by rw [HADD.out]; unfold rowsOf; rw [List.map_append]; rfl
      rw [e]
      exact Kd.S_mono (Kd.S_move hbr (fun k hk => Below.heap_setCell _ _ _ _ (by simp only [ne_eq]; have := hk.2.1; have := HS.out; omega))) (fun _ _ => trivial)
    · rw [World.size_setCell]; exact Nat.le_trans HBS.out (Nat.le_trans hs32 HG8.out.size)
    · refine (Fr.of_below HB1.out (fun k hk => hk.2)).trans (((Fr.of_below HB32.out (fun k hk => Nat.lt_of_lt_of_le hk.2 HB1.out.size)).trans (Fr.grown HG8.out (fun k hk => Nat.lt_of_lt_of_le hk.2 (Nat.le_trans HB1.out.size hs32)) (fun k hk hp => hp.1 ((HKP.out k).1 (.inr ⟨_, HC1.out, hk⟩))))).trans (Fr.setCell _ _ (fun h => h.1 (.inl rfl))))
    · intro i hi
      rcases hi with rfl | ⟨v, hv, hi⟩
      · exact .inl (.inl rfl)
      · rw [World.cell?_setCell_same' _ _ _ (by rw [HC8.out]; rfl)] at hv
        injection hv with hv
        subst hv
        exact hown8 i hi
  · have hltz : ¬ (n0 : Int) < (most : Int) := by omega
    have HADD := Aside0.mk (show addL most q [cur] = q by
      unfold addL
      rw [show most - q.length = 0 by have := HN0.out; omega]; simp)
    clear hn0 hlt
    go_wp2
    go_ret
    refine ⟨by rw [wrap_one9]; rfl, ?_, Fr.of_below HB1.out (fun k hk => hk.2), fun i hi => .inl ((HKP.out i).1 hi)⟩
    rw [HADD.out]
    exact ((lst_inter B base).keep q W w1 HB.out HB1.out).1
theorem wrap_add9 (a b : Nat) : IntKind.i64.wrap (wrap64 (a : Int) + wrap64 (b : Int)) = wrap64 ((a + b : Nat) : Int) := by rw [IntKind.wrap_i64]; unfold wrap64; omega
def nextA (n r : Nat) (cur : List Nat) (x : Nat) : List (List Nat) := if x ∈ cur then [] else wholeA n r (cur ++ [x])
def uptoA (n r : Nat) (cur : List Nat) (x : Nat) : List (List Nat) := (List.range x).flatMap (nextA n r cur)
theorem uptoA_succ (n r : Nat) (cur : List Nat) (x : Nat) : uptoA n r cur (x + 1) = uptoA n r cur x ++ nextA n r cur x := by unfold uptoA; rw [List.range_succ]; simp
set_option maxHeartbeats 8000000 in
set_option maxRecDepth 100000 in
theorem wholeA_more {n B base most : Nat} (r : Nat) {cur : List Nat} {A : Option Addr} {c : Nat} {W : World} {q : List (List Nat)} (hn : 1 ≤ n) (hn2 : n ≤ 40) (hm : most ≤ 1000) (hm1 : most ≠ 1) (hq : q.length ≤ most) (hl : cur.length + (r + 1) = n) (hcur : ∀ y ∈ cur, y < n) (hpart : PartOf n (nums cur)) (hC : Kd.C (Kd.int .i64) W A (nums cur).length (nums cur)) (hcap : (nums cur).length ≤ c) (hA : ∀ b, A = some b → 0 < cur.length → ¬ LstP B W b.block ∧ b.block < W.heap.size) (hB : LstJ B base q W) (hyes : (stepsOf n (nums cur)).Nodup)
    (ih : ∀ (x : Nat) (A : Option Addr) (c : Nat) (W : World) (q : List (List Nat)), q.length ≤ most → x < n → x ∉ cur → Kd.C (Kd.int .i64) W A (nums (cur ++ [x])).length (nums (cur ++ [x])) → (nums (cur ++ [x])).length ≤ c → (∀ b, A = some b → 0 < (cur ++ [x]).length → ¬ LstP B W b.block ∧ b.block < W.heap.size) → LstJ B base q W →
      Calls Try.prog 63 #[.slice A (nums (cur ++ [x])).length c, .int .i64 (n : Int), .int .i64 (most : Int), .pointer (some ⟨B, 0, none⟩)] W (WPost B base most W q (wholeA n r (cur ++ [x])))) :
    Calls Try.prog 63 #[.slice A (nums cur).length c, .int .i64 (n : Int), .int .i64 (most : Int), .pointer (some ⟨B, 0, none⟩)] W (WPost B base most W q (uptoA n r cur n)) := by
  obtain ⟨k, hk⟩ := every_bool (cur := cur) hn hn2 (by omega) hcur
  rw [decide_eq_true hyes] at hk
  have hcall := sackbutref05_Every.calls k A c (nums cur) (n : Int) true W hC hcap hk
  obtain ⟨L, hlen⟩ : ∃ L, (nums cur).length = L := ⟨_, rfl⟩
  have HL := Aside0.mk hlen
  have HC := Aside0.mk hC
  have hLn : L < n := by rw [← hlen, nums_length]; omega
  have hne : ((L : Int) == (n : Int)) = false := beq_eq_false_iff_ne.2 (by omega)
  have hne1 : ((most : Int) == 1) = false := beq_eq_false_iff_ne.2 (by omega)
  rw [hlen] at hcall hcap ⊢
  have HCALL := Aside0.mk hcall
  have HB := Aside0.mk hB
  have HA := Aside0.mk hA
  have HIH := Aside0.mk ih
  have HP := Aside0.mk hpart
  have HQ := Aside0.mk hq
  have HLC : (L : Int) ≤ (c : Int) := by omega
  obtain ⟨i0, hi, hz0, hz1, hz2⟩ := info_parts info3
  have HI0 := Aside0.mk hi
  have HZ := Aside0.mk (show i0.zero = some (.int .i64 0) ∧ i0.size = 1 ∧ i0.bytes = 8 from ⟨hz0, hz1, hz2⟩)
  have HNL := Aside0.mk (show ((nums cur).map (Value.int .i64)).length = L * 1 by rw [List.length_map, hlen, Nat.mul_one])
  have HNONE := Aside0.mk (show A = none → L = 0 ∧ L = 0 from fun e => by
    rcases Nat.eq_zero_or_pos L with h | h
    · exact ⟨h, h⟩
    · obtain ⟨ad, e2, _⟩ := Kd.at_int hC 0 (by omega) (by omega)
      rw [e] at e2; cases e2)
  clear hcall hk hC hB hyes hlen hA ih hpart hi hz0 hz1 hz2 hcur hcap hq
  go_enter Try.func63, Try.ntmps63
  go_wp2_with fail
  refine HCALL.out.mono ?_
  rintro e w1 ⟨rfl, hb⟩
  have HB1 := Aside0.mk hb
  have hk1 := (lst_inter B base).keep q W w1 HB.out hb
  have HJ1 := Aside0.mk (show LstJ B base (addL most q (uptoA n r cur 0)) w1 from by rw [show uptoA n r cur 0 = [] from rfl, addL_nil]; exact hk1.1)
  have HPX1 := Aside0.mk (show ∀ i, LstP B w1 i → LstP B W i ∨ W.heap.size ≤ i from fun i hi => .inl ((hk1.2 i).1 hi))
  have HLT := Aside0.mk (show ∀ i, LstP B W i → i < W.heap.size from fun i hi => (lst_inter B base).lt q W i HB.out hi)
  clear hb hk1
  have HFR1 := Aside0.mk (Fr.of_below (P := fun i => ¬ LstP B W i ∧ i < W.heap.size) HB1.out (fun k hk => hk.2))
  go_wp2
  go_loopg [9, 37] n (fun gg s9 s37 wr => ∃ x : Nat, s37 = .int .i64 x ∧ s9 = .int .i64 (wrap64 ((uptoA n r cur x).length : Int)) ∧ Aside0 (x + gg = n) ∧ Aside0 (LstJ B base (addL most q (uptoA n r cur x)) wr) ∧ Aside0 (Fr (fun i => ¬ LstP B W i ∧ i < W.heap.size) W wr) ∧ Aside0 (∀ i, LstP B wr i → LstP B W i ∨ W.heap.size ≤ i))
  case atStart => exact ⟨0, rfl, by rw [show uptoA n r cur 0 = [] from rfl, wrap_none9], ⟨by omega⟩, HJ1, HFR1, HPX1⟩
  case round =>
    obtain ⟨x, rfl, rfl, HX, HJo, HFo, HPo⟩ := hrel
    obtain ⟨wo, hwo⟩ : ∃ wo : World, wo = wr := ⟨wr, rfl⟩
    subst hwo
    by_cases hx : x < n
    · have hxz : (x : Int) < (n : Int) := by omega
      have HCo := Aside0.mk (C_fr2 HC.out (fun b hb h0 => HA.out b hb (by rw [nums_length] at h0; exact h0)) HFo.out)
      have HCB := Aside0.mk (nums_cells (W := wo.alloc (.cells #[.int .i64 (x : Int)] 3)) (A := A) (cur := cur) (Kd.C_alloc HCo.out _))
      have HNC := Aside0.mk (new_cell wo (.int .i64 (x : Int)) 3)
      have HSU := Aside0.mk (uptoA_succ n r cur x)
      have HLO := Aside0.mk (addL_len most q (uptoA n r cur x) HQ.out)
      have HWS := Aside0.mk (show ∀ b : Nat, IntKind.i64.wrap (wrap64 ((uptoA n r cur x).length : Int) + wrap64 (b : Int)) = wrap64 (((uptoA n r cur x).length + b : Nat) : Int) from fun b => wrap_add9 _ b)
      generalize hzx : wrap64 ((uptoA n r cur x).length : Int) = zx at HWS ⊢
      have HZX := Aside0.mk hzx
      clear hzx
      go_wp2_with (((with_reducible refine gate_builtin (b := .append) (xs := #[.tmp 45, .tmp 47]) rfl ?_); at_builtin; refine wpList_append_grows _ rfl _ _ 22 rfl 3 i0 (.int .i64 0) 1 8 Try.underlying22 HI0.out HZ.out.1 HZ.out.2.1 HZ.out.2.2 rfl (by decide) A L L ((nums cur).map (Value.int .i64)) rfl HNONE.out HNL.out HCB.out ⟨wo.heap.size, 0, none⟩ 1 1 [.int .i64 (x : Int)] rfl rfl ?c1 ?c2 (by omega) ?c3 ?c4 ?_; (case c1 => intro j u hu; cases j with
        | zero => simp only [List.getElem?_cons_zero, Option.some.injEq] at hu; subst hu; exact HNC.out.1
        | succ j => simp at hu); (case c2 => intro u hu; rw [List.mem_singleton] at hu; subst hu; rfl); (case c3 => simp only [maxLen]; omega); (case c4 => omega); intro v5 w5 ho5 hg5))
      have hrow : (((nums cur).map (Value.int .i64)) ++ [Value.int .i64 (x : Int)]) = (nums (cur ++ [x])).map (Value.int .i64) := by rw [nums_snoc]; simp
      have hlen2 : L + 1 = (nums (cur ++ [x])).length := by rw [nums_snoc, List.length_append, HL.out]; rfl
      rw [hrow] at ho5
      have ho6 := ho5
      rw [hlen2] at ho6
      have hR5 := R_fresh ho6
      obtain ⟨A5, c5, e5⟩ := Kd.R_slice hR5
      subst e5
      have hb5 : Below wo.heap.size wo w5 := ((below_alloc (Below.refl wo.heap.size wo) _).grown hg5 (by simp) (fun k e => by cases e))
      have HB5 := Aside0.mk hb5
      have HR5 := Aside0.mk hR5
      have HLN2 := Aside0.mk hlen2
      have hk5 := (lst_inter B base).keep _ wo w5 HJo.out hb5
      have HLTo := Aside0.mk (show ∀ i, LstP B wo i → i < wo.heap.size from fun i hi => (lst_inter B base).lt _ wo i HJo.out hi)
      have HA5 := Aside0.mk (show ∀ b, A5 = some b → ¬ LstP B w5 b.block ∧ b.block < w5.heap.size from fun b hb => by
        have h1 := Kd.R_base hR5 b.block (by rw [hb]; rfl)
        have h2 := Kd.R_lt hR5 b.block (by rw [hb]; rfl)
        rw [World.size_alloc] at h1
        exact ⟨fun h => by have := HLTo.out _ ((hk5.2 _).1 h); omega, h2⟩)
      obtain ⟨kp, hkp⟩ := Ev.rounds (g := fun k => sackbutref05_Part.f k (nums (cur ++ [x])) (n : Int)) (Part_ev (nums (cur ++ [x])) n (by omega) (by rw [← hlen2]; omega))
      have hpc := sackbutref05_Part.calls kp A5 c5 (nums (cur ++ [x])) (n : Int) _ w5 (Kd.R_reads' hR5).2.2 (Kd.R_reads' hR5).2.1 hkp
      have HPS := Aside0.mk (part_snoc hx HP.out)
      rw [← hlen2] at hpc ⊢
      clear ho5 ho6 hR5 hb5 hg5 hrow hlen2 hkp hk5
      by_cases hm : x ∈ cur
      · rw [decide_eq_false (fun h => HPS.out.1 h hm)] at hpc
        have HPC := Aside0.mk hpc
        have HNX := Aside0.mk (show nextA n r cur x = [] from if_pos hm)
        clear hpc hm
        go_wp2_with fail
        refine HPC.out.mono ?_
        rintro e w6 ⟨rfl, hd⟩
        obtain ⟨qd, rfl⟩ := hd
        go_wp2
        have hbq : Below wo.heap.size wo (w5.drewN qd) := pw_below_drewN HB5.out qd
        have hkq := (lst_inter B base).keep _ wo _ HJo.out hbq
        have HSU2 := Aside0.mk (show uptoA n r cur (x + 1) = uptoA n r cur x from by rw [HSU.out, HNX.out, List.append_nil])
        go_roundg (gk - 1)
        case measure => have := HX.out; omega
        case rel => exact ⟨x + 1, by first | go_num | (rw [wrap_id (by omega) (by omega)]; rfl), by rw [HSU2.out, HZX.out], ⟨by have := HX.out; omega⟩, ⟨by rw [HSU2.out]; exact hkq.1⟩, ⟨HFo.out.trans (Fr.of_below hbq (fun i hi => Nat.lt_of_lt_of_le hi.2 HFo.out.size))⟩, ⟨fun i hi => HPo.out i ((hkq.2 i).1 hi)⟩⟩
      · rw [decide_eq_true (HPS.out.2 hm)] at hpc
        have HPC := Aside0.mk hpc
        have HNX := Aside0.mk (show nextA n r cur x = wholeA n r (cur ++ [x]) from if_neg hm)
        have HM := Aside0.mk hm
        clear hpc hm
        go_wp2_with fail
        refine HPC.out.mono ?_
        rintro e w6 ⟨rfl, hd⟩
        have hb6 : Below w5.heap.size w5 w6 := by obtain ⟨qd, rfl⟩ := hd; exact pw_below_drewN (Below.refl _ _) qd
        have hb56 := HB5.out.trans (hb6.mono HB5.out.size)
        have hk6 := (lst_inter B base).keep _ wo w6 HJo.out hb56
        have hk5 := (lst_inter B base).keep _ wo w5 HJo.out HB5.out
        have hrun := HIH.out x A5 c5 w6 _ HLO.out hx HM.out (Kd.C_below (Kd.R_reads' HR5.out).2.2 hb6) (Kd.R_reads' HR5.out).2.1 (fun b hb _ => ⟨fun h => (HA5.out b hb).1 ((hk5.2 _).2 ((hk6.2 _).1 h)), Nat.lt_of_lt_of_le (HA5.out b hb).2 hb6.size⟩) hk6.1
        rw [← HLN2.out, ← HNX.out] at hrun
        have HB6 := Aside0.mk hb56
        have HK6 := Aside0.mk hk6.2
        have HRUN := Aside0.mk hrun
        clear hd hb6 hrun hb56 hk6 hk5
        go_wp2_with fail
        refine HRUN.out.mono ?_
        rintro e w7 ⟨rfl, hj7, hf7, hp7⟩
        have HWN := Aside0.mk (HWS.out (nextA n r cur x).length)
        generalize hzn : wrap64 ((nextA n r cur x).length : Int) = zn at HWN ⊢
        generalize hzs : wrap64 (((uptoA n r cur x).length + (nextA n r cur x).length : Nat) : Int) = zs at HWN
        have hwn := HWN.out
        have hwn2 : wrap64 (zx + zn) = zs := by rw [← hwn, IntKind.wrap_i64]; unfold wrap64; omega
        have HZS := Aside0.mk hzs
        have HJ7 := Aside0.mk hj7
        have HF7 := Aside0.mk (show Fr (fun i => ¬ LstP B W i ∧ i < W.heap.size) W w7 from HFo.out.trans ((Fr.of_below HB6.out (fun i hi => Nat.lt_of_lt_of_le hi.2 HFo.out.size)).trans (hf7.mono (fun i hi => ⟨fun h => by
          rcases HPo.out i ((HK6.out i).1 h) with h | h
          · exact hi.1 h
          · have := hi.2; omega, Nat.lt_of_lt_of_le hi.2 (Nat.le_trans HFo.out.size HB6.out.size)⟩))))
        have HP7 := Aside0.mk (show ∀ i, LstP B w7 i → LstP B W i ∨ W.heap.size ≤ i from fun i hi => by
          rcases hp7 i hi with h | h
          · exact HPo.out i ((HK6.out i).1 h)
          · exact .inr (Nat.le_trans HFo.out.size (Nat.le_trans HB6.out.size h)))
        clear hj7 hf7 hp7 hzn hzs
        go_wp2
        go_roundg (gk - 1)
        case measure => have := HX.out; omega
        case rel => exact ⟨x + 1, by first | go_num | (rw [wrap_id (by omega) (by omega)]; rfl), by rw [HSU.out, List.length_append, HZS.out], ⟨by have := HX.out; omega⟩, ⟨by rw [HSU.out, ← addL_add most q _ _ HQ.out]; exact HJ7.out⟩, HF7, HP7⟩
    · have hxn : x = n := by have := HX.out; omega
      have hxz : ¬ (x : Int) < (n : Int) := by omega
      have HXN := Aside0.mk hxn
      clear hxn
      go_wp2
      go_ret
      have e := HXN.out
      have h1 := HJo.out
      rw [e] at h1 ⊢
      exact ⟨rfl, h1, HFo.out, HPo.out⟩
theorem wholeA_calls {n B base most : Nat} (hn : 1 ≤ n) (hn2 : n ≤ 40) (hm : most ≤ 1000) (hm1 : most ≠ 1) : ∀ (r : Nat) {cur : List Nat} {A : Option Addr} {c : Nat} {W : World} {q : List (List Nat)}, q.length ≤ most → cur.length + r = n → (∀ y ∈ cur, y < n) → PartOf n (nums cur) → Kd.C (Kd.int .i64) W A (nums cur).length (nums cur) → (nums cur).length ≤ c → (∀ b, A = some b → 0 < cur.length → ¬ LstP B W b.block ∧ b.block < W.heap.size) → LstJ B base q W →
    Calls Try.prog 63 #[.slice A (nums cur).length c, .int .i64 (n : Int), .int .i64 (most : Int), .pointer (some ⟨B, 0, none⟩)] W (WPost B base most W q (wholeA n r cur)) := by
  intro r
  induction r with
  | zero =>
    intro cur A c W q hq hl hcur hp hC hcap hA hB
    rw [wholeA_zero]
    by_cases h : (stepsOf n (nums cur)).Nodup
    · rw [if_pos h]; exact wholeA_end hn hn2 hm (by omega) hcur hC hcap hB h
    · rw [if_neg h]; exact wholeA_not hn hn2 (by omega) hcur hC hcap hB h
  | succ r ih =>
    intro cur A c W q hq hl hcur hp hC hcap hA hB
    rw [wholeA_eq]
    by_cases h : (stepsOf n (nums cur)).Nodup
    · rw [if_pos h]
      exact wholeA_more r hn hn2 hm hm1 hq hl hcur hp hC hcap hA hB h (fun x A c W q hq hx hm hC hcap hA hB => ih hq (by rw [List.length_append, List.length_singleton]; omega) (fun y hy => by
        rcases List.mem_append.1 hy with h | h
        · exact hcur y h
        · rw [List.mem_singleton] at h; omega) ((part_snoc hx hp).2 hm) hC hcap hA hB)
    · rw [if_neg h]; exact wholeA_not hn hn2 (by omega) hcur hC hcap hB h

end Go.Proofs.Ytpfjnpbcnlbhaaa.P
namespace Go.Proofs.Ytpfjnpbcnlbhaaa.P
open Go.RowKit Go.Proofs.YtpfjnpbcnlbhaaaW.PrintWords Go.Proofs.YtpfjnpbcnlbhaaaW.PrintLast Go.Proofs.YtpfjnpbcnlbhaaaW.PrintMore
attribute [local go_sem] max2_int min2_int max_two min_two max_three min_three max_four min_four   -- for this text's walks alone
set_option linter.unusedVariables false
set_option linter.unusedSimpArgs false

/-! the document's Count and List -/
def sackbutref05_Count.f (a0 : Int) : Option Int := if 2 ≤ a0 ∧ a0 ≤ 10 then some (wrap64 ((wholeA a0.toNat (a0.toNat - 1) [0]).length : Int)) else none
/-- the search from 0 on, with a box of one's own -/
theorem whole_from {n most : Nat} (hn : 2 ≤ n) (hn2 : n ≤ 10) (hm : most ≤ 1000) (hm1 : most ≠ 1) {B : Nat} {W W2 : World} {A : Option Addr} {c : Nat} (hc : W.cell? ⟨B, 0, none⟩ = some (.slice none 0 0)) (hf : W.frozen? ⟨B, 0, none⟩ = false) (hs : W.heap.size = B + 1) (hR : Kd.R (Kd.int .i64) 3 W2 W.heap.size (fun _ => True) (.slice A (nums [0]).length c) (nums [0])) (hb : Below W.heap.size W W2) :
    Calls Try.prog 63 #[.slice A (nums [0]).length c, .int .i64 (n : Int), .int .i64 (most : Int), .pointer (some ⟨B, 0, none⟩)] W2 (fun e W' => e = .returned (.int .i64 (wrap64 ((wholeA n (n - 1) [0]).length : Int))) ∧ LstJ B (B + 1) ((wholeA n (n - 1) [0]).take most) W' ∧ Below B W2 W') := by
  have hBl : B < W.heap.size := by omega
  have hc2 := (hb.cell (p := ⟨B, 0, none⟩) hBl).trans hc
  have hRC := Kd.R_reads' hR
  have hP : ∀ i, LstP B W2 i → i = B := fun i hi => by
    rcases hi with h | ⟨v, hv, hi⟩
    · exact h
    · rw [hc2] at hv
      injection hv with hv
      subst hv
      cases hi
  have hJ : LstJ B (B + 1) [] W2 := ⟨⟨none, 0, 0, hc2, Kd.S_nil _ _ _ _ _⟩, (hb.frozen (p := ⟨B, 0, none⟩) hBl).trans hf, Nat.lt_succ_self _, by have := hb.size; omega⟩
  have hrun := wholeA_calls (n := n) (B := B) (base := B + 1) (most := most) (by omega) (by omega) hm hm1 (n - 1) (cur := [0]) (A := A) (c := c) (W := W2) (q := []) (Nat.zero_le _) (by show 1 + (n - 1) = n; omega) (fun y hy => by rw [List.mem_singleton] at hy; omega) ⟨fun x hx => by
    have hx' : x = 0 := by simpa [nums] using hx
    omega, by simp [nums]⟩ hRC.2.2 hRC.2.1 (fun b hb0 _ => by
      have h1 := Kd.R_base hR b.block (by rw [hb0]; rfl)
      have h2 := Kd.R_lt hR b.block (by rw [hb0]; rfl)
      exact ⟨fun h => by have := hP _ h; omega, h2⟩) hJ
  refine hrun.mono ?_
  rintro e w3 ⟨h1, h2, h3, -⟩
  refine ⟨h1, ?_, h3.below (B := B) (fun k hk => ⟨fun h => by have := hP k h; omega, by have := hb.size; omega⟩)⟩
  have e2 : addL most [] (wholeA n (n - 1) [0]) = (wholeA n (n - 1) [0]).take most := by unfold addL; simp
  rw [e2] at h2
  exact h2
theorem zero_row (W : World) : Kd.R (Kd.int .i64) 3 (W.alloc (.cells #[.int .i64 0] 3)) W.heap.size (fun _ => True) (.slice (some ⟨W.heap.size, 0, none⟩) (nums [0]).length 1) (nums [0]) := by
  have h := World.ownsRow_lit (base := W.heap.size) (e := 3) (size := 1) W #[.int .i64 0] 1 (Nat.le_refl _) (by simp [maxLen]) (by simp)
  exact Kd.R_of_own (enc := Value.int .i64) (h1 := fun _ => rfl) (xs := nums [0]) (by simpa [nums, encs] using h) (fun _ _ => trivial)
/-- the world with the box, and the one with the first tone behind it -/
theorem from_box {n most : Nat} (hn : 2 ≤ n) (hn2 : n ≤ 10) (hm : most ≤ 1000) (hm1 : most ≠ 1) (w : World) :
    Calls Try.prog 63 #[.slice (some ⟨w.heap.size + 1, 0, none⟩) 1 1, .int .i64 (n : Int), .int .i64 (most : Int), .pointer (some ⟨w.heap.size, 0, none⟩)] ((w.alloc (.cells #[.slice none 0 0] 53)).alloc (.cells #[.int .i64 0] 3)) (fun e W' => e = .returned (.int .i64 (wrap64 ((wholeA n (n - 1) [0]).length : Int))) ∧ LstJ w.heap.size (w.heap.size + 1) ((wholeA n (n - 1) [0]).take most) W' ∧ Below w.heap.size w W') := by
  have hnew := new_cell w (.slice none 0 0) 53
  have hs : (w.alloc (.cells #[.slice none 0 0] 53)).heap.size = w.heap.size + 1 := by simp [World.size_alloc]
  have hb1 : Below w.heap.size w (w.alloc (.cells #[.slice none 0 0] 53)) := below_alloc (Below.refl _ _) _
  generalize w.alloc (.cells #[.slice none 0 0] 53) = W at hnew hs hb1 ⊢
  have hz := zero_row W
  have hb2 : Below W.heap.size W (W.alloc (.cells #[.int .i64 0] 3)) := below_alloc (Below.refl _ _) _
  rw [hs] at hz
  refine (whole_from hn hn2 hm hm1 (B := w.heap.size) (W := W) (W2 := W.alloc (.cells #[.int .i64 0] 3)) (A := some ⟨w.heap.size + 1, 0, none⟩) (c := 1) hnew.1 hnew.2 hs (by rw [hs]; exact hz) hb2).mono ?_
  rintro e w3 ⟨h1, h2, h3⟩
  exact ⟨h1, h2, (hb1.trans (hb2.mono hb1.size)).trans h3⟩
set_option maxHeartbeats 8000000 in
set_option maxRecDepth 100000 in
theorem sackbutref05_Count.calls (a0 : Int) (r1 : Int) (w : World) (h : sackbutref05_Count.f a0 = some r1) :
    Calls Try.prog 43 #[.int .i64 a0] w fun e w' => e = .returned (.int .i64 r1) ∧ Below w.heap.size w w' := by
  unfold sackbutref05_Count.f at h
  by_cases hc : 2 ≤ a0 ∧ a0 ≤ 10
  · rw [if_pos hc] at h
    injection h with h1
    subst h1
    obtain ⟨n, rfl⟩ : ∃ n : Nat, a0 = (n : Int) := ⟨a0.toNat, by omega⟩
    rw [Int.toNat_natCast]
    have HN := Aside0.mk (show 2 ≤ n ∧ n ≤ 10 by omega)
    clear hc
    go_enter Try.func43, Try.ntmps43
    go_wp2_with fail
    refine (from_box (most := 0) HN.out.1 HN.out.2 (by omega) (by omega) w).mono ?_
    rintro e w3 ⟨rfl, hj, hb⟩
    have HB := Aside0.mk hb
    clear hj hb
    go_wp2
    go_ret
    exact ⟨rfl, HB.out⟩
  · rw [if_neg hc] at h; cases h

end Go.Proofs.Ytpfjnpbcnlbhaaa.P
namespace Go.Proofs.Ytpfjnpbcnlbhaaa.P
open Go.RowKit Go.Proofs.YtpfjnpbcnlbhaaaW.PrintWords Go.Proofs.YtpfjnpbcnlbhaaaW.PrintLast Go.Proofs.YtpfjnpbcnlbhaaaW.PrintMore
attribute [local go_sem] max2_int min2_int max_two min_two max_three min_three max_four min_four   -- for this text's walks alone
set_option linter.unusedVariables false
set_option linter.unusedSimpArgs false

/-! the document's Fill -/
def sackbutref05_Fill.f (l0 : List Int) (a1 : Int) : Option (List Int × Int) := if 2 ≤ a1 ∧ a1 ≤ 10 ∧ (l0.length : Int) ≤ a1 ∧ PartOf a1.toNat l0 then some (optL (wholeF a1.toNat (a1.toNat - l0.length) (toNats l0)), if wholeF a1.toNat (a1.toNat - l0.length) (toNats l0) = none then 4 else 0) else none
set_option maxHeartbeats 8000000 in
set_option maxRecDepth 100000 in
theorem sackbutref05_Fill.calls (A0 : Option Addr) (c0 : Nat) (l0 : List Int) (a1 : Int) (r1 : List Int) (r2 : Int) (w : World) (hr0 : Kd.C (Kd.int .i64) w A0 l0.length l0) (hc0 : l0.length ≤ c0) (h : sackbutref05_Fill.f l0 a1 = some (r1, r2)) :
    Calls Try.prog 35 #[.slice A0 l0.length c0, .int .i64 a1] w fun e w' => ∃ v0_ : Value, e = .returned (.tuple #[v0_, .int .i64 r2]) ∧ Kd.R (Kd.int .i64) 3 w' w.heap.size (fun _ => True) v0_ r1 ∧ Below w.heap.size w w' := by
  unfold sackbutref05_Fill.f at h
  by_cases hc : 2 ≤ a1 ∧ a1 ≤ 10 ∧ (l0.length : Int) ≤ a1 ∧ PartOf a1.toNat l0
  · rw [if_pos hc] at h
    injection h with h
    injection h with h1 h2
    obtain ⟨n, rfl⟩ : ∃ n : Nat, a1 = (n : Int) := ⟨a1.toNat, by omega⟩
    rw [Int.toNat_natCast] at hc h1 h2
    obtain ⟨b, hb⟩ : ∃ b, toNats l0 = b := ⟨_, rfl⟩
    have hnb : nums b = l0 := by rw [← hb]; exact nums_toNats l0 (fun x hx => (hc.2.2.2.1 x hx).1)
    have hbr : ∀ y ∈ b, y < n := fun y hy => by
      rw [← hb] at hy
      unfold toNats at hy
      obtain ⟨x, hx, rfl⟩ := List.mem_map.1 hy
      have := hc.2.2.2.1 x hx; omega
    have hbl : b.length = l0.length := by rw [← hnb, nums_length]
    rw [hb] at h1 h2
    generalize ho : wholeF n (n - l0.length) b = o at h1 h2
    obtain ⟨W1, hW1⟩ : ∃ W1, w.alloc (.cells #[.slice none 0 0] 53) = W1 := ⟨_, rfl⟩
    have hb1 : Below w.heap.size w W1 := by rw [← hW1]; exact below_alloc (Below.refl _ _) _
    have hnew := new_cell w (.slice none 0 0) 53
    rw [hW1] at hnew
    have hrun := wholeR_calls (n := n) (B := w.heap.size) (by omega) (by omega) (n - l0.length) (cur := b) (A := A0) (c := c0) (W := W1) (by omega) hbr (by rw [hnb]; exact hc.2.2.2) (by rw [hnb]; exact Kd.C_below hr0 hb1) (by rw [hnb]; exact hc0) (fun g hg h0 => by
      obtain ⟨ad, e, hcell⟩ := Kd.at_int hr0 0 (by omega) (by omega)
      rw [hg] at e
      injection e with e
      subst e
      have := World.block_lt_of_cell? w _ hcell
      rw [show (0 : Int).toNat = 0 from rfl, add_block_] at this
      exact ⟨by omega, Nat.lt_of_lt_of_le this hb1.size⟩) ⟨hnew.2, hnew.1⟩
    rw [hnb, ho] at hrun
    obtain ⟨L, hL⟩ : ∃ L, l0.length = L := ⟨_, rfl⟩
    rw [hL] at hrun ⊢
    have HRUN := Aside0.mk hrun
    have HW1 := Aside0.mk hW1
    have HB1 := Aside0.mk hb1
    have H1 := Aside0.mk h1
    have H2 := Aside0.mk h2
    clear hc hr0 hc0 hb hnb hbr hbl ho hW1 hb1 hnew hrun hL h1 h2
    go_enter Try.func35, Try.ntmps35
    go_wp2_with fail
    rw [HW1.out]
    refine HRUN.out.mono ?_
    rintro e w2 ⟨rfl, hbx, hf⟩
    have hbw : Below w.heap.size w w2 := HB1.out.trans (hf.below (B := w.heap.size) (fun k hk => ⟨by omega, Nat.lt_of_lt_of_le hk HB1.out.size⟩))
    have HBW := Aside0.mk hbw
    have hs1 := HB1.out.size
    clear hbw hf
    cases o with
    | none =>
      have hc7 := hbx.2
      simp only at hc7
      rw [if_pos rfl]
      clear hbx hs1
      go_wp2
      go_ret2
      have e1 : r1 = [] := H1.out.symm
      have e2 : r2 = 4 := by have h := H2.out; simp at h; exact h.symm
      rw [e1, e2]
      exact ⟨_, rfl, Kd.R_nil _ _ _ _ _, HBW.out⟩
    | some l =>
      obtain ⟨hz7, g7, c7, rv7, hc7, hg7, hcr7, hR7⟩ := hbx
      rw [if_neg (by simp)]
      have HR7 := Aside0.mk (Kd.R_lower hR7 hs1)
      obtain ⟨Ar, cr, er⟩ := Kd.R_slice hR7
      subst er
      obtain ⟨Lr, hLr⟩ : ∃ Lr, (nums l).length = Lr := ⟨_, rfl⟩
      rw [hLr] at hcr7 HR7
      have hcr8 : w2.cell? ((⟨g7, 0, none⟩ : Addr).add 0) = some (.slice Ar Lr cr) := hcr7
      clear hz7 hg7 hR7 hLr hs1
      go_wp2
      go_ret2
      have e1 : r1 = nums l := H1.out.symm
      have e2 : r2 = 0 := by have h := H2.out; simp at h; exact h.symm
      rw [e1, e2]
      exact ⟨_, rfl, HR7.out, HBW.out⟩
  · rw [if_neg hc] at h; cases h

end Go.Proofs.Ytpfjnpbcnlbhaaa.P
namespace Go.Proofs.Ytpfjnpbcnlbhaaa.P
open Go.RowKit Go.Proofs.YtpfjnpbcnlbhaaaW.PrintWords Go.Proofs.YtpfjnpbcnlbhaaaW.PrintLast Go.Proofs.YtpfjnpbcnlbhaaaW.PrintMore
attribute [local go_sem] max2_int min2_int max_two min_two max_three min_three max_four min_four   -- for this text's walks alone
set_option linter.unusedVariables false
set_option linter.unusedSimpArgs false

/-! the document's Count and List -/
def sackbutref05_List.f (a0 : Int) : Option (List (List Int)) := if 2 ≤ a0 ∧ a0 ≤ 10 then some (rowsOf ((wholeA a0.toNat (a0.toNat - 1) [0]).take 1000)) else none
set_option maxHeartbeats 8000000 in
set_option maxRecDepth 100000 in
theorem sackbutref05_List.calls (a0 : Int) (r1 : List (List Int)) (w : World) (h : sackbutref05_List.f a0 = some r1) :
    Calls Try.prog 45 #[.int .i64 a0] w fun e w' => ∃ v0_ : Value, e = .returned v0_ ∧ Kd.S (Kd.slice 3 (Kd.int .i64)) 22 w' w.heap.size (fun _ => True) v0_ r1 ∧ Below w.heap.size w w' := by
  unfold sackbutref05_List.f at h
  by_cases hc : 2 ≤ a0 ∧ a0 ≤ 10
  · rw [if_pos hc] at h
    injection h with h1
    subst h1
    obtain ⟨n, rfl⟩ : ∃ n : Nat, a0 = (n : Int) := ⟨a0.toNat, by omega⟩
    rw [Int.toNat_natCast]
    have HN := Aside0.mk (show 2 ≤ n ∧ n ≤ 10 by omega)
    clear hc
    go_enter Try.func45, Try.ntmps45
    go_wp2_with fail
    refine (from_box (most := 1000) HN.out.1 HN.out.2 (by omega) (by omega) w).mono ?_
    rintro e w3 ⟨rfl, hj, hb⟩
    obtain ⟨⟨A3, n3, c3, hc3, hR3⟩, -, -, -⟩ := hj
    have HB := Aside0.mk hb
    have HR3 := Aside0.mk (Kd.S_lower hR3 (Nat.le_succ _))
    clear hb hR3
    go_wp2
    go_ret
    exact ⟨_, rfl, HR3.out, HB.out⟩
  · rw [if_neg hc] at h; cases h

end Go.Proofs.Ytpfjnpbcnlbhaaa.P
