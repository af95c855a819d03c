/- A part of a proof that a law's Go function returns true for every input, laid by this session's program mp.py (which drives the kit's print). Conditions: as each theorem states them. -/
import Derived.Laws.EntriesVeiled
import Derived.Test.YtdnjbjcfbdclfaaCVoicesMiddle1
import Derived.Test.YtdnjbjcfbdclfaaCVoicesMiddle2
import Derived.Test.YtdnjbjcfbdclfaaCVoicesMiddle3
import Derived.Test.YtdnjbjcfbdclfaaCVoicesMiddle4
namespace Go.Proofs.Ytdnjbjcfbdclfaa.P
/-! Sets of small numbers as natural numbers; pigeonholes. Plain Lean. -/

def orAll (s : Nat) (xs : List Nat) : Nat := xs.foldl (fun s x => s ||| 2 ^ x) s

theorem orAll_nil (s : Nat) : orAll s [] = s := rfl
theorem orAll_cons (s x : Nat) (xs : List Nat) : orAll s (x :: xs) = orAll (s ||| 2 ^ x) xs := rfl
theorem orAll_snoc (s x : Nat) (xs : List Nat) : orAll s (xs ++ [x]) = orAll s xs ||| 2 ^ x := by
  simp [orAll, List.foldl_append]

theorem testBit_or_two_pow (s x i : Nat) : (s ||| 2 ^ x).testBit i = (s.testBit i || decide (x = i)) := by
  rw [Nat.testBit_or, Nat.testBit_two_pow]

theorem testBit_orAll (xs : List Nat) : ∀ (s i : Nat), (orAll s xs).testBit i = (s.testBit i || decide (i ∈ xs)) := by
  induction xs with
  | nil => intro s i; simp [orAll]
  | cons x xs ih =>
    intro s i
    rw [orAll_cons, ih, testBit_or_two_pow, Bool.or_assoc]
    congr 1
    by_cases h : x = i
    · subst h; simp
    · have h' : ¬ i = x := fun e => h e.symm
      simp [h, h']

theorem orAll_lt {m : Nat} (xs : List Nat) (h : ∀ x ∈ xs, x < m) : ∀ s, s < 2 ^ m → orAll s xs < 2 ^ m := by
  induction xs with
  | nil => intro s hs; exact hs
  | cons x xs ih =>
    intro s hs
    rw [orAll_cons]
    refine ih (fun y hy => h y (List.mem_cons_of_mem _ hy)) _ (Nat.or_lt_two_pow hs ?_)
    exact Nat.pow_lt_pow_right (by omega) (h x List.mem_cons_self)

theorem full_iff {n s : Nat} : s = 2 ^ n - 1 ↔ ∀ i, s.testBit i = decide (i < n) := by
  constructor
  · rintro rfl i; exact Nat.testBit_two_pow_sub_one n i
  · intro h; exact Nat.eq_of_testBit_eq fun i => by rw [h, Nat.testBit_two_pow_sub_one]

theorem testBit_full2 (n i : Nat) (hn : 1 ≤ n) : (2 ^ n - 2).testBit i = (decide (i < n) && decide (1 ≤ i)) := by
  obtain ⟨m, rfl⟩ : ∃ m, n = m + 1 := ⟨n - 1, by omega⟩
  have e : 2 ^ (m + 1) - 2 = 2 * (2 ^ m - 1) := by have := Nat.two_pow_pos m; rw [Nat.pow_succ]; omega
  rw [e]
  cases i with
  | zero => simp [Nat.testBit_zero]
  | succ i =>
    rw [Nat.testBit_succ, show 2 * (2 ^ m - 1) / 2 = 2 ^ m - 1 by omega, Nat.testBit_two_pow_sub_one]
    simp

theorem orAll_full {n : Nat} (xs : List Nat) (h : ∀ x ∈ xs, x < n) : orAll 0 xs = 2 ^ n - 1 ↔ ∀ i, i < n → i ∈ xs := by
  rw [full_iff]
  constructor
  · intro hh i hi
    have := hh i
    rw [testBit_orAll] at this
    simpa [hi] using this
  · intro hh i
    rw [testBit_orAll]
    by_cases hi : i < n
    · simp [hi, hh i hi]
    · have : i ∉ xs := fun hm => hi (h i hm)
      simp [hi, this]

theorem orAll_full2 {n : Nat} (hn : 1 ≤ n) (xs : List Nat) (h : ∀ x ∈ xs, 1 ≤ x ∧ x < n) : orAll 0 xs = 2 ^ n - 2 ↔ ∀ i, 1 ≤ i → i < n → i ∈ xs := by
  constructor
  · intro hh i h1 hi
    have h2 : (orAll 0 xs).testBit i = (2 ^ n - 2).testBit i := by rw [hh]
    rw [testBit_orAll, testBit_full2 n i hn] at h2
    simpa [hi, h1] using h2
  · intro hh
    refine Nat.eq_of_testBit_eq fun i => ?_
    rw [testBit_orAll, testBit_full2 n i hn]
    by_cases hi : i < n
    · by_cases h1 : 1 ≤ i
      · simp [hi, h1, hh i h1 hi]
      · have : i ∉ xs := fun hm => h1 (h i hm).1
        simp [h1, this]
    · have : i ∉ xs := fun hm => hi (h i hm).2
      simp [hi, this]

/-! pigeonholes -/
theorem nodup_of_full {n : Nat} {xs : List Nat} (hl : xs.length = n) (hf : ∀ i, i < n → i ∈ xs) : xs.Nodup := by
  rw [List.nodup_iff_count]
  intro a
  refine Nat.not_lt.1 fun hc => ?_
  have ha : a ∈ xs := List.count_pos_iff.1 (by omega)
  have hsub : List.range n ⊆ xs.erase a := by
    intro i hi
    have hm := hf i (List.mem_range.1 hi)
    by_cases e : i = a
    · subst e
      exact List.count_pos_iff.1 (by rw [List.count_erase_self]; omega)
    · exact (List.mem_erase_of_ne e).2 hm
  have := List.Nodup.length_le_of_subset List.nodup_range hsub
  rw [List.length_erase, if_pos ha, List.length_range] at this
  have : 0 < xs.length := List.length_pos_of_mem ha
  omega

theorem full_of_nodup {n : Nat} {xs : List Nat} (hl : xs.length = n) (hr : ∀ x ∈ xs, x < n) (hd : xs.Nodup) : ∀ i, i < n → i ∈ xs := by
  intro i hi
  refine Classical.byContradiction fun hni => ?_
  have hsub : (i :: xs) ⊆ List.range n := by
    intro x hx
    rcases List.mem_cons.1 hx with rfl | hx
    · exact List.mem_range.2 hi
    · exact List.mem_range.2 (hr x hx)
  have := List.Nodup.length_le_of_subset (List.nodup_cons.2 ⟨hni, hd⟩) hsub
  simp at this
  omega
end Go.Proofs.Ytdnjbjcfbdclfaa.P
namespace Go.Proofs.Ytdnjbjcfbdclfaa.P
open Go.RowKit Go.Proofs.YtdnjbjcfbdclfaaW.PrintWords Go.Proofs.YtdnjbjcfbdclfaaW.PrintLast Go.Proofs.YtdnjbjcfbdclfaaW.PrintMore
attribute [local go_sem] max2_int min2_int max_two min_two max_three min_three max_four min_four   -- for this text's walks alone
set_option linter.unusedVariables false
set_option linter.unusedSimpArgs false

/-! ### sackbutlaw06_list: function 12 -/
def sackbutlaw06_list.f (l0 : List Int) : Option (List Int) := if 0 ≤ (mn (l0.length : Int) 9) then (if (mn (l0.length : Int) 9) ≤ (l0.length : Int) then ((slices_Clone_int_int.f (l0.take ((mn (l0.length : Int) 9) : Int).toNat)).bind fun t1003 => (some t1003)) else (none)) else (none)
set_option maxHeartbeats 8000000 in
set_option maxRecDepth 100000 in
theorem sackbutlaw06_list.calls (A0 : Option Addr) (c0 : Nat) (l0 : List Int) (r : List Int) (w : World) (hr0 : Kd.C (Kd.int .i64) w A0 l0.length l0) (hc0 : l0.length ≤ c0) (h : sackbutlaw06_list.f l0 = some r) :
    Calls Try.prog 12 #[.slice A0 l0.length c0] w fun e w' => ∃ v0_ : Value, e = .returned (v0_) ∧ Kd.R (Kd.int .i64) 3 w' w.heap.size (fun _ => True) v0_ r ∧ Below w.heap.size w w' := by
  have HR0 := Aside0.mk hr0
  have HC0 := Aside0.mk hc0
  clear hr0 hc0
  have HB := Aside0.mk (Below.refl w.heap.size w)
  have H : (if 0 ≤ (mn (l0.length : Int) 9) then (if (mn (l0.length : Int) 9) ≤ (l0.length : Int) then ((slices_Clone_int_int.f (l0.take ((mn (l0.length : Int) 9) : Int).toNat)).bind fun t1003 => (some t1003)) else (none)) else (none)) = some r := h
  clear h
  obtain ⟨ji2, hji2⟩ : ∃ j_ : Int, (mn (l0.length : Int) 9) = j_ := ⟨_, rfl⟩
  replace H : (if 0 ≤ (ji2) then (if (ji2) ≤ (l0.length : Int) then ((slices_Clone_int_int.f (l0.take ((ji2) : Int).toNat)).bind fun t1003 => (some t1003)) else (none)) else (none)) = some r := by first | (rw [hji2] at H; exact H) | (simp only [hji2] at H ⊢; exact H)
  (try (have hji2h : ji2 ≤ 9 := by (rw [← hji2]; unfold mn; (repeat' split) <;> omega)))
  (try (have hji2g : ji2 ≤ 64 := by omega))
  (try (have hji2l : 0 ≤ ji2 := by (rw [← hji2]; unfold mn; (repeat' split) <;> omega)))
  (try (have hji2m : 0 ≤ ji2 := by omega))
  have hji2_ : (if 9 < (l0.length : Int) then 9 else (l0.length : Int)) = ji2 := hji2
  by_cases c3 : 0 ≤ (ji2)
  · rw [if_pos c3] at H
    have c3b0 := eq_true c3
    have c3b1 : decide (0 ≤ (ji2)) = true := decide_eq_true c3
    clear c3
    by_cases c4 : (ji2) ≤ (l0.length : Int)
    · rw [if_pos c4] at H
      have c4b0 := eq_true c4
      have c4b1 : decide ((ji2) ≤ (l0.length : Int)) = true := decide_eq_true c4
      clear c4
      obtain ⟨y1001, hy1001⟩ : ∃ y_ : List Int, y_ = (l0.take ((ji2) : Int).toNat) := ⟨_, rfl⟩
      replace H : ((slices_Clone_int_int.f y1001).bind fun t1003 => (some t1003)) = some r := by first | (rw [hy1001]; with_reducible exact H) | (have H2_ := (Option.bind_some _ _).symm.trans H; rw [hy1001]; with_reducible exact H2_) | (have H2_ := (Option.bind_some _ _).symm.trans H; with_reducible exact H2_) | with_reducible exact H | (rw [hy1001]; exact H) | exact H
      have Ny1001 := Aside0.mk hy1001
      clear hy1001
      replace H := Option.bind_eq_some_iff.mp H
      obtain ⟨t1003, A50, H⟩ := H
      replace H : (some t1003) = some r := H
      have A5 := Aside0.mk A50
      clear A50
      obtain rfl := Option.some.inj H
      obtain ⟨i06, hi06, _, hsz6, _⟩ := info_parts info3
      obtain ⟨hcut6, hA6, hC6⟩ := print_take_of (P := Try.prog) (Value.int .i64) 0 22 3 .i64 Try.underlying22 hi06 hsz6 A0 c0 l0 (ji2) (of_decide_eq_true (by first | (with_reducible assumption) | assumption)) (of_decide_eq_true (by first | (with_reducible assumption) | assumption)) HC0.out
      (first | rw [← Ny1001.out] at hcut6 hA6 hC6 | (simp only [Int.reduceToNat] at hcut6 hA6 hC6; rw [← Ny1001.out] at hcut6 hA6 hC6))
      have HR1002 := Aside0.mk (Kd.C_of_reads (h1 := fun _ => rfl) (hA6 _ (Kd.reads_of_C HR0.out)))
      have HC1002 := Aside0.mk hC6
      clear hA6 hC6 hi06 hsz6
      go_enter Try.func12, Try.ntmps12
      go_wp2_with (first | ((with_reducible refine gate_callee (f := 18) rfl ?_); refine goesL_ (some 8) rfl rfl Try.func18 (by kernel_rfl) rfl #[.slice A0 y1001.length c0] rfl (by (try simp only [List.map_toArray, List.map_cons, List.map_nil]); first | done | rfl | (simp only [List.length_drop, List.length_take]; rfl)) ?_; (with_reducible refine (slices_Clone_int_int.calls _ _ y1001 t1003 _ ?side1 ?side2 A5.out).mono ?_); (case side1 => repeat (first | exact HR1002.out | (with_reducible refine Kd.C_alloc ?_ _) | (with_reducible refine Kd.C_drewN ?_ _) | (with_reducible refine Kd.C_drew ?_))); (case side2 => exact HC1002.out); rintro e w7 ⟨v1004, rfl, ho0, hb⟩; refine ⟨_, rfl, ?_⟩; have n0_ := Aside0.mk (Kd.R_lower ho0 (below_size (by repeat (first | (with_reducible first | exact HB.out | apply below_alloc | apply pw_below_drewN | apply below_drew1) | exact HB.out)))); have n1_ := Aside0.mk (below_step (by repeat (first | (with_reducible first | exact HB.out | apply below_alloc | apply pw_below_drewN | apply below_drew1) | exact HB.out)) hb); clear HB; have HO1005 := n0_; have HB := n1_; clear n0_ n1_; (try clear hb); (try clear hb2); (try clear hk); (try clear hi); (try clear ho0)))
      go_ret
      exact ⟨_, by first | rfl | (simp [errW_none, errW_some] <;> rfl) | (simp only [← hji2]; first | rfl | (simp [errW_none, errW_some] <;> rfl)) | (simp [*, errW_none, errW_some] <;> rfl), by (with_reducible repeat (first | apply Kd.R_alloc | apply Kd.R_drewN | apply Kd.R_drew)); exact HO1005.out, by repeat (first | (with_reducible first | exact HB.out | apply below_alloc | apply pw_below_drewN | apply below_drew1) | exact HB.out)⟩
    · rw [if_neg c4] at H
      exact absurd H (by simp)
  · rw [if_neg c3] at H
    exact absurd H (by simp)

end Go.Proofs.Ytdnjbjcfbdclfaa.P
namespace Go.Proofs.Ytdnjbjcfbdclfaa.P
open Go.RowKit Go.Proofs.YtdnjbjcfbdclfaaW.PrintWords Go.Proofs.YtdnjbjcfbdclfaaW.PrintLast Go.Proofs.YtdnjbjcfbdclfaaW.PrintMore
attribute [local go_sem] max2_int min2_int max_two min_two max_three min_three max_four min_four   -- for this text's walks alone
set_option linter.unusedVariables false
set_option linter.unusedSimpArgs false

/-! ### sackbutref06_Voicing: function 37 -/
def sackbutref06_Voicing.l0 : Nat → Int → List Int → List Int → Int → Int → Option (Bool)
  | 0, _, _, _, _, _ => none
  | k + 1, x0, x1, x7, x8, x9 => if x9 < x8 then (if 0 ≤ x9 then (if x9 < (x7.length : Int) then (if (rd x7 x9) < 0 then (some false) else (if (rd x7 x9) ≥ x0 then (some false) else (sackbutref06_Voicing.l0 k x0 x1 x7 x8 (wrap64 (x9 + 1))))) else (none)) else (none)) else (if x0 ≥ 2 then (if x0 ≤ 16 then (if (x1.length : Int) ≥ 1 then (some (decide ((x1.length : Int) ≤ 6))) else (some false)) else (some false)) else (some false))
def sackbutref06_Voicing.f (k : Nat) (a0 : Int) (l1 : List Int) : Option (Bool) := sackbutref06_Voicing.l0 k a0 l1 l1 (l1.length : Int) 0
theorem sackbutref06_Voicing.mono_l : ∀ k, (∀ y0 y1 y2 y3 y4, LeO (sackbutref06_Voicing.l0 k y0 y1 y2 y3 y4) (sackbutref06_Voicing.l0 (k + 1) y0 y1 y2 y3 y4))
  | 0 => fun _ _ _ _ _ r h => by simp [sackbutref06_Voicing.l0] at h
  | k + 1 => by
    have ih0 := sackbutref06_Voicing.mono_l k
    · intro y0 y1 y2 y3 y4
      unfold sackbutref06_Voicing.l0
      repeat' first
      | (with_reducible exact ih0 _ _ _ _ _)
      | (with_reducible exact LeO.refl _)
      | (with_reducible exact LeO.none _)
      | (with_reducible refine LeO.ite ?_ ?_)
      | (with_reducible refine LeO.bind ?_ (fun _ => ?_))
      | exact ih0 _ _ _ _ _
      | exact LeO.none _
      | refine LeO.ite ?_ ?_
      | refine LeO.bind ?_ (fun _ => ?_)
theorem sackbutref06_Voicing.mono : ∀ a0 a1 k, LeO (sackbutref06_Voicing.f k a0 a1) (sackbutref06_Voicing.f (k + 1) a0 a1) := by
  intro a0 a1 k
  have ih0 := sackbutref06_Voicing.mono_l k
  unfold sackbutref06_Voicing.f
  repeat' first
      | (with_reducible exact ih0 _ _ _ _ _)
      | (with_reducible exact LeO.refl _)
      | (with_reducible exact LeO.none _)
      | (with_reducible refine LeO.ite ?_ ?_)
      | (with_reducible refine LeO.bind ?_ (fun _ => ?_))
      | exact ih0 _ _ _ _ _
      | exact LeO.none _
      | refine LeO.ite ?_ ?_
      | refine LeO.bind ?_ (fun _ => ?_)
set_option maxHeartbeats 8000000 in
set_option maxRecDepth 100000 in
theorem sackbutref06_Voicing.calls (k : Nat) (a0 : Int) (A1 : Option Addr) (c1 : Nat) (l1 : List Int) (r : Bool) (w : World) (hr1 : Kd.C (Kd.int .i64) w A1 l1.length l1) (hc1 : l1.length ≤ c1) (h : sackbutref06_Voicing.f k a0 l1 = some r) :
    Calls Try.prog 37 #[.int .i64 a0, .slice A1 l1.length c1] w fun e w' => e = .returned (.bool r) ∧ Drawn0 w w' := by
  have HR1 := Aside0.mk hr1
  have HC1 := Aside0.mk hc1
  clear hr1 hc1
  have H : (sackbutref06_Voicing.l0 k a0 l1 l1 (l1.length : Int) 0) = some r := h
  clear h
  have H' := Aside0.mk H
  clear H
  go_enter Try.func37, Try.ntmps37
  go_wp2
  go_loopg [9] k (fun kq v9 w' => ∃ (x9_1 : Int), v9 = .int .i64 x9_1 ∧ Aside0 (sackbutref06_Voicing.l0 kq a0 l1 l1 (l1.length : Int) x9_1 = some r) ∧ Aside0 (kq ≤ k) ∧ Drawn0 w w')
  case atStart => exact ⟨(0), (by first | rfl | (simp; done) | (simp [*]; done)), H', ⟨Nat.le_refl _⟩, by repeat (first | exact Drawn0.refl _ | apply Drawn0.step)⟩
  case round =>
    clear H'
    try clear c1
    try clear p2
    obtain ⟨x9_1, rfl, HA, HK1, ⟨m1, rfl⟩⟩ := hrel
    cases gk with
    | zero => exact absurd HA.out (by simp [sackbutref06_Voicing.l0])
    | succ k1 =>
      have H := HA.out
      clear HA
      simp only [sackbutref06_Voicing.l0] at H
      by_cases c3 : x9_1 < (l1.length : Int)
      · rw [if_pos c3] at H
        have c3b0 : decide (x9_1 < (l1.length : Int)) = true := decide_eq_true c3
        clear c3
        by_cases c4 : 0 ≤ x9_1
        · rw [if_pos c4] at H
          have c4b0 : decide (0 ≤ x9_1) = true := decide_eq_true c4
          clear c4
          by_cases c5 : x9_1 < (l1.length : Int)
          · rw [if_pos c5] at H
            have c5b0 : decide (x9_1 < (l1.length : Int)) = true := decide_eq_true c5
            clear c5
            by_cases c6 : (rd l1 x9_1) < 0
            · rw [if_pos c6] at H
              have c6b0 : decide ((rd l1 x9_1) < 0) = true := decide_eq_true c6
              clear c6
              obtain rfl := Option.some.inj H
              have p1001 : 0 ≤ (x9_1 : Int) := of_decide_eq_true (by first | (with_reducible assumption) | assumption)
              have q1001 : x9_1 < (l1.length : Int) := of_decide_eq_true (by first | (with_reducible assumption) | assumption)
              obtain ⟨ad1001, e1001, hx1001_0⟩ := Kd.at_int HR1.out x9_1 p1001 q1001
              cases e1001
              replace p1001 := eq_true p1001
              replace q1001 := eq_true q1001
              go_wp2
              go_ret
              exact ⟨by first | rfl | (simp; done) | (simp [*]; done), by repeat (first | exact Drawn0.refl _ | apply Drawn0.step)⟩
            · rw [if_neg c6] at H
              have c6b0 : decide ((rd l1 x9_1) < 0) = false := decide_eq_false c6
              clear c6
              by_cases c7 : (rd l1 x9_1) ≥ a0
              · rw [if_pos c7] at H
                have c7b0 : decide (a0 ≤ (rd l1 x9_1)) = true := decide_eq_true c7
                clear c7
                obtain rfl := Option.some.inj H
                have p1001 : 0 ≤ (x9_1 : Int) := of_decide_eq_true (by first | (with_reducible assumption) | assumption)
                have q1001 : x9_1 < (l1.length : Int) := of_decide_eq_true (by first | (with_reducible assumption) | assumption)
                obtain ⟨ad1001, e1001, hx1001_0⟩ := Kd.at_int HR1.out x9_1 p1001 q1001
                cases e1001
                replace p1001 := eq_true p1001
                replace q1001 := eq_true q1001
                go_wp2
                go_ret
                exact ⟨by first | rfl | (simp; done) | (simp [*]; done), by repeat (first | exact Drawn0.refl _ | apply Drawn0.step)⟩
              · rw [if_neg c7] at H
                have c7b0 : decide (a0 ≤ (rd l1 x9_1)) = false := decide_eq_false c7
                clear c7
                have H' := Aside0.mk H
                clear H
                have p1001 : 0 ≤ (x9_1 : Int) := of_decide_eq_true (by first | (with_reducible assumption) | assumption)
                have q1001 : x9_1 < (l1.length : Int) := of_decide_eq_true (by first | (with_reducible assumption) | assumption)
                obtain ⟨ad1001, e1001, hx1001_0⟩ := Kd.at_int HR1.out x9_1 p1001 q1001
                cases e1001
                replace p1001 := eq_true p1001
                replace q1001 := eq_true q1001
                go_wp2
                go_roundg k1
                case measure => have := HK1.out; omega
                case rel => exact ⟨(wrap64 (x9_1 + 1)), (by first | rfl | (simp; done) | (simp [*]; done)), H', ⟨by have := HK1.out; omega⟩, by repeat (first | exact Drawn0.refl _ | apply Drawn0.step)⟩
          · rw [if_neg c5] at H
            exact absurd H (by simp)
        · rw [if_neg c4] at H
          exact absurd H (by simp)
      · rw [if_neg c3] at H
        have c3b0 : decide (x9_1 < (l1.length : Int)) = false := decide_eq_false c3
        clear c3
        by_cases c8 : a0 ≥ 2
        · rw [if_pos c8] at H
          have c8b0 : decide (2 ≤ a0) = true := decide_eq_true c8
          clear c8
          by_cases c9 : a0 ≤ 16
          · rw [if_pos c9] at H
            have c9b0 : decide (a0 ≤ 16) = true := decide_eq_true c9
            clear c9
            by_cases c10 : (l1.length : Int) ≥ 1
            · rw [if_pos c10] at H
              have c10b0 : decide (1 ≤ (l1.length : Int)) = true := decide_eq_true c10
              have c10b1 : decide (1 ≤ l1.length) = true := decide_eq_true (by omega)
              clear c10
              obtain rfl := Option.some.inj H
              go_wp2
              go_ret
              exact ⟨by first | rfl | (simp; done) | (simp [*]; done), by repeat (first | exact Drawn0.refl _ | apply Drawn0.step)⟩
            · rw [if_neg c10] at H
              have c10b0 : decide (1 ≤ (l1.length : Int)) = false := decide_eq_false c10
              have c10b1 : decide (1 ≤ l1.length) = false := decide_eq_false (by omega)
              clear c10
              obtain rfl := Option.some.inj H
              go_wp2
              go_ret
              exact ⟨by first | rfl | (simp; done) | (simp [*]; done), by repeat (first | exact Drawn0.refl _ | apply Drawn0.step)⟩
          · rw [if_neg c9] at H
            have c9b0 : decide (a0 ≤ 16) = false := decide_eq_false c9
            clear c9
            obtain rfl := Option.some.inj H
            go_wp2
            go_ret
            exact ⟨by first | rfl | (simp; done) | (simp [*]; done), by repeat (first | exact Drawn0.refl _ | apply Drawn0.step)⟩
        · rw [if_neg c8] at H
          have c8b0 : decide (2 ≤ a0) = false := decide_eq_false c8
          clear c8
          obtain rfl := Option.some.inj H
          go_wp2
          go_ret
          exact ⟨by first | rfl | (simp; done) | (simp [*]; done), by repeat (first | exact Drawn0.refl _ | apply Drawn0.step)⟩

end Go.Proofs.Ytdnjbjcfbdclfaa.P
namespace Go.Proofs.Ytdnjbjcfbdclfaa.P
open Go.RowKit Go.Proofs.YtdnjbjcfbdclfaaW.PrintWords Go.Proofs.YtdnjbjcfbdclfaaW.PrintLast Go.Proofs.YtdnjbjcfbdclfaaW.PrintMore
attribute [local go_sem] max2_int min2_int max_two min_two max_three min_three max_four min_four   -- for this text's walks alone
set_option linter.unusedVariables false
set_option linter.unusedSimpArgs false

/-! ### sackbutref06_Two: function 13 -/
def sackbutref06_Two.f (k : Nat) (a0 : Int) (l1 : List Int) (l2 : List Int) : Option (Bool) := (sackbutref06_Voicing.f k a0 l1).bind fun t1001 => (if t1001 = true then ((sackbutref06_Voicing.f k a0 l2).bind fun t1002 => (if t1002 = true then (some ((l1.length : Int) == (l2.length : Int))) else (some false))) else (some false))
theorem sackbutref06_Two.mono : ∀ a0 a1 a2 k, LeO (sackbutref06_Two.f k a0 a1 a2) (sackbutref06_Two.f (k + 1) a0 a1 a2) := by
  intro a0 a1 a2 k
  unfold sackbutref06_Two.f
  repeat' first
      | (with_reducible exact sackbutref06_Voicing.mono _ _ _)
      | (with_reducible exact LeO.refl _)
      | (with_reducible exact LeO.none _)
      | (with_reducible refine LeO.ite ?_ ?_)
      | (with_reducible refine LeO.bind ?_ (fun _ => ?_))
      | exact sackbutref06_Voicing.mono _ _ _
      | exact LeO.none _
      | refine LeO.ite ?_ ?_
      | refine LeO.bind ?_ (fun _ => ?_)
set_option maxHeartbeats 8000000 in
set_option maxRecDepth 100000 in
theorem sackbutref06_Two.calls (k : Nat) (a0 : Int) (A1 : Option Addr) (c1 : Nat) (l1 : List Int) (A2 : Option Addr) (c2 : Nat) (l2 : List Int) (r : Bool) (w : World) (hr1 : Kd.C (Kd.int .i64) w A1 l1.length l1) (hc1 : l1.length ≤ c1) (hr2 : Kd.C (Kd.int .i64) w A2 l2.length l2) (hc2 : l2.length ≤ c2) (h : sackbutref06_Two.f k a0 l1 l2 = some r) :
    Calls Try.prog 13 #[.int .i64 a0, .slice A1 l1.length c1, .slice A2 l2.length c2] w fun e w' => e = .returned (.bool r) ∧ Drawn0 w w' := by
  have HR1 := Aside0.mk hr1
  have HC1 := Aside0.mk hc1
  clear hr1 hc1
  have HR2 := Aside0.mk hr2
  have HC2 := Aside0.mk hc2
  clear hr2 hc2
  have H : ((sackbutref06_Voicing.f k a0 l1).bind fun t1001 => (if t1001 = true then ((sackbutref06_Voicing.f k a0 l2).bind fun t1002 => (if t1002 = true then (some ((l1.length : Int) == (l2.length : Int))) else (some false))) else (some false))) = some r := h
  clear h
  replace H := Option.bind_eq_some_iff.mp H
  obtain ⟨t1001, A40, H⟩ := H
  replace H : (if t1001 = true then ((sackbutref06_Voicing.f k a0 l2).bind fun t1002 => (if t1002 = true then (some ((l1.length : Int) == (l2.length : Int))) else (some false))) else (some false)) = some r := H
  have A4 := Aside0.mk A40
  clear A40
  by_cases c5 : t1001 = true
  · subst c5
    have H1 : ((sackbutref06_Voicing.f k a0 l2).bind fun t1002 => (if t1002 = true then (some ((l1.length : Int) == (l2.length : Int))) else (some false))) = some r := by rw [if_pos rfl] at H; exact H
    clear H
    have H := H1
    clear H1
    replace H := Option.bind_eq_some_iff.mp H
    obtain ⟨t1002, A60, H⟩ := H
    replace H : (if t1002 = true then (some ((l1.length : Int) == (l2.length : Int))) else (some false)) = some r := H
    have A6 := Aside0.mk A60
    clear A60
    by_cases c7 : t1002 = true
    · subst c7
      have H1 : (some ((l1.length : Int) == (l2.length : Int))) = some r := by rw [if_pos rfl] at H; exact H
      clear H
      have H := H1
      clear H1
      obtain rfl := Option.some.inj H
      go_enter Try.func13, Try.ntmps13
      go_wp2_with (first | ((with_reducible refine gate_callee (f := 37) rfl ?_); refine goesL_ (some 9) rfl rfl Try.func37 (by kernel_rfl) rfl #[.int .i64 a0, .slice A1 l1.length c1] rfl (by (try simp only [List.map_toArray, List.map_cons, List.map_nil]); first | done | rfl | (simp only [List.length_drop, List.length_take]; rfl)) ?_; (with_reducible refine (sackbutref06_Voicing.calls k a0 _ _ l1 true _ ?side1 ?side2 A4.out).mono ?_); (case side1 => repeat (first | exact HR1.out | (with_reducible refine Kd.C_alloc ?_ _) | (with_reducible refine Kd.C_drewN ?_ _) | (with_reducible refine Kd.C_drew ?_))); (case side2 => exact HC1.out); rintro e w' ⟨rfl, ⟨nd, rfl⟩⟩; refine ⟨_, rfl, ?_⟩) | (go_at_call 37; (with_reducible refine (sackbutref06_Voicing.calls k a0 _ _ l2 true _ ?side1 ?side2 A6.out).mono ?_); (case side1 => repeat (first | exact HR2.out | (with_reducible refine Kd.C_alloc ?_ _) | (with_reducible refine Kd.C_drewN ?_ _) | (with_reducible refine Kd.C_drew ?_))); (case side2 => exact HC2.out); rintro e w' ⟨rfl, ⟨nd, rfl⟩⟩))
      go_ret
      exact ⟨by first | rfl | (simp; done) | (simp [*]; done), by repeat (first | exact Drawn0.refl _ | apply Drawn0.step)⟩
    · replace c7 := Bool.eq_false_iff.mpr c7
      subst c7
      have H1 : (some false) = some r := by rw [if_neg (show ¬ (false = true) by decide)] at H; exact H
      clear H
      have H := H1
      clear H1
      obtain rfl := Option.some.inj H
      go_enter Try.func13, Try.ntmps13
      go_wp2_with (first | ((with_reducible refine gate_callee (f := 37) rfl ?_); refine goesL_ (some 9) rfl rfl Try.func37 (by kernel_rfl) rfl #[.int .i64 a0, .slice A1 l1.length c1] rfl (by (try simp only [List.map_toArray, List.map_cons, List.map_nil]); first | done | rfl | (simp only [List.length_drop, List.length_take]; rfl)) ?_; (with_reducible refine (sackbutref06_Voicing.calls k a0 _ _ l1 true _ ?side1 ?side2 A4.out).mono ?_); (case side1 => repeat (first | exact HR1.out | (with_reducible refine Kd.C_alloc ?_ _) | (with_reducible refine Kd.C_drewN ?_ _) | (with_reducible refine Kd.C_drew ?_))); (case side2 => exact HC1.out); rintro e w' ⟨rfl, ⟨nd, rfl⟩⟩; refine ⟨_, rfl, ?_⟩) | (go_at_call 37; (with_reducible refine (sackbutref06_Voicing.calls k a0 _ _ l2 false _ ?side1 ?side2 A6.out).mono ?_); (case side1 => repeat (first | exact HR2.out | (with_reducible refine Kd.C_alloc ?_ _) | (with_reducible refine Kd.C_drewN ?_ _) | (with_reducible refine Kd.C_drew ?_))); (case side2 => exact HC2.out); rintro e w' ⟨rfl, ⟨nd, rfl⟩⟩))
      go_ret
      exact ⟨by first | rfl | (simp; done) | (simp [*]; done), by repeat (first | exact Drawn0.refl _ | apply Drawn0.step)⟩
  · replace c5 := Bool.eq_false_iff.mpr c5
    subst c5
    have H1 : (some false) = some r := by rw [if_neg (show ¬ (false = true) by decide)] at H; exact H
    clear H
    have H := H1
    clear H1
    obtain rfl := Option.some.inj H
    go_enter Try.func13, Try.ntmps13
    go_wp2_with (first | ((with_reducible refine gate_callee (f := 37) rfl ?_); refine goesL_ (some 9) rfl rfl Try.func37 (by kernel_rfl) rfl #[.int .i64 a0, .slice A1 l1.length c1] rfl (by (try simp only [List.map_toArray, List.map_cons, List.map_nil]); first | done | rfl | (simp only [List.length_drop, List.length_take]; rfl)) ?_; (with_reducible refine (sackbutref06_Voicing.calls k a0 _ _ l1 false _ ?side1 ?side2 A4.out).mono ?_); (case side1 => repeat (first | exact HR1.out | (with_reducible refine Kd.C_alloc ?_ _) | (with_reducible refine Kd.C_drewN ?_ _) | (with_reducible refine Kd.C_drew ?_))); (case side2 => exact HC1.out); rintro e w' ⟨rfl, ⟨nd, rfl⟩⟩; refine ⟨_, rfl, ?_⟩))
    go_ret
    exact ⟨by first | rfl | (simp; done) | (simp [*]; done), by repeat (first | exact Drawn0.refl _ | apply Drawn0.step)⟩

end Go.Proofs.Ytdnjbjcfbdclfaa.P
namespace Go.Proofs.Ytdnjbjcfbdclfaa.P
open Go.RowKit Go.Proofs.YtdnjbjcfbdclfaaW.PrintWords Go.Proofs.YtdnjbjcfbdclfaaW.PrintLast Go.Proofs.YtdnjbjcfbdclfaaW.PrintMore
attribute [local go_sem] max2_int min2_int max_two min_two max_three min_three max_four min_four   -- for this text's walks alone
set_option linter.unusedVariables false
set_option linter.unusedSimpArgs false

/-! ### sackbutlaw06_awake: function 14 -/
def sackbutlaw06_awake.f  : Option (Bool) := (voices_Cost.f 12 (([0] : List Int)) (([11] : List Int))).bind fun bt1007 => (if bt1007.1 = 1 then (some (bt1007.2 == 0)) else (some false))
set_option maxHeartbeats 8000000 in
set_option maxRecDepth 100000 in
theorem sackbutlaw06_awake.calls  (r : Bool) (w : World) (h : sackbutlaw06_awake.f  = some r) :
    Calls Try.prog 14 #[] w fun e w' => e = .returned (.bool r) ∧ Below w.heap.size w w' := by
  have HB := Aside0.mk (Below.refl w.heap.size w)
  have H : ((voices_Cost.f 12 (([0] : List Int)) (([11] : List Int))).bind fun bt1007 => (if bt1007.1 = 1 then (some (bt1007.2 == 0)) else (some false))) = some r := h
  clear h
  obtain ⟨y1001, hy1001⟩ : ∃ y_ : List Int, y_ = (([0] : List Int)) := ⟨_, rfl⟩
  replace H : ((voices_Cost.f 12 y1001 (([11] : List Int))).bind fun bt1007 => (if bt1007.1 = 1 then (some (bt1007.2 == 0)) else (some false))) = some r := by first | (rw [hy1001]; with_reducible exact H) | (have H2_ := (Option.bind_some _ _).symm.trans H; rw [hy1001]; with_reducible exact H2_) | (have H2_ := (Option.bind_some _ _).symm.trans H; with_reducible exact H2_) | with_reducible exact H | (rw [hy1001]; exact H) | exact H
  have Ny1001 := Aside0.mk hy1001
  clear hy1001
  obtain ⟨y1004, hy1004⟩ : ∃ y_ : List Int, y_ = (([11] : List Int)) := ⟨_, rfl⟩
  replace H : ((voices_Cost.f 12 y1001 y1004).bind fun bt1007 => (if bt1007.1 = 1 then (some (bt1007.2 == 0)) else (some false))) = some r := by first | (rw [hy1004]; with_reducible exact H) | (have H2_ := (Option.bind_some _ _).symm.trans H; rw [hy1004]; with_reducible exact H2_) | (have H2_ := (Option.bind_some _ _).symm.trans H; with_reducible exact H2_) | with_reducible exact H | (rw [hy1004]; exact H) | exact H
  have Ny1004 := Aside0.mk hy1004
  clear hy1004
  replace H := Option.bind_eq_some_iff.mp H
  obtain ⟨⟨t1007, t1008⟩, A10, H⟩ := H
  replace H : (if t1007 = 1 then (some (t1008 == 0)) else (some false)) = some r := H
  have A1 := Aside0.mk A10
  clear A10
  by_cases c2 : t1007 = 1
  · rw [if_pos c2] at H
    have c2b0 : (t1007 == 1) = true := beq_iff_eq.mpr c2
    have c2b1 : (t1007 != 1) = false := bne_eq_false_iff_eq.mpr c2
    clear c2
    obtain rfl := Option.some.inj H
    go_enter Try.func14, Try.ntmps14
    go_wp2_with (first | ((with_reducible refine gate_dst (N := 4) rfl ?_); refine Kd.R_lit (Kd.int .i64) _ 3 ?hg (N := 4) ?hd (xs := ([0] : List Int)) (inner := [.int .i64 0]) (ok := fun _ => True) (okp := fun _ => True) ?hr ?hp (fun _ hk => hk) trivial (Below.refl _ _) (Nat.le_refl _) (by simp) ?_; (case hd => rfl); (case hg => rfl); (case hr => first | (go_simp; done) | (go_simp; rfl)); (case hp => exact (Reps.one (show Kd.M (Kd.int .i64) _ _ _ 0 [.int .i64 0] from rfl) (Reps.none _ _))); intro v1002 w3 ho4 hb hg_ hnew_; clear hg_ hnew_; (first | rw [← Ny1001.out] at ho4 | (simp only [Int.reduceToNat] at ho4; rw [← Ny1001.out] at ho4)); have n0_ := Aside0.mk (Kd.R_lower ho4 (below_size (by repeat (first | (with_reducible first | exact HB.out | apply below_alloc | apply pw_below_drewN | apply below_drew1) | exact HB.out)))); have n1_ := Aside0.mk (below_step (by repeat (first | (with_reducible first | exact HB.out | apply below_alloc | apply pw_below_drewN | apply below_drew1) | exact HB.out)) hb); clear HB; have HO1003 := n0_; have HB := n1_; clear n0_ n1_; clear hb ho4) | ((with_reducible refine gate_dst (N := 5) rfl ?_); refine Kd.R_lit (Kd.int .i64) _ 3 ?hg (N := 5) ?hd (xs := ([11] : List Int)) (inner := [.int .i64 11]) (ok := fun _ => True) (okp := fun _ => True) ?hr ?hp (fun _ hk => hk) trivial (Below.refl _ _) (Nat.le_refl _) (by simp) ?_; (case hd => rfl); (case hg => rfl); (case hr => first | (go_simp; done) | (go_simp; rfl)); (case hp => exact (Reps.one (show Kd.M (Kd.int .i64) _ _ _ 11 [.int .i64 11] from rfl) (Reps.none _ _))); intro v1005 w5 ho6 hb hg_ hnew_; clear hg_ hnew_; (first | rw [← Ny1004.out] at ho6 | (simp only [Int.reduceToNat] at ho6; rw [← Ny1004.out] at ho6)); have n0_ := Aside0.mk (Kd.R_elder' (by (with_reducible repeat (first | apply Kd.R_alloc | apply Kd.R_drewN | apply Kd.R_drew)); exact HO1003.out) (Kd.R_base ho6) hb); have n1_ := Aside0.mk (Kd.R_lower (Kd.R_new' ho6 (Kd.R_lt (by (with_reducible repeat (first | apply Kd.R_alloc | apply Kd.R_drewN | apply Kd.R_drew)); exact HO1003.out))) (below_size (by repeat (first | (with_reducible first | exact HB.out | apply below_alloc | apply pw_below_drewN | apply below_drew1) | exact HB.out)))); have n2_ := Aside0.mk (below_step (by repeat (first | (with_reducible first | exact HB.out | apply below_alloc | apply pw_below_drewN | apply below_drew1) | exact HB.out)) hb); clear HO1003; clear HB; have HO1003 := n0_; have HO1006 := n1_; have HB := n2_; clear n0_ n1_ n2_; clear hb ho6; obtain ⟨Ao7, co7, eo7⟩ := Kd.R_slice HO1003.out; subst eo7; obtain ⟨Ao8, co8, eo8⟩ := Kd.R_slice HO1006.out; subst eo8) | ((with_reducible refine gate_callee (f := 11) rfl ?_); refine goesL_ (some 6) rfl rfl Try.func11 (by kernel_rfl) rfl #[.int .i64 12, .slice Ao7 y1001.length co7, .slice Ao8 y1004.length co8] rfl (by (try simp only [List.map_toArray, List.map_cons, List.map_nil]); first | done | rfl | (simp only [List.length_drop, List.length_take]; rfl)) ?_; (with_reducible refine (voices_Cost.calls 12 _ _ y1001 _ _ y1004 t1007 t1008 _ ?side1 ?side2 ?side3 ?side4 A1.out).mono ?_); (case side1 => repeat (first | exact (Kd.R_reads' HO1003.out).2.2 | (with_reducible refine Kd.C_alloc ?_ _) | (with_reducible refine Kd.C_drewN ?_ _) | (with_reducible refine Kd.C_drew ?_))); (case side2 => exact (Kd.R_reads' HO1003.out).2.1); (case side3 => repeat (first | exact (Kd.R_reads' HO1006.out).2.2 | (with_reducible refine Kd.C_alloc ?_ _) | (with_reducible refine Kd.C_drewN ?_ _) | (with_reducible refine Kd.C_drew ?_))); (case side4 => exact (Kd.R_reads' HO1006.out).2.1); rintro e w9 ⟨rfl, hb⟩; refine ⟨_, rfl, ?_⟩; have n0_ := Aside0.mk (Kd.R_below (by (with_reducible repeat (first | apply Kd.R_alloc | apply Kd.R_drewN | apply Kd.R_drew)); exact HO1003.out) hb); have n1_ := Aside0.mk (Kd.R_below (by (with_reducible repeat (first | apply Kd.R_alloc | apply Kd.R_drewN | apply Kd.R_drew)); exact HO1006.out) hb); have n2_ := Aside0.mk (below_step (by repeat (first | (with_reducible first | exact HB.out | apply below_alloc | apply pw_below_drewN | apply below_drew1) | exact HB.out)) hb); clear HO1003; clear HO1006; clear HB; have HO1003 := n0_; have HO1006 := n1_; have HB := n2_; clear n0_ n1_ n2_; (try clear hb); (try clear hb2); (try clear hk); (try clear hi)))
    go_ret
    exact ⟨by first | rfl | (simp [errW_none, errW_some] <;> rfl) | (simp [*, errW_none, errW_some] <;> rfl), by repeat (first | (with_reducible first | exact HB.out | apply below_alloc | apply pw_below_drewN | apply below_drew1) | exact HB.out)⟩
  · rw [if_neg c2] at H
    have c2b0 : (t1007 == 1) = false := beq_eq_false_iff_ne.mpr c2
    have c2b1 : (t1007 != 1) = true := bne_iff_ne.mpr c2
    obtain rfl := Option.some.inj H
    go_enter Try.func14, Try.ntmps14
    go_wp2_with (first | ((with_reducible refine gate_dst (N := 4) rfl ?_); refine Kd.R_lit (Kd.int .i64) _ 3 ?hg (N := 4) ?hd (xs := ([0] : List Int)) (inner := [.int .i64 0]) (ok := fun _ => True) (okp := fun _ => True) ?hr ?hp (fun _ hk => hk) trivial (Below.refl _ _) (Nat.le_refl _) (by simp) ?_; (case hd => rfl); (case hg => rfl); (case hr => first | (go_simp; done) | (go_simp; rfl)); (case hp => exact (Reps.one (show Kd.M (Kd.int .i64) _ _ _ 0 [.int .i64 0] from rfl) (Reps.none _ _))); intro v1002 w10 ho11 hb hg_ hnew_; clear hg_ hnew_; (first | rw [← Ny1001.out] at ho11 | (simp only [Int.reduceToNat] at ho11; rw [← Ny1001.out] at ho11)); have n0_ := Aside0.mk (Kd.R_lower ho11 (below_size (by repeat (first | (with_reducible first | exact HB.out | apply below_alloc | apply pw_below_drewN | apply below_drew1) | exact HB.out)))); have n1_ := Aside0.mk (below_step (by repeat (first | (with_reducible first | exact HB.out | apply below_alloc | apply pw_below_drewN | apply below_drew1) | exact HB.out)) hb); clear HB; have HO1003 := n0_; have HB := n1_; clear n0_ n1_; clear hb ho11) | ((with_reducible refine gate_dst (N := 5) rfl ?_); refine Kd.R_lit (Kd.int .i64) _ 3 ?hg (N := 5) ?hd (xs := ([11] : List Int)) (inner := [.int .i64 11]) (ok := fun _ => True) (okp := fun _ => True) ?hr ?hp (fun _ hk => hk) trivial (Below.refl _ _) (Nat.le_refl _) (by simp) ?_; (case hd => rfl); (case hg => rfl); (case hr => first | (go_simp; done) | (go_simp; rfl)); (case hp => exact (Reps.one (show Kd.M (Kd.int .i64) _ _ _ 11 [.int .i64 11] from rfl) (Reps.none _ _))); intro v1005 w12 ho13 hb hg_ hnew_; clear hg_ hnew_; (first | rw [← Ny1004.out] at ho13 | (simp only [Int.reduceToNat] at ho13; rw [← Ny1004.out] at ho13)); have n0_ := Aside0.mk (Kd.R_elder' (by (with_reducible repeat (first | apply Kd.R_alloc | apply Kd.R_drewN | apply Kd.R_drew)); exact HO1003.out) (Kd.R_base ho13) hb); have n1_ := Aside0.mk (Kd.R_lower (Kd.R_new' ho13 (Kd.R_lt (by (with_reducible repeat (first | apply Kd.R_alloc | apply Kd.R_drewN | apply Kd.R_drew)); exact HO1003.out))) (below_size (by repeat (first | (with_reducible first | exact HB.out | apply below_alloc | apply pw_below_drewN | apply below_drew1) | exact HB.out)))); have n2_ := Aside0.mk (below_step (by repeat (first | (with_reducible first | exact HB.out | apply below_alloc | apply pw_below_drewN | apply below_drew1) | exact HB.out)) hb); clear HO1003; clear HB; have HO1003 := n0_; have HO1006 := n1_; have HB := n2_; clear n0_ n1_ n2_; clear hb ho13; obtain ⟨Ao14, co14, eo14⟩ := Kd.R_slice HO1003.out; subst eo14; obtain ⟨Ao15, co15, eo15⟩ := Kd.R_slice HO1006.out; subst eo15) | ((with_reducible refine gate_callee (f := 11) rfl ?_); refine goesL_ (some 6) rfl rfl Try.func11 (by kernel_rfl) rfl #[.int .i64 12, .slice Ao14 y1001.length co14, .slice Ao15 y1004.length co15] rfl (by (try simp only [List.map_toArray, List.map_cons, List.map_nil]); first | done | rfl | (simp only [List.length_drop, List.length_take]; rfl)) ?_; (with_reducible refine (voices_Cost.calls 12 _ _ y1001 _ _ y1004 t1007 t1008 _ ?side1 ?side2 ?side3 ?side4 A1.out).mono ?_); (case side1 => repeat (first | exact (Kd.R_reads' HO1003.out).2.2 | (with_reducible refine Kd.C_alloc ?_ _) | (with_reducible refine Kd.C_drewN ?_ _) | (with_reducible refine Kd.C_drew ?_))); (case side2 => exact (Kd.R_reads' HO1003.out).2.1); (case side3 => repeat (first | exact (Kd.R_reads' HO1006.out).2.2 | (with_reducible refine Kd.C_alloc ?_ _) | (with_reducible refine Kd.C_drewN ?_ _) | (with_reducible refine Kd.C_drew ?_))); (case side4 => exact (Kd.R_reads' HO1006.out).2.1); rintro e w16 ⟨rfl, hb⟩; refine ⟨_, rfl, ?_⟩; have n0_ := Aside0.mk (Kd.R_below (by (with_reducible repeat (first | apply Kd.R_alloc | apply Kd.R_drewN | apply Kd.R_drew)); exact HO1003.out) hb); have n1_ := Aside0.mk (Kd.R_below (by (with_reducible repeat (first | apply Kd.R_alloc | apply Kd.R_drewN | apply Kd.R_drew)); exact HO1006.out) hb); have n2_ := Aside0.mk (below_step (by repeat (first | (with_reducible first | exact HB.out | apply below_alloc | apply pw_below_drewN | apply below_drew1) | exact HB.out)) hb); clear HO1003; clear HO1006; clear HB; have HO1003 := n0_; have HO1006 := n1_; have HB := n2_; clear n0_ n1_ n2_; (try clear hb); (try clear hb2); (try clear hk); (try clear hi)))
    go_ret
    exact ⟨by first | rfl | (simp [errW_none, errW_some] <;> rfl) | (simp [*, errW_none, errW_some] <;> rfl), by repeat (first | (with_reducible first | exact HB.out | apply below_alloc | apply pw_below_drewN | apply below_drew1) | exact HB.out)⟩

end Go.Proofs.Ytdnjbjcfbdclfaa.P
namespace Go.Proofs.Ytdnjbjcfbdclfaa.P
open Go.RowKit Go.Proofs.YtdnjbjcfbdclfaaW.PrintWords Go.Proofs.YtdnjbjcfbdclfaaW.PrintLast Go.Proofs.YtdnjbjcfbdclfaaW.PrintMore
attribute [local go_sem] max2_int min2_int max_two min_two max_three min_three max_four min_four   -- for this text's walks alone
set_option linter.unusedVariables false
set_option linter.unusedSimpArgs false

/-! runs over a list that gather a set -/
def validRun (n : Nat) : Nat → List Int → Bool
  | s, [] => decide (s = 2 ^ n - 1)
  | s, x :: xs => if x < 0 then false else if x ≥ n then false else validRun n (s ||| 2 ^ x.toNat) xs
theorem validRun_iff (n : Nat) : ∀ (xs : List Int) (s : Nat), validRun n s xs = decide ((∀ x ∈ xs, 0 ≤ x ∧ x < n) ∧ orAll s (xs.map Int.toNat) = 2 ^ n - 1) := by
  intro xs
  induction xs with
  | nil => intro s; simp [validRun, orAll]
  | cons x xs ih =>
    intro s
    simp only [validRun, List.map_cons, orAll_cons, ih, List.forall_mem_cons]
    by_cases h1 : x < 0
    · simp [h1]; intro h; omega
    · by_cases h2 : x ≥ n
      · simp [h1, h2]; intro _ h; omega
      · simp only [h1, h2, if_false]
        congr 1
        rw [eq_iff_iff]
        constructor
        · rintro ⟨a, b⟩; exact ⟨⟨⟨by omega, by omega⟩, a⟩, b⟩
        · rintro ⟨⟨_, a⟩, b⟩; exact ⟨a, b⟩
theorem nodup_toNat {xs : List Int} (h : ∀ x ∈ xs, 0 ≤ x) : (xs.map Int.toNat).Nodup ↔ xs.Nodup := by
  induction xs with
  | nil => simp
  | cons x xs ih =>
    have h' := ih (fun y hy => h y (List.mem_cons_of_mem _ hy))
    simp only [List.map_cons, List.nodup_cons, h']
    have : x.toNat ∈ xs.map Int.toNat ↔ x ∈ xs := by
      simp only [List.mem_map]
      constructor
      · rintro ⟨y, hy, e⟩
        have := h y (List.mem_cons_of_mem _ hy); have := h x List.mem_cons_self
        obtain rfl : y = x := by omega
        exact hy
      · intro hx; exact ⟨x, hx, rfl⟩
    rw [this]
def partRun (n : Nat) : Nat → List Int → Bool
  | _, [] => true
  | s, x :: xs => if x < 0 then false else if x ≥ n then false else if s.testBit x.toNat then false else partRun n (s ||| 2 ^ x.toNat) xs
theorem partRun_iff (n : Nat) : ∀ (xs : List Int) (s : Nat), partRun n s xs = decide ((∀ x ∈ xs, 0 ≤ x ∧ x < n ∧ s.testBit x.toNat = false) ∧ xs.Nodup) := by
  intro xs
  induction xs with
  | nil => intro s; simp [partRun]
  | cons x xs ih =>
    intro s
    simp only [partRun, ih, List.forall_mem_cons, List.nodup_cons]
    by_cases h1 : x < 0
    · simp [h1]; intro h; omega
    · by_cases h2 : x ≥ n
      · simp [h1, h2]; intro _ h; omega
      · by_cases h3 : s.testBit x.toNat = true
        · simp [h1, h2, h3]
        · rw [if_neg h1, if_neg h2, if_neg h3, decide_eq_decide]
          simp only [testBit_or_two_pow, Bool.or_eq_false_iff, decide_eq_false_iff_not]
          constructor
          · rintro ⟨a, b⟩
            refine ⟨⟨⟨by omega, by omega, by simpa using h3⟩, fun y hy => ⟨(a y hy).1, (a y hy).2.1, (a y hy).2.2.1⟩⟩, fun hx => (a x hx).2.2.2 rfl, b⟩
          · rintro ⟨⟨_, a⟩, b, c⟩
            refine ⟨fun y hy => ⟨(a y hy).1, (a y hy).2.1, (a y hy).2.2, fun e => b ?_⟩, c⟩
            have := (a y hy).1
            obtain rfl : x = y := by omega
            exact hy

end Go.Proofs.Ytdnjbjcfbdclfaa.P
namespace Go.Proofs.Ytdnjbjcfbdclfaa.P
open Go.RowKit Go.Proofs.YtdnjbjcfbdclfaaW.PrintWords Go.Proofs.YtdnjbjcfbdclfaaW.PrintLast Go.Proofs.YtdnjbjcfbdclfaaW.PrintMore
attribute [local go_sem] max2_int min2_int max_two min_two max_three min_three max_four min_four   -- for this text's walks alone
set_option linter.unusedVariables false
set_option linter.unusedSimpArgs false

/-! leadings and their prices, of the program and of the document -/
def LeadOf (k : Nat) (l : List Int) : Prop := l.length = k ∧ (∀ x ∈ l, 0 ≤ x ∧ x < k) ∧ l.Nodup
instance (k : Nat) (l : List Int) : Decidable (LeadOf k l) := by unfold LeadOf; infer_instance
theorem lead_full {l : List Int} {k : Nat} (hl : l.length = k) (hr : ∀ x ∈ l, 0 ≤ x ∧ x < k) : orAll 0 (l.map Int.toNat) = 2 ^ k - 1 ↔ l.Nodup := by
  have hr' : ∀ x ∈ l.map Int.toNat, x < k := by
    intro x hx
    obtain ⟨y, hy, rfl⟩ := List.mem_map.1 hx
    have := hr y hy
    omega
  rw [orAll_full _ hr', ← nodup_toNat (fun x hx => (hr x hx).1)]
  exact ⟨fun h => nodup_of_full (by simp [hl]) h, fun h => full_of_nodup (by simp [hl]) hr' h⟩
/-! voicings, in the document's words -/
theorem mid_next8 {l pre xs : List Int} {x : Int} (hl : l = pre ++ x :: xs) (hb : l.length < 9223372036854775808) : wrap64 ((pre.length : Int) + 1) = ((pre ++ [x]).length : Int) := by
  have : l.length = pre.length + (xs.length + 1) := by rw [hl]; simp
  rw [wrap_id (by omega) (by omega)]; simp
theorem refVoicing_loop (n : Int) (l : List Int) (hl : l.length < 9223372036854775808) : ∀ (xs pre : List Int), l = pre ++ xs →
    Ev (fun q => sackbutref06_Voicing.l0 q n l l (l.length : Int) (pre.length : Int)) (decide ((∀ x ∈ xs, 0 ≤ x ∧ x < n) ∧ 2 ≤ n ∧ n ≤ 16 ∧ 1 ≤ l.length ∧ l.length ≤ 6)) := by
  intro xs
  induction xs with
  | nil =>
    intro pre h0
    refine Ev.succ ?_
    simp only [sackbutref06_Voicing.l0, if_neg (mid_end h0)]
    refine Ev.ite (fun e1 => ?_) (fun e1 => by rw [decide_eq_false (fun h => e1 h.2.1)]; exact Ev.some _)
    refine Ev.ite (fun e2 => ?_) (fun e2 => by rw [decide_eq_false (fun h => e2 h.2.2.1)]; exact Ev.some _)
    refine Ev.ite (fun e3 => ?_) (fun e3 => by rw [decide_eq_false (fun h => e3 (by have := h.2.2.2.1; omega))]; exact Ev.some _)
    have e : decide ((l.length : Int) ≤ 6) = decide ((∀ x ∈ ([] : List Int), 0 ≤ x ∧ x < n) ∧ 2 ≤ n ∧ n ≤ 16 ∧ 1 ≤ l.length ∧ l.length ≤ 6) := by
      rw [decide_eq_decide]
      exact ⟨fun h => ⟨by simp, e1, e2, by omega, by omega⟩, fun h => by have := h.2.2.2.2; omega⟩
    rw [e]
    exact Ev.some _
  | cons x xs ih =>
    intro pre h0
    refine Ev.succ ?_
    simp only [sackbutref06_Voicing.l0, if_pos (mid_lt h0), if_pos (show (0 : Int) ≤ (pre.length : Int) by omega), mid_rd h0, mid_next8 h0 hl]
    refine Ev.ite (fun e => by rw [decide_eq_false (fun h => by have := h.1 x (by simp); omega)]; exact Ev.some _) (fun e => ?_)
    refine Ev.ite (fun e2 => by rw [decide_eq_false (fun h => by have := h.1 x (by simp); omega)]; exact Ev.some _) (fun e2 => ?_)
    have e3 : decide ((∀ y ∈ x :: xs, 0 ≤ y ∧ y < n) ∧ 2 ≤ n ∧ n ≤ 16 ∧ 1 ≤ l.length ∧ l.length ≤ 6) = decide ((∀ y ∈ xs, 0 ≤ y ∧ y < n) ∧ 2 ≤ n ∧ n ≤ 16 ∧ 1 ≤ l.length ∧ l.length ≤ 6) := by
      rw [decide_eq_decide]
      constructor
      · rintro ⟨h, r⟩; exact ⟨fun y hy => h y (by simp [hy]), r⟩
      · rintro ⟨h, r⟩
        refine ⟨fun y hy => ?_, r⟩
        rcases List.mem_cons.1 hy with rfl | hy
        · omega
        · exact h y hy
    rw [e3]
    exact ih (pre ++ [x]) (mid_mv h0)
theorem refVoicing_ev (n : Int) (l : List Int) (hl : l.length < 9223372036854775808) : Ev (fun q => sackbutref06_Voicing.f q n l) (decide (VoiN n l)) := by
  have h := refVoicing_loop n l hl l [] rfl
  have e : decide ((∀ x ∈ l, 0 ≤ x ∧ x < n) ∧ 2 ≤ n ∧ n ≤ 16 ∧ 1 ≤ l.length ∧ l.length ≤ 6) = decide (VoiN n l) := by
    rw [decide_eq_decide]; unfold VoiN
    exact ⟨fun h => ⟨h.2.1, h.2.2.1, h.2.2.2.1, h.2.2.2.2, h.1⟩, fun h => ⟨h.2.2.2.2, h.1, h.2.1, h.2.2.1, h.2.2.2.1⟩⟩
  rw [e] at h
  exact h
theorem refTwo_ev (n : Int) (a b : List Int) (ha : a.length < 9223372036854775808) (hb : b.length < 9223372036854775808) : Ev (fun q => sackbutref06_Two.f q n a b) (decide (TwoN n a b)) := by
  unfold sackbutref06_Two.f
  refine Ev.bind (refVoicing_ev n a ha) ?_
  by_cases h1 : VoiN n a
  · simp only [h1, decide_true, if_true]
    refine Ev.bind (refVoicing_ev n b hb) ?_
    by_cases h2 : VoiN n b
    · simp only [h2, decide_true, if_true]
      have e : ((a.length : Int) == (b.length : Int)) = decide (TwoN n a b) := by
        rw [Bool.eq_iff_iff, beq_iff_eq, decide_eq_true_eq]; unfold TwoN
        exact ⟨fun h => ⟨h1, h2, by omega⟩, fun h => by have := h.2.2; omega⟩
      rw [e]; exact Ev.some _
    · simp only [h2, decide_false, Bool.false_eq_true, if_false]
      rw [decide_eq_false (fun h => h2 h.2.1)]; exact Ev.some _
  · simp only [h1, decide_false, Bool.false_eq_true, if_false]
    rw [decide_eq_false (fun h => h1 h.1)]; exact Ev.some _
theorem list9_f (l : List Int) : sackbutlaw06_list.f l = some (l.take 9) := by
  unfold sackbutlaw06_list.f
  rw [mn_eq, if_pos (by omega), if_pos (by omega)]
  have e : (min (l.length : Int) 9).toNat = min l.length 9 := by omega
  have e2 : l.take (min l.length 9) = l.take 9 := by
    rw [Nat.min_comm]; exact (List.take_eq_take_min ..).symm
  rw [e, e2]
  unfold slices_Clone_int_int.f
  rw [if_pos (by rw [List.length_take]; omega)]
  rfl
theorem voi_take (n : Int) (l : List Int) : VoiN n (l.take 9) ↔ VoiN n l := by
  rcases Nat.lt_or_ge 9 l.length with h | h
  · constructor
    · intro hr; have := hr.2.2.2.1; rw [List.length_take] at this; omega
    · intro hr; have := hr.2.2.2.1; omega
  · rw [List.take_of_length_le h]
theorem two_take (n : Int) (a b : List Int) : TwoN n (a.take 9) (b.take 9) ↔ TwoN n a b := by
  unfold TwoN
  rw [voi_take, voi_take]
  constructor
  · rintro ⟨h1, h2, h3⟩
    have := h1.2.2.2.1; have := h2.2.2.2.1
    rw [List.take_of_length_le (by omega), List.take_of_length_le (by omega)] at h3
    exact ⟨h1, h2, h3⟩
  · rintro ⟨h1, h2, h3⟩
    have := h1.2.2.2.1; have := h2.2.2.2.1
    rw [List.take_of_length_le (by omega), List.take_of_length_le (by omega)]
    exact ⟨h1, h2, h3⟩
theorem voi_take9 {n : Int} {l : List Int} (h : VoiN n l) : l.take 9 = l := List.take_of_length_le (by have := h.2.2.2.1; omega)
theorem lead_take {k : Nat} (hk : k ≤ 6) (l : List Int) : LeadOf k (l.take 9) ↔ LeadOf k l := by
  rcases Nat.lt_or_ge 9 l.length with h | h
  · constructor
    · intro hr; have := hr.1; rw [List.length_take] at this; omega
    · intro hr; have := hr.1; omega
  · rw [List.take_of_length_le h]
theorem awake_f : sackbutlaw06_awake.f = some true := by
  have h : TwoN 12 [0] [11] := by decide
  have e : voices_Cost.f 12 [0] [11] = some (1, 0) := by
    unfold voices_Cost.f
    rw [if_pos h]
    have : bestV 12 [0] [11] = (some [0], 1) := by decide
    rw [this]
  unfold sackbutlaw06_awake.f
  rw [e]
  rfl
theorem refMod_f {n x : Int} (hn : 2 ≤ n) (hn2 : n ≤ 16) : sackbutref06_mod.f x n = some (x % n) := by
  unfold sackbutref06_mod.f
  rw [if_neg (by omega), tmod_mod (by omega) (by omega)]
theorem refMove_f {n x y : Int} (hn : 2 ≤ n) (hn2 : n ≤ 16) (hx : 0 ≤ x ∧ x < n) (hy : 0 ≤ y ∧ y < n) : sackbutref06_Move.f n x y = some (mvN n x y) := by
  have h1 := Int.emod_nonneg (y - x) (show n ≠ 0 by omega)
  have h2 := Int.emod_lt_of_pos (y - x) (show 0 < n by omega)
  unfold sackbutref06_Move.f
  rw [wrap_id (n := y - x) (by omega) (by omega), refMod_f hn hn2, Option.bind_some, wrap_id (n := 2 * ((y - x) % n)) (by omega) (by omega)]
  unfold mvN
  by_cases h : 2 * ((y - x) % n) > n
  · rw [if_neg (by omega), if_pos h, wrap_id (by omega) (by omega)]
  · rw [if_pos (by omega), if_neg h]
theorem refDistance_f {n x y : Int} (hn : 2 ≤ n) (hn2 : n ≤ 16) (hx : 0 ≤ x ∧ x < n) (hy : 0 ≤ y ∧ y < n) : sackbutref06_Distance.f n x y = some (dsN n x y) := by
  have := mvN_bd (x := x) (y := y) hn
  unfold sackbutref06_Distance.f
  rw [refMove_f hn hn2 hx hy, Option.bind_some, Option.bind_some, wrap_id (by omega) (by omega), mx_eq]
  rfl
theorem refPrice_ev {n : Int} {a b : List Int} (ha : VoiN n a) (hb : VoiN n b) (full : List Int) (hf : full.length ≤ a.length) (hk : ∀ k ∈ full, 0 ≤ k ∧ k < b.length) : Ev (fun k => sackbutref06_Price.f k n a b full) (prI n a b full 0) := by
  obtain ⟨hn, hn2, ha1, ha2, hax⟩ := ha
  obtain ⟨_, _, hb1, hb2, hbx⟩ := hb
  have loop : ∀ (rest pre : List Int) (acc : Int), full = pre ++ rest → 0 ≤ acc → acc ≤ 16 * pre.length →
      Ev (fun k => sackbutref06_Price.l0 k n a b acc full (full.length : Int) (pre.length : Int)) (acc + prI n a b rest pre.length) := by
    intro rest
    induction rest with
    | nil =>
      intro pre acc hp h0 h1
      have p1 : ¬ (pre.length : Int) < (full.length : Int) := by rw [hp]; simp
      refine Ev.succ ?_
      simp only [sackbutref06_Price.l0, if_neg p1, prI, Int.add_zero]
      exact Ev.some _
    | cons x rest ih =>
      intro pre acc hp h0 h1
      have hlen : full.length = pre.length + (rest.length + 1) := by rw [hp]; simp
      have p1 : (pre.length : Int) < (full.length : Int) := by omega
      have p0 : (0 : Int) ≤ (pre.length : Int) := by omega
      have pa : (pre.length : Int) < (a.length : Int) := by omega
      have hrd : rd full (pre.length : Int) = x := mid_rd hp
      have hx := hk x (by rw [hp]; simp)
      have hda := getD_mem (l := a) (i := pre.length) (by omega)
      have hdb := getD_mem (l := b) (i := x.toNat) (by omega)
      have e1 : rd a (pre.length : Int) = a.getD pre.length 0 := rd_nat _ _
      have e2 : rd b x = b.getD x.toNat 0 := rfl
      have hd := dsN_bd (n := n) (x := a.getD pre.length 0) (y := b.getD x.toNat 0) hn
      have hdf := refDistance_f hn hn2 (hax _ hda) (hbx _ hdb)
      have hw : wrap64 ((pre.length : Int) + 1) = ((pre ++ [x]).length : Int) := by rw [wrap_id (by omega) (by omega)]; simp
      have hw2 : wrap64 (acc + dsN n (a.getD pre.length 0) (b.getD x.toNat 0)) = acc + dsN n (a.getD pre.length 0) (b.getD x.toNat 0) := wrap_id (by omega) (by omega)
      have hl1 : (pre ++ [x]).length = pre.length + 1 := by simp
      have go := ih (pre ++ [x]) (acc + dsN n (a.getD pre.length 0) (b.getD x.toNat 0)) (by rw [hp]; simp) (by omega) (by rw [hl1]; omega)
      rw [hl1] at go
      refine Ev.succ ?_
      simp only [sackbutref06_Price.l0, if_pos p1, if_pos p0, if_pos pa, hrd, if_pos hx.1, if_pos hx.2, e1, e2]
      refine Ev.bind_some hdf ?_
      rw [hw, hw2, hl1]
      simp only [prI]
      rw [← Int.add_assoc]
      exact go
  have h := loop full [] 0 rfl (Int.le_refl _) (by simp)
  rw [Int.zero_add] at h
  exact h

end Go.Proofs.Ytdnjbjcfbdclfaa.P
namespace Go.Proofs.Ytdnjbjcfbdclfaa.P
open Go.RowKit Go.Proofs.YtdnjbjcfbdclfaaW.PrintWords Go.Proofs.YtdnjbjcfbdclfaaW.PrintLast Go.Proofs.YtdnjbjcfbdclfaaW.PrintMore
attribute [local go_sem] max2_int min2_int max_two min_two max_three min_three max_four min_four   -- for this text's walks alone
set_option linter.unusedVariables false
set_option linter.unusedSimpArgs false

/-! the document's first cheapest leading -/
def rstep (pr : List Nat → Int) (s : Option (List Nat)) (l : List Nat) : Option (List Nat) := match s with
  | none => some l
  | some b => if pr l < pr b then some l else some b
def rfold (pr : List Nat → Int) (L : List (List Nat)) : Option (List Nat) := L.foldl (rstep pr) none
theorem rfold_snoc (pr : List Nat → Int) (L : List (List Nat)) (l : List Nat) : rfold pr (L ++ [l]) = rstep pr (rfold pr L) l := by unfold rfold; rw [List.foldl_append]; rfl
theorem fold_same (pr : List Nat → Int) : ∀ (L : List (List Nat)) (s : Option (List Nat) × Int), (∀ b, s.1 = some b → s.2 = pr b) → (L.foldl (bstep pr (fun _ => true)) s).1 = L.foldl (rstep pr) s.1 ∧ ∀ b, (L.foldl (bstep pr (fun _ => true)) s).1 = some b → (L.foldl (bstep pr (fun _ => true)) s).2 = pr b
  | [], s, h => ⟨rfl, h⟩
  | l :: L, s, h => by
    rw [List.foldl_cons, List.foldl_cons]
    have h1 : (bstep pr (fun _ => true) s l).1 = rstep pr s.1 l ∧ ∀ b, (bstep pr (fun _ => true) s l).1 = some b → (bstep pr (fun _ => true) s l).2 = pr b := by
      obtain ⟨s1, s2⟩ := s
      cases s1 with
      | none =>
        unfold bstep rstep
        rw [if_pos ⟨.inl rfl, rfl⟩]
        exact ⟨rfl, fun b hb => by cases hb; rfl⟩
      | some b =>
        have hb := h b rfl
        simp only at hb
        unfold bstep rstep
        by_cases hlt : pr l < pr b
        · rw [if_pos ⟨.inr (by rw [hb]; exact hlt), rfl⟩]
          exact ⟨by simp only; rw [if_pos hlt], fun c hc => by cases hc; rfl⟩
        · rw [if_neg (fun h => h.1.elim (fun h => by cases h) (fun h => hlt (by rw [← hb]; exact h)))]
          exact ⟨by simp only; rw [if_neg hlt], fun c hc => by cases hc; exact hb⟩
    have := fold_same pr L (bstep pr (fun _ => true) s l) h1.2
    rw [h1.1] at this
    exact this
theorem best_ref (n : Int) (a b : List Int) : rfold (prV n a b) (rlead a.length a.length []) = (bestV n a b).1 ∧ ∀ l, (bestV n a b).1 = some l → (bestV n a b).2 = prV n a b l := by
  have h := fold_same (prV n a b) (ldg a.length a.length 0 []) (none, 0) (fun b hb => by cases hb)
  unfold bestV bfold rfold
  rw [← ldg_all]
  exact ⟨h.1.symm, h.2⟩
theorem add_block_ (a : Addr) (n : Nat) : (a.add n).block = a.block := by unfold Addr.add; split <;> rfl
theorem own_some_ {w : World} {base : Nat} {e : TypeId} {v : Value} {vs : List Value} (h : w.ownsRow base e 1 v vs.length vs) (hne : 0 < vs.length) : ∃ ad c, v = .slice (some ad) vs.length c ∧ (∀ j u, vs[j]? = some u → w.cell? (ad.add j) = some u) ∧ ad.block < w.heap.size := by
  obtain ⟨g, c, e1, hc⟩ := own_some h hne
  refine ⟨⟨g, 0, none⟩, c, e1, hc, own_lt h g (by rw [e1]; rfl)⟩
theorem rfold_mem (pr : List Nat → Int) : ∀ (L : List (List Nat)) (s : Option (List Nat)) (b : List Nat), L.foldl (rstep pr) s = some b → b ∈ L ∨ s = some b
  | [], s, b, h => .inr h
  | l :: L, s, b, h => by
    rw [List.foldl_cons] at h
    rcases rfold_mem pr L _ b h with h1 | h1
    · exact .inl (by simp [h1])
    · unfold rstep at h1
      split at h1
      · cases h1; exact .inl (by simp)
      · split at h1
        · cases h1; exact .inl (by simp)
        · exact .inr h1
def sackbutref06_Lead.f (a0 : Int) (l1 l2 : List Int) : Option (List Int) := if TwoN a0 l1 l2 then some (optL (bestV a0 l1 l2).1) else none
theorem rlead_all {k : Nat} : ∀ (r : Nat) (cur : List Nat), cur.length + r = k → (∀ y ∈ cur, y < k) → ∀ l ∈ rlead k r cur, l.length = k ∧ ∀ y ∈ l, y < k
  | 0, cur, h, hc, l, hl => by
    simp only [rlead, List.mem_singleton] at hl
    subst hl; exact ⟨by omega, hc⟩
  | r + 1, cur, h, hc, l, hl => by
    simp only [rlead, List.mem_flatMap, List.mem_range] at hl
    obtain ⟨x, hx, hl⟩ := hl
    split at hl
    · cases hl
    · exact rlead_all r (cur ++ [x]) (by rw [List.length_append, List.length_singleton]; omega) (fun y hy => by
        rcases List.mem_append.1 hy with h | h
        · exact hc y h
        · rw [List.mem_singleton] at h; omega) l hl
theorem refPrice_nums {n : Int} {a b : List Int} (h : TwoN n a b) (x : List Nat) (hx : x.length = a.length) (hl : ∀ y ∈ x, y < a.length) : ∃ kk, sackbutref06_Price.f kk n a b (nums x) = some (prV n a b x) :=
  Ev.rounds (g := fun k => sackbutref06_Price.f k n a b (nums x)) (refPrice_ev h.1 h.2.1 (nums x) (by rw [nums_length]; omega) (fun k hk => by
    unfold nums at hk
    rw [List.mem_map] at hk
    obtain ⟨y, hy, rfl⟩ := hk
    have := hl y hy
    have := h.2.2
    show (0 : Int) ≤ (y : Int) ∧ (y : Int) < _
    omega))
set_option maxHeartbeats 8000000 in
set_option maxRecDepth 100000 in
theorem sackbutref06_Lead.calls (a0 : Int) (A1 : Option Addr) (c1 : Nat) (l1 : List Int) (A2 : Option Addr) (c2 : Nat) (l2 : List Int) (r : List Int) (w : World) (hr1 : Kd.C (Kd.int .i64) w A1 l1.length l1) (hc1 : l1.length ≤ c1) (hr2 : Kd.C (Kd.int .i64) w A2 l2.length l2) (hc2 : l2.length ≤ c2) (h : sackbutref06_Lead.f a0 l1 l2 = some r) :
    Calls Try.prog 22 #[.int .i64 a0, .slice A1 l1.length c1, .slice A2 l2.length c2] w fun e w' => ∃ v0_ : Value, e = .returned v0_ ∧ Kd.R (Kd.int .i64) 3 w' w.heap.size (fun _ => True) v0_ r ∧ Below w.heap.size w w' := by
  unfold sackbutref06_Lead.f at h
  by_cases hc : TwoN a0 l1 l2
  · rw [if_pos hc] at h
    have hres := Option.some.inj h
    have HRES := Aside0.mk hres
    have HT := Aside0.mk hc
    have HR1 := Aside0.mk hr1
    have HR2 := Aside0.mk hr2
    have HC1 := Aside0.mk hc1
    have HC2 := Aside0.mk hc2
    have hn1 := hc.1.2.2.1
    have hn6 := hc.1.2.2.2.1
    obtain ⟨LL, hLL⟩ : ∃ LL, rlead l1.length l1.length [] = LL := ⟨_, rfl⟩
    have HLL := Aside0.mk hLL
    have hrun := refLeads_calls l1.length hn6 w.heap.size l1.length none 0 [] w (by simp) (Nat.le_refl _) (Kd.R_nil _ _ _ _ _)
    rw [hLL] at hrun
    have HRUN := Aside0.mk hrun
    have HALL := Aside0.mk (show ∀ l ∈ LL, l.length = l1.length ∧ ∀ y ∈ l, y < l1.length from fun l hl => by
      rw [← hLL] at hl
      exact rlead_all l1.length [] (by simp) (by simp) l hl)
    have hlenLL : LL.length ≤ 46656 := by
      rw [← hLL]
      exact Nat.le_trans (rlead_len _ _) (Nat.le_trans (Nat.pow_le_pow_left hn6 _) (Nat.pow_le_pow_right (by omega) hn6))
    have hposLL : 0 < LL.length := by rw [← hLL]; exact List.length_pos_iff.2 (rlead_ne _ _ (by simp))
    have HPR := Aside0.mk (fun l hl => refPrice_nums hc l (HALL.out l hl).1 (HALL.out l hl).2)
    have q22 : ∀ (w : World) (a : Option Addr) (n c n' c' : Nat), (binOp .eql 22 (.slice a n c) (.slice none n' c')).run Try.prog w = .ok (.bool a.isNone) w := fun w a n c n' c' => Lib.run_eql_slice_nil w _ _ a n c n' c' Try.underlying22
    clear hr1 hr2 hc1 hc2 hc h hres hrun hLL
    go_enter Try.func22, Try.ntmps22
    go_wp2_with fail
    refine HRUN.out.mono ?_
    rintro e w1 ⟨v1, vs, rfl, ho1, ha1, hb1⟩
    have hvl := ha1.length
    obtain ⟨ad, c9, e1, hcell, hg1⟩ := own_some_ ho1 (by omega)
    subst e1
    rw [hvl] at ho1 ⊢
    have HA1 := Aside0.mk ha1
    have HC := Aside0.mk hcell
    have HB1 := Aside0.mk hb1
    have HG1 := Aside0.mk hg1
    clear ho1 ha1 hcell hb1 hvl HRUN hg1
    go_wp2
    go_loopg [7, 14] LL.length (fun gg s7 s14 wr => ∃ (i : Nat) (Ab : Option Addr) (cb : Nat), s14 = .int .i64 i ∧ s7 = .slice Ab (optL (rfold (prV a0 l1 l2) (LL.take i))).length cb ∧ Aside0 (i + gg = LL.length) ∧ Aside0 (Kd.R (Kd.int .i64) 3 wr w.heap.size (fun _ => True) (.slice Ab (optL (rfold (prV a0 l1 l2) (LL.take i))).length cb) (optL (rfold (prV a0 l1 l2) (LL.take i)))) ∧ Aside0 (Ab.isNone = (rfold (prV a0 l1 l2) (LL.take i)).isNone) ∧ Aside0 (Below w1.heap.size w1 wr))
    case atStart => exact ⟨0, none, 0, rfl, by simp [rfold, optL, nums], ⟨by omega⟩, ⟨Kd.R_nil _ _ _ _ _⟩, ⟨rfl⟩, ⟨Below.refl _ _⟩⟩
    case round =>
      obtain ⟨i, Ab, cb, rfl, rfl, HI, HR, HN, HB⟩ := hrel
      obtain ⟨wo, rfl⟩ : ∃ wo : World, wo = wr := ⟨wr, rfl⟩
      by_cases hlt : i < LL.length
      · have hltz : (i : Int) < (LL.length : Int) := by omega
        obtain ⟨l, hl⟩ : ∃ l, LL[i]? = some l := ⟨LL[i], List.getElem?_eq_getElem hlt⟩
        have hlm : l ∈ LL := List.mem_of_getElem? hl
        obtain ⟨vl, hvl, A, c, e, hRl⟩ := HA1.out.get i l hl
        subst e
        have hcell : wo.cell? (ad.add i) = some (.slice A (nums l).length c) := (HB.out.cell (p := ad.add i) (by rw [add_block_]; exact HG1.out)).trans (HC.out i _ hvl)
        have hRw := Kd.R_below hRl HB.out
        have HRL := Aside0.mk hRw
        have HRLC := Aside0.mk (Kd.R_reads' hRw)
        have HTK := Aside0.mk (show LL.take (i + 1) = LL.take i ++ [l] by rw [List.take_add_one, hl]; rfl)
        obtain ⟨kk, hkk⟩ := HPR.out l hlm
        have HP1 := Aside0.mk (fun (w2 : World) (hb : Below wo.heap.size wo w2) => sackbutref06_Price.calls kk a0 A1 c1 l1 A2 c2 l2 A c (nums l) (prV a0 l1 l2 l) w2 (Kd.C_below (Kd.C_below (Kd.C_below HR1.out HB1.out) (HB.out.mono HB1.out.size |> fun h => HB.out)) hb) HC1.out (Kd.C_below (Kd.C_below (Kd.C_below HR2.out HB1.out) HB.out) hb) HC2.out (Kd.C_below HRLC.out.2.2 hb) HRLC.out.2.1 hkk)
        have HAS := Aside0.mk (show A.isNone = false from by
          obtain ⟨ad5, e5, _⟩ := Kd.at_int HRLC.out.2.2 0 (by omega) (by rw [nums_length, (HALL.out l hlm).1]; omega)
          rw [e5]; rfl)
        clear hl hlm hvl hRl hRw hkk
        have HRF := Aside0.mk (show rfold (prV a0 l1 l2) (LL.take (i + 1)) = rstep (prV a0 l1 l2) (rfold (prV a0 l1 l2) (LL.take i)) l by rw [HTK.out, rfold_snoc])
        have HMEM := Aside0.mk (fun b (hb : rfold (prV a0 l1 l2) (LL.take i) = some b) => HPR.out b (List.mem_of_mem_take ((rfold_mem _ _ _ b hb).elim id (fun h => by cases h))))
        generalize rfold (prV a0 l1 l2) (LL.take i) = bo at HR HN HRF HMEM ⊢
        have HRLB := HRL
        cases bo with
        | none =>
          have hAb : Ab = none := by
            have := HN.out
            cases Ab with
            | none => rfl
            | some _ => cases this
          subst hAb
          have HF := Aside0.mk (show rfold (prV a0 l1 l2) (LL.take (i + 1)) = some l from HRF.out)
          clear HMEM HRF
          generalize hoz : (optL (none : Option (List Nat))).length = oz
          clear hoz
          go_wp2
          go_roundg (gk - 1)
          case measure => have := HI.out; omega
          case rel => exact ⟨i + 1, A, c, by go_num, by rw [HF.out]; rfl, ⟨by have := HI.out; omega⟩, ⟨by rw [HF.out]; exact HRL.out⟩, ⟨by rw [HF.out]; exact HAS.out⟩, HB⟩
        | some b =>
          obtain ⟨ab, hAb⟩ : ∃ ab, Ab = some ab := by
            have := HN.out
            cases Ab with
            | none => cases this
            | some ab => exact ⟨ab, rfl⟩
          subst hAb
          obtain ⟨kk2, hkk2⟩ := HMEM.out b rfl
          have HF := Aside0.mk (show rfold (prV a0 l1 l2) (LL.take (i + 1)) = if prV a0 l1 l2 l < prV a0 l1 l2 b then some l else some b from HRF.out)
          have HRB := Aside0.mk (show Kd.R (Kd.int .i64) 3 wo w.heap.size (fun _ => True) (.slice (some ab) (nums b).length cb) (nums b) from HR.out)
          have HRBC := Aside0.mk (Kd.R_reads' HRB.out)
          have HP2 := Aside0.mk (fun (w2 : World) (hb : Below wo.heap.size wo w2) => sackbutref06_Price.calls kk2 a0 A1 c1 l1 A2 c2 l2 (some ab) cb (nums b) (prV a0 l1 l2 b) w2 (Kd.C_below (Kd.C_below (Kd.C_below HR1.out HB1.out) HB.out) hb) HC1.out (Kd.C_below (Kd.C_below (Kd.C_below HR2.out HB1.out) HB.out) hb) HC2.out (Kd.C_below HRBC.out.2.2 hb) HRBC.out.2.1 hkk2)
          clear HMEM HRF hkk2
          rw [show optL (some b) = nums b from rfl]
          generalize hlb : (nums b).length = lb at *
          have HLB := Aside0.mk hlb
          clear hlb
          generalize hp1 : prV a0 l1 l2 l = p1 at *
          have HP1E := Aside0.mk hp1
          clear hp1
          generalize hp2 : prV a0 l1 l2 b = p2 at *
          have HP2E := Aside0.mk hp2
          clear hp2
          by_cases hlt2 : p1 < p2
          · have q1 : decide (p1 < p2) = true := decide_eq_true hlt2
            rw [if_pos hlt2] at HF
            clear hlt2
            go_wp2_with fail
            refine (HP1.out _ (Below.refl _ _)).mono ?_
            rintro e w2 ⟨rfl, hb2⟩
            have HB2 := Aside0.mk hb2
            clear hb2
            go_wp2_with fail
            refine (HP2.out _ HB2.out).mono ?_
            rintro e w3 ⟨rfl, hb3⟩
            have HB3 := Aside0.mk (HB2.out.trans (hb3.mono HB2.out.size))
            clear hb3
            go_wp2
            go_roundg (gk - 1)
            case measure => have := HI.out; omega
            case rel => exact ⟨i + 1, A, c, by go_num, by rw [HF.out]; rfl, ⟨by have := HI.out; omega⟩, ⟨by rw [HF.out]; exact Kd.R_below HRL.out HB3.out⟩, ⟨by rw [HF.out]; exact HAS.out⟩, ⟨HB.out.trans (HB3.out.mono HB.out.size)⟩⟩
          · have q1 : decide (p1 < p2) = false := decide_eq_false hlt2
            rw [if_neg hlt2] at HF
            clear hlt2
            go_wp2_with fail
            refine (HP1.out _ (Below.refl _ _)).mono ?_
            rintro e w2 ⟨rfl, hb2⟩
            have HB2 := Aside0.mk hb2
            clear hb2
            go_wp2_with fail
            refine (HP2.out _ HB2.out).mono ?_
            rintro e w3 ⟨rfl, hb3⟩
            have HB3 := Aside0.mk (HB2.out.trans (hb3.mono HB2.out.size))
            clear hb3
            go_wp2
            go_roundg (gk - 1)
            case measure => have := HI.out; omega
            case rel => exact ⟨i + 1, some ab, cb, by go_num, by rw [HF.out, ← HLB.out]; rfl, ⟨by have := HI.out; omega⟩, ⟨by rw [HF.out]; have h5 := Kd.R_below HRB.out HB3.out; rw [← HLB.out] at h5; exact h5⟩, ⟨by rw [HF.out]; rfl⟩, ⟨HB.out.trans (HB3.out.mono HB.out.size)⟩⟩
      · have hil : i = LL.length := by have := HI.out; omega
        have HIL := Aside0.mk hil
        clear hil
        have hltz : ¬ (i : Int) < (LL.length : Int) := by omega
        have HFIN := Aside0.mk (show rfold (prV a0 l1 l2) (LL.take i) = (bestV a0 l1 l2).1 by
          rw [HIL.out, List.take_length, ← HLL.out]; exact (best_ref a0 l1 l2).1)
        go_wp2
        go_ret
        refine ⟨_, rfl, ?_, HB1.out.trans (HB.out.mono HB1.out.size)⟩
        have h1 := HR.out
        rw [HFIN.out] at h1
        rw [← HRES.out, ← HFIN.out]
        rw [← HFIN.out] at h1
        exact h1
  · rw [if_neg hc] at h; cases h

end Go.Proofs.Ytdnjbjcfbdclfaa.P
namespace Go.Proofs.Ytdnjbjcfbdclfaa.P
open Go.RowKit Go.Proofs.YtdnjbjcfbdclfaaW.PrintWords Go.Proofs.YtdnjbjcfbdclfaaW.PrintLast Go.Proofs.YtdnjbjcfbdclfaaW.PrintMore
attribute [local go_sem] max2_int min2_int max_two min_two max_three min_three max_four min_four   -- for this text's walks alone
set_option linter.unusedVariables false
set_option linter.unusedSimpArgs false

/-! ### sackbutref06_Cost: function 20 -/
def sackbutref06_Cost.f (k : Nat) (a0 : Int) (l1 : List Int) (l2 : List Int) : Option (Int) := (sackbutref06_Lead.f a0 l1 l2).bind fun t1001 => ((sackbutref06_Price.f k a0 l1 l2 t1001).bind fun t1004 => (some t1004))
theorem sackbutref06_Cost.mono : ∀ a0 a1 a2 k, LeO (sackbutref06_Cost.f k a0 a1 a2) (sackbutref06_Cost.f (k + 1) a0 a1 a2) := by
  intro a0 a1 a2 k
  unfold sackbutref06_Cost.f
  repeat' first
      | (with_reducible exact sackbutref06_Price.mono _ _ _ _ _)
      | (with_reducible exact LeO.refl _)
      | (with_reducible exact LeO.none _)
      | (with_reducible refine LeO.ite ?_ ?_)
      | (with_reducible refine LeO.bind ?_ (fun _ => ?_))
      | exact sackbutref06_Price.mono _ _ _ _ _
      | exact LeO.none _
      | refine LeO.ite ?_ ?_
      | refine LeO.bind ?_ (fun _ => ?_)
set_option maxHeartbeats 8000000 in
set_option maxRecDepth 100000 in
theorem sackbutref06_Cost.calls (k : Nat) (a0 : Int) (A1 : Option Addr) (c1 : Nat) (l1 : List Int) (A2 : Option Addr) (c2 : Nat) (l2 : List Int) (r : Int) (w : World) (hr1 : Kd.C (Kd.int .i64) w A1 l1.length l1) (hc1 : l1.length ≤ c1) (hr2 : Kd.C (Kd.int .i64) w A2 l2.length l2) (hc2 : l2.length ≤ c2) (h : sackbutref06_Cost.f k a0 l1 l2 = some r) :
    Calls Try.prog 20 #[.int .i64 a0, .slice A1 l1.length c1, .slice A2 l2.length c2] w fun e w' => e = .returned (.int .i64 r) ∧ Below w.heap.size w w' := by
  have HR1 := Aside0.mk hr1
  have HC1 := Aside0.mk hc1
  clear hr1 hc1
  have HR2 := Aside0.mk hr2
  have HC2 := Aside0.mk hc2
  clear hr2 hc2
  have HB := Aside0.mk (Below.refl w.heap.size w)
  have H : ((sackbutref06_Lead.f a0 l1 l2).bind fun t1001 => ((sackbutref06_Price.f k a0 l1 l2 t1001).bind fun t1004 => (some t1004))) = some r := h
  clear h
  replace H := Option.bind_eq_some_iff.mp H
  obtain ⟨t1001, A40, H⟩ := H
  replace H : ((sackbutref06_Price.f k a0 l1 l2 t1001).bind fun t1004 => (some t1004)) = some r := H
  have A4 := Aside0.mk A40
  clear A40
  replace H := Option.bind_eq_some_iff.mp H
  obtain ⟨t1004, A50, H⟩ := H
  replace H : (some t1004) = some r := H
  have A5 := Aside0.mk A50
  clear A50
  obtain rfl := Option.some.inj H
  go_enter Try.func20, Try.ntmps20
  go_wp2_with (first | ((with_reducible refine gate_callee (f := 22) rfl ?_); refine goesL_ (some 13) rfl rfl Try.func22 (by kernel_rfl) rfl #[.int .i64 a0, .slice A1 l1.length c1, .slice A2 l2.length c2] rfl (by (try simp only [List.map_toArray, List.map_cons, List.map_nil]); first | done | rfl | (simp only [List.length_drop, List.length_take]; rfl)) ?_; (with_reducible refine (sackbutref06_Lead.calls a0 _ _ l1 _ _ l2 t1001 _ ?side1 ?side2 ?side3 ?side4 A4.out).mono ?_); (case side1 => repeat (first | exact HR1.out | (with_reducible refine Kd.C_alloc ?_ _) | (with_reducible refine Kd.C_drewN ?_ _) | (with_reducible refine Kd.C_drew ?_))); (case side2 => exact HC1.out); (case side3 => repeat (first | exact HR2.out | (with_reducible refine Kd.C_alloc ?_ _) | (with_reducible refine Kd.C_drewN ?_ _) | (with_reducible refine Kd.C_drew ?_))); (case side4 => exact HC2.out); rintro e w6 ⟨v1002, rfl, ho0, hb⟩; refine ⟨_, rfl, ?_⟩; have n0_ := Aside0.mk (Kd.R_lower ho0 (below_size (by repeat (first | (with_reducible first | exact HB.out | apply below_alloc | apply pw_below_drewN | apply below_drew1) | exact HB.out)))); have n1_ := Aside0.mk (below_step (by repeat (first | (with_reducible first | exact HB.out | apply below_alloc | apply pw_below_drewN | apply below_drew1) | exact HB.out)) hb); clear HB; have HO1003 := n0_; have HB := n1_; clear n0_ n1_; (try clear hb); (try clear hb2); (try clear hk); (try clear hi); (try clear ho0); obtain ⟨Ao7, co7, eo7⟩ := Kd.R_slice HO1003.out; subst eo7) | ((with_reducible refine gate_callee (f := 27) rfl ?_); refine goesL_ (some 14) rfl rfl Try.func27 (by kernel_rfl) rfl #[.int .i64 a0, .slice A1 l1.length c1, .slice A2 l2.length c2, .slice Ao7 t1001.length co7] rfl (by (try simp only [List.map_toArray, List.map_cons, List.map_nil]); first | done | rfl | (simp only [List.length_drop, List.length_take]; rfl)) ?_; (with_reducible refine (sackbutref06_Price.calls k a0 _ _ l1 _ _ l2 _ _ t1001 t1004 _ ?side1 ?side2 ?side3 ?side4 ?side5 ?side6 A5.out).mono ?_); (case side1 => repeat (first | exact (Kd.C_below HR1.out HB.out) | (with_reducible refine Kd.C_alloc ?_ _) | (with_reducible refine Kd.C_drewN ?_ _) | (with_reducible refine Kd.C_drew ?_))); (case side2 => exact HC1.out); (case side3 => repeat (first | exact (Kd.C_below HR2.out HB.out) | (with_reducible refine Kd.C_alloc ?_ _) | (with_reducible refine Kd.C_drewN ?_ _) | (with_reducible refine Kd.C_drew ?_))); (case side4 => exact HC2.out); (case side5 => repeat (first | exact (Kd.R_reads' HO1003.out).2.2 | (with_reducible refine Kd.C_alloc ?_ _) | (with_reducible refine Kd.C_drewN ?_ _) | (with_reducible refine Kd.C_drew ?_))); (case side6 => exact (Kd.R_reads' HO1003.out).2.1); rintro e w8 ⟨rfl, hb⟩; refine ⟨_, rfl, ?_⟩; have n0_ := Aside0.mk (Kd.R_below (by (with_reducible repeat (first | apply Kd.R_alloc | apply Kd.R_drewN | apply Kd.R_drew)); exact HO1003.out) hb); have n1_ := Aside0.mk (below_step (by repeat (first | (with_reducible first | exact HB.out | apply below_alloc | apply pw_below_drewN | apply below_drew1) | exact HB.out)) hb); clear HO1003; clear HB; have HO1003 := n0_; have HB := n1_; clear n0_ n1_; (try clear hb); (try clear hb2); (try clear hk); (try clear hi)))
  go_ret
  exact ⟨by first | rfl | (simp [errW_none, errW_some] <;> rfl) | (simp [*, errW_none, errW_some] <;> rfl), by repeat (first | (with_reducible first | exact HB.out | apply below_alloc | apply pw_below_drewN | apply below_drew1) | exact HB.out)⟩

end Go.Proofs.Ytdnjbjcfbdclfaa.P
namespace Go.Proofs.Ytdnjbjcfbdclfaa.P
open Go.RowKit Go.Proofs.YtdnjbjcfbdclfaaW.PrintWords Go.Proofs.YtdnjbjcfbdclfaaW.PrintLast Go.Proofs.YtdnjbjcfbdclfaaW.PrintMore
attribute [local go_sem] max2_int min2_int max_two min_two max_three min_three max_four min_four   -- for this text's walks alone
set_option linter.unusedVariables false
set_option linter.unusedSimpArgs false

/-! the best leading is one -/
theorem rstep_some (pr : List Nat → Int) : ∀ (L : List (List Nat)) (b : List Nat), ∃ c, L.foldl (rstep pr) (some b) = some c
  | [], b => ⟨b, rfl⟩
  | l :: L, b => by
    rw [List.foldl_cons]
    unfold rstep
    simp only
    split
    · exact rstep_some pr L l
    · exact rstep_some pr L b
theorem rfold_some (pr : List Nat → Int) {L : List (List Nat)} (h : L ≠ []) : ∃ b ∈ L, rfold pr L = some b := by
  cases L with
  | nil => exact absurd rfl h
  | cons l L =>
    obtain ⟨c, hc⟩ := rstep_some pr L l
    have e : rfold pr (l :: L) = some c := hc
    refine ⟨c, ?_, e⟩
    exact (rfold_mem pr (l :: L) none c e).elim id (fun h => by cases h)
theorem bestV_some {n : Int} {a b : List Int} (h : TwoN n a b) : ∃ l, (bestV n a b).1 = some l ∧ (bestV n a b).2 = prV n a b l ∧ l.length = a.length ∧ ∀ y ∈ l, y < a.length := by
  obtain ⟨l, hl, e⟩ := rfold_some (prV n a b) (rlead_ne (k := a.length) a.length [] (by simp))
  obtain ⟨h1, h2⟩ := best_ref n a b
  rw [h1] at e
  have := rlead_all a.length [] (by simp) (by simp) l hl
  exact ⟨l, e, h2 l e, this.1, this.2⟩
theorem refCost_ev {n : Int} {a b : List Int} (h : TwoN n a b) : Ev (fun k => sackbutref06_Cost.f k n a b) (bestV n a b).2 := by
  obtain ⟨l, e1, e2, h1, h2⟩ := bestV_some h
  have e : sackbutref06_Lead.f n a b = some (nums l) := by unfold sackbutref06_Lead.f; rw [if_pos h, e1]; rfl
  unfold sackbutref06_Cost.f
  refine Ev.bind_some e ?_
  rw [e2]
  exact Ev.bind (refPrice_ev h.1 h.2.1 (nums l) (by rw [nums_length]; omega) (fun k hk => by
    unfold nums at hk
    rw [List.mem_map] at hk
    obtain ⟨y, hy, rfl⟩ := hk
    have := h2 y hy
    have := h.2.2
    show (0 : Int) ≤ (y : Int) ∧ (y : Int) < _
    omega)) (Ev.some _)

end Go.Proofs.Ytdnjbjcfbdclfaa.P
namespace Go.Proofs.Ytdnjbjcfbdclfaa.P
open Go.RowKit Go.Proofs.YtdnjbjcfbdclfaaW.PrintWords Go.Proofs.YtdnjbjcfbdclfaaW.PrintLast Go.Proofs.YtdnjbjcfbdclfaaW.PrintMore
attribute [local go_sem] max2_int min2_int max_two min_two max_three min_three max_four min_four   -- for this text's walks alone
set_option linter.unusedVariables false
set_option linter.unusedSimpArgs false

/-! the document's Middle -/
def mstep (n : Int) (ls : List (List Int)) (st : Option (List Nat × Int)) (v : List Nat) : Option (List Nat × Int) := match st with
  | none => some (v, costL n (nums v) ls)
  | some (w, d) => if costL n (nums v) ls < d then some (v, costL n (nums v) ls) else some (w, d)
def mfold (n : Int) (ls : List (List Int)) (L : List (List Nat)) : Option (List Nat × Int) := L.foldl (mstep n ls) none
theorem mfold_snoc (n : Int) (ls : List (List Int)) (L : List (List Nat)) (v : List Nat) : mfold n ls (L ++ [v]) = mstep n ls (mfold n ls L) v := by unfold mfold; rw [List.foldl_append]; rfl
def optM (o : Option (List Nat × Int)) : List Int := match o with
  | none => []
  | some (v, _) => nums v
def optD (o : Option (List Nat × Int)) : Int := match o with
  | none => 0
  | some (_, d) => d
def sackbutref06_Middle.f (n k : Int) (ls : List (List Int)) : Option (List Int) := if VcsN n k ls then some (optM (mfold n ls (alN n.toNat k.toNat 0 []))) else none
set_option maxHeartbeats 8000000 in
set_option maxRecDepth 100000 in
theorem refMid_ok (n k : Nat) (A0 : Option Addr) (c0 : Nat) (ls : List (List Int)) (w : World) (h : VcsN (n : Int) (k : Int) ls) (hr0 : Kd.C (Kd.slice 3 (Kd.int .i64)) w A0 ls.length ls) (hc0 : ls.length ≤ c0) :
    Calls Try.prog 32 #[.int .i64 (n : Int), .int .i64 (k : Int), .slice A0 ls.length c0] w fun e w' => ∃ v0_ : Value, e = .returned v0_ ∧ Kd.R (Kd.int .i64) 3 w' w.heap.size (fun _ => True) v0_ (optM (mfold (n : Int) ls (alN n k 0 []))) ∧ Below w.heap.size w w' := by
  obtain ⟨h1, h2, h3, h4, h5, h6, h7, h8, h9⟩ := h
  have HR0 := Aside0.mk hr0
  have HH := Aside0.mk (And.intro h6 h9)
  obtain ⟨LL, hLL⟩ : ∃ LL, alN n k 0 [] = LL := ⟨_, rfl⟩
  have HLL := Aside0.mk hLL
  have hrun := refAlls_calls n k (by omega) (by omega) (by omega) w.heap.size k none 0 [] w (by simp) (Nat.zero_le _) (Nat.le_refl _) (Kd.R_nil _ _ _ _ _)
  rw [show lastF [] = 0 from rfl, hLL] at hrun
  have HRUN := Aside0.mk hrun
  have HALL := Aside0.mk (show ∀ l ∈ LL, l.length = k ∧ ∀ y ∈ l, y < n from fun l hl => by
    rw [← hLL] at hl
    exact alN_mem k 0 [] (Nat.zero_le _) (by simp) (by simp) l hl)
  have hlenLL : LL.length ≤ 1728 := by
    rw [← hLL]
    exact Nat.le_trans (alN_len _ _ _) (Nat.le_trans (Nat.pow_le_pow_left (show n ≤ 12 by omega) _) (Nat.pow_le_pow_right (by omega) (show k ≤ 3 by omega)))
  have hposLL : 0 < LL.length := by rw [← hLL]; exact List.length_pos_iff.2 (alN_ne9 _ _ _ (by omega))
  obtain ⟨M, hM⟩ : ∃ M, ls.length = M := ⟨_, rfl⟩
  rw [hM] at HR0 hc0 ⊢
  have HMM := Aside0.mk hM
  have HBD := Aside0.mk (show 2 ≤ n ∧ n ≤ 12 ∧ 1 ≤ k ∧ k ≤ 3 ∧ 1 ≤ M ∧ M ≤ 8 by omega)
  have HC0 := Aside0.mk hc0
  have hM8 : M ≤ 8 := by omega
  have q22 : ∀ (w : World) (a : Option Addr) (n c n' c' : Nat), (binOp .eql 22 (.slice a n c) (.slice none n' c')).run Try.prog w = .ok (.bool a.isNone) w := fun w a n c n' c' => Lib.run_eql_slice_nil w _ _ a n c n' c' Try.underlying22
  clear h1 h2 h3 h4 h5 h6 h7 h8 h9 hr0 hc0 hrun hLL hM
  go_enter Try.func32, Try.ntmps32
  go_wp2_with fail
  refine HRUN.out.mono ?_
  rintro e w1 ⟨v1, vs, rfl, ho1, ha1, hb1⟩
  have hvl := ha1.length
  obtain ⟨ad, c9, e1, hcell, hg1⟩ := own_some_ ho1 (by omega)
  subst e1
  rw [hvl] at ho1 ⊢
  have HA1 := Aside0.mk ha1
  have HC := Aside0.mk hcell
  have HB1 := Aside0.mk hb1
  have HG1 := Aside0.mk hg1
  clear ho1 ha1 hcell hb1 hvl HRUN hg1
  go_wp2
  go_loopg [7, 8, 18] LL.length (fun gg s7 s8 s18 wr => ∃ (i : Nat) (Ab : Option Addr) (cb : Nat), s18 = .int .i64 i ∧ s7 = .slice Ab (optM (mfold (n : Int) ls (LL.take i))).length cb ∧ s8 = .int .i64 (optD (mfold (n : Int) ls (LL.take i))) ∧ Aside0 (i + gg = LL.length) ∧ Aside0 (Kd.R (Kd.int .i64) 3 wr w.heap.size (fun _ => True) (.slice Ab (optM (mfold (n : Int) ls (LL.take i))).length cb) (optM (mfold (n : Int) ls (LL.take i)))) ∧ Aside0 (Ab.isNone = (mfold (n : Int) ls (LL.take i)).isNone) ∧ Aside0 (Below w1.heap.size w1 wr))
  case atStart => exact ⟨0, none, 0, rfl, by simp [mfold, optM], by simp [mfold, optD], ⟨by omega⟩, ⟨Kd.R_nil _ _ _ _ _⟩, ⟨rfl⟩, ⟨Below.refl _ _⟩⟩
  case round =>
    obtain ⟨i, Ab, cb, rfl, rfl, rfl, HI, HR, HN, HB⟩ := hrel
    obtain ⟨wo, rfl⟩ : ∃ wo : World, wo = wr := ⟨wr, rfl⟩
    obtain ⟨G, rfl⟩ : ∃ G, G = gk := ⟨gk, rfl⟩
    by_cases hlt : i < LL.length
    · have hltz : (i : Int) < (LL.length : Int) := by omega
      obtain ⟨l, hl⟩ : ∃ l, LL[i]? = some l := ⟨LL[i], List.getElem?_eq_getElem hlt⟩
      have hlm : l ∈ LL := List.mem_of_getElem? hl
      obtain ⟨vl, hvl, A, c, e, hRl⟩ := HA1.out.get i l hl
      subst e
      have hcell : wo.cell? (ad.add i) = some (.slice A (nums l).length c) := (HB.out.cell (p := ad.add i) (by rw [add_block_]; exact HG1.out)).trans (HC.out i _ hvl)
      have hRw := Kd.R_below hRl HB.out
      have HRL := Aside0.mk hRw
      have HRLC := Aside0.mk (Kd.R_reads' hRw)
      have HTK := Aside0.mk (show LL.take (i + 1) = LL.take i ++ [l] by rw [List.take_add_one, hl]; rfl)
      have HAS := Aside0.mk (show A.isNone = false from by
        obtain ⟨ad5, e5, _⟩ := Kd.at_int HRLC.out.2.2 0 (by omega) (by rw [nums_length, (HALL.out l hlm).1]; have := HBD.out; omega)
        rw [e5]; rfl)
      have HLM := Aside0.mk (HALL.out l hlm)
      have HRF := Aside0.mk (show mfold (n : Int) ls (LL.take (i + 1)) = mstep (n : Int) ls (mfold (n : Int) ls (LL.take i)) l by rw [HTK.out, mfold_snoc])
      obtain ⟨Lx, hLx⟩ : ∃ Lx, (nums l).length = Lx := ⟨_, rfl⟩
      rw [hLx] at hcell
      have HLX := Aside0.mk hLx
      clear hl hlm hvl hRl hRw hLx hlt
      generalize hbo : mfold (n : Int) ls (LL.take i) = bo at HR HN HRF ⊢
      have HBO := Aside0.mk hbo
      clear hbo
      go_wp2
      go_loopg [11, 24] M (fun gg s11 s24 w2 => ∃ j : Nat, s24 = .int .i64 (j : Int) ∧ s11 = .int .i64 (costL (n : Int) (nums l) (ls.take j)) ∧ Aside0 (j + gg = M) ∧ Aside0 (Below wo.heap.size wo w2))
      case atStart => exact ⟨0, rfl, rfl, ⟨by omega⟩, ⟨Below.refl _ _⟩⟩
      case round =>
        obtain ⟨j, rfl, rfl, HJ, HB2⟩ := hrel
        obtain ⟨w2, rfl⟩ : ∃ w2 : World, w2 = wr := ⟨wr, rfl⟩
        by_cases hj : j < M
        · have hjz : (j : Int) < (M : Int) := by omega
          obtain ⟨ad2, Ai, ci, e2, hxi, hli, hci⟩ := at_L1 (Kd.C_below (Kd.C_below HR0.out HB1.out) (HB.out.trans (HB2.out.mono HB.out.size))) (j : Int) (by omega) (by omega)
          subst e2
          have hli9 : j < ls.length := by have := HMM.out; omega
          have hyv : rd_L1 ls (j : Int) = ls[j] := by
            show ls.getD ((j : Int)).toNat [] = _
            rw [List.getD_eq_getElem?_getD, Int.toNat_natCast, List.getElem?_eq_getElem hli9]; rfl
          have hym := HH.out.2 _ (List.getElem_mem hli9)
          have htk : ls.take (j + 1) = ls.take j ++ [rd_L1 ls (j : Int)] := by rw [hyv]; exact List.take_succ_eq_append_getElem hli9
          rw [← hyv] at hym
          have hbx := HBD.out
          have hll := HLM.out
          have htwo : TwoN (n : Int) (nums l) (rd_L1 ls (j : Int)) := ⟨⟨by omega, by omega, by rw [nums_length]; omega, by rw [nums_length]; omega, fun z hz => by
            obtain ⟨z, hz2, rfl⟩ := List.mem_map.1 hz
            have := hll.2 z hz2
            exact ⟨Int.natCast_nonneg _, by show (z : Int) < (n : Int); omega⟩⟩, hym.1, by rw [nums_length]; have := HH.out.1; have := hym.2; omega⟩
          obtain ⟨kc, hkc⟩ := Ev.rounds (g := fun q => sackbutref06_Cost.f q (n : Int) (nums l) (rd_L1 ls (j : Int))) (refCost_ev htwo)
          have hcall := sackbutref06_Cost.calls kc (n : Int) A c (nums l) Ai ci (rd_L1 ls (j : Int)) _ w2 (Kd.C_below HRLC.out.2.2 HB2.out) HRLC.out.2.1 hci hli hkc
          rw [HLX.out] at hcall
          obtain ⟨ct, hct⟩ : ∃ ct, (bestV (n : Int) (nums l) (rd_L1 ls (j : Int))).2 = ct := ⟨_, rfl⟩
          have HSUM : Aside0 (costL (n : Int) (nums l) (ls.take (j + 1)) = wrap64 (costL (n : Int) (nums l) (ls.take j) + ct)) := ⟨by rw [htk, costL_snoc, hct]⟩
          rw [hct] at hcall
          obtain ⟨Ly, hLy⟩ : ∃ Ly, (rd_L1 ls (j : Int)).length = Ly := ⟨_, rfl⟩
          rw [hLy] at hcall hxi
          rw [Int.toNat_natCast] at hxi
          have HCALL := Aside0.mk hcall
          obtain ⟨sm, hsm⟩ : ∃ sm, costL (n : Int) (nums l) (ls.take j) = sm := ⟨_, rfl⟩
          rw [hsm] at HSUM ⊢
          clear htk hym hyv hli9 hbx hll htwo hkc hcall hci hli hct hLy hsm
          go_wp2_with fail
          refine HCALL.out.mono ?_
          rintro e w4 ⟨rfl, hb4⟩
          have HB4 := Aside0.mk (HB2.out.trans (hb4.mono HB2.out.size))
          clear hb4
          go_wp2
          go_roundg (gk - 1)
          case measure => have := HJ.out; omega
          case rel => exact ⟨j + 1, by go_num, by rw [HSUM.out], ⟨by have := HJ.out; omega⟩, HB4⟩
        · have hjM : j = M := by have := HJ.out; omega
          have hjz : ¬ (j : Int) < (M : Int) := by omega
          have hall : ls.take j = ls := List.take_of_length_le (by have := HMM.out; omega)
          rw [hall]
          have HB5 := Aside0.mk (HB.out.trans (HB2.out.mono HB.out.size))
          have HRL2 := Aside0.mk (Kd.R_below HRL.out HB2.out)
          rw [HLX.out] at HRL2
          obtain ⟨sm, hsm⟩ : ∃ sm, costL (n : Int) (nums l) ls = sm := ⟨_, rfl⟩
          have HSM := Aside0.mk hsm
          rw [hsm]
          clear hjM hall hsm
          cases bo with
          | none =>
            have hAb : Ab = none := by
              have := HN.out
              cases Ab with
              | none => rfl
              | some _ => cases this
            subst hAb
            have HF : Aside0 (mfold (n : Int) ls (LL.take (i + 1)) = some (l, sm)) := ⟨by rw [HRF.out, ← HSM.out]; rfl⟩
            clear HRF
            rw [show optD none = 0 from rfl, show (optM none).length = 0 from rfl]
            go_wp2
            go_roundg (G - 1)
            case measure => have := HI.out; omega
            case rel => exact ⟨i + 1, A, c, by go_num, by rw [HF.out, ← HLX.out]; rfl, by rw [HF.out]; rfl, ⟨by have := HI.out; omega⟩, ⟨by rw [HF.out]; show Kd.R _ _ _ _ _ (.slice A (nums l).length c) (nums l); rw [HLX.out]; exact HRL2.out⟩, ⟨by rw [HF.out]; exact HAS.out⟩, HB5⟩
          | some p =>
            obtain ⟨b, d⟩ := p
            obtain ⟨ab, hAb⟩ : ∃ ab, Ab = some ab := by
              have := HN.out
              cases Ab with
              | none => cases this
              | some ab => exact ⟨ab, rfl⟩
            subst hAb
            have HRB := Aside0.mk (Kd.R_below (show Kd.R (Kd.int .i64) 3 wo w.heap.size (fun _ => True) (.slice (some ab) (nums b).length cb) (nums b) from HR.out) HB2.out)
            have HF : Aside0 (mfold (n : Int) ls (LL.take (i + 1)) = if sm < d then some (l, sm) else some (b, d)) := ⟨by rw [HRF.out, ← HSM.out]; rfl⟩
            clear HRF
            rw [show optD (some (b, d)) = d from rfl, show optM (some (b, d)) = nums b from rfl]
            generalize hlb : (nums b).length = lb at *
            have HLB := Aside0.mk hlb
            clear hlb
            by_cases hlt2 : sm < d
            · have q1 : decide (sm < d) = true := decide_eq_true hlt2
              rw [if_pos hlt2] at HF
              clear hlt2
              go_wp2
              go_roundg (G - 1)
              case measure => have := HI.out; omega
              case rel => exact ⟨i + 1, A, c, by go_num, by rw [HF.out, ← HLX.out]; rfl, by rw [HF.out]; rfl, ⟨by have := HI.out; omega⟩, ⟨by rw [HF.out]; show Kd.R _ _ _ _ _ (.slice A (nums l).length c) (nums l); rw [HLX.out]; exact HRL2.out⟩, ⟨by rw [HF.out]; exact HAS.out⟩, HB5⟩
            · have q1 : decide (sm < d) = false := decide_eq_false hlt2
              rw [if_neg hlt2] at HF
              clear hlt2
              go_wp2
              go_roundg (G - 1)
              case measure => have := HI.out; omega
              case rel => exact ⟨i + 1, some ab, cb, by go_num, by rw [HF.out, ← HLB.out]; rfl, by rw [HF.out]; rfl, ⟨by have := HI.out; omega⟩, ⟨by rw [HF.out]; have h5 := HRB.out; rw [← HLB.out] at h5; exact h5⟩, ⟨by rw [HF.out]; rfl⟩, HB5⟩
    · have hil : i = LL.length := by have := HI.out; omega
      have HIL := Aside0.mk hil
      clear hil
      have hltz : ¬ (i : Int) < (LL.length : Int) := by omega
      go_wp2
      go_ret
      refine ⟨_, rfl, ?_, HB1.out.trans (HB.out.mono HB1.out.size)⟩
      have h1 := HR.out
      rw [HIL.out, List.take_length] at h1 ⊢
      rw [HLL.out]
      exact h1
theorem sackbutref06_Middle.calls (a0 a1 : Int) (A2 : Option Addr) (c2 : Nat) (l2 : List (List Int)) (r : List Int) (w : World) (hr2 : Kd.C (Kd.slice 3 (Kd.int .i64)) w A2 l2.length l2) (hc2 : l2.length ≤ c2) (h : sackbutref06_Middle.f a0 a1 l2 = some r) :
    Calls Try.prog 32 #[.int .i64 a0, .int .i64 a1, .slice A2 l2.length c2] w fun e w' => ∃ v0_ : Value, e = .returned v0_ ∧ Kd.R (Kd.int .i64) 3 w' w.heap.size (fun _ => True) v0_ r ∧ Below w.heap.size w w' := by
  unfold sackbutref06_Middle.f at h
  by_cases hv : VcsN a0 a1 l2
  · rw [if_pos hv] at h
    injection h with h
    subst h
    obtain ⟨n, rfl⟩ : ∃ n : Nat, a0 = (n : Int) := ⟨a0.toNat, by have := hv.2.2.2.2.2.2.1; omega⟩
    obtain ⟨k, rfl⟩ : ∃ k : Nat, a1 = (k : Int) := ⟨a1.toNat, by have := hv.2.1; omega⟩
    rw [Int.toNat_natCast, Int.toNat_natCast]
    exact refMid_ok n k A2 c2 l2 w hv hr2 hc2
  · rw [if_neg hv] at h; cases h

end Go.Proofs.Ytdnjbjcfbdclfaa.P
namespace Go.Proofs.Ytdnjbjcfbdclfaa.P
open Go.RowKit Go.Proofs.YtdnjbjcfbdclfaaW.PrintWords Go.Proofs.YtdnjbjcfbdclfaaW.PrintLast Go.Proofs.YtdnjbjcfbdclfaaW.PrintMore
attribute [local go_sem] max2_int min2_int max_two min_two max_three min_three max_four min_four   -- for this text's walks alone
set_option linter.unusedVariables false
set_option linter.unusedSimpArgs false

/-! ### slices_Equal_int_int: function 21 -/
def slices_Equal_int_int.l0 : Nat → List Int → List Int → Int → Int → Option (Bool)
  | 0, _, _, _, _ => none
  | k + 1, x0, x1, x12, x13 => if x13 < x12 then (if 0 ≤ x13 then (if x13 < (x0.length : Int) then (if x13 < (x1.length : Int) then (if (rd x0 x13) = (rd x1 x13) then (slices_Equal_int_int.l0 k x0 x1 x12 (wrap64 (x13 + 1))) else (some false)) else (none)) else (none)) else (none)) else (some true)
def slices_Equal_int_int.f (k : Nat) (l0 : List Int) (l1 : List Int) : Option (Bool) := if (l0.length : Int) = (l1.length : Int) then (slices_Equal_int_int.l0 k l0 l1 (l0.length : Int) 0) else (some false)
theorem slices_Equal_int_int.mono_l : ∀ k, (∀ y0 y1 y2 y3, LeO (slices_Equal_int_int.l0 k y0 y1 y2 y3) (slices_Equal_int_int.l0 (k + 1) y0 y1 y2 y3))
  | 0 => fun _ _ _ _ r h => by simp [slices_Equal_int_int.l0] at h
  | k + 1 => by
    have ih0 := slices_Equal_int_int.mono_l k
    · intro y0 y1 y2 y3
      unfold slices_Equal_int_int.l0
      repeat' first
      | (with_reducible exact ih0 _ _ _ _)
      | (with_reducible exact LeO.refl _)
      | (with_reducible exact LeO.none _)
      | (with_reducible refine LeO.ite ?_ ?_)
      | (with_reducible refine LeO.bind ?_ (fun _ => ?_))
      | exact ih0 _ _ _ _
      | exact LeO.none _
      | refine LeO.ite ?_ ?_
      | refine LeO.bind ?_ (fun _ => ?_)
theorem slices_Equal_int_int.mono : ∀ a0 a1 k, LeO (slices_Equal_int_int.f k a0 a1) (slices_Equal_int_int.f (k + 1) a0 a1) := by
  intro a0 a1 k
  have ih0 := slices_Equal_int_int.mono_l k
  unfold slices_Equal_int_int.f
  repeat' first
      | (with_reducible exact ih0 _ _ _ _)
      | (with_reducible exact LeO.refl _)
      | (with_reducible exact LeO.none _)
      | (with_reducible refine LeO.ite ?_ ?_)
      | (with_reducible refine LeO.bind ?_ (fun _ => ?_))
      | exact ih0 _ _ _ _
      | exact LeO.none _
      | refine LeO.ite ?_ ?_
      | refine LeO.bind ?_ (fun _ => ?_)
set_option maxHeartbeats 8000000 in
set_option maxRecDepth 100000 in
theorem slices_Equal_int_int.calls (k : Nat) (A0 : Option Addr) (c0 : Nat) (l0 : List Int) (A1 : Option Addr) (c1 : Nat) (l1 : List Int) (r : Bool) (w : World) (hr0 : Kd.C (Kd.int .i64) w A0 l0.length l0) (hc0 : l0.length ≤ c0) (hr1 : Kd.C (Kd.int .i64) w A1 l1.length l1) (hc1 : l1.length ≤ c1) (h : slices_Equal_int_int.f k l0 l1 = some r) :
    Calls Try.prog 21 #[.slice A0 l0.length c0, .slice A1 l1.length c1] w fun e w' => e = .returned (.bool r) ∧ Drawn0 w w' := by
  have HR0 := Aside0.mk hr0
  have HC0 := Aside0.mk hc0
  clear hr0 hc0
  have HR1 := Aside0.mk hr1
  have HC1 := Aside0.mk hc1
  clear hr1 hc1
  have H : (if (l0.length : Int) = (l1.length : Int) then (slices_Equal_int_int.l0 k l0 l1 (l0.length : Int) 0) else (some false)) = some r := h
  clear h
  by_cases c3 : (l0.length : Int) = (l1.length : Int)
  · rw [if_pos c3] at H
    have c3b0 : ((l0.length : Int) == (l1.length : Int)) = true := beq_iff_eq.mpr c3
    have c3b1 : ((l0.length : Int) != (l1.length : Int)) = false := bne_eq_false_iff_eq.mpr c3
    have c3b2 : (l0.length == l1.length) = true := by first | simpa using c3 | (simp at c3 ⊢; omega)
    clear c3
    have H' := Aside0.mk H
    clear H
    go_enter Try.func21, Try.ntmps21
    go_wp2
    repeat (go_quiet (fail); try go_wp2)
    go_loopg [13] k (fun kq v13 w' => ∃ (x13_1 : Int), v13 = .int .i64 x13_1 ∧ Aside0 (slices_Equal_int_int.l0 kq l0 l1 (l0.length : Int) x13_1 = some r) ∧ Aside0 (kq ≤ k) ∧ Drawn0 w w')
    case atStart => exact ⟨(0), (by first | rfl | (simp; done) | (simp [*]; done)), H', ⟨Nat.le_refl _⟩, by repeat (first | exact Drawn0.refl _ | apply Drawn0.step)⟩
    case round =>
      clear H'
      try clear c1
      try clear c2
      try clear p2
      try clear c3
      try clear c3b0
      try clear c3b1
      try clear c3b2
      obtain ⟨x13_1, rfl, HA, HK1, ⟨m1, rfl⟩⟩ := hrel
      cases gk with
      | zero => exact absurd HA.out (by simp [slices_Equal_int_int.l0])
      | succ k1 =>
        have H := HA.out
        clear HA
        simp only [slices_Equal_int_int.l0] at H
        by_cases c4 : x13_1 < (l0.length : Int)
        · rw [if_pos c4] at H
          have c4b0 : decide (x13_1 < (l0.length : Int)) = true := decide_eq_true c4
          clear c4
          by_cases c5 : 0 ≤ x13_1
          · rw [if_pos c5] at H
            have c5b0 : decide (0 ≤ x13_1) = true := decide_eq_true c5
            clear c5
            by_cases c6 : x13_1 < (l0.length : Int)
            · rw [if_pos c6] at H
              have c6b0 : decide (x13_1 < (l0.length : Int)) = true := decide_eq_true c6
              clear c6
              by_cases c7 : x13_1 < (l1.length : Int)
              · rw [if_pos c7] at H
                have c7b0 : decide (x13_1 < (l1.length : Int)) = true := decide_eq_true c7
                clear c7
                by_cases c8 : (rd l0 x13_1) = (rd l1 x13_1)
                · rw [if_pos c8] at H
                  have c8b0 : ((rd l0 x13_1) == (rd l1 x13_1)) = true := beq_iff_eq.mpr c8
                  have c8b1 : ((rd l0 x13_1) != (rd l1 x13_1)) = false := bne_eq_false_iff_eq.mpr c8
                  clear c8
                  have H' := Aside0.mk H
                  clear H
                  have p1001 : 0 ≤ (x13_1 : Int) := of_decide_eq_true (by first | (with_reducible assumption) | assumption)
                  have q1001 : x13_1 < (l0.length : Int) := of_decide_eq_true (by first | (with_reducible assumption) | assumption)
                  obtain ⟨ad1001, e1001, hx1001_0⟩ := Kd.at_int HR0.out x13_1 p1001 q1001
                  cases e1001
                  replace p1001 := eq_true p1001
                  replace q1001 := eq_true q1001
                  have p1002 : 0 ≤ (x13_1 : Int) := of_decide_eq_true (by first | (with_reducible assumption) | assumption)
                  have q1002 : x13_1 < (l1.length : Int) := of_decide_eq_true (by first | (with_reducible assumption) | assumption)
                  obtain ⟨ad1002, e1002, hx1002_0⟩ := Kd.at_int HR1.out x13_1 p1002 q1002
                  cases e1002
                  replace p1002 := eq_true p1002
                  replace q1002 := eq_true q1002
                  go_wp2
                  repeat (go_quiet (fail); try go_wp2)
                  go_roundg k1
                  case measure => have := HK1.out; omega
                  case rel => exact ⟨(wrap64 (x13_1 + 1)), (by first | rfl | (simp; done) | (simp [*]; done)), H', ⟨by have := HK1.out; omega⟩, by repeat (first | exact Drawn0.refl _ | apply Drawn0.step)⟩
                · rw [if_neg c8] at H
                  have c8b0 : ((rd l0 x13_1) == (rd l1 x13_1)) = false := beq_eq_false_iff_ne.mpr c8
                  have c8b1 : ((rd l0 x13_1) != (rd l1 x13_1)) = true := bne_iff_ne.mpr c8
                  obtain rfl := Option.some.inj H
                  have p1001 : 0 ≤ (x13_1 : Int) := of_decide_eq_true (by first | (with_reducible assumption) | assumption)
                  have q1001 : x13_1 < (l0.length : Int) := of_decide_eq_true (by first | (with_reducible assumption) | assumption)
                  obtain ⟨ad1001, e1001, hx1001_0⟩ := Kd.at_int HR0.out x13_1 p1001 q1001
                  cases e1001
                  replace p1001 := eq_true p1001
                  replace q1001 := eq_true q1001
                  have p1002 : 0 ≤ (x13_1 : Int) := of_decide_eq_true (by first | (with_reducible assumption) | assumption)
                  have q1002 : x13_1 < (l1.length : Int) := of_decide_eq_true (by first | (with_reducible assumption) | assumption)
                  obtain ⟨ad1002, e1002, hx1002_0⟩ := Kd.at_int HR1.out x13_1 p1002 q1002
                  cases e1002
                  replace p1002 := eq_true p1002
                  replace q1002 := eq_true q1002
                  go_wp2
                  repeat (go_quiet (fail); try go_wp2)
                  go_ret
                  exact ⟨by first | rfl | (simp; done) | (simp [*]; done), by repeat (first | exact Drawn0.refl _ | apply Drawn0.step)⟩
              · rw [if_neg c7] at H
                exact absurd H (by simp)
            · rw [if_neg c6] at H
              exact absurd H (by simp)
          · rw [if_neg c5] at H
            exact absurd H (by simp)
        · rw [if_neg c4] at H
          have c4b0 : decide (x13_1 < (l0.length : Int)) = false := decide_eq_false c4
          clear c4
          obtain rfl := Option.some.inj H
          go_wp2
          repeat (go_quiet (fail); try go_wp2)
          go_ret
          exact ⟨by first | rfl | (simp; done) | (simp [*]; done), by repeat (first | exact Drawn0.refl _ | apply Drawn0.step)⟩
  · rw [if_neg c3] at H
    have c3b0 : ((l0.length : Int) == (l1.length : Int)) = false := beq_eq_false_iff_ne.mpr c3
    have c3b1 : ((l0.length : Int) != (l1.length : Int)) = true := bne_iff_ne.mpr c3
    have c3b2 : (l0.length == l1.length) = false := by first | simpa using c3 | (simp at c3 ⊢; omega)
    obtain rfl := Option.some.inj H
    go_enter Try.func21, Try.ntmps21
    go_wp2
    repeat (go_quiet (fail); try go_wp2)
    go_ret
    exact ⟨by first | rfl | (simp; done) | (simp [*]; done), by repeat (first | exact Drawn0.refl _ | apply Drawn0.step)⟩

end Go.Proofs.Ytdnjbjcfbdclfaa.P
