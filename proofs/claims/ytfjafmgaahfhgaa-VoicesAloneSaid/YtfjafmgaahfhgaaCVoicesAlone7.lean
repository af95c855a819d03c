/- A part of a proof that a law's Go function returns true for every input, laid by this session's program mp.py (which drives the kit's print). Conditions: as each theorem states them. -/
import Derived.ArgAppend
import Derived.Laws.EntriesVeiled
import Derived.Test.YtfjafmgaahfhgaaCVoicesAlone1
import Derived.Test.YtfjafmgaahfhgaaCVoicesAlone2
import Derived.Test.YtfjafmgaahfhgaaCVoicesAlone3
import Derived.Test.YtfjafmgaahfhgaaCVoicesAlone4
import Derived.Test.YtfjafmgaahfhgaaCVoicesAlone5
namespace Go.Proofs.Ytfjafmgaahfhgaa.P
open Go.RowKit Go.Proofs.YtfjafmgaahfhgaaW.PrintWords Go.Proofs.YtfjafmgaahfhgaaW.PrintLast Go.Proofs.YtfjafmgaahfhgaaW.PrintMore
attribute [local go_sem] max2_int min2_int max_two min_two max_three min_three max_four min_four   -- for this text's walks alone
set_option linter.unusedVariables false
set_option linter.unusedSimpArgs false

/-! slices.Equal -/
theorem Equal_loop (l0 l1 : List Int) (hlen : l0.length = l1.length) (hb : l0.length < 9223372036854775807) : ∀ (xs ys pre pre1 : List Int), l0 = pre ++ xs → l1 = pre1 ++ ys → pre.length = pre1.length →
    Ev (fun k => slices_Equal_int_int.l0 k l0 l1 (l0.length : Int) (pre.length : Int)) (decide (xs = ys)) := by
  intro xs
  induction xs with
  | nil =>
    intro ys pre pre1 h0 h1 hp
    have hy : ys = [] := by
      have := congrArg List.length h0; have := congrArg List.length h1
      simp at *
      exact List.eq_nil_of_length_eq_zero (by omega)
    subst hy
    refine Ev.succ ?_
    simp only [slices_Equal_int_int.l0, if_neg (mid_end h0)]
    simpa using Ev.some true
  | cons x xs ih =>
    intro ys pre pre1 h0 h1 hp
    cases ys with
    | nil => exfalso; have := congrArg List.length h0; have := congrArg List.length h1; simp at *; omega
    | cons y ys =>
      have r1 : rd l1 (pre.length : Int) = y := by rw [hp]; exact mid_rd h1
      have l1' : (pre.length : Int) < (l1.length : Int) := by rw [hp]; exact mid_lt h1
      refine Ev.succ ?_
      simp only [slices_Equal_int_int.l0, if_pos (mid_lt h0), if_pos (show (0 : Int) ≤ (pre.length : Int) by omega), if_pos l1', mid_rd h0, r1, mid_next h0 hb]
      refine Ev.ite (fun e => ?_) (fun e => ?_)
      · have := ih ys (pre ++ [x]) (pre1 ++ [y]) (mid_mv h0) (mid_mv h1) (by simp [hp])
        simpa [e] using this
      · simpa [e] using Ev.some false
theorem Equal_ev (l0 l1 : List Int) (hb : l0.length < 9223372036854775807) : Ev (fun k => slices_Equal_int_int.f k l0 l1) (decide (l0 = l1)) := by
  unfold slices_Equal_int_int.f
  refine Ev.ite (fun e => ?_) (fun e => ?_)
  · exact Equal_loop l0 l1 (by omega) hb l0 l1 [] [] rfl rfl rfl
  · have : l0 ≠ l1 := fun h => e (by rw [h])
    simpa [this] using Ev.some false


end Go.Proofs.Ytfjafmgaahfhgaa.P
namespace Go.Proofs.Ytfjafmgaahfhgaa.P
/-! Sets of small numbers as natural numbers; pigeonholes. Plain Lean. -/

def orAll (s : Nat) (xs : List Nat) : Nat := xs.foldl (fun s x => s ||| 2 ^ x) s

theorem orAll_nil (s : Nat) : orAll s [] = s := rfl
theorem orAll_cons (s x : Nat) (xs : List Nat) : orAll s (x :: xs) = orAll (s ||| 2 ^ x) xs := rfl
theorem orAll_snoc (s x : Nat) (xs : List Nat) : orAll s (xs ++ [x]) = orAll s xs ||| 2 ^ x := by
  simp [orAll, List.foldl_append]

theorem testBit_or_two_pow (s x i : Nat) : (s ||| 2 ^ x).testBit i = (s.testBit i || decide (x = i)) := by
  rw [Nat.testBit_or, Nat.testBit_two_pow]

theorem testBit_orAll (xs : List Nat) : ∀ (s i : Nat), (orAll s xs).testBit i = (s.testBit i || decide (i ∈ xs)) := by
  induction xs with
  | nil => intro s i; simp [orAll]
  | cons x xs ih =>
    intro s i
    rw [orAll_cons, ih, testBit_or_two_pow, Bool.or_assoc]
    congr 1
    by_cases h : x = i
    · subst h; simp
    · have h' : ¬ i = x := fun e => h e.symm
      simp [h, h']

theorem orAll_lt {m : Nat} (xs : List Nat) (h : ∀ x ∈ xs, x < m) : ∀ s, s < 2 ^ m → orAll s xs < 2 ^ m := by
  induction xs with
  | nil => intro s hs; exact hs
  | cons x xs ih =>
    intro s hs
    rw [orAll_cons]
    refine ih (fun y hy => h y (List.mem_cons_of_mem _ hy)) _ (Nat.or_lt_two_pow hs ?_)
    exact Nat.pow_lt_pow_right (by omega) (h x List.mem_cons_self)

theorem full_iff {n s : Nat} : s = 2 ^ n - 1 ↔ ∀ i, s.testBit i = decide (i < n) := by
  constructor
  · rintro rfl i; exact Nat.testBit_two_pow_sub_one n i
  · intro h; exact Nat.eq_of_testBit_eq fun i => by rw [h, Nat.testBit_two_pow_sub_one]

theorem testBit_full2 (n i : Nat) (hn : 1 ≤ n) : (2 ^ n - 2).testBit i = (decide (i < n) && decide (1 ≤ i)) := by
  obtain ⟨m, rfl⟩ : ∃ m, n = m + 1 := ⟨n - 1, by omega⟩
  have e : 2 ^ (m + 1) - 2 = 2 * (2 ^ m - 1) := by have := Nat.two_pow_pos m; rw [Nat.pow_succ]; omega
  rw [e]
  cases i with
  | zero => simp [Nat.testBit_zero]
  | succ i =>
    rw [Nat.testBit_succ, show 2 * (2 ^ m - 1) / 2 = 2 ^ m - 1 by omega, Nat.testBit_two_pow_sub_one]
    simp

theorem orAll_full {n : Nat} (xs : List Nat) (h : ∀ x ∈ xs, x < n) : orAll 0 xs = 2 ^ n - 1 ↔ ∀ i, i < n → i ∈ xs := by
  rw [full_iff]
  constructor
  · intro hh i hi
    have := hh i
    rw [testBit_orAll] at this
    simpa [hi] using this
  · intro hh i
    rw [testBit_orAll]
    by_cases hi : i < n
    · simp [hi, hh i hi]
    · have : i ∉ xs := fun hm => hi (h i hm)
      simp [hi, this]

theorem orAll_full2 {n : Nat} (hn : 1 ≤ n) (xs : List Nat) (h : ∀ x ∈ xs, 1 ≤ x ∧ x < n) : orAll 0 xs = 2 ^ n - 2 ↔ ∀ i, 1 ≤ i → i < n → i ∈ xs := by
  constructor
  · intro hh i h1 hi
    have h2 : (orAll 0 xs).testBit i = (2 ^ n - 2).testBit i := by rw [hh]
    rw [testBit_orAll, testBit_full2 n i hn] at h2
    simpa [hi, h1] using h2
  · intro hh
    refine Nat.eq_of_testBit_eq fun i => ?_
    rw [testBit_orAll, testBit_full2 n i hn]
    by_cases hi : i < n
    · by_cases h1 : 1 ≤ i
      · simp [hi, h1, hh i h1 hi]
      · have : i ∉ xs := fun hm => h1 (h i hm).1
        simp [h1, this]
    · have : i ∉ xs := fun hm => hi (h i hm).2
      simp [hi, this]

/-! pigeonholes -/
theorem nodup_of_full {n : Nat} {xs : List Nat} (hl : xs.length = n) (hf : ∀ i, i < n → i ∈ xs) : xs.Nodup := by
  rw [List.nodup_iff_count]
  intro a
  refine Nat.not_lt.1 fun hc => ?_
  have ha : a ∈ xs := List.count_pos_iff.1 (by omega)
  have hsub : List.range n ⊆ xs.erase a := by
    intro i hi
    have hm := hf i (List.mem_range.1 hi)
    by_cases e : i = a
    · subst e
      exact List.count_pos_iff.1 (by rw [List.count_erase_self]; omega)
    · exact (List.mem_erase_of_ne e).2 hm
  have := List.Nodup.length_le_of_subset List.nodup_range hsub
  rw [List.length_erase, if_pos ha, List.length_range] at this
  have : 0 < xs.length := List.length_pos_of_mem ha
  omega

theorem full_of_nodup {n : Nat} {xs : List Nat} (hl : xs.length = n) (hr : ∀ x ∈ xs, x < n) (hd : xs.Nodup) : ∀ i, i < n → i ∈ xs := by
  intro i hi
  refine Classical.byContradiction fun hni => ?_
  have hsub : (i :: xs) ⊆ List.range n := by
    intro x hx
    rcases List.mem_cons.1 hx with rfl | hx
    · exact List.mem_range.2 hi
    · exact List.mem_range.2 (hr x hx)
  have := List.Nodup.length_le_of_subset (List.nodup_cons.2 ⟨hni, hd⟩) hsub
  simp at this
  omega
end Go.Proofs.Ytfjafmgaahfhgaa.P
namespace Go.Proofs.Ytfjafmgaahfhgaa.P
open Go.RowKit Go.Proofs.YtfjafmgaahfhgaaW.PrintWords Go.Proofs.YtfjafmgaahfhgaaW.PrintLast Go.Proofs.YtfjafmgaahfhgaaW.PrintMore
attribute [local go_sem] max2_int min2_int max_two min_two max_three min_three max_four min_four   -- for this text's walks alone
set_option linter.unusedVariables false
set_option linter.unusedSimpArgs false

/-! ### sackbutref06_Two: function 23 -/
def sackbutref06_Two.f (k : Nat) (a0 : Int) (l1 : List Int) (l2 : List Int) : Option (Bool) := (sackbutref06_Voicing.f k a0 l1).bind fun t1001 => (if t1001 = true then ((sackbutref06_Voicing.f k a0 l2).bind fun t1002 => (if t1002 = true then (some ((l1.length : Int) == (l2.length : Int))) else (some false))) else (some false))
theorem sackbutref06_Two.mono : ∀ a0 a1 a2 k, LeO (sackbutref06_Two.f k a0 a1 a2) (sackbutref06_Two.f (k + 1) a0 a1 a2) := by
  intro a0 a1 a2 k
  unfold sackbutref06_Two.f
  repeat' first
      | (with_reducible exact sackbutref06_Voicing.mono _ _ _)
      | (with_reducible exact LeO.refl _)
      | (with_reducible exact LeO.none _)
      | (with_reducible refine LeO.ite ?_ ?_)
      | (with_reducible refine LeO.bind ?_ (fun _ => ?_))
      | exact sackbutref06_Voicing.mono _ _ _
      | exact LeO.none _
      | refine LeO.ite ?_ ?_
      | refine LeO.bind ?_ (fun _ => ?_)
set_option maxHeartbeats 8000000 in
set_option maxRecDepth 100000 in
theorem sackbutref06_Two.calls (k : Nat) (a0 : Int) (A1 : Option Addr) (c1 : Nat) (l1 : List Int) (A2 : Option Addr) (c2 : Nat) (l2 : List Int) (r : Bool) (w : World) (hr1 : Kd.C (Kd.int .i64) w A1 l1.length l1) (hc1 : l1.length ≤ c1) (hr2 : Kd.C (Kd.int .i64) w A2 l2.length l2) (hc2 : l2.length ≤ c2) (h : sackbutref06_Two.f k a0 l1 l2 = some r) :
    Calls Try.prog 23 #[.int .i64 a0, .slice A1 l1.length c1, .slice A2 l2.length c2] w fun e w' => e = .returned (.bool r) ∧ Drawn0 w w' := by
  have HR1 := Aside0.mk hr1
  have HC1 := Aside0.mk hc1
  clear hr1 hc1
  have HR2 := Aside0.mk hr2
  have HC2 := Aside0.mk hc2
  clear hr2 hc2
  have H : ((sackbutref06_Voicing.f k a0 l1).bind fun t1001 => (if t1001 = true then ((sackbutref06_Voicing.f k a0 l2).bind fun t1002 => (if t1002 = true then (some ((l1.length : Int) == (l2.length : Int))) else (some false))) else (some false))) = some r := h
  clear h
  replace H := Option.bind_eq_some_iff.mp H
  obtain ⟨t1001, A40, H⟩ := H
  replace H : (if t1001 = true then ((sackbutref06_Voicing.f k a0 l2).bind fun t1002 => (if t1002 = true then (some ((l1.length : Int) == (l2.length : Int))) else (some false))) else (some false)) = some r := H
  have A4 := Aside0.mk A40
  clear A40
  by_cases c5 : t1001 = true
  · subst c5
    have H1 : ((sackbutref06_Voicing.f k a0 l2).bind fun t1002 => (if t1002 = true then (some ((l1.length : Int) == (l2.length : Int))) else (some false))) = some r := by rw [if_pos rfl] at H; exact H
    clear H
    have H := H1
    clear H1
    replace H := Option.bind_eq_some_iff.mp H
    obtain ⟨t1002, A60, H⟩ := H
    replace H : (if t1002 = true then (some ((l1.length : Int) == (l2.length : Int))) else (some false)) = some r := H
    have A6 := Aside0.mk A60
    clear A60
    by_cases c7 : t1002 = true
    · subst c7
      have H1 : (some ((l1.length : Int) == (l2.length : Int))) = some r := by rw [if_pos rfl] at H; exact H
      clear H
      have H := H1
      clear H1
      obtain rfl := Option.some.inj H
      go_enter Try.func23, Try.ntmps23
      go_wp2_with (first | ((with_reducible refine gate_callee (f := 16) rfl ?_); refine goesL_ (some 9) rfl rfl Try.func16 (by kernel_rfl) rfl #[.int .i64 a0, .slice A1 l1.length c1] rfl (by (try simp only [List.map_toArray, List.map_cons, List.map_nil]); first | done | rfl | (simp only [List.length_drop, List.length_take]; rfl)) ?_; (with_reducible refine (sackbutref06_Voicing.calls k a0 _ _ l1 true _ ?side1 ?side2 A4.out).mono ?_); (case side1 => repeat (first | exact HR1.out | (with_reducible refine Kd.C_alloc ?_ _) | (with_reducible refine Kd.C_drewN ?_ _) | (with_reducible refine Kd.C_drew ?_))); (case side2 => exact HC1.out); rintro e w' ⟨rfl, ⟨nd, rfl⟩⟩; refine ⟨_, rfl, ?_⟩) | (go_at_call 16; (with_reducible refine (sackbutref06_Voicing.calls k a0 _ _ l2 true _ ?side1 ?side2 A6.out).mono ?_); (case side1 => repeat (first | exact HR2.out | (with_reducible refine Kd.C_alloc ?_ _) | (with_reducible refine Kd.C_drewN ?_ _) | (with_reducible refine Kd.C_drew ?_))); (case side2 => exact HC2.out); rintro e w' ⟨rfl, ⟨nd, rfl⟩⟩))
      go_ret
      exact ⟨by first | rfl | (simp; done) | (simp [*]; done), by repeat (first | exact Drawn0.refl _ | apply Drawn0.step)⟩
    · replace c7 := Bool.eq_false_iff.mpr c7
      subst c7
      have H1 : (some false) = some r := by rw [if_neg (show ¬ (false = true) by decide)] at H; exact H
      clear H
      have H := H1
      clear H1
      obtain rfl := Option.some.inj H
      go_enter Try.func23, Try.ntmps23
      go_wp2_with (first | ((with_reducible refine gate_callee (f := 16) rfl ?_); refine goesL_ (some 9) rfl rfl Try.func16 (by kernel_rfl) rfl #[.int .i64 a0, .slice A1 l1.length c1] rfl (by (try simp only [List.map_toArray, List.map_cons, List.map_nil]); first | done | rfl | (simp only [List.length_drop, List.length_take]; rfl)) ?_; (with_reducible refine (sackbutref06_Voicing.calls k a0 _ _ l1 true _ ?side1 ?side2 A4.out).mono ?_); (case side1 => repeat (first | exact HR1.out | (with_reducible refine Kd.C_alloc ?_ _) | (with_reducible refine Kd.C_drewN ?_ _) | (with_reducible refine Kd.C_drew ?_))); (case side2 => exact HC1.out); rintro e w' ⟨rfl, ⟨nd, rfl⟩⟩; refine ⟨_, rfl, ?_⟩) | (go_at_call 16; (with_reducible refine (sackbutref06_Voicing.calls k a0 _ _ l2 false _ ?side1 ?side2 A6.out).mono ?_); (case side1 => repeat (first | exact HR2.out | (with_reducible refine Kd.C_alloc ?_ _) | (with_reducible refine Kd.C_drewN ?_ _) | (with_reducible refine Kd.C_drew ?_))); (case side2 => exact HC2.out); rintro e w' ⟨rfl, ⟨nd, rfl⟩⟩))
      go_ret
      exact ⟨by first | rfl | (simp; done) | (simp [*]; done), by repeat (first | exact Drawn0.refl _ | apply Drawn0.step)⟩
  · replace c5 := Bool.eq_false_iff.mpr c5
    subst c5
    have H1 : (some false) = some r := by rw [if_neg (show ¬ (false = true) by decide)] at H; exact H
    clear H
    have H := H1
    clear H1
    obtain rfl := Option.some.inj H
    go_enter Try.func23, Try.ntmps23
    go_wp2_with (first | ((with_reducible refine gate_callee (f := 16) rfl ?_); refine goesL_ (some 9) rfl rfl Try.func16 (by kernel_rfl) rfl #[.int .i64 a0, .slice A1 l1.length c1] rfl (by (try simp only [List.map_toArray, List.map_cons, List.map_nil]); first | done | rfl | (simp only [List.length_drop, List.length_take]; rfl)) ?_; (with_reducible refine (sackbutref06_Voicing.calls k a0 _ _ l1 false _ ?side1 ?side2 A4.out).mono ?_); (case side1 => repeat (first | exact HR1.out | (with_reducible refine Kd.C_alloc ?_ _) | (with_reducible refine Kd.C_drewN ?_ _) | (with_reducible refine Kd.C_drew ?_))); (case side2 => exact HC1.out); rintro e w' ⟨rfl, ⟨nd, rfl⟩⟩; refine ⟨_, rfl, ?_⟩))
    go_ret
    exact ⟨by first | rfl | (simp; done) | (simp [*]; done), by repeat (first | exact Drawn0.refl _ | apply Drawn0.step)⟩

end Go.Proofs.Ytfjafmgaahfhgaa.P
namespace Go.Proofs.Ytfjafmgaahfhgaa.P
open Go.RowKit Go.Proofs.YtfjafmgaahfhgaaW.PrintWords Go.Proofs.YtfjafmgaahfhgaaW.PrintLast Go.Proofs.YtfjafmgaahfhgaaW.PrintMore
attribute [local go_sem] max2_int min2_int max_two min_two max_three min_three max_four min_four   -- for this text's walks alone
set_option linter.unusedVariables false
set_option linter.unusedSimpArgs false

/-! ### sackbutref06_mod: function 53 -/
def sackbutref06_mod.f (a0 : Int) (a1 : Int) : Option (Int) := if a1 = 0 then (none) else (some (Int.tmod (wrap64 ((Int.tmod a0 a1) + a1)) a1))
set_option maxHeartbeats 8000000 in
set_option maxRecDepth 100000 in
theorem sackbutref06_mod.calls (a0 : Int) (a1 : Int) (r : Int) (w : World) (h : sackbutref06_mod.f a0 a1 = some r) :
    Calls Try.prog 53 #[.int .i64 a0, .int .i64 a1] w fun e w' => e = .returned (.int .i64 r) ∧ Drawn0 w w' := by
  have H : (if a1 = 0 then (none) else (some (Int.tmod (wrap64 ((Int.tmod a0 a1) + a1)) a1))) = some r := h
  clear h
  by_cases c3 : a1 = 0
  · rw [if_pos c3] at H
    exact absurd H (by simp)
  · rw [if_neg c3] at H
    have c3b0 : (a1 == 0) = false := beq_eq_false_iff_ne.mpr c3
    have c3b1 : (a1 != 0) = true := bne_iff_ne.mpr c3
    obtain rfl := Option.some.inj H
    go_enter Try.func53, Try.ntmps53
    go_wp2
    go_ret
    exact ⟨by first | rfl | (simp; done) | (simp [*]; done), by repeat (first | exact Drawn0.refl _ | apply Drawn0.step)⟩

end Go.Proofs.Ytfjafmgaahfhgaa.P
namespace Go.Proofs.Ytfjafmgaahfhgaa.P
open Go.RowKit Go.Proofs.YtfjafmgaahfhgaaW.PrintWords Go.Proofs.YtfjafmgaahfhgaaW.PrintLast Go.Proofs.YtfjafmgaahfhgaaW.PrintMore
attribute [local go_sem] max2_int min2_int max_two min_two max_three min_three max_four min_four   -- for this text's walks alone
set_option linter.unusedVariables false
set_option linter.unusedSimpArgs false

/-! ### sackbutref06_Move: function 68 -/
def sackbutref06_Move.f (a0 : Int) (a1 : Int) (a2 : Int) : Option (Int) := (sackbutref06_mod.f (wrap64 (a2 - a1)) a0).bind fun t1001 => (if (wrap64 (2 * t1001)) ≤ a0 then (some t1001) else (some (wrap64 (t1001 - a0))))
set_option maxHeartbeats 8000000 in
set_option maxRecDepth 100000 in
theorem sackbutref06_Move.calls (a0 : Int) (a1 : Int) (a2 : Int) (r : Int) (w : World) (h : sackbutref06_Move.f a0 a1 a2 = some r) :
    Calls Try.prog 68 #[.int .i64 a0, .int .i64 a1, .int .i64 a2] w fun e w' => e = .returned (.int .i64 r) ∧ Drawn0 w w' := by
  have H : ((sackbutref06_mod.f (wrap64 (a2 - a1)) a0).bind fun t1001 => (if (wrap64 (2 * t1001)) ≤ a0 then (some t1001) else (some (wrap64 (t1001 - a0))))) = some r := h
  clear h
  replace H := Option.bind_eq_some_iff.mp H
  obtain ⟨t1001, A40, H⟩ := H
  replace H : (if (wrap64 (2 * t1001)) ≤ a0 then (some t1001) else (some (wrap64 (t1001 - a0)))) = some r := H
  have A4 := Aside0.mk A40
  clear A40
  by_cases c5 : (wrap64 (2 * t1001)) ≤ a0
  · rw [if_pos c5] at H
    have c5b0 : decide ((wrap64 (2 * t1001)) ≤ a0) = true := decide_eq_true c5
    clear c5
    obtain rfl := Option.some.inj H
    go_enter Try.func68, Try.ntmps68
    go_wp2_with (first | ((with_reducible refine gate_callee (f := 53) rfl ?_); refine goesL_ (some 12) rfl rfl Try.func53 (by kernel_rfl) rfl #[.int .i64 (wrap64 (a2 - a1)), .int .i64 a0] rfl (by (try simp only [List.map_toArray, List.map_cons, List.map_nil]); first | done | rfl | (simp only [List.length_drop, List.length_take]; rfl)) ?_; (with_reducible refine (sackbutref06_mod.calls (wrap64 (a2 - a1)) a0 t1001 _ A4.out).mono ?_); rintro e w' ⟨rfl, ⟨nd, rfl⟩⟩; refine ⟨_, rfl, ?_⟩))
    go_ret
    exact ⟨by first | rfl | (simp; done) | (simp [*]; done), by repeat (first | exact Drawn0.refl _ | apply Drawn0.step)⟩
  · rw [if_neg c5] at H
    have c5b0 : decide ((wrap64 (2 * t1001)) ≤ a0) = false := decide_eq_false c5
    clear c5
    obtain rfl := Option.some.inj H
    go_enter Try.func68, Try.ntmps68
    go_wp2_with (first | ((with_reducible refine gate_callee (f := 53) rfl ?_); refine goesL_ (some 12) rfl rfl Try.func53 (by kernel_rfl) rfl #[.int .i64 (wrap64 (a2 - a1)), .int .i64 a0] rfl (by (try simp only [List.map_toArray, List.map_cons, List.map_nil]); first | done | rfl | (simp only [List.length_drop, List.length_take]; rfl)) ?_; (with_reducible refine (sackbutref06_mod.calls (wrap64 (a2 - a1)) a0 t1001 _ A4.out).mono ?_); rintro e w' ⟨rfl, ⟨nd, rfl⟩⟩; refine ⟨_, rfl, ?_⟩))
    go_ret
    exact ⟨by first | rfl | (simp; done) | (simp [*]; done), by repeat (first | exact Drawn0.refl _ | apply Drawn0.step)⟩

end Go.Proofs.Ytfjafmgaahfhgaa.P
namespace Go.Proofs.Ytfjafmgaahfhgaa.P
open Go.RowKit Go.Proofs.YtfjafmgaahfhgaaW.PrintWords Go.Proofs.YtfjafmgaahfhgaaW.PrintLast Go.Proofs.YtfjafmgaahfhgaaW.PrintMore
attribute [local go_sem] max2_int min2_int max_two min_two max_three min_three max_four min_four   -- for this text's walks alone
set_option linter.unusedVariables false
set_option linter.unusedSimpArgs false

/-! ### sackbutref06_Distance: function 49 -/
def sackbutref06_Distance.f (a0 : Int) (a1 : Int) (a2 : Int) : Option (Int) := (sackbutref06_Move.f a0 a1 a2).bind fun t1001 => ((sackbutref06_Move.f a0 a1 a2).bind fun t1002 => (some (mx t1001 (wrap64 (-t1002)))))
set_option maxHeartbeats 8000000 in
set_option maxRecDepth 100000 in
theorem sackbutref06_Distance.calls (a0 : Int) (a1 : Int) (a2 : Int) (r : Int) (w : World) (h : sackbutref06_Distance.f a0 a1 a2 = some r) :
    Calls Try.prog 49 #[.int .i64 a0, .int .i64 a1, .int .i64 a2] w fun e w' => e = .returned (.int .i64 r) ∧ Below w.heap.size w w' := by
  have HB := Aside0.mk (Below.refl w.heap.size w)
  have H : ((sackbutref06_Move.f a0 a1 a2).bind fun t1001 => ((sackbutref06_Move.f a0 a1 a2).bind fun t1002 => (some (mx t1001 (wrap64 (-t1002)))))) = some r := h
  clear h
  replace H := Option.bind_eq_some_iff.mp H
  obtain ⟨t1001, A40, H⟩ := H
  replace H : ((sackbutref06_Move.f a0 a1 a2).bind fun t1002 => (some (mx t1001 (wrap64 (-t1002))))) = some r := H
  have A4 := Aside0.mk A40
  clear A40
  replace H := Option.bind_eq_some_iff.mp H
  obtain ⟨t1002, A50, H⟩ := H
  replace H : (some (mx t1001 (wrap64 (-t1002)))) = some r := H
  have A5 := Aside0.mk A50
  clear A50
  obtain ⟨ji6, hji6⟩ : ∃ j_ : Int, (mx t1001 (wrap64 (-t1002))) = j_ := ⟨_, rfl⟩
  replace H : (some ji6) = some r := by first | (rw [hji6] at H; exact H) | (simp only [hji6] at H ⊢; exact H)
  (try rw [hji6] at A4)
  (try rw [hji6] at A5)
  have hji6_ : (if t1001 < (wrap64 (-t1002)) then (wrap64 (-t1002)) else t1001) = ji6 := hji6
  obtain rfl := Option.some.inj H
  go_enter Try.func49, Try.ntmps49
  go_wp2_with (first | ((with_reducible refine gate_callee (f := 68) rfl ?_); refine goesL_ (some 10) rfl rfl Try.func68 (by kernel_rfl) rfl #[.int .i64 a0, .int .i64 a1, .int .i64 a2] rfl (by (try simp only [List.map_toArray, List.map_cons, List.map_nil]); first | done | rfl | (simp only [List.length_drop, List.length_take]; rfl)) ?_; (with_reducible refine (sackbutref06_Move.calls a0 a1 a2 t1001 _ A4.out).mono ?_); rintro e w' ⟨rfl, ⟨nd, rfl⟩⟩; refine ⟨_, rfl, ?_⟩) | ((with_reducible refine gate_callee (f := 68) rfl ?_); refine goesL_ (some 14) rfl rfl Try.func68 (by kernel_rfl) rfl #[.int .i64 a0, .int .i64 a1, .int .i64 a2] rfl (by (try simp only [List.map_toArray, List.map_cons, List.map_nil]); first | done | rfl | (simp only [List.length_drop, List.length_take]; rfl)) ?_; (with_reducible refine (sackbutref06_Move.calls a0 a1 a2 t1002 _ A5.out).mono ?_); rintro e w' ⟨rfl, ⟨nd, rfl⟩⟩; refine ⟨_, rfl, ?_⟩))
  go_ret
  exact ⟨by first | rfl | (simp [errW_none, errW_some] <;> rfl) | (simp only [← hji6]; first | rfl | (simp [errW_none, errW_some] <;> rfl)) | (simp [*, errW_none, errW_some] <;> rfl), by repeat (first | (with_reducible first | exact HB.out | apply below_alloc | apply pw_below_drewN | apply below_drew1) | exact HB.out)⟩

end Go.Proofs.Ytfjafmgaahfhgaa.P
namespace Go.Proofs.Ytfjafmgaahfhgaa.P
open Go.RowKit Go.Proofs.YtfjafmgaahfhgaaW.PrintWords Go.Proofs.YtfjafmgaahfhgaaW.PrintLast Go.Proofs.YtfjafmgaahfhgaaW.PrintMore
attribute [local go_sem] max2_int min2_int max_two min_two max_three min_three max_four min_four   -- for this text's walks alone
set_option linter.unusedVariables false
set_option linter.unusedSimpArgs false

/-! ### sackbutref06_Price: function 50 -/
def sackbutref06_Price.l0 : Nat → Int → List Int → List Int → Int → List Int → Int → Int → Option (Int)
  | 0, _, _, _, _, _, _, _ => none
  | k + 1, x0, x1, x2, x9, x12, x13, x14 => if x14 < x13 then (if 0 ≤ x14 then (if x14 < (x12.length : Int) then (if x14 < (x1.length : Int) then (if 0 ≤ (rd x12 x14) then (if (rd x12 x14) < (x2.length : Int) then ((sackbutref06_Distance.f x0 (rd x1 x14) (rd x2 (rd x12 x14))).bind fun t1004 => (sackbutref06_Price.l0 k x0 x1 x2 (wrap64 (x9 + t1004)) x12 x13 (wrap64 (x14 + 1)))) else (none)) else (none)) else (none)) else (none)) else (none)) else (some x9)
def sackbutref06_Price.f (k : Nat) (a0 : Int) (l1 : List Int) (l2 : List Int) (l3 : List Int) : Option (Int) := sackbutref06_Price.l0 k a0 l1 l2 0 l3 (l3.length : Int) 0
theorem sackbutref06_Price.mono_l : ∀ k, (∀ y0 y1 y2 y3 y4 y5 y6, LeO (sackbutref06_Price.l0 k y0 y1 y2 y3 y4 y5 y6) (sackbutref06_Price.l0 (k + 1) y0 y1 y2 y3 y4 y5 y6))
  | 0 => fun _ _ _ _ _ _ _ r h => by simp [sackbutref06_Price.l0] at h
  | k + 1 => by
    have ih0 := sackbutref06_Price.mono_l k
    · intro y0 y1 y2 y3 y4 y5 y6
      unfold sackbutref06_Price.l0
      repeat' first
      | (with_reducible exact ih0 _ _ _ _ _ _ _)
      | (with_reducible exact LeO.refl _)
      | (with_reducible exact LeO.none _)
      | (with_reducible refine LeO.ite ?_ ?_)
      | (with_reducible refine LeO.bind ?_ (fun _ => ?_))
      | exact ih0 _ _ _ _ _ _ _
      | exact LeO.none _
      | refine LeO.ite ?_ ?_
      | refine LeO.bind ?_ (fun _ => ?_)
theorem sackbutref06_Price.mono : ∀ a0 a1 a2 a3 k, LeO (sackbutref06_Price.f k a0 a1 a2 a3) (sackbutref06_Price.f (k + 1) a0 a1 a2 a3) := by
  intro a0 a1 a2 a3 k
  have ih0 := sackbutref06_Price.mono_l k
  unfold sackbutref06_Price.f
  repeat' first
      | (with_reducible exact ih0 _ _ _ _ _ _ _)
      | (with_reducible exact LeO.refl _)
      | (with_reducible exact LeO.none _)
      | (with_reducible refine LeO.ite ?_ ?_)
      | (with_reducible refine LeO.bind ?_ (fun _ => ?_))
      | exact ih0 _ _ _ _ _ _ _
      | exact LeO.none _
      | refine LeO.ite ?_ ?_
      | refine LeO.bind ?_ (fun _ => ?_)
def sackbutref06_Price.T5 : Bool × List (List Nat × List Nat) := (true, [([], []), ([], []), ([], []), ([], []), ([2, 3], [2, 3]), ([4], [4]), ([], []), ([], []), ([6, 7], [6, 7]), ([8], [8]), ([1, 5, 9], [1, 5, 9]), ([0, 10], [0, 10]), ([11, 10, 0, 1, 2, 3, 4, 5, 6, 7, 8, 9, 10, 11], [0, 11])])
def sackbutref06_Price.B5 : List Nat := [0, 0, 0, 0, 12, 28, 0, 0, 192, 448, 1022, 2047, 4095]
theorem sackbutref06_Price.tab5 : rtab .any (opsOf Try.f50 5) = sackbutref06_Price.T5 := by kernel_rfl
theorem sackbutref06_Price.bits5 : waitsOk sackbutref06_Price.T5.2 sackbutref06_Price.B5 = true := by kernel_rfl
set_option maxHeartbeats 8000000 in
set_option maxRecDepth 100000 in
theorem sackbutref06_Price.calls (k : Nat) (a0 : Int) (A1 : Option Addr) (c1 : Nat) (l1 : List Int) (A2 : Option Addr) (c2 : Nat) (l2 : List Int) (A3 : Option Addr) (c3 : Nat) (l3 : List Int) (r : Int) (w : World) (hr1 : Kd.C (Kd.int .i64) w A1 l1.length l1) (hc1 : l1.length ≤ c1) (hr2 : Kd.C (Kd.int .i64) w A2 l2.length l2) (hc2 : l2.length ≤ c2) (hr3 : Kd.C (Kd.int .i64) w A3 l3.length l3) (hc3 : l3.length ≤ c3) (h : sackbutref06_Price.f k a0 l1 l2 l3 = some r) :
    Calls Try.prog 50 #[.int .i64 a0, .slice A1 l1.length c1, .slice A2 l2.length c2, .slice A3 l3.length c3] w fun e w' => e = .returned (.int .i64 r) ∧ Below w.heap.size w w' := by
  have HR1 := Aside0.mk hr1
  have HC1 := Aside0.mk hc1
  clear hr1 hc1
  have HR2 := Aside0.mk hr2
  have HC2 := Aside0.mk hc2
  clear hr2 hc2
  have HR3 := Aside0.mk hr3
  have HC3 := Aside0.mk hc3
  clear hr3 hc3
  have HB := Aside0.mk (Below.refl w.heap.size w)
  have H : (sackbutref06_Price.l0 k a0 l1 l2 0 l3 (l3.length : Int) 0) = some r := h
  clear h
  have H' := Aside0.mk H
  clear H
  go_enter Try.func50, Try.ntmps50
  go_wp2
  go_loopg [9, 14] k (fun kq v9 v14 w' => ∃ (x9_1 : Int) (x14_1 : Int), v9 = .int .i64 x9_1 ∧ v14 = .int .i64 x14_1 ∧ Aside0 (sackbutref06_Price.l0 kq a0 l1 l2 x9_1 l3 (l3.length : Int) x14_1 = some r) ∧ Aside0 (kq ≤ k) ∧ Aside0 (Below w.heap.size w w'))
  case atStart => exact ⟨(0), (0), (by first | rfl | (simp; done) | (simp [*]; done)), (by first | rfl | (simp; done) | (simp [*]; done)), H', ⟨Nat.le_refl _⟩, ⟨by repeat (first | (with_reducible first | exact HB.out | apply below_alloc | apply pw_below_drewN | apply below_drew1) | exact HB.out)⟩⟩
  case round =>
    clear H'
    try clear c1
    try clear c2
    try clear p2
    try clear c3
    obtain ⟨x9_1, x14_1, rfl, rfl, HA, HK1, HB⟩ := hrel
    cases gk with
    | zero => exact absurd HA.out (by simp [sackbutref06_Price.l0])
    | succ k1 =>
      have H := HA.out
      clear HA
      simp only [sackbutref06_Price.l0] at H
      by_cases c5 : x14_1 < (l3.length : Int)
      · rw [if_pos c5] at H
        have c5b0 : decide (x14_1 < (l3.length : Int)) = true := decide_eq_true c5
        clear c5
        by_cases c6 : 0 ≤ x14_1
        · rw [if_pos c6] at H
          have c6b0 : decide (0 ≤ x14_1) = true := decide_eq_true c6
          clear c6
          by_cases c7 : x14_1 < (l3.length : Int)
          · rw [if_pos c7] at H
            have c7b0 : decide (x14_1 < (l3.length : Int)) = true := decide_eq_true c7
            clear c7
            by_cases c8 : x14_1 < (l1.length : Int)
            · rw [if_pos c8] at H
              have c8b0 : decide (x14_1 < (l1.length : Int)) = true := decide_eq_true c8
              clear c8
              by_cases c9 : 0 ≤ (rd l3 x14_1)
              · rw [if_pos c9] at H
                have c9b0 : decide (0 ≤ (rd l3 x14_1)) = true := decide_eq_true c9
                clear c9
                by_cases c10 : (rd l3 x14_1) < (l2.length : Int)
                · rw [if_pos c10] at H
                  have c10b0 : decide ((rd l3 x14_1) < (l2.length : Int)) = true := decide_eq_true c10
                  clear c10
                  replace H := Option.bind_eq_some_iff.mp H
                  obtain ⟨t1004, A110, H⟩ := H
                  replace H : (sackbutref06_Price.l0 k1 a0 l1 l2 (wrap64 (x9_1 + t1004)) l3 (l3.length : Int) (wrap64 (x14_1 + 1))) = some r := H
                  have A11 := Aside0.mk A110
                  clear A110
                  have H' := Aside0.mk H
                  clear H
                  have p1001 : 0 ≤ (x14_1 : Int) := of_decide_eq_true (by first | (with_reducible assumption) | assumption)
                  have q1001 : x14_1 < (l3.length : Int) := of_decide_eq_true (by first | (with_reducible assumption) | assumption)
                  obtain ⟨ad1001, e1001, hx1001_0⟩ := Kd.at_int HR3.out x14_1 p1001 q1001
                  cases e1001
                  replace hx1001_0 := (HB.out.cell (World.block_lt_of_cell? w _ hx1001_0)).trans hx1001_0
                  replace p1001 := eq_true p1001
                  replace q1001 := eq_true q1001
                  try go_wp2
                  have n0_ := Aside0.mk (below_drew1 HB.out)
                  clear HB
                  have HB := n0_
                  clear n0_
                  have p1002 : 0 ≤ (x14_1 : Int) := of_decide_eq_true (by first | (with_reducible assumption) | assumption)
                  have q1002 : x14_1 < (l1.length : Int) := of_decide_eq_true (by first | (with_reducible assumption) | assumption)
                  obtain ⟨ad1002, e1002, hx1002_0⟩ := Kd.at_int HR1.out x14_1 p1002 q1002
                  have hw1002_0 := hx1002_0
                  cases e1002
                  replace hx1002_0 := (HB.out.cell (World.block_lt_of_cell? w _ hx1002_0)).trans hx1002_0
                  replace p1002 := eq_true p1002
                  replace q1002 := eq_true q1002
                  have p1003 : 0 ≤ ((rd l3 x14_1) : Int) := of_decide_eq_true (by first | (with_reducible assumption) | assumption)
                  have q1003 : (rd l3 x14_1) < (l2.length : Int) := of_decide_eq_true (by first | (with_reducible assumption) | assumption)
                  obtain ⟨ad1003, e1003, hx1003_0⟩ := Kd.at_int HR2.out (rd l3 x14_1) p1003 q1003
                  have hw1003_0 := hx1003_0
                  cases e1003
                  replace hx1003_0 := (HB.out.cell (World.block_lt_of_cell? w _ hx1003_0)).trans hx1003_0
                  replace p1003 := eq_true p1003
                  replace q1003 := eq_true q1003
                  refine start_ (n := 13) (S := fun w' => w'.cell? (ad1002.add (x14_1).toNat) = some (.int .i64 (rd l1 x14_1)) ∧ w'.cell? (ad1003.add ((rd l3 x14_1)).toNat) = some (.int .i64 (rd l2 (rd l3 x14_1)))) (ds := []) #[false, false, false, false, false, false, false, false, false, false, false, false, false] (by kernel_rfl) rfl rfl ⟨((HB.out.cell (World.block_lt_of_cell? w _ hw1002_0)).trans hw1002_0), ((HB.out.cell (World.block_lt_of_cell? w _ hw1003_0)).trans hw1003_0)⟩ (fun hHeld => ?_); refine with_tabW sackbutref06_Price.tab5 sackbutref06_Price.bits5 (fun HT_ HW_ => ?_)
                  generalize wr.drew = w12 at HB hx1002_0 hx1003_0 hHeld ⊢
                  refine pure_ (i := 0) (N := some 19) (v := ?_) (a' := ?_) #[true, false, false, false, false, false, false, false, false, false, false, false, false] rfl rfl (any_of HT_.out (by kernel_rfl)) (fun _ _ _ h => h) (Or.inl ⟨by rfl, ?_⟩) ?_ ?_
                  rotate_left
                  · intro w'
                    go_simp
                    with_reducible rfl
                  rotate_left
                  · simp only [Act.put, List.setIfInBounds_toArray, List.set_cons_zero, List.set_cons_succ, i64_w, i32_w]
                    rfl
                  refine pure_ (i := 1) (N := some 20) (v := ?_) (a' := ?_) #[true, true, false, false, false, false, false, false, false, false, false, false, false] rfl rfl (any_of HT_.out (by kernel_rfl)) (fun _ _ _ h => h) (Or.inl ⟨by rfl, ?_⟩) ?_ ?_
                  rotate_left
                  · intro w'
                    go_simp
                    with_reducible rfl
                  rotate_left
                  · simp only [Act.put, List.setIfInBounds_toArray, List.set_cons_zero, List.set_cons_succ, i64_w, i32_w]
                    rfl
                  refine pure_ (i := 2) (N := some 21) (v := ?_) (a' := ?_) #[true, true, true, false, false, false, false, false, false, false, false, false, false] rfl rfl (any_of HT_.out (by kernel_rfl)) (fun _ _ _ h => h) (Or.inl ⟨by rfl, ?_⟩) ?_ ?_
                  rotate_left
                  · intro w'
                    go_simp
                    with_reducible rfl
                  rotate_left
                  · simp only [Act.put, List.setIfInBounds_toArray, List.set_cons_zero, List.set_cons_succ, i64_w, i32_w]
                    rfl
                  refine pure_ (i := 3) (N := some 22) (v := ?_) (a' := ?_) #[true, true, true, true, false, false, false, false, false, false, false, false, false] rfl rfl (any_of HT_.out (by kernel_rfl)) (fun _ _ _ h => h) (Or.inl ⟨by rfl, ?_⟩) ?_ ?_
                  rotate_left
                  · intro w'
                    go_simp
                    with_reducible rfl
                  rotate_left
                  · simp only [Act.put, List.setIfInBounds_toArray, List.set_cons_zero, List.set_cons_succ, i64_w, i32_w]
                    rfl
                  refine pure_ (i := 4) (N := some 23) (v := ?_) (a' := ?_) #[true, true, true, true, true, false, false, false, false, false, false, false, false] rfl rfl (any_of HT_.out (by kernel_rfl)) (fun _ _ _ h => h) (Or.inl ⟨by rfl, ?_⟩) ?_ ?_
                  rotate_left
                  · intro w'
                    go_simp
                    with_reducible rfl
                  rotate_left
                  · simp only [Act.put, List.setIfInBounds_toArray, List.set_cons_zero, List.set_cons_succ, i64_w, i32_w]
                    rfl
                  refine pure_ (i := 6) (N := some 25) (v := ?_) (a' := ?_) #[true, true, true, true, true, false, true, false, false, false, false, false, false] rfl rfl (any_of HT_.out (by kernel_rfl)) (fun _ _ _ h => h) (Or.inl ⟨by rfl, ?_⟩) ?_ ?_
                  rotate_left
                  · intro w'
                    go_simp
                    with_reducible rfl
                  rotate_left
                  · simp only [Act.put, List.setIfInBounds_toArray, List.set_cons_zero, List.set_cons_succ, i64_w, i32_w]
                    rfl
                  refine pure_ (i := 7) (N := some 26) (v := ?_) (a' := ?_) #[true, true, true, true, true, false, true, true, false, false, false, false, false] rfl rfl (any_of HT_.out (by kernel_rfl)) (fun _ _ _ h => h) (Or.inl ⟨by rfl, ?_⟩) ?_ ?_
                  rotate_left
                  · intro w'
                    go_simp
                    with_reducible rfl
                  rotate_left
                  · simp only [Act.put, List.setIfInBounds_toArray, List.set_cons_zero, List.set_cons_succ, i64_w, i32_w]
                    rfl
                  refine pure_ (i := 8) (N := some 27) (v := ?_) (a' := ?_) #[true, true, true, true, true, false, true, true, true, false, false, false, false] rfl rfl (any_of HT_.out (by kernel_rfl)) (fun _ _ _ h => h) (Or.inl ⟨by rfl, ?_⟩) ?_ ?_
                  rotate_left
                  · intro w'
                    go_simp
                    with_reducible rfl
                  rotate_left
                  · simp only [Act.put, List.setIfInBounds_toArray, List.set_cons_zero, List.set_cons_succ, i64_w, i32_w]
                    rfl
                  refine take_ (i := 5) (N := some 24) (v := ?_) (a' := ?_) #[true, true, true, true, true, true, true, true, true, false, false, false, false] rfl rfl (take_ofW HT_.out HW_.out (by kernel_rfl)) (fun _ _ _ h => h) (Or.inl ⟨by rfl, ?_⟩) hHeld ?_ ?_
                  rotate_left
                  · rintro w' ⟨s0, s1⟩
                    go_simp
                    with_reducible rfl
                  rotate_left
                  · simp only [Act.put, List.setIfInBounds_toArray, List.set_cons_zero, List.set_cons_succ, i64_w, i32_w]
                    rfl
                  refine take_ (i := 9) (N := some 28) (v := ?_) (a' := ?_) #[true, true, true, true, true, true, true, true, true, true, false, false, false] rfl rfl (take_ofW HT_.out HW_.out (by kernel_rfl)) (fun _ _ _ h => h) (Or.inl ⟨by rfl, ?_⟩) hHeld ?_ ?_
                  rotate_left
                  · rintro w' ⟨s0, s1⟩
                    go_simp
                    with_reducible rfl
                  rotate_left
                  · simp only [Act.put, List.setIfInBounds_toArray, List.set_cons_zero, List.set_cons_succ, i64_w, i32_w]
                    rfl
                  refine one_ (i := 10) (N := some 29) #[true, true, true, true, true, true, true, true, true, true, true, false, false] rfl rfl (one_of HT_.out (by kernel_rfl)) (by decide) (fun K hK => ?_)
                  refine goes_ Try.func49 (by kernel_rfl) rfl #[.int .i64 a0, .int .i64 (rd l1 x14_1), .int .i64 (rd l2 (rd l3 x14_1))] (by rfl) rfl rfl (by (try simp only [List.map_toArray, List.map_cons, List.map_nil]); first | done | rfl | (simp only [List.length_drop, List.length_take]; rfl)) ?_
                  with_reducible refine (sackbutref06_Distance.calls a0 (rd l1 x14_1) (rd l2 (rd l3 x14_1)) t1004 _ A11.out).mono ?_
                  rintro e w13 ⟨rfl, hb⟩
                  refine ⟨_, rfl, ?_⟩
                  have n0_ := Aside0.mk (below_step (by repeat (first | (with_reducible first | exact HB.out | apply below_alloc | apply pw_below_drewN | apply below_drew1) | exact HB.out)) hb)
                  clear HB
                  have HB := n0_
                  clear n0_
                  (try clear hb)
                  (try clear hb2)
                  (try clear hk)
                  (try clear hi)
                  refine hK.out _ _ ⟨((HB.out.cell (World.block_lt_of_cell? w _ hw1002_0)).trans hw1002_0), ((HB.out.cell (World.block_lt_of_cell? w _ hw1003_0)).trans hw1003_0)⟩ (fun hHeld => ?_)
                  clear hK K
                  refine norm_ (a' := ?_) ?_ ?_
                  rotate_left
                  · show Act.put _ (some 29) _ = _
                    simp only [Act.put, List.setIfInBounds_toArray, List.set_cons_zero, List.set_cons_succ, i64_w, i32_w]
                    rfl
                  refine pure_ (i := 11) (N := some 30) (v := ?_) (a' := ?_) #[true, true, true, true, true, true, true, true, true, true, true, true, false] rfl rfl (any_of HT_.out (by kernel_rfl)) (fun _ _ _ h => h) (Or.inl ⟨by rfl, ?_⟩) ?_ ?_
                  rotate_left
                  · intro w'
                    go_simp
                    with_reducible rfl
                  rotate_left
                  · simp only [Act.put, List.setIfInBounds_toArray, List.set_cons_zero, List.set_cons_succ, i64_w, i32_w]
                    rfl
                  refine pure_ (i := 12) (N := some 9) (v := ?_) (a' := ?_) #[true, true, true, true, true, true, true, true, true, true, true, true, true] rfl rfl (any_of HT_.out (by kernel_rfl)) (fun _ _ _ h => h) (Or.inl ⟨by rfl, ?_⟩) ?_ ?_
                  rotate_left
                  · intro w'
                    go_simp
                    with_reducible rfl
                  rotate_left
                  · simp only [Act.put, List.setIfInBounds_toArray, List.set_cons_zero, List.set_cons_succ, i64_w, i32_w]
                    rfl
                  refine done_ (done_of HT_.out (by kernel_rfl)) ?_
                  try go_wp2
                  go_roundg k1
                  case measure => have := HK1.out; omega
                  case rel => exact ⟨(wrap64 (x9_1 + t1004)), (wrap64 (x14_1 + 1)), (by first | rfl | (simp; done) | (simp [*]; done)), (by first | rfl | (simp; done) | (simp [*]; done)), H', ⟨by have := HK1.out; omega⟩, ⟨by repeat (first | (with_reducible first | exact HB.out | apply below_alloc | apply pw_below_drewN | apply below_drew1) | exact HB.out)⟩⟩
                · rw [if_neg c10] at H
                  exact absurd H (by simp)
              · rw [if_neg c9] at H
                exact absurd H (by simp)
            · rw [if_neg c8] at H
              exact absurd H (by simp)
          · rw [if_neg c7] at H
            exact absurd H (by simp)
        · rw [if_neg c6] at H
          exact absurd H (by simp)
      · rw [if_neg c5] at H
        have c5b0 : decide (x14_1 < (l3.length : Int)) = false := decide_eq_false c5
        clear c5
        obtain rfl := Option.some.inj H
        go_wp2
        go_ret
        exact ⟨by first | rfl | (simp [errW_none, errW_some] <;> rfl) | (simp [*, errW_none, errW_some] <;> rfl), by repeat (first | (with_reducible first | exact HB.out | apply below_alloc | apply pw_below_drewN | apply below_drew1) | exact HB.out)⟩

end Go.Proofs.Ytfjafmgaahfhgaa.P
namespace Go.Proofs.Ytfjafmgaahfhgaa.P
open Go.RowKit Go.Proofs.YtfjafmgaahfhgaaW.PrintWords Go.Proofs.YtfjafmgaahfhgaaW.PrintLast Go.Proofs.YtfjafmgaahfhgaaW.PrintMore
attribute [local go_sem] max2_int min2_int max_two min_two max_three min_three max_four min_four   -- for this text's walks alone
set_option linter.unusedVariables false
set_option linter.unusedSimpArgs false

/-! runs over a list that gather a set -/
def validRun (n : Nat) : Nat → List Int → Bool
  | s, [] => decide (s = 2 ^ n - 1)
  | s, x :: xs => if x < 0 then false else if x ≥ n then false else validRun n (s ||| 2 ^ x.toNat) xs
theorem validRun_iff (n : Nat) : ∀ (xs : List Int) (s : Nat), validRun n s xs = decide ((∀ x ∈ xs, 0 ≤ x ∧ x < n) ∧ orAll s (xs.map Int.toNat) = 2 ^ n - 1) := by
  intro xs
  induction xs with
  | nil => intro s; simp [validRun, orAll]
  | cons x xs ih =>
    intro s
    simp only [validRun, List.map_cons, orAll_cons, ih, List.forall_mem_cons]
    by_cases h1 : x < 0
    · simp [h1]; intro h; omega
    · by_cases h2 : x ≥ n
      · simp [h1, h2]; intro _ h; omega
      · simp only [h1, h2, if_false]
        congr 1
        rw [eq_iff_iff]
        constructor
        · rintro ⟨a, b⟩; exact ⟨⟨⟨by omega, by omega⟩, a⟩, b⟩
        · rintro ⟨⟨_, a⟩, b⟩; exact ⟨a, b⟩
theorem nodup_toNat {xs : List Int} (h : ∀ x ∈ xs, 0 ≤ x) : (xs.map Int.toNat).Nodup ↔ xs.Nodup := by
  induction xs with
  | nil => simp
  | cons x xs ih =>
    have h' := ih (fun y hy => h y (List.mem_cons_of_mem _ hy))
    simp only [List.map_cons, List.nodup_cons, h']
    have : x.toNat ∈ xs.map Int.toNat ↔ x ∈ xs := by
      simp only [List.mem_map]
      constructor
      · rintro ⟨y, hy, e⟩
        have := h y (List.mem_cons_of_mem _ hy); have := h x List.mem_cons_self
        obtain rfl : y = x := by omega
        exact hy
      · intro hx; exact ⟨x, hx, rfl⟩
    rw [this]
def partRun (n : Nat) : Nat → List Int → Bool
  | _, [] => true
  | s, x :: xs => if x < 0 then false else if x ≥ n then false else if s.testBit x.toNat then false else partRun n (s ||| 2 ^ x.toNat) xs
theorem partRun_iff (n : Nat) : ∀ (xs : List Int) (s : Nat), partRun n s xs = decide ((∀ x ∈ xs, 0 ≤ x ∧ x < n ∧ s.testBit x.toNat = false) ∧ xs.Nodup) := by
  intro xs
  induction xs with
  | nil => intro s; simp [partRun]
  | cons x xs ih =>
    intro s
    simp only [partRun, ih, List.forall_mem_cons, List.nodup_cons]
    by_cases h1 : x < 0
    · simp [h1]; intro h; omega
    · by_cases h2 : x ≥ n
      · simp [h1, h2]; intro _ h; omega
      · by_cases h3 : s.testBit x.toNat = true
        · simp [h1, h2, h3]
        · rw [if_neg h1, if_neg h2, if_neg h3, decide_eq_decide]
          simp only [testBit_or_two_pow, Bool.or_eq_false_iff, decide_eq_false_iff_not]
          constructor
          · rintro ⟨a, b⟩
            refine ⟨⟨⟨by omega, by omega, by simpa using h3⟩, fun y hy => ⟨(a y hy).1, (a y hy).2.1, (a y hy).2.2.1⟩⟩, fun hx => (a x hx).2.2.2 rfl, b⟩
          · rintro ⟨⟨_, a⟩, b, c⟩
            refine ⟨fun y hy => ⟨(a y hy).1, (a y hy).2.1, (a y hy).2.2, fun e => b ?_⟩, c⟩
            have := (a y hy).1
            obtain rfl : x = y := by omega
            exact hy

end Go.Proofs.Ytfjafmgaahfhgaa.P
namespace Go.Proofs.Ytfjafmgaahfhgaa.P
open Go.RowKit Go.Proofs.YtfjafmgaahfhgaaW.PrintWords Go.Proofs.YtfjafmgaahfhgaaW.PrintLast Go.Proofs.YtfjafmgaahfhgaaW.PrintMore
attribute [local go_sem] max2_int min2_int max_two min_two max_three min_three max_four min_four   -- for this text's walks alone
set_option linter.unusedVariables false
set_option linter.unusedSimpArgs false

/-! leadings and their prices, of the program and of the document -/
def LeadOf (k : Nat) (l : List Int) : Prop := l.length = k ∧ (∀ x ∈ l, 0 ≤ x ∧ x < k) ∧ l.Nodup
instance (k : Nat) (l : List Int) : Decidable (LeadOf k l) := by unfold LeadOf; infer_instance
theorem lead_full {l : List Int} {k : Nat} (hl : l.length = k) (hr : ∀ x ∈ l, 0 ≤ x ∧ x < k) : orAll 0 (l.map Int.toNat) = 2 ^ k - 1 ↔ l.Nodup := by
  have hr' : ∀ x ∈ l.map Int.toNat, x < k := by
    intro x hx
    obtain ⟨y, hy, rfl⟩ := List.mem_map.1 hx
    have := hr y hy
    omega
  rw [orAll_full _ hr', ← nodup_toNat (fun x hx => (hr x hx).1)]
  exact ⟨fun h => nodup_of_full (by simp [hl]) h, fun h => full_of_nodup (by simp [hl]) hr' h⟩
/-! voicings, in the document's words -/
theorem mid_next8 {l pre xs : List Int} {x : Int} (hl : l = pre ++ x :: xs) (hb : l.length < 9223372036854775808) : wrap64 ((pre.length : Int) + 1) = ((pre ++ [x]).length : Int) := by
  have : l.length = pre.length + (xs.length + 1) := by rw [hl]; simp
  rw [wrap_id (by omega) (by omega)]; simp
theorem refVoicing_loop (n : Int) (l : List Int) (hl : l.length < 9223372036854775808) : ∀ (xs pre : List Int), l = pre ++ xs →
    Ev (fun q => sackbutref06_Voicing.l0 q n l l (l.length : Int) (pre.length : Int)) (decide ((∀ x ∈ xs, 0 ≤ x ∧ x < n) ∧ 2 ≤ n ∧ n ≤ 16 ∧ 1 ≤ l.length ∧ l.length ≤ 6)) := by
  intro xs
  induction xs with
  | nil =>
    intro pre h0
    refine Ev.succ ?_
    simp only [sackbutref06_Voicing.l0, if_neg (mid_end h0)]
    refine Ev.ite (fun e1 => ?_) (fun e1 => by rw [decide_eq_false (fun h => e1 h.2.1)]; exact Ev.some _)
    refine Ev.ite (fun e2 => ?_) (fun e2 => by rw [decide_eq_false (fun h => e2 h.2.2.1)]; exact Ev.some _)
    refine Ev.ite (fun e3 => ?_) (fun e3 => by rw [decide_eq_false (fun h => e3 (by have := h.2.2.2.1; omega))]; exact Ev.some _)
    have e : decide ((l.length : Int) ≤ 6) = decide ((∀ x ∈ ([] : List Int), 0 ≤ x ∧ x < n) ∧ 2 ≤ n ∧ n ≤ 16 ∧ 1 ≤ l.length ∧ l.length ≤ 6) := by
      rw [decide_eq_decide]
      exact ⟨fun h => ⟨by simp, e1, e2, by omega, by omega⟩, fun h => by have := h.2.2.2.2; omega⟩
    rw [e]
    exact Ev.some _
  | cons x xs ih =>
    intro pre h0
    refine Ev.succ ?_
    simp only [sackbutref06_Voicing.l0, if_pos (mid_lt h0), if_pos (show (0 : Int) ≤ (pre.length : Int) by omega), mid_rd h0, mid_next8 h0 hl]
    refine Ev.ite (fun e => by rw [decide_eq_false (fun h => by have := h.1 x (by simp); omega)]; exact Ev.some _) (fun e => ?_)
    refine Ev.ite (fun e2 => by rw [decide_eq_false (fun h => by have := h.1 x (by simp); omega)]; exact Ev.some _) (fun e2 => ?_)
    have e3 : decide ((∀ y ∈ x :: xs, 0 ≤ y ∧ y < n) ∧ 2 ≤ n ∧ n ≤ 16 ∧ 1 ≤ l.length ∧ l.length ≤ 6) = decide ((∀ y ∈ xs, 0 ≤ y ∧ y < n) ∧ 2 ≤ n ∧ n ≤ 16 ∧ 1 ≤ l.length ∧ l.length ≤ 6) := by
      rw [decide_eq_decide]
      constructor
      · rintro ⟨h, r⟩; exact ⟨fun y hy => h y (by simp [hy]), r⟩
      · rintro ⟨h, r⟩
        refine ⟨fun y hy => ?_, r⟩
        rcases List.mem_cons.1 hy with rfl | hy
        · omega
        · exact h y hy
    rw [e3]
    exact ih (pre ++ [x]) (mid_mv h0)
theorem refVoicing_ev (n : Int) (l : List Int) (hl : l.length < 9223372036854775808) : Ev (fun q => sackbutref06_Voicing.f q n l) (decide (VoiN n l)) := by
  have h := refVoicing_loop n l hl l [] rfl
  have e : decide ((∀ x ∈ l, 0 ≤ x ∧ x < n) ∧ 2 ≤ n ∧ n ≤ 16 ∧ 1 ≤ l.length ∧ l.length ≤ 6) = decide (VoiN n l) := by
    rw [decide_eq_decide]; unfold VoiN
    exact ⟨fun h => ⟨h.2.1, h.2.2.1, h.2.2.2.1, h.2.2.2.2, h.1⟩, fun h => ⟨h.2.2.2.2, h.1, h.2.1, h.2.2.1, h.2.2.2.1⟩⟩
  rw [e] at h
  exact h
theorem refTwo_ev (n : Int) (a b : List Int) (ha : a.length < 9223372036854775808) (hb : b.length < 9223372036854775808) : Ev (fun q => sackbutref06_Two.f q n a b) (decide (TwoN n a b)) := by
  unfold sackbutref06_Two.f
  refine Ev.bind (refVoicing_ev n a ha) ?_
  by_cases h1 : VoiN n a
  · simp only [h1, decide_true, if_true]
    refine Ev.bind (refVoicing_ev n b hb) ?_
    by_cases h2 : VoiN n b
    · simp only [h2, decide_true, if_true]
      have e : ((a.length : Int) == (b.length : Int)) = decide (TwoN n a b) := by
        rw [Bool.eq_iff_iff, beq_iff_eq, decide_eq_true_eq]; unfold TwoN
        exact ⟨fun h => ⟨h1, h2, by omega⟩, fun h => by have := h.2.2; omega⟩
      rw [e]; exact Ev.some _
    · simp only [h2, decide_false, Bool.false_eq_true, if_false]
      rw [decide_eq_false (fun h => h2 h.2.1)]; exact Ev.some _
  · simp only [h1, decide_false, Bool.false_eq_true, if_false]
    rw [decide_eq_false (fun h => h1 h.1)]; exact Ev.some _
theorem list9_f (l : List Int) : sackbutlaw06_list.f l = some (l.take 9) := by
  unfold sackbutlaw06_list.f
  rw [mn_eq, if_pos (by omega), if_pos (by omega)]
  have e : (min (l.length : Int) 9).toNat = min l.length 9 := by omega
  have e2 : l.take (min l.length 9) = l.take 9 := by
    rw [Nat.min_comm]; exact (List.take_eq_take_min ..).symm
  rw [e, e2]
  unfold slices_Clone_int_int.f
  rw [if_pos (by rw [List.length_take]; omega)]
  rfl
theorem voi_take (n : Int) (l : List Int) : VoiN n (l.take 9) ↔ VoiN n l := by
  rcases Nat.lt_or_ge 9 l.length with h | h
  · constructor
    · intro hr; have := hr.2.2.2.1; rw [List.length_take] at this; omega
    · intro hr; have := hr.2.2.2.1; omega
  · rw [List.take_of_length_le h]
theorem two_take (n : Int) (a b : List Int) : TwoN n (a.take 9) (b.take 9) ↔ TwoN n a b := by
  unfold TwoN
  rw [voi_take, voi_take]
  constructor
  · rintro ⟨h1, h2, h3⟩
    have := h1.2.2.2.1; have := h2.2.2.2.1
    rw [List.take_of_length_le (by omega), List.take_of_length_le (by omega)] at h3
    exact ⟨h1, h2, h3⟩
  · rintro ⟨h1, h2, h3⟩
    have := h1.2.2.2.1; have := h2.2.2.2.1
    rw [List.take_of_length_le (by omega), List.take_of_length_le (by omega)]
    exact ⟨h1, h2, h3⟩
theorem voi_take9 {n : Int} {l : List Int} (h : VoiN n l) : l.take 9 = l := List.take_of_length_le (by have := h.2.2.2.1; omega)
theorem lead_take {k : Nat} (hk : k ≤ 6) (l : List Int) : LeadOf k (l.take 9) ↔ LeadOf k l := by
  rcases Nat.lt_or_ge 9 l.length with h | h
  · constructor
    · intro hr; have := hr.1; rw [List.length_take] at this; omega
    · intro hr; have := hr.1; omega
  · rw [List.take_of_length_le h]
theorem awake_f : sackbutlaw06_awake.f = some true := by
  have h : TwoN 12 [0] [11] := by decide
  have e : voices_Cost.f 12 [0] [11] = some (1, 0) := by
    unfold voices_Cost.f
    rw [if_pos h]
    have : bestV 12 [0] [11] = (some [0], 1) := by decide
    rw [this]
  unfold sackbutlaw06_awake.f
  rw [e]
  rfl
theorem refMod_f {n x : Int} (hn : 2 ≤ n) (hn2 : n ≤ 16) : sackbutref06_mod.f x n = some (x % n) := by
  unfold sackbutref06_mod.f
  rw [if_neg (by omega), tmod_mod (by omega) (by omega)]
theorem refMove_f {n x y : Int} (hn : 2 ≤ n) (hn2 : n ≤ 16) (hx : 0 ≤ x ∧ x < n) (hy : 0 ≤ y ∧ y < n) : sackbutref06_Move.f n x y = some (mvN n x y) := by
  have h1 := Int.emod_nonneg (y - x) (show n ≠ 0 by omega)
  have h2 := Int.emod_lt_of_pos (y - x) (show 0 < n by omega)
  unfold sackbutref06_Move.f
  rw [wrap_id (n := y - x) (by omega) (by omega), refMod_f hn hn2, Option.bind_some, wrap_id (n := 2 * ((y - x) % n)) (by omega) (by omega)]
  unfold mvN
  by_cases h : 2 * ((y - x) % n) > n
  · rw [if_neg (by omega), if_pos h, wrap_id (by omega) (by omega)]
  · rw [if_pos (by omega), if_neg h]
theorem refDistance_f {n x y : Int} (hn : 2 ≤ n) (hn2 : n ≤ 16) (hx : 0 ≤ x ∧ x < n) (hy : 0 ≤ y ∧ y < n) : sackbutref06_Distance.f n x y = some (dsN n x y) := by
  have := mvN_bd (x := x) (y := y) hn
  unfold sackbutref06_Distance.f
  rw [refMove_f hn hn2 hx hy, Option.bind_some, Option.bind_some, wrap_id (by omega) (by omega), mx_eq]
  rfl
theorem refPrice_ev {n : Int} {a b : List Int} (ha : VoiN n a) (hb : VoiN n b) (full : List Int) (hf : full.length ≤ a.length) (hk : ∀ k ∈ full, 0 ≤ k ∧ k < b.length) : Ev (fun k => sackbutref06_Price.f k n a b full) (prI n a b full 0) := by
  obtain ⟨hn, hn2, ha1, ha2, hax⟩ := ha
  obtain ⟨_, _, hb1, hb2, hbx⟩ := hb
  have loop : ∀ (rest pre : List Int) (acc : Int), full = pre ++ rest → 0 ≤ acc → acc ≤ 16 * pre.length →
      Ev (fun k => sackbutref06_Price.l0 k n a b acc full (full.length : Int) (pre.length : Int)) (acc + prI n a b rest pre.length) := by
    intro rest
    induction rest with
    | nil =>
      intro pre acc hp h0 h1
      have p1 : ¬ (pre.length : Int) < (full.length : Int) := by rw [hp]; simp
      refine Ev.succ ?_
      simp only [sackbutref06_Price.l0, if_neg p1, prI, Int.add_zero]
      exact Ev.some _
    | cons x rest ih =>
      intro pre acc hp h0 h1
      have hlen : full.length = pre.length + (rest.length + 1) := by rw [hp]; simp
      have p1 : (pre.length : Int) < (full.length : Int) := by omega
      have p0 : (0 : Int) ≤ (pre.length : Int) := by omega
      have pa : (pre.length : Int) < (a.length : Int) := by omega
      have hrd : rd full (pre.length : Int) = x := mid_rd hp
      have hx := hk x (by rw [hp]; simp)
      have hda := getD_mem (l := a) (i := pre.length) (by omega)
      have hdb := getD_mem (l := b) (i := x.toNat) (by omega)
      have e1 : rd a (pre.length : Int) = a.getD pre.length 0 := rd_nat _ _
      have e2 : rd b x = b.getD x.toNat 0 := rfl
      have hd := dsN_bd (n := n) (x := a.getD pre.length 0) (y := b.getD x.toNat 0) hn
      have hdf := refDistance_f hn hn2 (hax _ hda) (hbx _ hdb)
      have hw : wrap64 ((pre.length : Int) + 1) = ((pre ++ [x]).length : Int) := by rw [wrap_id (by omega) (by omega)]; simp
      have hw2 : wrap64 (acc + dsN n (a.getD pre.length 0) (b.getD x.toNat 0)) = acc + dsN n (a.getD pre.length 0) (b.getD x.toNat 0) := wrap_id (by omega) (by omega)
      have hl1 : (pre ++ [x]).length = pre.length + 1 := by simp
      have go := ih (pre ++ [x]) (acc + dsN n (a.getD pre.length 0) (b.getD x.toNat 0)) (by rw [hp]; simp) (by omega) (by rw [hl1]; omega)
      rw [hl1] at go
      refine Ev.succ ?_
      simp only [sackbutref06_Price.l0, if_pos p1, if_pos p0, if_pos pa, hrd, if_pos hx.1, if_pos hx.2, e1, e2]
      refine Ev.bind_some hdf ?_
      rw [hw, hw2, hl1]
      simp only [prI]
      rw [← Int.add_assoc]
      exact go
  have h := loop full [] 0 rfl (Int.le_refl _) (by simp)
  rw [Int.zero_add] at h
  exact h

end Go.Proofs.Ytfjafmgaahfhgaa.P
namespace Go.Proofs.Ytfjafmgaahfhgaa.P
open Go.RowKit Go.Proofs.YtfjafmgaahfhgaaW.PrintWords Go.Proofs.YtfjafmgaahfhgaaW.PrintLast Go.Proofs.YtfjafmgaahfhgaaW.PrintMore
attribute [local go_sem] max2_int min2_int max_two min_two max_three min_three max_four min_four   -- for this text's walks alone
set_option linter.unusedVariables false
set_option linter.unusedSimpArgs false

/-! rising voicings and the least of them -/
def VcsR (n k : Int) (l rest : List (List Int)) : Prop := (∀ v ∈ rest, VoiN n v ∧ (v.length : Int) = k) ∧ 2 ≤ n ∧ n ≤ 12 ∧ 1 ≤ k ∧ k ≤ 3 ∧ 1 ≤ l.length ∧ l.length ≤ 8
instance (n k : Int) (l rest : List (List Int)) : Decidable (VcsR n k l rest) := by unfold VcsR; infer_instance
theorem refVcs_loop (n k : Int) (l : List (List Int)) (hl : l.length < 9223372036854775808) (hm : ∀ v ∈ l, v.length < 9223372036854775808) : ∀ (rest pre : List (List Int)), l = pre ++ rest → Ev (fun q => sackbutref06_Voicings.l0 q n k l l (l.length : Int) (pre.length : Int)) (decide (VcsR n k l rest)) := by
  intro rest
  induction rest with
  | nil =>
    intro pre hp
    have hlen : l.length = pre.length := by rw [hp]; simp
    refine Ev.succ ?_
    simp only [sackbutref06_Voicings.l0, if_neg (show ¬ (pre.length : Int) < (l.length : Int) by omega)]
    refine Ev.ite (fun e1 => ?_) (fun e1 => by rw [decide_eq_false (fun h => e1 h.2.1)]; exact Ev.some _)
    refine Ev.ite (fun e2 => ?_) (fun e2 => by rw [decide_eq_false (fun h => e2 h.2.2.1)]; exact Ev.some _)
    refine Ev.ite (fun e3 => ?_) (fun e3 => by rw [decide_eq_false (fun h => e3 h.2.2.2.1)]; exact Ev.some _)
    refine Ev.ite (fun e4 => ?_) (fun e4 => by rw [decide_eq_false (fun h => e4 h.2.2.2.2.1)]; exact Ev.some _)
    refine Ev.ite (fun e5 => ?_) (fun e5 => by rw [decide_eq_false (fun h => e5 (by have := h.2.2.2.2.2.1; omega))]; exact Ev.some _)
    have e : decide ((l.length : Int) ≤ 8) = decide (VcsR n k l []) := by
      rw [decide_eq_decide]
      exact ⟨fun h => ⟨by simp, e1, e2, e3, e4, by omega, by omega⟩, fun h => by have := h.2.2.2.2.2.2; omega⟩
    rw [e]
    exact Ev.some _
  | cons v rest ih =>
    intro pre hp
    have hlen : l.length = pre.length + (rest.length + 1) := by rw [hp]; simp
    have hv : rd_L1 l (pre.length : Int) = v := by rw [hp]; exact rdL_mid
    have w1 : wrap64 ((pre.length : Int) + 1) = ((pre ++ [v]).length : Int) := by rw [wrap_id (by omega) (by omega)]; simp
    have go := ih (pre ++ [v]) (by rw [hp]; simp)
    have hvm := hm v (by rw [hp]; simp)
    refine Ev.succ ?_
    simp only [sackbutref06_Voicings.l0, if_pos (show (pre.length : Int) < (l.length : Int) by omega), if_pos (show (0 : Int) ≤ (pre.length : Int) by omega), hv, w1]
    refine Ev.bind (refVoicing_ev n v hvm) ?_
    by_cases hvo : VoiN n v
    · simp only [hvo, decide_true, if_true]
      refine Ev.ite (fun e => ?_) (fun e => by rw [decide_eq_false (fun h => e (h.1 v (by simp)).2)]; exact Ev.some _)
      have e2 : decide (VcsR n k l (v :: rest)) = decide (VcsR n k l rest) := by
        rw [decide_eq_decide]
        constructor
        · rintro ⟨h, r⟩; exact ⟨fun y hy => h y (by simp [hy]), r⟩
        · rintro ⟨h, r⟩
          refine ⟨fun y hy => ?_, r⟩
          rcases List.mem_cons.1 hy with rfl | hy
          · exact ⟨hvo, e⟩
          · exact h y hy
      rw [e2]
      exact go
    · simp only [hvo, decide_false, Bool.false_eq_true, if_false]
      rw [decide_eq_false (fun h => hvo (h.1 v (by simp)).1)]
      exact Ev.some _
theorem vcs_iff (n k : Int) (l : List (List Int)) : VcsR n k l l ↔ VcsN n k l := by
  unfold VcsR VcsN
  constructor
  · rintro ⟨h, h1, h2, h3, h4, h5, h6⟩
    obtain ⟨v0, l', rfl⟩ : ∃ v0 l', l = v0 :: l' := by
      cases l with
      | nil => simp at h5
      | cons v0 l' => exact ⟨v0, l', rfl⟩
    have h0 := (h v0 (by simp)).2
    exact ⟨h2, h3, h4, h5, h6, h0, h1, by omega, fun v hv => ⟨(h v hv).1, by have := (h v hv).2; show v.length = v0.length; omega⟩⟩
  · rintro ⟨h1, h2, h3, h4, h5, h6, h7, h8, h9⟩
    exact ⟨fun v hv => ⟨(h9 v hv).1, by have := (h9 v hv).2; omega⟩, h7, h1, h2, h3, h4, h5⟩
theorem refVcs_ev (n k : Int) (l : List (List Int)) (hl : l.length < 9223372036854775808) (hm : ∀ v ∈ l, v.length < 9223372036854775808) : Ev (fun q => sackbutref06_Voicings.f q n k l) (decide (VcsN n k l)) := by
  have h := refVcs_loop n k l hl hm l [] rfl
  rw [show decide (VcsR n k l l) = decide (VcsN n k l) from decide_eq_decide.2 (vcs_iff n k l)] at h
  exact h
theorem vcs_cut (n k : Int) (l : List (List Int)) (h : VcsN n k ((l.take 60).map (·.take 9)) ∨ VcsN n k l) : (l.take 60).map (·.take 9) = l := by
  rw [← vcs_iff, ← vcs_iff] at h
  have key : l.length ≤ 8 ∧ ∀ v ∈ l, v.length ≤ 9 := by
    rcases h with ⟨h, h1, h2, h3, h4, h5, h6⟩ | ⟨h, h1, h2, h3, h4, h5, h6⟩
    · have hl : l.length ≤ 8 := by simp at h6; omega
      refine ⟨hl, fun v hv => ?_⟩
      have := (h (v.take 9) (List.mem_map.2 ⟨v, by rw [List.take_of_length_le (by omega)]; exact hv, rfl⟩)).2
      simp at this
      omega
    · exact ⟨h6, fun v hv => by have := (h v hv).2; omega⟩
  rw [List.take_of_length_le (by omega)]
  exact (List.map_congr_left (fun v hv => List.take_of_length_le (key.2 v hv))).trans (List.map_id l)
/-! the voicings rise -/
theorem cmpL_pre8 : ∀ (p a b : List Int), cmpL (p ++ a) (p ++ b) = cmpL a b
  | [], _, _ => rfl
  | x :: p, a, b => by
    show cmpL (x :: (p ++ a)) (x :: (p ++ b)) = _
    rw [cmpL, if_neg (by omega), if_neg (by omega)]; exact cmpL_pre8 p a b
theorem alN_pre {n : Nat} : ∀ (r f : Nat) (cur : List Nat) (v : List Nat), v ∈ alN n r f cur → ∃ t, v = cur ++ t
  | 0, f, cur, v, h => by rw [alN, List.mem_singleton] at h; exact ⟨[], by rw [h, List.append_nil]⟩
  | r + 1, f, cur, v, h => by
    rw [alN] at h
    obtain ⟨i, _, h⟩ := List.mem_flatMap.1 h
    obtain ⟨t, rfl⟩ := alN_pre r (f + i) (cur ++ [f + i]) v h
    exact ⟨(f + i) :: t, by simp⟩
theorem alN_rise {n : Nat} : ∀ (r f : Nat) (cur : List Nat), (alN n r f cur).Pairwise (fun u v => ¬ cmpL (nums v) (nums u) < 0)
  | 0, f, cur => by rw [alN]; exact List.pairwise_singleton _ _
  | r + 1, f, cur => by
    rw [alN, List.pairwise_flatMap]
    refine ⟨fun i _ => alN_rise r (f + i) (cur ++ [f + i]), ?_⟩
    refine List.Pairwise.imp (R := (· < ·)) ?_ List.pairwise_lt_range
    intro i j hij u hu v hv
    obtain ⟨t, rfl⟩ := alN_pre _ _ _ _ hu
    obtain ⟨s, rfl⟩ := alN_pre _ _ _ _ hv
    have e : ∀ (x : Nat) (t : List Nat), nums (cur ++ [x] ++ t) = nums cur ++ ((x : Int) :: nums t) := fun x t => by unfold nums; simp
    rw [e, e, cmpL_pre8, cmpL, if_neg (by omega), if_pos (by omega)]
    decide
/-- what the fold has kept of the voicings so far -/
def KeptM (n : Int) (ls : List (List Int)) (pre : List (List Nat)) (st : Option (List Int × Int)) : Prop := match st with
  | none => pre = []
  | some (w, d) => ∃ v ∈ pre, w = nums v ∧ d = costL n (nums v) ls ∧ ∀ u ∈ pre, d < costL n (nums u) ls ∨ (d = costL n (nums u) ls ∧ ¬ cmpL (nums u) w < 0)
theorem kept_fold (n : Int) (ls : List (List Int)) : ∀ (L pre : List (List Nat)) (st : Option (List Int × Int)), (∀ u ∈ pre, ∀ v ∈ L, ¬ cmpL (nums v) (nums u) < 0) → L.Pairwise (fun u v => ¬ cmpL (nums v) (nums u) < 0) → (∀ v ∈ pre ++ L, ¬ cmpL (nums v) (nums v) < 0) → KeptM n ls pre st → KeptM n ls (pre ++ L) (L.foldl (fun st v => seeS st (nums v) (costL n (nums v) ls)) st)
  | [], pre, st, _, _, _, h => by rw [List.append_nil]; exact h
  | x :: L, pre, st, h1, h2, h3, h => by
    have hp := List.pairwise_cons.1 h2
    rw [List.foldl_cons, show pre ++ x :: L = (pre ++ [x]) ++ L by simp]
    refine kept_fold n ls L (pre ++ [x]) _ (fun u hu v hv => ?_) hp.2 (fun v hv => h3 v (by simpa using hv)) ?_
    · rcases List.mem_append.1 hu with hu | hu
      · exact h1 u hu v (by simp [hv])
      · rw [List.mem_singleton] at hu; subst hu; exact hp.1 v hv
    · cases st with
      | none =>
        have hpre : pre = [] := h
        subst hpre
        exact ⟨x, by simp, rfl, rfl, fun u hu => by
          have : u = x := by simpa using hu
          subst this
          exact .inr ⟨rfl, h3 u (by simp)⟩⟩
      | some p =>
        obtain ⟨w, d⟩ := p
        obtain ⟨v, hv, rfl, rfl, hall⟩ := h
        have hno := h1 v hv x (by simp)
        simp only [seeS]
        by_cases hlt : costL n (nums x) ls < costL n (nums v) ls
        · rw [if_pos (.inl hlt)]
          refine ⟨x, by simp, rfl, rfl, fun u hu => ?_⟩
          rcases List.mem_append.1 hu with hu | hu
          · rcases hall u hu with h | h
            · exact .inl (by omega)
            · exact .inl (by omega)
          · rw [List.mem_singleton] at hu; subst hu; exact .inr ⟨rfl, h3 u (by simp)⟩
        · rw [if_neg (fun h2 => h2.elim hlt (fun h2 => hno h2.2))]
          refine ⟨v, by simp [hv], rfl, rfl, fun u hu => ?_⟩
          rcases List.mem_append.1 hu with hu | hu
          · exact hall u hu
          · rw [List.mem_singleton] at hu; subst hu
            rcases Int.lt_or_eq_of_le (Int.not_lt.1 hlt) with h | h
            · exact .inl h
            · exact .inr ⟨h, hno⟩
theorem cmpL_self : ∀ (a : List Int), cmpL a a = 0
  | [] => rfl
  | x :: a => by rw [cmpL, if_neg (by omega), if_neg (by omega)]; exact cmpL_self a
theorem mid_least (n : Int) (ls : List (List Int)) (N k : Nat) (hN : 0 < N) : ∃ v ∈ alN N k 0 [], midF n ls (alN N k 0 []) = some (nums v, costL n (nums v) ls) ∧ ∀ u ∈ alN N k 0 [], costL n (nums v) ls < costL n (nums u) ls ∨ (costL n (nums v) ls = costL n (nums u) ls ∧ ¬ cmpL (nums u) (nums v) < 0) := by
  have h := kept_fold n ls (alN N k 0 []) [] none (fun _ hu => by cases hu) (alN_rise k 0 []) (fun v _ => by rw [cmpL_self]; decide) rfl
  obtain ⟨p, hp⟩ := midF_some (n := n) (ls := ls) (alN N k 0 []) (alN_ne _ _ _ hN)
  have h2 : KeptM n ls ([] ++ alN N k 0 []) (midF n ls (alN N k 0 [])) := h
  rw [hp, List.nil_append] at h2
  obtain ⟨w, d⟩ := p
  obtain ⟨v, hv, rfl, rfl, hall⟩ := h2
  exact ⟨v, hv, hp, hall⟩
/-- the voicings are the rising lists -/
theorem alN_iff {n : Nat} : ∀ (r f : Nat) (cur v : List Nat), v ∈ alN n r f cur ↔ ∃ t, v = cur ++ t ∧ t.length = r ∧ (∀ y ∈ t, f ≤ y ∧ y < n) ∧ t.Pairwise (· ≤ ·)
  | 0, f, cur, v => by
    rw [alN, List.mem_singleton]
    constructor
    · rintro rfl; exact ⟨[], by simp, rfl, by simp, List.Pairwise.nil⟩
    · rintro ⟨t, rfl, ht, _⟩
      rw [List.length_eq_zero_iff.1 ht, List.append_nil]
  | r + 1, f, cur, v => by
    rw [alN, List.mem_flatMap]
    constructor
    · rintro ⟨i, hi, h⟩
      rw [List.mem_range] at hi
      obtain ⟨t, rfl, ht, hb, hs⟩ := (alN_iff r (f + i) (cur ++ [f + i]) v).1 h
      refine ⟨(f + i) :: t, by simp, by simp [ht], fun y hy => ?_, List.pairwise_cons.2 ⟨fun y hy => (hb y hy).1, hs⟩⟩
      rcases List.mem_cons.1 hy with rfl | hy
      · omega
      · have := hb y hy; omega
    · rintro ⟨t, rfl, ht, hb, hs⟩
      cases t with
      | nil => simp at ht
      | cons x t =>
        have hx := hb x (by simp)
        have hp := List.pairwise_cons.1 hs
        refine ⟨x - f, List.mem_range.2 (by omega), ?_⟩
        rw [show f + (x - f) = x by omega]
        exact (alN_iff r x (cur ++ [x]) _).2 ⟨t, by simp, by simpa using ht, fun y hy => ⟨hp.1 y hy, (hb y (by simp [hy])).2⟩, hp.2⟩

end Go.Proofs.Ytfjafmgaahfhgaa.P
namespace Go.Proofs.Ytfjafmgaahfhgaa.P
open Go.RowKit Go.Proofs.YtfjafmgaahfhgaaW.PrintWords Go.Proofs.YtfjafmgaahfhgaaW.PrintLast Go.Proofs.YtfjafmgaahfhgaaW.PrintMore
attribute [local go_sem] max2_int min2_int max_two min_two max_three min_three max_four min_four   -- for this text's walks alone
set_option linter.unusedVariables false
set_option linter.unusedSimpArgs false

/-! the document's list of all leadings -/
def rlead (k : Nat) : Nat → List Nat → List (List Nat)
  | 0, cur => [cur]
  | r + 1, cur => (List.range k).flatMap fun x => if x ∈ cur then [] else rlead k r (cur ++ [x])
def rleadTo (k r : Nat) (cur : List Nat) (m : Nat) : List (List Nat) := (List.range m).flatMap fun x => if x ∈ cur then [] else rlead k r (cur ++ [x])
theorem rleadTo_succ (k r : Nat) (cur : List Nat) (m : Nat) : rleadTo k r cur (m + 1) = rleadTo k r cur m ++ (if m ∈ cur then [] else rlead k r (cur ++ [m])) := by
  unfold rleadTo; rw [List.range_succ]; simp
theorem len_le_of_sub : ∀ (l l' : List Nat), l.Nodup → (∀ c, c ∈ l → c ∈ l') → l.length ≤ l'.length
  | [], _, _, _ => Nat.zero_le _
  | c :: l, l', hd, hs => by
    have h1 := hs c (by simp)
    have hd' := List.nodup_cons.1 hd
    have := len_le_of_sub l (l'.erase c) hd'.2 (fun x hx => by
      have hx' := hs x (by simp [hx])
      have hne : x ≠ c := fun e => hd'.1 (e ▸ hx)
      exact (List.mem_erase_of_ne hne).2 hx')
    rw [List.length_erase_of_mem h1] at this
    have hp : 0 < l'.length := List.length_pos_of_mem h1
    simp only [List.length_cons]; omega
theorem rlead_ne {k : Nat} : ∀ (r : Nat) (cur : List Nat), cur.length + r = k → rlead k r cur ≠ []
  | 0, _, _ => by simp [rlead]
  | r + 1, cur, h => by
    have : ∃ x, x < k ∧ x ∉ cur := by
      refine Classical.byContradiction fun hn => ?_
      have h1 := len_le_of_sub (List.range k) cur List.nodup_range (fun x hx => Classical.byContradiction fun h2 => hn ⟨x, List.mem_range.1 hx, h2⟩)
      rw [List.length_range] at h1; omega
    obtain ⟨x, hx, hc⟩ := this
    obtain ⟨l, hl⟩ := List.exists_mem_of_ne_nil _ (rlead_ne (k := k) r (cur ++ [x]) (by rw [List.length_append, List.length_singleton]; omega))
    refine List.ne_nil_of_mem (a := l) ?_
    simp only [rlead]
    rw [List.mem_flatMap]
    exact ⟨x, List.mem_range.2 hx, by rw [if_neg hc]; exact hl⟩
theorem flat_congr {l : List Nat} {f g : Nat → List (List Nat)} (h : ∀ x ∈ l, f x = g x) : l.flatMap f = l.flatMap g := by
  rw [List.flatMap_def, List.flatMap_def, List.map_congr_left h]
theorem ldg_rlead {k : Nat} : ∀ (r used : Nat) (cur : List Nat), (∀ x, x < k → used.testBit x = decide (x ∈ cur)) → ldg k r used cur = rlead k r cur
  | 0, _, _, _ => rfl
  | r + 1, used, cur, h => by
    simp only [ldg, rlead]
    refine flat_congr (fun x hx => ?_)
    have hx' := List.mem_range.1 hx
    rw [h x hx']
    by_cases hc : x ∈ cur
    · simp [hc]
    · simp only [hc, decide_false, Bool.false_eq_true, if_false]
      exact ldg_rlead r (used ||| 2 ^ x) (cur ++ [x]) (fun y hy => by
        rw [Nat.testBit_or, Nat.testBit_two_pow, h y hy]
        by_cases h1 : y ∈ cur <;> by_cases h2 : x = y <;> simp [h1, h2, eq_comm]
        all_goals (first | (intro h3; exact absurd h3.symm h2) | skip))
theorem ldg_all (k : Nat) : ldg k k 0 [] = rlead k k [] := ldg_rlead k 0 [] (fun x _ => by simp)
/-- rows of numbers of the call's own -/
def RowOf (W : World) (base : Nat) (v : Value) (l : List Nat) : Prop := ∃ A c, v = .slice A (nums l).length c ∧ Kd.R (Kd.int .i64) 3 W base (fun _ => True) v (nums l)
def All2 (W : World) (base : Nat) : List Value → List (List Nat) → Prop
  | [], [] => True
  | v :: vs, l :: ls => RowOf W base v l ∧ All2 W base vs ls
  | _, _ => False
theorem RowOf.below {W W' : World} {base : Nat} {v : Value} {l : List Nat} (h : RowOf W base v l) (hb : Below W.heap.size W W') : RowOf W' base v l := by
  obtain ⟨A, c, e, hR⟩ := h
  exact ⟨A, c, e, Kd.R_below hR hb⟩
theorem All2.below {W W' : World} {base : Nat} (hb : Below W.heap.size W W') : ∀ {vs : List Value} {ls : List (List Nat)}, All2 W base vs ls → All2 W' base vs ls
  | [], [], _ => trivial
  | _ :: _, _ :: _, h => ⟨h.1.below hb, All2.below hb h.2⟩
theorem All2.append {W : World} {base : Nat} : ∀ {vs us : List Value} {ls ms : List (List Nat)}, All2 W base vs ls → All2 W base us ms → All2 W base (vs ++ us) (ls ++ ms)
  | [], _, [], _, _, h => h
  | _ :: _, _, _ :: _, _, h, h2 => ⟨h.1, All2.append h.2 h2⟩
theorem All2.length {W : World} {base : Nat} : ∀ {vs : List Value} {ls : List (List Nat)}, All2 W base vs ls → vs.length = ls.length
  | [], [], _ => rfl
  | _ :: _, _ :: _, h => by rw [List.length_cons, List.length_cons, All2.length h.2]
theorem RowOf.over {W w1 : World} {base : Nat} {u v : Value} {l : List Nat} (h : RowOf W base u l) (hty : ∀ k, v.ownBlock = some k → ∃ cells, W.heap[k]? = some (.cells cells 23 (0, 0))) (hg : W.grownBy w1 v.ownBlock) : RowOf w1 base u l := by
  obtain ⟨A, c, e, hR⟩ := h
  exact ⟨A, c, e, Kd.R_over' hR hty (by intro q hq; simp [Kd.int, Kd.scalar] at hq; subst hq; decide) hg⟩
theorem All2.over {W w1 : World} {base : Nat} {v : Value} (hty : ∀ k, v.ownBlock = some k → ∃ cells, W.heap[k]? = some (.cells cells 23 (0, 0))) (hg : W.grownBy w1 v.ownBlock) : ∀ {vs : List Value} {ls : List (List Nat)}, All2 W base vs ls → All2 w1 base vs ls
  | [], [], _ => trivial
  | _ :: _, _ :: _, h => ⟨h.1.over hty hg, All2.over hty hg h.2⟩
theorem flat_len {l : List Nat} {f : Nat → List (List Nat)} {m : Nat} (h : ∀ x ∈ l, (f x).length ≤ m) : (l.flatMap f).length ≤ l.length * m := by
  induction l with
  | nil => simp
  | cons x l ih =>
    have h1 := h x (by simp)
    have h2 := ih (fun y hy => h y (by simp [hy]))
    rw [List.flatMap_cons, List.length_append, List.length_cons, Nat.add_mul]; omega
theorem rlead_len {k : Nat} : ∀ (r : Nat) (cur : List Nat), (rlead k r cur).length ≤ k ^ r
  | 0, _ => by simp [rlead]
  | r + 1, cur => by
    have : ∀ x ∈ List.range k, (if x ∈ cur then ([] : List (List Nat)) else rlead k r (cur ++ [x])).length ≤ k ^ r := fun x _ => by
      split
      · simp
      · exact rlead_len r _
    have h := flat_len this
    rw [List.length_range] at h
    simp only [rlead]
    rw [Nat.pow_succ, Nat.mul_comm]; exact h
theorem rleadTo_len {k r m : Nat} {cur : List Nat} (hm : m ≤ k) (hk : k ≤ 6) (hr : r + 1 ≤ 6) : (rleadTo k r cur m).length ≤ 46656 := by
  have : ∀ x ∈ List.range m, (if x ∈ cur then ([] : List (List Nat)) else rlead k r (cur ++ [x])).length ≤ 6 ^ 5 := fun x _ => by
    split
    · simp
    · refine Nat.le_trans (rlead_len r _) (Nat.le_trans (Nat.pow_le_pow_left hk r) (Nat.pow_le_pow_right (by omega) (by omega)))
  have h := flat_len this
  rw [List.length_range] at h
  unfold rleadTo
  have : m * 6 ^ 5 ≤ 6 * 6 ^ 5 := Nat.mul_le_mul_right _ (by omega)
  omega
theorem RowOf.one {W : World} {base : Nat} {v : Value} {l : List Nat} (h : RowOf W base v l) : v.oneCell' = true := by
  obtain ⟨A, c, e, _⟩ := h; rw [e]; rfl
theorem All2.one {W : World} {base : Nat} : ∀ {vs : List Value} {ls : List (List Nat)}, All2 W base vs ls → ∀ u ∈ vs, u.oneCell' = true
  | [], [], _, u, hu => by cases hu
  | _ :: _, _ :: _, h, u, hu => by
    rcases List.mem_cons.1 hu with rfl | hu
    · exact h.1.one
    · exact All2.one h.2 u hu
theorem All2.get {W : World} {base : Nat} : ∀ {vs : List Value} {ls : List (List Nat)}, All2 W base vs ls → ∀ (i : Nat) (l : List Nat), ls[i]? = some l → ∃ v, vs[i]? = some v ∧ RowOf W base v l
  | [], [], _, i, l, h => by simp at h
  | v :: vs, l' :: ls, h, 0, l, hl => by
    simp only [List.getElem?_cons_zero, Option.some.injEq] at hl
    subst hl
    exact ⟨v, rfl, h.1⟩
  | v :: vs, l' :: ls, h, i + 1, l, hl => by
    simp only [List.getElem?_cons_succ] at hl ⊢
    exact All2.get h.2 i l hl
def LeadsPost (base : Nat) (W : World) (L : List (List Nat)) (e : Ending) (w' : World) : Prop := ∃ v vs, e = .returned v ∧ w'.ownsRow W.heap.size 23 1 v vs.length vs ∧ All2 w' base vs L ∧ Below W.heap.size W w'
/-- a row of the call's own has its cells somewhere, where it has any -/
theorem own_some {w : World} {base : Nat} {e : TypeId} {v : Value} {vs : List Value} (h : w.ownsRow base e 1 v vs.length vs) (hne : 0 < vs.length) : ∃ g c, v = .slice (some ⟨g, 0, none⟩) vs.length c ∧ ∀ j u, vs[j]? = some u → w.cell? ((⟨g, 0, none⟩ : Addr).add j) = some u := by
  have hc : ∀ g, v.ownBlock = some g → ∀ j u, vs[j]? = some u → w.cell? ((⟨g, 0, none⟩ : Addr).add j) = some u := fun g hg => h.cells hg
  obtain ⟨_, h2⟩ := h
  rcases h2 with ⟨_, h0⟩ | ⟨g, cap, cur, e1, _⟩
  · omega
  · exact ⟨g, cap, e1, hc g (by rw [e1]; rfl)⟩
theorem infoS : (Try.prog.info? 23).map (fun i => (i.zero, i.size, i.bytes)) = some (some (.slice none 0 0), 1, 24) := by kernel_rfl
theorem R_fresh {w : World} {base : Nat} {v : Value} {xs : List Int} (h : w.ownsRow base 3 1 v xs.length (xs.map (Value.int .i64))) : Kd.R (Kd.int .i64) 3 w base (fun _ => True) v xs := Kd.R_of_own (h1 := fun _ => rfl) h (fun _ _ => trivial)
set_option maxHeartbeats 4000000 in
set_option maxRecDepth 100000 in
theorem leads_end (k : Nat) (base : Nat) (A : Option Addr) (c : Nat) (cur : List Nat) (W : World) (hc : cur.length = k) (hR : Kd.R (Kd.int .i64) 3 W base (fun _ => True) (.slice A (nums cur).length c) (nums cur)) :
    Calls Try.prog 69 #[.int .i64 (k : Int), .slice A (nums cur).length c] W (LeadsPost base W [cur]) := by
  have hlen : (nums cur).length = k := by rw [nums_length, hc]
  have HR := Aside0.mk hR
  have HL := Aside0.mk hlen
  rw [hlen]
  clear hR hc hlen
  go_enter Try.func69, Try.ntmps69
  go_wp2
  go_ret
  refine ⟨_, [.slice A k c], rfl, World.ownsRow_lit (base := W.heap.size) (e := 23) (size := 1) W #[.slice A k c] 1 (Nat.le_refl _) (by simp [maxLen]) (by simp), ⟨?_, trivial⟩, below_alloc (Below.refl _ _) _⟩
  refine ⟨A, c, by rw [HL.out], ?_⟩
  rw [← HL.out]
  exact Kd.R_alloc HR.out _
theorem nums_get {cur : List Nat} {j : Nat} (h : j < cur.length) : rd (nums cur) (j : Int) = (cur[j] : Int) := by
  rw [rd_get (by rw [nums_length]; exact h)]; simp [nums]
theorem any_take {cur : List Nat} {j x : Nat} (h : j < cur.length) : (decide (x ∈ cur.take (j + 1))) = (decide (x ∈ cur.take j) || decide (x = cur[j])) := by
  rw [List.take_succ_eq_append_getElem h, ← Bool.decide_or, decide_eq_decide, List.mem_append, List.mem_singleton]
theorem nums_cells {W : World} {A : Option Addr} {cur : List Nat} (h : Kd.C (Kd.int .i64) W A (nums cur).length (nums cur)) : ∀ b, A = some b → ∀ j u, ((nums cur).map (Value.int .i64))[j]? = some u → W.cell? (b.add j) = some u := by
  intro b hb j u hu
  rw [List.getElem?_map, Option.map_eq_some_iff] at hu
  obtain ⟨x, hx, rfl⟩ := hu
  have hj := (List.getElem?_eq_some_iff.1 hx).1
  obtain ⟨ad, e, hc⟩ := Kd.at_int h (j : Int) (by omega) (by omega)
  rw [hb] at e
  injection e with e
  subst e
  rw [Int.toNat_natCast, rd_get hj] at hc
  rw [hc, (List.getElem?_eq_some_iff.1 hx).2]
set_option maxHeartbeats 8000000 in
set_option maxRecDepth 100000 in
theorem leads_more (k : Nat) (hk : k ≤ 6) (r : Nat) (base : Nat) (A : Option Addr) (c : Nat) (cur : List Nat) (W : World) (hc : cur.length + (r + 1) = k) (hb : base ≤ W.heap.size) (hR : Kd.R (Kd.int .i64) 3 W base (fun _ => True) (.slice A (nums cur).length c) (nums cur))
    (ih : ∀ (x : Nat) (A : Option Addr) (c : Nat) (W : World), x < k → x ∉ cur → base ≤ W.heap.size → Kd.R (Kd.int .i64) 3 W base (fun _ => True) (.slice A (nums (cur ++ [x])).length c) (nums (cur ++ [x])) →
      Calls Try.prog 69 #[.int .i64 (k : Int), .slice A (nums (cur ++ [x])).length c] W (LeadsPost base W (rlead k r (cur ++ [x])))) :
    Calls Try.prog 69 #[.int .i64 (k : Int), .slice A (nums cur).length c] W (LeadsPost base W (rleadTo k r cur k)) := by
  obtain ⟨L, hlen⟩ : ∃ L, (nums cur).length = L := ⟨_, rfl⟩
  have hLk : L < k := by rw [nums_length] at hlen; omega
  have hcl : cur.length = L := by rw [← nums_length]; exact hlen
  have HR := Aside0.mk hR
  have HRC := Aside0.mk (Kd.R_reads' hR).2.2
  have hcc := (Kd.R_reads' hR).2.1
  rw [hlen] at hcc HR ⊢
  have HL := Aside0.mk hlen
  have HCL := Aside0.mk hcl
  have HIH := Aside0.mk ih
  have HB := Aside0.mk hb
  have HCK := Aside0.mk hc
  have hne : ((L : Int) == (k : Int)) = false := beq_eq_false_iff_ne.2 (by omega)
  obtain ⟨i0, hi, hz0, hz1, hz2⟩ := info_parts info3
  obtain ⟨i1, hi1, hy0, hy1, hy2⟩ := info_parts infoS
  have HI0 := Aside0.mk hi
  have HI1 := Aside0.mk hi1
  have HZ := Aside0.mk (show i0.zero = some (.int .i64 0) ∧ i0.size = 1 ∧ i0.bytes = 8 ∧ i1.zero = some (.slice none 0 0) ∧ i1.size = 1 ∧ i1.bytes = 24 from ⟨hz0, hz1, hz2, hy0, hy1, hy2⟩)
  have HNONE := Aside0.mk (show A = none → L = 0 ∧ L = 0 from fun e => by
    rcases Nat.eq_zero_or_pos L with h | h
    · exact ⟨h, h⟩
    · obtain ⟨ad, e2, _⟩ := Kd.at_int HRC.out 0 (by omega) (by omega)
      rw [e] at e2; cases e2)
  clear hR hlen hcl ih hb hc hi hz0 hz1 hz2 hi1 hy0 hy1 hy2
  go_enter Try.func69, Try.ntmps69
  go_wp2
  go_loopg [5, 17] k (fun gg s5 s17 wr => ∃ (x : Nat) (v : Value) (vs : List Value), s17 = .int .i64 x ∧ s5 = v ∧ Aside0 (x + gg = k) ∧ Aside0 (wr.ownsRow W.heap.size 23 1 v vs.length vs) ∧ Aside0 (All2 wr base vs (rleadTo k r cur x)) ∧ Aside0 (Below W.heap.size W wr))
  case atStart => exact ⟨0, _, [], rfl, rfl, ⟨by omega⟩, ⟨World.ownsRow_nil _ _ _ _⟩, ⟨trivial⟩, ⟨Below.refl _ _⟩⟩
  case round =>
    obtain ⟨x, v, vs, rfl, rfl, HX, HO, HA, HBW⟩ := hrel
    have HS := Aside0.mk (rleadTo_succ k r cur x)
    obtain ⟨G, rfl⟩ : ∃ G, G = gk := ⟨gk, rfl⟩
    obtain ⟨wo, rfl⟩ : ∃ wo : World, wo = wr := ⟨wr, rfl⟩
    by_cases hlt : x < k
    · have hltz : (x : Int) < (k : Int) := by omega
      clear hne
      go_wp2
      go_loopg [7, 22] L (fun gg s7 s22 w2 => ∃ (j q : Nat), s22 = .int .i64 j ∧ s7 = .bool (decide (x ∈ cur.take j)) ∧ w2 = wo.drewN q ∧ Aside0 (j + gg = L))
      case atStart => exact ⟨0, 0, rfl, by simp, rfl, ⟨by omega⟩⟩
      case round =>
        obtain ⟨j, q, rfl, rfl, rfl, HJ⟩ := hrel
        by_cases hj : j < L
        · have hjz : (j : Int) < (L : Int) := by omega
          obtain ⟨ad, e, hcell⟩ := Kd.at_int (Kd.C_below HRC.out HBW.out) (j : Int) (by omega) (by rw [HL.out]; exact hjz)
          rw [nums_get (by rw [HCL.out]; exact hj), Int.toNat_natCast] at hcell
          cases e
          have HT := Aside0.mk (any_take (x := x) (show j < cur.length by rw [HCL.out]; exact hj))
          generalize hy : cur[j]'(by rw [HCL.out]; exact hj) = y at hcell HT
          clear hy
          cases ho : decide (x ∈ cur.take j) with
          | true =>
            rw [ho, Bool.true_or] at HT
            clear ho
            go_wp2
            go_roundg (gk - 1)
            case measure => have := HJ.out; omega
            case rel => exact ⟨j + 1, q, by go_num, by rw [HT.out], rfl, ⟨by have := HJ.out; omega⟩⟩
          | false =>
            rw [ho, Bool.false_or] at HT
            clear ho
            by_cases hxy : x = y
            · rw [decide_eq_true hxy] at HT
              have e6 : ((x : Int) == (y : Int)) = true := by rw [hxy]; exact beq_self_eq_true _
              clear hxy
              go_wp2
              go_roundg (gk - 1)
              case measure => have := HJ.out; omega
              case rel => exact ⟨j + 1, q, by go_num, by rw [HT.out], rfl, ⟨by have := HJ.out; omega⟩⟩
            · rw [decide_eq_false hxy] at HT
              have e6 : ((x : Int) == (y : Int)) = false := beq_eq_false_iff_ne.2 (by omega)
              clear hxy
              go_wp2
              go_roundg (gk - 1)
              case measure => have := HJ.out; omega
              case rel => exact ⟨j + 1, q, by go_num, by rw [HT.out], rfl, ⟨by have := HJ.out; omega⟩⟩
        · have hjL : j = L := by have := HJ.out; omega
          have hjz : ¬ (j : Int) < (L : Int) := by omega
          have HALL := Aside0.mk (show decide (x ∈ cur.take j) = decide (x ∈ cur) by rw [List.take_of_length_le (by rw [HCL.out]; omega)])
          have HX5 := Aside0.mk hjL
          clear hjL
          cases ho : decide (x ∈ cur.take j) with
          | true =>
            rw [ho] at HALL
            have HM := Aside0.mk (of_decide_eq_true HALL.out.symm)
            rw [if_pos HM.out, List.append_nil] at HS
            clear ho
            go_wp2
            go_roundg (G - 1)
            case measure => have := HX.out; omega
            case rel => exact ⟨x + 1, _, vs, by go_num, rfl, ⟨by have := HX.out; omega⟩, ⟨own_move HO.out (fun _ _ => rfl)⟩, ⟨by rw [HS.out]; exact HA.out.below (pw_below_drewN (Below.refl _ _) q)⟩, ⟨pw_below_drewN HBW.out q⟩⟩
          | false =>
            rw [ho] at HALL
            have HM := Aside0.mk (of_decide_eq_false HALL.out.symm)
            rw [if_neg HM.out] at HS
            clear ho
            have hLc : (L : Int) ≤ (c : Int) := by omega
            have hsz := HBW.out.size
            have HCB := Aside0.mk (nums_cells (W := (wo.drewN q).alloc (.cells #[.int .i64 (x : Int)] 3)) (A := A) (cur := cur) (Kd.C_alloc (Kd.C_drewN (Kd.C_below HRC.out HBW.out) q) _))
            have HNL := Aside0.mk (show ((nums cur).map (Value.int .i64)).length = L * 1 by rw [List.length_map, HL.out, Nat.mul_one])
            have HNC := Aside0.mk (new_cell (wo.drewN q) (.int .i64 (x : Int)) 3)
            go_wp2_with (((with_reducible refine gate_builtin (b := .append) (xs := #[.tmp 42, .tmp 44]) rfl ?_); at_builtin; refine wpList_append_grows _ rfl _ _ 23 rfl 3 i0 (.int .i64 0) 1 8 Try.underlying23 HI0.out HZ.out.1 HZ.out.2.1 HZ.out.2.2.1 rfl (by decide) A L L ((nums cur).map (Value.int .i64)) rfl HNONE.out HNL.out HCB.out ⟨wo.heap.size, 0, none⟩ 1 1 [.int .i64 (x : Int)] rfl rfl ?c1 ?c2 (by omega) ?c3 ?c4 ?_; (case c1 => intro j u hu; cases j with
              | zero => simp only [List.getElem?_cons_zero, Option.some.injEq] at hu; subst hu; exact HNC.out.1
              | succ j => simp at hu); (case c2 => intro u hu; rw [List.mem_singleton] at hu; subst hu; rfl); (case c3 => simp only [maxLen]; omega); (case c4 => omega); intro v5 w5 ho5 hg5))
            have hrow : (((nums cur).map (Value.int .i64)) ++ [Value.int .i64 (x : Int)]) = (nums (cur ++ [x])).map (Value.int .i64) := by rw [nums_snoc]; simp
            have hlen2 : L + 1 = (nums (cur ++ [x])).length := by rw [nums_snoc, List.length_append, HL.out]; rfl
            rw [hrow] at ho5
            have ho6 := ho5
            rw [hlen2] at ho6
            have hR5 := R_fresh ho6
            obtain ⟨A5, c5, e5⟩ := Kd.R_slice hR5
            subst e5
            have hb5 : Below wo.heap.size wo w5 := ((below_alloc (pw_below_drewN (Below.refl wo.heap.size wo) q) _).grown hg5 (by simp) (fun k e => by cases e))
            have HB5 := Aside0.mk hb5
            have hrun := HIH.out x A5 c5 w5 hlt HM.out (Nat.le_trans HB.out (Nat.le_trans HBW.out.size hb5.size)) (Kd.R_lower hR5 (by simp only [World.size_alloc]; have := HB.out; have := HBW.out.size; show base ≤ wo.heap.size + 1; omega))
            rw [← hlen2] at hrun ⊢
            have HRUN := Aside0.mk hrun
            clear hrow hlen2 ho5 ho6 hR5 hb5 hg5 hrun hsz
            go_wp2_with fail
            refine HRUN.out.mono ?_
            rintro e w6 ⟨v6, vs6, rfl, ho6, ha6, hb6⟩
            have hne6 : 0 < vs6.length := by
              rw [ha6.length]
              exact List.length_pos_iff.2 (rlead_ne r _ (by rw [List.length_append, List.length_singleton]; have := HCK.out; omega))
            obtain ⟨g6, c6, e6, hc6⟩ := own_some ho6 hne6
            subst e6
            have HA6 := Aside0.mk ha6
            have HC6 := Aside0.mk hc6
            have HBL := Aside0.mk (HB5.out.trans (hb6.mono HB5.out.size))
            have HO6 := Aside0.mk (own_move HO.out (fun k hk => HBL.out.block k (own_lt HO.out k hk)))
            have HN1 := Aside0.mk (rleadTo_len (k := k) (r := r) (m := x + 1) (cur := cur) (by omega) hk (by have := HCK.out; omega))
            have HN2 : Aside0 (vs.length + vs6.length ≤ 46656) := ⟨by
              have h1 := HN1.out
              rw [HS.out, List.length_append] at h1
              rw [HA.out.length, ha6.length]; exact h1⟩
            clear ho6 ha6 hb6 hc6 hne6 HN1
            go_wp2_with (((with_reducible refine gate_builtin (b := .append) (xs := #[.tmp 35, .tmp 46]) rfl ?_); at_builtin; refine wpList_append_own _ rfl _ _ 22 rfl W.heap.size 23 i1 (.slice none 0 0) 1 24 Try.underlying22 HI1.out HZ.out.2.2.2.1 HZ.out.2.2.2.2.1 HZ.out.2.2.2.2.2 rfl (by decide) _ vs.length vs rfl HO6.out ⟨g6, 0, none⟩ vs6.length c6 vs6 rfl (Nat.mul_one _).symm HC6.out HA6.out.one ?c5 ?c6 ?c7 ?_; (case c5 => simp only [maxLen]; have := HN2.out; omega); (case c6 => have := HN2.out; omega); (case c7 => exact Nat.le_trans HBW.out.size HBL.out.size); intro v7 w7 ho7 hg7 _))
            go_roundg (G - 1)
            case measure => have := HX.out; omega
            case rel =>
              refine ⟨x + 1, v7, vs ++ vs6, by go_num, rfl, ⟨by have := HX.out; omega⟩, ⟨by rw [List.length_append]; exact ho7⟩, ⟨?_⟩, ⟨((HBW.out.trans (HBL.out.mono HBW.out.size))).grown hg7 (Nat.le_trans HBW.out.size HBL.out.size) (fun k hk => own_base HO6.out k hk)⟩⟩
              rw [HS.out]
              exact ((HA.out.below HBL.out).append HA6.out).over (fun k hk => own_typed HO6.out k hk) hg7
    · have hxk : x = k := by have := HX.out; omega
      have HXK := Aside0.mk hxk
      clear hxk
      have hltz : ¬ (x : Int) < (k : Int) := by omega
      go_wp2
      go_ret
      have ha := HA.out
      rw [HXK.out] at ha
      exact ⟨_, vs, rfl, HO.out, ha, HBW.out⟩
theorem refLeads_calls (k : Nat) (hk : k ≤ 6) (base : Nat) : ∀ (r : Nat) (A : Option Addr) (c : Nat) (cur : List Nat) (W : World), cur.length + r = k → base ≤ W.heap.size → Kd.R (Kd.int .i64) 3 W base (fun _ => True) (.slice A (nums cur).length c) (nums cur) →
    Calls Try.prog 69 #[.int .i64 (k : Int), .slice A (nums cur).length c] W (LeadsPost base W (rlead k r cur)) := by
  intro r
  induction r with
  | zero => intro A c cur W hc _ hR; exact leads_end k base A c cur W (by omega) hR
  | succ r ih =>
    intro A c cur W hc hb hR
    exact leads_more k hk r base A c cur W hc hb hR (fun x A c W _ _ hb hR => ih A c (cur ++ [x]) W (by rw [List.length_append, List.length_singleton]; omega) hb hR)

end Go.Proofs.Ytfjafmgaahfhgaa.P
namespace Go.Proofs.Ytfjafmgaahfhgaa.P
open Go.RowKit Go.Proofs.YtfjafmgaahfhgaaW.PrintWords Go.Proofs.YtfjafmgaahfhgaaW.PrintLast Go.Proofs.YtfjafmgaahfhgaaW.PrintMore
attribute [local go_sem] max2_int min2_int max_two min_two max_three min_three max_four min_four   -- for this text's walks alone
set_option linter.unusedVariables false
set_option linter.unusedSimpArgs false

/-! crossing voices, in numbers -/
def stB (n lo hi j : Int) : Bool := decide (lo < j * n ∧ j * n < hi)
def meetB (n a am b bm : Int) : Bool := decide (a ≠ b) && (stB n (min ((b - a) % n) ((b - a) % n + bm - am)) (max ((b - a) % n) ((b - a) % n + bm - am)) (-1) || (stB n (min ((b - a) % n) ((b - a) % n + bm - am)) (max ((b - a) % n) ((b - a) % n + bm - am)) 0 || (stB n (min ((b - a) % n) ((b - a) % n + bm - am)) (max ((b - a) % n) ((b - a) % n + bm - am)) 1 || (stB n (min ((b - a) % n) ((b - a) % n + bm - am)) (max ((b - a) % n) ((b - a) % n + bm - am)) 2 || false))))
def rtB (n ap gr j : Int) : Bool := decide ((0 < j * n - ap ∧ j * n - ap < gr) ∨ (j * n - ap < 0 ∧ gr < j * n - ap))
def crB (n a am b bm : Int) : Bool := decide (a ≠ b) && (rtB n (a - b) (am - bm) (-2) || (rtB n (a - b) (am - bm) (-1) || (rtB n (a - b) (am - bm) 0 || (rtB n (a - b) (am - bm) 1 || (rtB n (a - b) (am - bm) 2 || false)))))
theorem diff_mod {n a b : Int} (ha : 0 ≤ a ∧ a < n) (hb : 0 ≤ b ∧ b < n) : (a ≤ b ∧ (b - a) % n = b - a) ∨ (b < a ∧ (b - a) % n = b - a + n) := by
  rcases Int.lt_or_le b a with h | h
  · right; refine ⟨h, ?_⟩
    rw [← Int.add_emod_right, Int.emod_eq_of_lt (by omega) (by omega)]
  · left; exact ⟨h, Int.emod_eq_of_lt (by omega) (by omega)⟩
theorem rtB_neg (n ap gr j : Int) : rtB n ap gr j = rtB n (-ap) (-gr) (-j) := by
  unfold rtB
  rw [decide_eq_decide, Int.neg_mul]
  generalize j * n = v
  omega
theorem crB_symm {n a am b bm : Int} : crB n a am b bm = crB n b bm a am := by
  unfold crB
  have e1 : b - a = -(a - b) := by omega
  have e2 : bm - am = -(am - bm) := by omega
  have e3 : decide (a ≠ b) = decide (b ≠ a) := by rw [decide_eq_decide]; exact ⟨fun h e => h e.symm, fun h e => h e.symm⟩
  rw [e1, e2, e3]
  generalize a - b = ap
  generalize am - bm = gr
  rw [rtB_neg n ap gr (-2), rtB_neg n ap gr (-1), rtB_neg n ap gr 0, rtB_neg n ap gr 1, rtB_neg n ap gr 2]
  simp only [Int.neg_neg, Int.neg_zero]
  generalize rtB n (-ap) (-gr) 2 = b2
  generalize rtB n (-ap) (-gr) 1 = b1
  generalize rtB n (-ap) (-gr) 0 = b0
  generalize rtB n (-ap) (-gr) (-1) = c1
  generalize rtB n (-ap) (-gr) (-2) = c2
  cases b2 <;> cases b1 <;> cases b0 <;> cases c1 <;> cases c2 <;> rfl
theorem nextI {j : Nat} (h : j ≤ 100000) : wrap64 ((j : Int) + 1) = ((j + 1 : Nat) : Int) := by rw [wrap_id (by omega) (by omega)]; omega
theorem nextJ {j : Nat} (h : j ≤ 100000) : wrap64 ((j : Int) + 1) = (j : Int) + 1 := wrap_id (by omega) (by omega)
theorem meet_cr {n a am b bm : Int} (ha : 0 ≤ a ∧ a < n) (hb : 0 ≤ b ∧ b < n) (h1 : -n ≤ 2 * am ∧ 2 * am ≤ n) (h2 : -n ≤ 2 * bm ∧ 2 * bm ≤ n) : meetB n a am b bm = crB n a am b bm := by
  rw [Bool.eq_iff_iff]
  unfold meetB crB rtB stB
  rcases diff_mod ha hb with ⟨h, e⟩ | ⟨h, e⟩
  all_goals
    rw [e]
    simp only [Bool.and_eq_true, Bool.or_eq_true, decide_eq_true_eq, Bool.false_eq_true, or_false]
    omega
/-- what two voices need of each other -/
def toneI (a : List Int) (i : Nat) : Int := a.getD i 0
def mvAt (n : Int) (a b l : List Int) (i : Nat) : Int := mvN n (toneI a i) (toneI b (toneI l i).toNat)
theorem rd_toneI (a : List Int) (i : Nat) : rd a (i : Int) = toneI a i := rd_nat a i
theorem mv_all {n : Int} {a b l : List Int} (h : TwoN n a b) (hl : l.length = a.length) (hk : ∀ k ∈ l, 0 ≤ k ∧ k < (a.length : Int)) {i : Nat} (hi : i < a.length) :
    (0 ≤ toneI a i ∧ toneI a i < n) ∧ (0 ≤ toneI l i ∧ toneI l i < (b.length : Int)) ∧ (0 ≤ toneI b (toneI l i).toNat ∧ toneI b (toneI l i).toNat < n) ∧ (-n ≤ 2 * mvAt n a b l i ∧ 2 * mvAt n a b l i ≤ n) := by
  have h1 := h.1.2.2.2.2 _ (getD_mem (l := a) (i := i) hi)
  have h2 := hk _ (getD_mem (l := l) (i := i) (by omega))
  have hab := h.2.2
  have h3 := h.2.1.2.2.2.2 _ (getD_mem (l := b) (i := (l.getD i 0).toNat) (by omega))
  exact ⟨h1, ⟨h2.1, by show l.getD i 0 < _; omega⟩, h3, mvN_bd h.1.1⟩
def meetF (n : Int) (a b l : List Int) (i j : Nat) : Bool := meetB n (toneI a i) (mvAt n a b l i) (toneI a j) (mvAt n a b l j)
def crF (n : Int) (a b l : List Int) (i j : Nat) : Bool := crB n (toneI a i) (mvAt n a b l i) (toneI a j) (mvAt n a b l j)
def CrossP (n : Int) (a b l : List Int) : Prop := ∃ i, i < a.length ∧ ∃ j, j < a.length ∧ crF n a b l i j = true
noncomputable instance (n : Int) (a b l : List Int) : Decidable (CrossP n a b l) := Classical.propDecidable _
theorem crF_self (n : Int) (a b l : List Int) (i : Nat) : crF n a b l i i = false := by unfold crF crB; simp
theorem cross_iff {n : Int} {a b l : List Int} (h : TwoN n a b) (hl : l.length = a.length) (hk : ∀ k ∈ l, 0 ≤ k ∧ k < (a.length : Int)) : (∃ i, i < a.length ∧ ∃ j, j < i ∧ meetF n a b l i j = true) ↔ CrossP n a b l := by
  have hm : ∀ i j, i < a.length → j < a.length → meetF n a b l i j = crF n a b l i j := fun i j hi hj => by
    obtain ⟨x1, _, _, x4⟩ := mv_all h hl hk hi
    obtain ⟨y1, _, _, y4⟩ := mv_all h hl hk hj
    exact meet_cr x1 y1 x4 y4
  constructor
  · rintro ⟨i, h1, j, h2, h3⟩
    exact ⟨i, h1, j, by omega, by rw [← hm i j h1 (by omega)]; exact h3⟩
  · rintro ⟨i, h1, j, h2, h3⟩
    rcases Nat.lt_trichotomy i j with h4 | h4 | h4
    · refine ⟨j, h2, i, h4, ?_⟩
      rw [hm j i h2 h1]
      unfold crF at h3 ⊢
      rw [crB_symm]; exact h3
    · subst h4; rw [crF_self] at h3; cases h3
    · exact ⟨i, h1, j, h4, by rw [hm i j h1 h2]; exact h3⟩

end Go.Proofs.Ytfjafmgaahfhgaa.P
